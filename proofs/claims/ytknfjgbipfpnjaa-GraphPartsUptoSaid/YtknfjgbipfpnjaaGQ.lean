/- The graphs that the document names, worked out. Plain. -/
import Derived.Test.YtknfjgbipfpnjaaG16
namespace Go.Proofs.Ytknfjgbipfpnjaa
open Go.RowKit Go.Eng Go.OrdPure Go.Knot
theorem tl1 (x : UInt8) : (ByteArray.mk #[x]).toList = [x] := by rw [ByteArray.toList_eq]
abbrev kA : ByteArray := ByteArray.mk #[97]
abbrev kB : ByteArray := ByteArray.mk #[98]
abbrev kC : ByteArray := ByteArray.mk #[99]
abbrev kD : ByteArray := ByteArray.mk #[100]
abbrev kE : ByteArray := ByteArray.mk #[101]
theorem k_lt {x y : UInt8} (h : Op.bytesLess [x] [y] = true) : Op.bytesLess (ByteArray.mk #[x]).toList (ByteArray.mk #[y]).toList = true := by rw [tl1, tl1]; exact h
def N5 : List ByteArray := [kA, kB, kC, kD, kE]
theorem N5_SX : SX N5 := by
  unfold N5 SX
  simp only [List.pairwise_cons, List.mem_cons, List.not_mem_nil, or_false, forall_eq_or_imp, forall_eq, List.Pairwise.nil, and_true, false_implies, implies_true]
  refine ⟨⟨?_, ?_, ?_, ?_⟩, ⟨?_, ?_, ?_⟩, ⟨?_, ?_⟩, ?_⟩ <;> exact k_lt (by decide)
theorem ab : kA ≠ kB := by decide
theorem ac : kA ≠ kC := by decide
theorem ad : kA ≠ kD := by decide
theorem ae : kA ≠ kE := by decide
theorem bc : kB ≠ kC := by decide
theorem bd : kB ≠ kD := by decide
theorem be_ : kB ≠ kE := by decide
theorem cd : kC ≠ kD := by decide
theorem ce : kC ≠ kE := by decide
theorem de : kD ≠ kE := by decide
def L1k : List Edge := [(kA, kB, false), (kA, kC, true), (kC, kD, true), (kE, kA, false)]
theorem N1 : nodesL [] L1k = N5 := by
  refine SX.ext (nodesL_SX _ _) N5_SX fun z => ?_
  rw [nodesL_mem]
  simp only [L1k, N5, List.mem_cons, List.not_mem_nil, or_false, false_or]
  constructor
  · rintro ⟨e, (rfl | rfl | rfl | rfl), h | h⟩ <;> simp [h]
  · rintro (rfl | rfl | rfl | rfl | rfl)
    · exact ⟨_, .inl rfl, .inl rfl⟩
    · exact ⟨_, .inl rfl, .inr rfl⟩
    · exact ⟨_, .inr (.inl rfl), .inr rfl⟩
    · exact ⟨_, .inr (.inr (.inl rfl)), .inr rfl⟩
    · exact ⟨_, .inr (.inr (.inr rfl)), .inl rfl⟩
def lev1 (s : ByteArray) : Nat := if s = kA then 2 else if s = kC then 1 else if s = kE then 2 else 0
theorem lev1_rule : Rule L1k lev1 := by
  intro e he
  simp only [L1k, List.mem_cons, List.not_mem_nil, or_false] at he
  rcases he with rfl | rfl | rfl | rfl <;> decide
theorem lev1_is : IsLev N5 L1k lev1 := by
  refine ⟨lev1_rule, fun f hf s hs => ?_⟩
  have h1 : f kC + 1 ≤ f kA := hf _ (show (kA, kC, true) ∈ L1k by simp [L1k])
  have h2 : f kD + 1 ≤ f kC := hf _ (show (kC, kD, true) ∈ L1k by simp [L1k])
  have h3 : f kA + 0 ≤ f kE := hf _ (show (kE, kA, false) ∈ L1k by simp [L1k])
  simp only [N5, List.mem_cons, List.not_mem_nil, or_false] at hs
  have e1 : lev1 kA = 2 := by decide
  have e2 : lev1 kB = 0 := by decide
  have e3 : lev1 kC = 1 := by decide
  have e4 : lev1 kD = 0 := by decide
  have e5 : lev1 kE = 2 := by decide
  rcases hs with rfl | rfl | rfl | rfl | rfl
  · rw [e1]; omega
  · rw [e2]; omega
  · rw [e3]; omega
  · rw [e4]; omega
  · rw [e5]; omega
def R1k : List Rank := [(kA, 2), (kB, 0), (kC, 1), (kD, 0), (kE, 2)]
theorem rank1 {lev : ByteArray → Nat} (h : IsLev (nodesL [] L1k) L1k lev) : ranksOf (nodesL [] L1k) lev = R1k := by
  rw [N1] at h ⊢
  rw [h.uniq lev1_is]
  decide
theorem noloop1 : ¬ NegLoop L1k := fun h => h.no lev1 lev1_rule
theorem reach1 {R : List ByteArray} (h : IsR L1k [kC] R) : R = [kC, kD] := by
  refine h.uniq (IsR.of ?_ ?_ ?_ ?_)
  · exact List.pairwise_cons.2 ⟨fun z hz => by rw [List.mem_singleton] at hz; subst hz; exact k_lt (by decide), List.pairwise_singleton _ _⟩
  · intro s hs
    simp only [List.mem_cons, List.not_mem_nil, or_false] at hs
    rcases hs with rfl | rfl
    · exact .here (by simp)
    · exact .step (e := (kC, kD, true)) (by simp [L1k]) (.here (by simp))
  · intro s hs; rw [List.mem_singleton] at hs; subst hs; simp
  · intro e he hm
    simp only [L1k, List.mem_cons, List.not_mem_nil, or_false] at he hm ⊢
    rcases he with rfl | rfl | rfl | rfl
    · rcases hm with hm | hm
      · exact absurd hm ac
      · exact absurd hm ad
    · exact .inl rfl
    · exact .inr rfl
    · rcases hm with hm | hm
      · exact absurd hm ce.symm
      · exact absurd hm de.symm
def L2k : List Edge := [(kA, kB, false), (kB, kA, true), (kA, kB, true)]
def N2k : List ByteArray := [kA, kB]
theorem N2_SX : SX N2k := List.pairwise_cons.2 ⟨fun z hz => by rw [List.mem_singleton] at hz; subst hz; exact k_lt (by decide), List.pairwise_singleton _ _⟩
theorem N2 : nodesL [] L2k = N2k := by
  refine SX.ext (nodesL_SX _ _) N2_SX fun z => ?_
  rw [nodesL_mem]
  simp only [L2k, N2k, List.mem_cons, List.not_mem_nil, or_false, false_or]
  constructor
  · rintro ⟨e, (rfl | rfl | rfl), h | h⟩ <;> simp [h]
  · rintro (rfl | rfl)
    · exact ⟨_, .inl rfl, .inl rfl⟩
    · exact ⟨_, .inl rfl, .inr rfl⟩
theorem cyc2 : IsCyc N2k L2k [1, 0] true := by
  have iA : ixS N2k kA = 0 := by decide
  have iB : ixS N2k kB = 1 := by decide
  have f0 : tF N2k L2k 0 = 0 := iA
  have t0 : tgt N2k L2k 0 = 1 := iB
  have f1 : tF N2k L2k 1 = 1 := iB
  have t1 : tgt N2k L2k 1 = 0 := iA
  have f2 : tF N2k L2k 2 = 0 := iA
  have t2 : tgt N2k L2k 2 = 1 := iB
  have o0 : 1 ∈ outN N2k L2k 0 := outN_mem.2 ⟨0, by decide, f0, t0⟩
  have o1 : 0 ∈ outN N2k L2k 1 := outN_mem.2 ⟨1, by decide, f1, t1⟩
  have w1 : WI (outN N2k L2k) 1 0 1 := .succ o0 (.zero _)
  have z01 : ∀ j, WI (outN N2k L2k) j 0 1 → 1 ≤ j := fun j h => by cases h <;> omega
  have z10 : ∀ j, WI (outN N2k L2k) j 1 0 → 1 ≤ j := fun j h => by cases h <;> omega
  refine .inr ⟨1, 1, [0], rfl, rfl, ⟨by decide, rfl, ⟨by rw [t1, f1]; exact w1, by rw [t1, f1]; exact z01⟩, fun k hk hn d' hb => ?_⟩, [1, 0], ⟨rfl, fun u hu => ?_⟩, ?_⟩
  · have hk3 : k < 3 := hk
    have hk' : k = 0 ∨ k = 1 ∨ k = 2 := by omega
    rcases hk' with rfl | rfl | rfl
    · exact absurd hn (by decide)
    · have := hb.1; rw [t1, f1] at this
      exact ⟨z01 _ this, fun h => absurd h (by omega)⟩
    · have := hb.1; rw [t2, f2] at this
      exact ⟨z10 _ this, fun h => absurd h (by omega)⟩
  · rw [f1]
    have hu2 : u < 2 := hu
    have hu' : u = 0 ∨ u = 1 := by omega
    rcases hu' with rfl | rfl
    · exact .inr ⟨1, rfl, w1, z01⟩
    · exact .inr ⟨0, rfl, .zero _, fun _ _ => Nat.zero_le _⟩
  · rw [t1]
    refine .cons (by decide) (by decide) f0 (by rw [t0]; decide) (fun j hj => absurd hj (by omega)) ?_
    rw [t0]; exact .nil rfl
theorem cyc2' {row : List Nat} {ok : Bool} (h : IsCyc (nodesL [] L2k) L2k row ok) : row = [1, 0] ∧ ok = true := by
  rw [N2] at h; exact h.uniq cyc2
def L3k : List Edge := [(kA, kC, false), (kB, kA, false), (kC, kA, false), (kC, kE, false)]
theorem N3 : nodesL [kD] L3k = N5 := by
  refine SX.ext (nodesL_SX _ _) N5_SX fun z => ?_
  rw [nodesL_mem]
  simp only [L3k, N5, List.mem_cons, List.not_mem_nil, or_false]
  constructor
  · rintro (rfl | ⟨e, (rfl | rfl | rfl | rfl), h | h⟩)
    · simp
    all_goals simp [h]
  · rintro (rfl | rfl | rfl | rfl | rfl)
    · exact .inr ⟨_, .inl rfl, .inl rfl⟩
    · exact .inr ⟨_, .inr (.inl rfl), .inl rfl⟩
    · exact .inr ⟨_, .inl rfl, .inr rfl⟩
    · exact .inl rfl
    · exact .inr ⟨_, .inr (.inr (.inr rfl)), .inr rfl⟩
/-- what is reached from a text, read off a closed list -/
theorem rch_of {es : List Edge} {s : ByteArray} {R : List ByteArray} (h1 : s ∈ R) (h2 : ∀ e ∈ es, e.1 ∈ R → e.2.1 ∈ R) {z : ByteArray} (h : Rch es [s] z) : z ∈ R := by
  induction h with
  | here h => rw [List.mem_singleton] at h; subst h; exact h1
  | step he _ ih => exact h2 _ he ih
theorem closed3 (R : List ByteArray) (h1 : kA ∈ R → kC ∈ R) (h2 : kB ∈ R → kA ∈ R) (h3 : kC ∈ R → kA ∈ R ∧ kE ∈ R) : ∀ e ∈ L3k, e.1 ∈ R → e.2.1 ∈ R := by
  intro e he hm
  simp only [L3k, List.mem_cons, List.not_mem_nil, or_false] at he
  rcases he with rfl | rfl | rfl | rfl
  · exact h1 hm
  · exact h2 hm
  · exact (h3 hm).1
  · exact (h3 hm).2
theorem r_ac : Rch L3k [kA] kC := .step (e := (kA, kC, false)) (by simp [L3k]) (.here (by simp))
theorem r_ca : Rch L3k [kC] kA := .step (e := (kC, kA, false)) (by simp [L3k]) (.here (by simp))
theorem r_ce : Rch L3k [kC] kE := .step (e := (kC, kE, false)) (by simp [L3k]) (.here (by simp))
theorem r_ba : Rch L3k [kB] kA := .step (e := (kB, kA, false)) (by simp [L3k]) (.here (by simp))
theorem ra {z : ByteArray} (h : Rch L3k [kA] z) : z = kA ∨ z = kC ∨ z = kE := by
  have := rch_of (R := [kA, kC, kE]) (by simp) (closed3 _ (fun _ => by simp) (fun h => absurd h (by simp [ab.symm, bc, be_])) (fun _ => by simp)) h
  simpa using this
theorem rc {z : ByteArray} (h : Rch L3k [kC] z) : z = kA ∨ z = kC ∨ z = kE := by
  have := rch_of (R := [kA, kC, kE]) (by simp) (closed3 _ (fun _ => by simp) (fun h => absurd h (by simp [ab.symm, bc, be_])) (fun _ => by simp)) h
  simpa using this
theorem rb {z : ByteArray} (h : Rch L3k [kB] z) : z = kA ∨ z = kB ∨ z = kC ∨ z = kE := by
  have := rch_of (R := [kA, kB, kC, kE]) (by simp) (closed3 _ (fun _ => by simp) (fun _ => by simp) (fun _ => by simp)) h
  simpa using this
theorem rd {z : ByteArray} (h : Rch L3k [kD] z) : z = kD := by
  have := rch_of (R := [kD]) (by simp) (closed3 _ (fun h => absurd h (by simp [ad])) (fun h => absurd h (by simp [bd])) (fun h => absurd h (by simp [cd]))) h
  simpa using this
theorem re {z : ByteArray} (h : Rch L3k [kE] z) : z = kE := by
  have := rch_of (R := [kE]) (by simp) (closed3 _ (fun h => absurd h (by simp [ae])) (fun h => absurd h (by simp [be_])) (fun h => absurd h (by simp [ce]))) h
  simpa using this
theorem r_ae : Rch L3k [kA] kE := r_ac.trans' r_ce
theorem r_be : Rch L3k [kB] kE := r_ba.trans' r_ae
theorem sx_of {xs : List ByteArray} (h : xs.Sublist N5) : SX xs := List.Pairwise.sublist h N5_SX
theorem gre3 : Gre L3k N5 [[kD], [kE], [kA, kC], [kB]] := by
  have ne_ae : ∀ left : List ByteArray, kE ∈ left → ¬ FreeIn L3k left kA := fun left hl hf => by
    rcases hf _ r_ae with h | h
    · exact absurd (re h.2) ae
    · exact h hl
  have ne_ce : ∀ left : List ByteArray, kE ∈ left → ¬ FreeIn L3k left kC := fun left hl hf => by
    rcases hf _ r_ce with h | h
    · exact absurd (re h.2) ce
    · exact h hl
  have ne_be : ∀ left : List ByteArray, kE ∈ left → ¬ FreeIn L3k left kB := fun left hl hf => by
    rcases hf _ r_be with h | h
    · exact absurd (re h.2) be_
    · exact h hl
  have nlt : ∀ {x y : UInt8}, Op.bytesLess [x] [y] = false → ¬ Op.bytesLess (ByteArray.mk #[x]).toList (ByteArray.mk #[y]).toList = true := fun h h2 => by rw [tl1, tl1, h] at h2; cases h2
  refine .step (s := kD) (left' := [kA, kB, kC, kE]) N5_SX (by simp [N5]) (fun z hz => by rw [rd hz]; exact .inl ⟨Rch.refl' _ _, Rch.refl' _ _⟩) ?_ (sx_of (by decide)) ?_ (sx_of (by decide)) ?_ ?_
  · intro z hz hl
    simp only [N5, List.mem_cons, List.not_mem_nil, or_false] at hz
    rcases hz with rfl | rfl | rfl | rfl | rfl
    · exact ne_ae _ (by simp [N5])
    · exact ne_be _ (by simp [N5])
    · exact ne_ce _ (by simp [N5])
    · exact absurd hl (nlt (by decide))
    · exact absurd hl (nlt (by decide))
  · intro z; rw [List.mem_singleton]
    exact ⟨fun e => by subst e; exact ⟨Rch.refl' _ _, Rch.refl' _ _⟩, fun h => rd h.1⟩
  · intro z
    simp only [N5, List.mem_cons, List.not_mem_nil, or_false]
    constructor
    · rintro (rfl | rfl | rfl | rfl)
      · exact ⟨by simp, ad⟩
      · exact ⟨by simp, bd⟩
      · exact ⟨by simp, cd⟩
      · exact ⟨by simp, de.symm⟩
    · rintro ⟨rfl | rfl | rfl | rfl | rfl, h⟩
      · simp
      · simp
      · simp
      · exact absurd rfl h
      · simp
  refine .step (s := kE) (left' := [kA, kB, kC]) (sx_of (by decide)) (by simp) (fun z hz => by rw [re hz]; exact .inl ⟨Rch.refl' _ _, Rch.refl' _ _⟩) ?_ (sx_of (by decide)) ?_ (sx_of (by decide)) ?_ ?_
  · intro z hz hl
    simp only [List.mem_cons, List.not_mem_nil, or_false] at hz
    rcases hz with rfl | rfl | rfl | rfl
    · exact ne_ae _ (by simp)
    · exact ne_be _ (by simp)
    · exact ne_ce _ (by simp)
    · exact absurd hl (nlt (by decide))
  · intro z; rw [List.mem_singleton]
    exact ⟨fun e => by subst e; exact ⟨Rch.refl' _ _, Rch.refl' _ _⟩, fun h => re h.1⟩
  · intro z
    simp only [List.mem_cons, List.not_mem_nil, or_false]
    constructor
    · rintro (rfl | rfl | rfl)
      · exact ⟨by simp, ae⟩
      · exact ⟨by simp, be_⟩
      · exact ⟨by simp, ce⟩
    · rintro ⟨rfl | rfl | rfl | rfl, h⟩
      · simp
      · simp
      · simp
      · exact absurd rfl h
  refine .step (s := kA) (left' := [kB]) (sx_of (by decide)) (by simp) ?_ ?_ (sx_of (by decide)) ?_ (sx_of (by decide)) ?_ ?_
  · intro z hz
    rcases ra hz with rfl | rfl | rfl
    · exact .inl ⟨Rch.refl' _ _, Rch.refl' _ _⟩
    · exact .inl ⟨r_ac, r_ca⟩
    · exact .inr (by simp [ae.symm, be_.symm, ce.symm])
  · intro z hz hl
    simp only [List.mem_cons, List.not_mem_nil, or_false] at hz
    rcases hz with rfl | rfl | rfl
    · exact absurd hl (nlt (by decide))
    · exact absurd hl (nlt (by decide))
    · exact absurd hl (nlt (by decide))
  · intro z
    simp only [List.mem_cons, List.not_mem_nil, or_false]
    constructor
    · rintro (rfl | rfl)
      · exact ⟨Rch.refl' _ _, Rch.refl' _ _⟩
      · exact ⟨r_ac, r_ca⟩
    · intro h
      rcases ra h.1 with e | e | e
      · exact .inl e
      · exact .inr e
      · subst e; exact absurd (re h.2) ae
  · intro z
    simp only [List.mem_cons, List.not_mem_nil, or_false]
    constructor
    · rintro rfl; exact ⟨by simp, by simp [ab.symm, bc]⟩
    · rintro ⟨rfl | rfl | rfl, h⟩
      · exact absurd (.inl rfl) h
      · rfl
      · exact absurd (.inr rfl) h
  refine .step (s := kB) (left' := []) (sx_of (by decide)) (by simp) ?_ ?_ (sx_of (by decide)) ?_ List.Pairwise.nil ?_ .nil
  · intro z hz
    rcases rb hz with rfl | rfl | rfl | rfl
    · exact .inr (by simp [ab])
    · exact .inl ⟨Rch.refl' _ _, Rch.refl' _ _⟩
    · exact .inr (by simp [bc.symm])
    · exact .inr (by simp [be_.symm])
  · intro z hz hl
    simp only [List.mem_cons, List.not_mem_nil, or_false] at hz
    subst hz; exact absurd hl (nlt (by decide))
  · intro z; rw [List.mem_singleton]
    constructor
    · rintro rfl; exact ⟨Rch.refl' _ _, Rch.refl' _ _⟩
    · intro h
      rcases rb h.1 with rfl | rfl | rfl | rfl
      · exact absurd (ra h.2) (by simp [ab.symm, bc, be_])
      · rfl
      · exact absurd (rc h.2) (by simp [ab.symm, bc, be_])
      · exact absurd (re h.2) be_
  · intro z; simp
def P3k : List (List ByteArray) := [[kD], [kE], [kA, kC], [kB]]
theorem parts3 {P : List (List ByteArray)} (h : Gre L3k (nodesL [kD] L3k) P) : P = P3k := by rw [N3] at h; exact h.uniq gre3
theorem fitK {xs : List ByteArray} (h : ∀ s ∈ xs, s.size = 1) : FitS xs := fun s hs => by rw [h s hs]; unfold maxLen; omega
theorem fitE_K {es : List Edge} (h : ∀ e ∈ es, e.1.size = 1 ∧ e.2.1.size = 1) : FitE es := fun e he => by rw [(h e he).1, (h e he).2]; unfold maxLen; omega
theorem fit1 : FitE L1k := fitE_K (by decide)
theorem fit2 : FitE L2k := fitE_K (by decide)
theorem fit3 : FitE L3k := fitE_K (by decide)
end Go.Proofs.Ytknfjgbipfpnjaa
