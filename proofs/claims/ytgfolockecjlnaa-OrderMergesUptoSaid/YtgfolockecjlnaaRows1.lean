/- What sorting does to sorted lists, and lists with blocks of their own, two and four. -/
import Derived.Test.YtgfolockecjlnaaApart
namespace Go.Eng
open Go.RowKit
section
variable {P : Program} {n : Nat} {σ : Nat → Value} {w : World} {ty t t' : TypeId} {x y : Operand} {a b : Int}
theorem x_negW (hx : ev n σ x = .int .i64 a) : Ex P (ev n σ) w (.unOp .neg t x) ty (.int .i64 (IntKind.i64.wrap (0 - a))) := by
  intro _ _ _ _
  simp [execOp, hx, Op.unary, Op.intArith]
theorem x_quoW (hx : ev n σ x = .int .i64 a) (hy : ev n σ y = .int .i64 b) (hb : b ≠ 0) : Ex P (ev n σ) w (.binOp .quo t x y t') ty (.int .i64 (IntKind.i64.wrap (a.tdiv b))) := by
  intro _ _ _ _; simp [execOp, hx, hy, eqGuard, binOp, Op.intDiv, hb]
end
theorem splice_two (cs : List Value) (o : Nat) (a c : Value) (h : cs[o + 1]? = some c) : splice cs o [a] = splice cs o [a, c] := by
  have hlt : o + 1 < cs.length := by
    rcases Nat.lt_or_ge (o + 1) cs.length with h' | h'
    · exact h'
    · rw [List.getElem?_eq_none h'] at h; cases h
  have e : cs[o + 1] = c := by rw [List.getElem?_eq_getElem hlt] at h; injection h
  simp only [splice, List.length_cons, List.length_nil]
  rw [List.drop_eq_getElem_cons hlt, e]
  simp
/-- a store of the first of an element's two cells -/
theorem e_stO1 {P : Program} {n : Nat} {σ : Nat → Value} {w : World} {ty t : TypeId} {K : Value → World → Prop} {x y : Operand} {α : Type} [Inhabited α] {enc : α → List Value} (hk : ∀ x, (enc x).length = 2) {lo b c i : Nat} {v z : Value} {u : α} {xs : List α} {T : TypeId} (hs : SZ P t 1) (hx : ev n σ x = .pointer (some ⟨b, 0 + i * 2, none⟩)) (hy : ev n σ y = v) (hv : v.cells = #[v]) (h1 : v.oneCell' = true) (hu : enc u = [v, z]) (hz : (enc (el xs i))[1]? = some z) (ho : OB w.heap lo T 2 b c (flat enc xs))
    (hi : i < xs.length)
    (kk : ∀ w' o, Pt w w' b o → OB w'.heap lo T 2 b c (flat enc (xs.set i u)) → K undef w') : Eff P (ev n σ) w (.store t x y) ty K := by
  obtain ⟨R, hB, hR⟩ := ho.blk
  have hsz : v.cells.size = 1 := by rw [hv]; rfl
  have hget : (flat enc xs ++ R)[0 + i * 2 + 1]? = some z := by
    rw [Nat.zero_add, List.getElem?_append_left (by rw [flat_length hk]; omega), flat_get? hk xs i 1 hi (by decide)]
    exact hz
  refine e_store (v := v) (by rw [hsz]; exact hs) hx hy hB ?_ (fun z hz => by rw [hv] at hz; simp at hz; subst hz; exact one_of h1) fun w' hp => kk w' _ hp ⟨ho.lo, ⟨R, ?_, ?_⟩, ho.cap⟩
  · rw [hsz, List.length_append, flat_length hk]; omega
  · rw [← flat_set hk R u xs i hi, hu, ← splice_two _ _ _ _ (by rw [← Nat.zero_add (i * 2)]; exact hget)]
    rw [hv, Nat.zero_add] at hp
    exact hp.new
  · rw [List.length_append, flat_length hk, List.length_set, ← flat_length hk xs, ← List.length_append]
    exact hR
theorem Own.belowLo {w w' : World} {lo l : Nat} {T : TypeId} {k : Nat} {v : Value} {m : Nat} {cs : List Value} (ho : Own w.heap l T k v m cs) (h : Below lo w w') (hlt : ∀ b, v.ownBlock = some b → b < lo) : Own w'.heap l T k v m cs := ho.kept fun b hb _ => h.block b (hlt b hb)
theorem OB.belowLo {w w' : World} {lo l : Nat} {T : TypeId} {k b c : Nat} {cs : List Value} (ho : OB w.heap l T k b c cs) (h : Below lo w w') (hlt : b < lo) : OB w'.heap l T k b c cs := ho.keep fun _ => h.block b hlt
end Go.Eng
namespace Go.Proofs.Ytgfolockecjlnaa
open Go.RowKit Go.Eng Go.OrdPure
theorem srt_srt (xs : List (Int × Int)) : srt byc (srt byc xs) = srt byc xs := srt_of_rise byc_law (srt_rise byc_law xs)
theorem rise_c0 (xs : List (Int × Int)) : Rise c0 xs := by
  unfold Rise
  induction xs with
  | nil => exact List.Pairwise.nil
  | cons x xs ih => exact List.Pairwise.cons (fun _ _ => Int.le_refl 0) ih
theorem srt_c0 (xs : List (Int × Int)) : srt c0 xs = xs := srt_of_rise c0_law (rise_c0 xs)
theorem ddL_c0 (xs : List (Int × Int)) : ddL c0 xs = xs.take 1 := by
  induction xs using Go.OrdPure.rev_ind with
  | h0 => rfl
  | h1 xs x ih =>
    rw [ddL_snoc, ih, ddS]
    cases xs with
    | nil => rfl
    | cons y ys => rw [if_neg (by simp [c0])]; simp
theorem rises_srt (xs : List (Int × Int)) : risesB byc (srt byc xs) = true := rises_t fun i h0 h h' => by
  have := byc_le.1 (rise_el (srt_rise byc_law xs) (i := i - 1) (j := i) (by omega) h)
  rw [byc_lt] at h'
  omega
theorem rises_c0 (xs : List (Int × Int)) : risesB c0 xs = true := rises_t fun i h0 h h' => by simp [c0] at h'
theorem take1_el {xs : List (Int × Int)} (h : 0 < xs.length) : el (xs.take 1) 0 = el xs 0 := by
  cases xs with
  | nil => simp at h
  | cons x xs => rfl
theorem OB.srcN {h : Array Obj} {lo b c : Nat} {Y R : List (Int × Int)} (ho : OB h lo 31 2 b c (flat enT (Y ++ R))) (hc : Y.length ≤ c) : Src h (.slice (some ⟨b, 0, none⟩) Y.length c) Y.length 2 (flat enT Y) := by
  have h1 := ho.take Y.length
  rw [List.take_left] at h1
  exact (h1.own hc (flat_length enT_len Y)).src
theorem OB.srcA {h : Array Obj} {lo b c n : Nat} {Y : List (Int × Int)} (ho : OB h lo 31 2 b c (flat enT Y)) (hc : n ≤ c) (hl : Y.length = n) : Src h (.slice (some ⟨b, 0, none⟩) n c) n 2 (flat enT Y) := (ho.own hc (by rw [flat_length enT_len, hl])).src
theorem OB.ownN {h : Array Obj} {lo b c n : Nat} {Y R : List (Int × Int)} (ho : OB h lo 31 2 b c (flat enT (Y ++ R))) (hl : Y.length = n) (hc : n ≤ c) : Own h lo 31 2 (.slice (some ⟨b, 0, none⟩) n c) n (flat enT Y) := by
  have h1 := ho.take Y.length
  rw [List.take_left] at h1
  subst hl
  exact h1.own hc (flat_length enT_len Y)
/-- a rank turned round and halved -/
def nk (r : Int) : Int := IntKind.i64.wrap ((IntKind.i64.wrap (0 - r)).tdiv 2)
theorem dis2 {v0 v1 : S3} {l0 r0 l1 r1 : Nat} (h0 : ∀ k, (sv v0).ownBlock = some k → l0 ≤ k ∧ k < r0) (h1 : ∀ k, (sv v1).ownBlock = some k → l1 ≤ k ∧ k < r1) (q0 : l0 ≤ r0 ∧ r0 ≤ l1) : Dis [v0, v1] := by
  intro i j hi hj hn b hb hb'
  have hi : i < 2 := hi
  have hj : j < 2 := hj
  rcases (by omega : i = 0 ∨ i = 1) with rfl | rfl <;> rcases (by omega : j = 0 ∨ j = 1) with rfl | rfl <;> first | exact absurd rfl hn | (have e1 := h0 b hb; have e2 := h1 b hb'; omega) | (have e1 := h1 b hb; have e2 := h0 b hb'; omega)
theorem apart_2 (lo : Nat) {v0 v1 : S3} (Z0 Z1 : List (Int × Int)) {l0 r0 l1 r1 : Nat} (bv : Nat) (w0 : World) (hlo : lo ≤ w0.heap.size) (hB : Blk w0.heap bv [sv v0, sv v1] 29) (o0 : Own w0.heap lo 31 2 (sv v0) v0.2.1 (flat enT Z0)) (o1 : Own w0.heap lo 31 2 (sv v1) v1.2.1 (flat enT Z1)) (m0 : v0.2.1 ≤ 8796093021952) (m1 : v1.2.1 ≤ 8796093021952) (h0 : ∀ k, (sv v0).ownBlock = some k → l0 ≤ k ∧ k < r0) (h1 : ∀ k, (sv v1).ownBlock = some k → l1 ≤ k ∧ k < r1) (q0 : l0 ≤ r0 ∧ r0 ≤ l1) : Calls Try.prog 36 #[.slice (some ⟨bv, 0, none⟩) 2 2] w0 fun e w' => e = .returned (.bool true) ∧ Below lo w0 w' := by
  refine apart36 lo [v0, v1] bv w0 hlo ⟨Nat.zero_le _, ⟨[], by rw [List.append_nil]; exact hB, rfl⟩, by show 2 ≤ 9223372036854775807; decide⟩ (by show 2 ≤ 1000; decide) (fun j hj => ?_) (dis2 h0 h1 q0) (fun j hj => ?_)
  · have hj : j < 2 := hj
    rcases (by omega : j = 0 ∨ j = 1) with rfl | rfl
    · exact ⟨_, o0⟩
    · exact ⟨_, o1⟩
  · have hj : j < 2 := hj
    rcases (by omega : j = 0 ∨ j = 1) with rfl | rfl
    · exact m0
    · exact m1
theorem dis4 {v0 v1 v2 v3 : S3} {l0 r0 l1 r1 l2 r2 l3 r3 : Nat} (h0 : ∀ k, (sv v0).ownBlock = some k → l0 ≤ k ∧ k < r0) (h1 : ∀ k, (sv v1).ownBlock = some k → l1 ≤ k ∧ k < r1) (h2 : ∀ k, (sv v2).ownBlock = some k → l2 ≤ k ∧ k < r2) (h3 : ∀ k, (sv v3).ownBlock = some k → l3 ≤ k ∧ k < r3) (q0 : l0 ≤ r0 ∧ r0 ≤ l1) (q1 : l1 ≤ r1 ∧ r1 ≤ l2) (q2 : l2 ≤ r2 ∧ r2 ≤ l3) : Dis [v0, v1, v2, v3] := by
  intro i j hi hj hn b hb hb'
  have hi : i < 4 := hi
  have hj : j < 4 := hj
  rcases (by omega : i = 0 ∨ i = 1 ∨ i = 2 ∨ i = 3) with rfl | rfl | rfl | rfl <;> rcases (by omega : j = 0 ∨ j = 1 ∨ j = 2 ∨ j = 3) with rfl | rfl | rfl | rfl <;> first | exact absurd rfl hn | (have e1 := h0 b hb; have e2 := h1 b hb'; omega) | (have e1 := h0 b hb; have e2 := h2 b hb'; omega) | (have e1 := h0 b hb; have e2 := h3 b hb'; omega) | (have e1 := h1 b hb; have e2 := h0 b hb'; omega) | (have e1 := h1 b hb; have e2 := h2 b hb'; omega) | (have e1 := h1 b hb; have e2 := h3 b hb'; omega) | (have e1 := h2 b hb; have e2 := h0 b hb'; omega) | (have e1 := h2 b hb; have e2 := h1 b hb'; omega) | (have e1 := h2 b hb; have e2 := h3 b hb'; omega) | (have e1 := h3 b hb; have e2 := h0 b hb'; omega) | (have e1 := h3 b hb; have e2 := h1 b hb'; omega) | (have e1 := h3 b hb; have e2 := h2 b hb'; omega)
theorem apart_4 (lo : Nat) {v0 v1 v2 v3 : S3} (Z0 Z1 Z2 Z3 : List (Int × Int)) {l0 r0 l1 r1 l2 r2 l3 r3 : Nat} (bv : Nat) (w0 : World) (hlo : lo ≤ w0.heap.size) (hB : Blk w0.heap bv [sv v0, sv v1, sv v2, sv v3] 29) (o0 : Own w0.heap lo 31 2 (sv v0) v0.2.1 (flat enT Z0)) (o1 : Own w0.heap lo 31 2 (sv v1) v1.2.1 (flat enT Z1)) (o2 : Own w0.heap lo 31 2 (sv v2) v2.2.1 (flat enT Z2)) (o3 : Own w0.heap lo 31 2 (sv v3) v3.2.1 (flat enT Z3)) (m0 : v0.2.1 ≤ 8796093021952) (m1 : v1.2.1 ≤ 8796093021952) (m2 : v2.2.1 ≤ 8796093021952) (m3 : v3.2.1 ≤ 8796093021952) (h0 : ∀ k, (sv v0).ownBlock = some k → l0 ≤ k ∧ k < r0) (h1 : ∀ k, (sv v1).ownBlock = some k → l1 ≤ k ∧ k < r1) (h2 : ∀ k, (sv v2).ownBlock = some k → l2 ≤ k ∧ k < r2) (h3 : ∀ k, (sv v3).ownBlock = some k → l3 ≤ k ∧ k < r3) (q0 : l0 ≤ r0 ∧ r0 ≤ l1) (q1 : l1 ≤ r1 ∧ r1 ≤ l2) (q2 : l2 ≤ r2 ∧ r2 ≤ l3) : Calls Try.prog 36 #[.slice (some ⟨bv, 0, none⟩) 4 4] w0 fun e w' => e = .returned (.bool true) ∧ Below lo w0 w' := by
  refine apart36 lo [v0, v1, v2, v3] bv w0 hlo ⟨Nat.zero_le _, ⟨[], by rw [List.append_nil]; exact hB, rfl⟩, by show 4 ≤ 9223372036854775807; decide⟩ (by show 4 ≤ 1000; decide) (fun j hj => ?_) (dis4 h0 h1 h2 h3 q0 q1 q2) (fun j hj => ?_)
  · have hj : j < 4 := hj
    rcases (by omega : j = 0 ∨ j = 1 ∨ j = 2 ∨ j = 3) with rfl | rfl | rfl | rfl
    · exact ⟨_, o0⟩
    · exact ⟨_, o1⟩
    · exact ⟨_, o2⟩
    · exact ⟨_, o3⟩
  · have hj : j < 4 := hj
    rcases (by omega : j = 0 ∨ j = 1 ∨ j = 2 ∨ j = 3) with rfl | rfl | rfl | rfl
    · exact m0
    · exact m1
    · exact m2
    · exact m3
end Go.Proofs.Ytgfolockecjlnaa
