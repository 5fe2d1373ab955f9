import Derived.Test.YtknfjgbipfpnjaaG3
namespace Go.Proofs.Ytknfjgbipfpnjaa
open Go.RowKit Go.Eng Go.OrdPure
theorem T.cf39 : CF Try.prog 39 := fun _ _ => by kernel_rfl

def txt (a b : ByteArray) : Int := if Op.bytesLess a.toList b.toList = true then -1 else if (Op.bytesLess a.toList b.toList || a.toList == b.toList) = false then 1 else 0
theorem bl_irr (x : List UInt8) : Op.bytesLess x x = false := by
  induction x with
  | nil => rfl
  | cons a x ih => simp [Op.bytesLess, ih]
theorem bl_trans : ∀ x y z : List UInt8, Op.bytesLess x y = true → Op.bytesLess y z = true → Op.bytesLess x z = true
  | _, _, [], _, h2 => by cases ‹List UInt8› <;> simp [Op.bytesLess] at h2
  | [], _, _ :: _, _, _ => rfl
  | a :: x, [], _ :: _, h1, _ => by simp [Op.bytesLess] at h1
  | a :: x, b :: y, d :: z, h1, h2 => by
    simp only [Op.bytesLess, Bool.or_eq_true, decide_eq_true_eq, Bool.and_eq_true, beq_iff_eq, UInt8.lt_iff_toNat_lt] at h1 h2 ⊢
    rcases h1 with h1 | ⟨rfl, h1⟩
    · rcases h2 with h2 | ⟨rfl, h2⟩
      · exact .inl (by omega)
      · exact .inl h1
    · rcases h2 with h2 | ⟨rfl, h2⟩
      · exact .inl h2
      · exact .inr ⟨rfl, bl_trans x y z h1 h2⟩
theorem bl_tri : ∀ x y : List UInt8, Op.bytesLess x y = false → Op.bytesLess y x = false → x = y
  | [], [], _, _ => rfl
  | [], _ :: _, h, _ => by simp [Op.bytesLess] at h
  | _ :: _, [], _, h => by simp [Op.bytesLess] at h
  | a :: x, b :: y, h1, h2 => by
    simp only [Op.bytesLess, Bool.or_eq_false_iff, decide_eq_false_iff_not, Bool.and_eq_false_iff, beq_eq_false_iff_ne, UInt8.lt_iff_toNat_lt] at h1 h2
    have hab : a = b := by apply UInt8.toNat_inj.1; omega
    subst hab
    rw [bl_tri x y (h1.2.resolve_left (fun h => h rfl)) (h2.2.resolve_left (fun h => h rfl))]
theorem txt_cases (a b : ByteArray) : (Op.bytesLess a.toList b.toList = true ∧ txt a b = -1) ∨ (a = b ∧ txt a b = 0) ∨ (Op.bytesLess b.toList a.toList = true ∧ txt a b = 1) := by
  unfold txt
  by_cases h : Op.bytesLess a.toList b.toList = true
  · exact .inl ⟨h, if_pos h⟩
  · rw [if_neg h]
    have h' : Op.bytesLess a.toList b.toList = false := by simpa using h
    by_cases h2 : Op.bytesLess b.toList a.toList = true
    · refine .inr (.inr ⟨h2, if_pos ?_⟩)
      have hne : ¬ a.toList = b.toList := fun e => by rw [e, bl_irr] at h2; cases h2
      simp [h', hne]
    · have e := bl_tri _ _ h' (by simpa using h2)
      exact .inr (.inl ⟨bytes_ext e, if_neg (by simp [e])⟩)
theorem txt_anti (a b : ByteArray) : txt b a = - txt a b := by
  rcases txt_cases a b with ⟨h1, h2⟩ | ⟨h1, h2⟩ | ⟨h1, h2⟩ <;> rcases txt_cases b a with ⟨k1, k2⟩ | ⟨k1, k2⟩ | ⟨k1, k2⟩ <;> rw [h2, k2] <;> try omega
  · have := bl_trans _ _ _ h1 k1; rw [bl_irr] at this; cases this
  · subst k1; rw [bl_irr] at h1; cases h1
  · subst h1; rw [bl_irr] at k1; cases k1
  · subst h1; rw [bl_irr] at k1; cases k1
  · subst k1; rw [bl_irr] at h1; cases h1
  · have := bl_trans _ _ _ h1 k1; rw [bl_irr] at this; cases this
theorem txt_range (a b : ByteArray) : -1 ≤ txt a b ∧ txt a b ≤ 1 := by rcases txt_cases a b with ⟨_, h2⟩ | ⟨_, h2⟩ | ⟨_, h2⟩ <;> omega
theorem txt_zero {a b : ByteArray} (h : txt a b = 0) : a = b := by rcases txt_cases a b with ⟨_, h2⟩ | ⟨h1, _⟩ | ⟨_, h2⟩ <;> first | exact h1 | omega
theorem txt_lt {a b : ByteArray} (h : txt a b < 0) : Op.bytesLess a.toList b.toList = true := by rcases txt_cases a b with ⟨h1, _⟩ | ⟨_, h2⟩ | ⟨_, h2⟩ <;> first | exact h1 | omega
theorem txt_neg {a b : ByteArray} (h : Op.bytesLess a.toList b.toList = true) : txt a b = -1 := if_pos h
theorem txt_law : Lawful txt := by
  refine ⟨fun a b h => by have := txt_anti a b; omega, fun a b h => by have := txt_anti a b; omega, fun a b d h1 h2 => ?_⟩
  rcases txt_cases a b with ⟨k1, e1⟩ | ⟨rfl, e1⟩ | ⟨_, e1⟩
  · rcases txt_cases b d with ⟨k2, e2⟩ | ⟨rfl, e2⟩ | ⟨_, e2⟩
    · rw [txt_neg (bl_trans _ _ _ k1 k2)]; omega
    · omega
    · omega
  · exact h2
  · omega
/-- strictly rising texts -/
def SX (A : List ByteArray) : Prop := A.Pairwise fun a b => Op.bytesLess a.toList b.toList = true
theorem SX.ext : ∀ {P Q : List ByteArray}, SX P → SX Q → (∀ z, z ∈ P ↔ z ∈ Q) → P = Q
  | [], [], _, _, _ => rfl
  | [], q :: Q, _, _, h => absurd ((h q).2 (by simp)) (by simp)
  | p :: P, [], _, _, h => absurd ((h p).1 (by simp)) (by simp)
  | p :: P, q :: Q, hP, hQ, h => by
    obtain ⟨p1, p2⟩ := List.pairwise_cons.1 hP
    obtain ⟨q1, q2⟩ := List.pairwise_cons.1 hQ
    have irr : ∀ x : ByteArray, ¬ Op.bytesLess x.toList x.toList = true := fun x h => by rw [bl_irr] at h; cases h
    have e : p = q := by
      have h1 := (h p).1 (by simp)
      have h2 := (h q).2 (by simp)
      rw [List.mem_cons] at h1 h2
      rcases h1 with h1 | h1
      · exact h1
      · rcases h2 with h2 | h2
        · exact h2.symm
        · exact absurd (bl_trans _ _ _ (q1 p h1) (p1 q h2)) (irr q)
    subst e
    congr 1
    refine SX.ext p2 q2 fun z => ⟨fun hz => ?_, fun hz => ?_⟩
    · rcases List.mem_cons.1 ((h z).1 (List.mem_cons_of_mem _ hz)) with e | e
      · subst e; exact absurd (p1 _ hz) (irr _)
      · exact e
    · rcases List.mem_cons.1 ((h z).2 (List.mem_cons_of_mem _ hz)) with e | e
      · subst e; exact absurd (q1 _ hz) (irr _)
      · exact e
theorem insS_mem {z x : ByteArray} : ∀ {l : List ByteArray}, x ∈ insS z l ↔ x = z ∨ x ∈ l
  | [] => by simp [insS]
  | y :: ys => by
    rw [insS]
    split
    · simp
    · rw [List.mem_cons, insS_mem, List.mem_cons]
      constructor
      · rintro (h | h | h)
        · exact .inr (.inl h)
        · exact .inl h
        · exact .inr (.inr h)
      · rintro (h | h | h)
        · exact .inr (.inl h)
        · exact .inl h
        · exact .inr (.inr h)
theorem insS_SX {z : ByteArray} : ∀ {l : List ByteArray}, SX l → z ∉ l → SX (insS z l)
  | [], _, _ => List.pairwise_singleton _ _
  | y :: ys, h, hz => by
    obtain ⟨h1, h2⟩ := List.pairwise_cons.1 h
    rw [insS]
    split
    · rename_i hl
      exact List.pairwise_cons.2 ⟨fun x hx => by rcases List.mem_cons.1 hx with rfl | hx; exact hl; exact bl_trans _ _ _ hl (h1 x hx), h⟩
    · rename_i hl
      refine List.pairwise_cons.2 ⟨fun x hx => ?_, insS_SX h2 (fun h => hz (List.mem_cons_of_mem _ h))⟩
      rcases insS_mem.1 hx with rfl | hx
      · rcases txt_cases y x with ⟨k, _⟩ | ⟨k, _⟩ | ⟨k, _⟩
        · exact k
        · exact absurd (by rw [k]; simp) hz
        · exact absurd k hl
      · exact h1 x hx
theorem putL_mem {z x : ByteArray} {l : List ByteArray} : x ∈ putL l z ↔ x = z ∨ x ∈ l := by
  unfold putL
  split
  · rename_i h
    have := inB_iff.1 h
    exact ⟨.inr, fun h => h.elim (fun e => e ▸ this) id⟩
  · exact insS_mem
theorem putL_SX {z : ByteArray} {l : List ByteArray} (h : SX l) : SX (putL l z) := by
  unfold putL
  split
  · exact h
  · rename_i hn; exact insS_SX h fun hm => hn (inB_iff.2 hm)
theorem namesL_SX (ns : List ByteArray) : SX (namesL ns) := by
  induction ns using Go.OrdPure.rev_ind with
  | h0 => exact List.Pairwise.nil
  | h1 xs x ih => rw [namesL_snoc]; exact putL_SX ih
theorem namesL_mem {ns : List ByteArray} {z : ByteArray} : z ∈ namesL ns ↔ z ∈ ns := by
  induction ns using Go.OrdPure.rev_ind with
  | h0 => simp [namesL]
  | h1 xs x ih => rw [namesL_snoc, putL_mem, ih, List.mem_append, List.mem_singleton, or_comm]
theorem edgesL_SX {l : List ByteArray} (h : SX l) (es : List Edge) : SX (edgesL l es) := by
  induction es using Go.OrdPure.rev_ind with
  | h0 => exact h
  | h1 xs x ih => rw [edgesL_snoc]; exact putL_SX (putL_SX ih)
theorem edgesL_mem {l : List ByteArray} {es : List Edge} {z : ByteArray} : z ∈ edgesL l es ↔ z ∈ l ∨ ∃ e ∈ es, z = e.1 ∨ z = e.2.1 := by
  induction es using Go.OrdPure.rev_ind with
  | h0 => simp [edgesL]
  | h1 xs x ih =>
    rw [edgesL_snoc, putL_mem, putL_mem, ih]
    constructor
    · rintro (h | h | h | ⟨e, he, h⟩)
      · exact .inr ⟨x, by simp, .inr h⟩
      · exact .inr ⟨x, by simp, .inl h⟩
      · exact .inl h
      · exact .inr ⟨e, by simp [he], h⟩
    · rintro (h | ⟨e, he, h⟩)
      · exact .inr (.inr (.inl h))
      · rcases List.mem_append.1 he with he | he
        · exact .inr (.inr (.inr ⟨e, he, h⟩))
        · rw [List.mem_singleton] at he
          subst he
          rcases h with h | h
          · exact .inr (.inl h)
          · exact .inl h
theorem nodesL_SX (ns : List ByteArray) (es : List Edge) : SX (nodesL ns es) := edgesL_SX (namesL_SX ns) es
theorem nodesL_mem {ns : List ByteArray} {es : List Edge} {z : ByteArray} : z ∈ nodesL ns es ↔ z ∈ ns ∨ ∃ e ∈ es, z = e.1 ∨ z = e.2.1 := by rw [nodesL, edgesL_mem, namesL_mem]
set_option maxHeartbeats 4000000 in
theorem texts39 (a b : ByteArray) (w0 : World) : Calls Try.prog 39 #[.string a, .string b] w0 fun e w' => e = .returned (.int .i64 (txt a b)) ∧ Ext w0 w' := by
  have hE0 : Below w0.heap.size w0 w0 := Below.refl _ _
  have hz0 := hE0.le
  refine enter Try.func39 rfl 13 Try.ntmps39 rfl ?_
  refine seqK fun Q1 kn2 kr3 ke4 => ?_
  refine region ?_
  refine st_q (v := .int .i64 ((0 : Nat) : Int)) (x_assign rfl) ?_
  refine st_nil ?_
  refine kn2 _ _ ?_
  refine seqK fun Q5 kn6 kr7 ke8 => ?_
  refine blockK fun Q9 kn10 kr11 kx12 kb13 => ?_
  refine seqK fun Q14 kn15 kr16 ke17 => ?_
  refine region ?_
  refine st_q (v := .string a) (x_move rfl) ?_
  refine st_q (v := .string b) (x_move rfl) ?_
  refine st_q (v := .bool (decide (Op.bytesLess a.toList b.toList = true))) (x_lssS rfl rfl) ?_
  refine st_q (v := .bool (decide (Op.bytesLess a.toList b.toList = true))) (x_assign rfl) ?_
  refine st_nil ?_
  refine kn15 _ _ ?_
  refine cnd (p := Op.bytesLess a.toList b.toList = true) rfl (fun h18 => ?_) (fun h18 => ?_)
  ·
    refine seqK fun Q19 kn20 kr21 ke22 => ?_
    refine region ?_
    refine st_q (v := .int .i64 (-1)) (x_assign rfl) ?_
    refine st_nil ?_
    refine kn20 _ _ ?_
    refine ret ?_
    refine kr11 _ _ ?_
    refine kr7 _ _ ?_
    refine leave1 (P := Try.prog) (fn := Try.f39) (t := 4) (v := .int .i64 (-1)) rfl rfl ?_
    exact ⟨by unfold txt; (first | rw [if_pos (by assumption)] | rw [if_neg (by assumption), if_pos (by assumption)] | rw [if_neg (by assumption), if_neg (by assumption)]); all_goals rfl, hE0⟩
  ·
    refine seqK fun Q23 kn24 kr25 ke26 => ?_
    refine region ?_
    refine st_q (v := .string a) (x_move rfl) ?_
    refine st_q (v := .string b) (x_move rfl) ?_
    refine st_q (v := .bool (decide ((Op.bytesLess a.toList b.toList || a.toList == b.toList) = false))) (x_gtrS rfl rfl) ?_
    refine st_q (v := .bool (decide ((Op.bytesLess a.toList b.toList || a.toList == b.toList) = false))) (x_assign rfl) ?_
    refine st_nil ?_
    refine kn24 _ _ ?_
    refine cnd (p := (Op.bytesLess a.toList b.toList || a.toList == b.toList) = false) rfl (fun h27 => ?_) (fun h27 => ?_)
    ·
      refine seqK fun Q28 kn29 kr30 ke31 => ?_
      refine region ?_
      refine st_q (v := .int .i64 ((1 : Nat) : Int)) (x_assign rfl) ?_
      refine st_nil ?_
      refine kn29 _ _ ?_
      refine ret ?_
      refine kr11 _ _ ?_
      refine kr7 _ _ ?_
      refine leave1 (P := Try.prog) (fn := Try.f39) (t := 4) (v := .int .i64 ((1 : Nat) : Int)) rfl rfl ?_
      exact ⟨by unfold txt; (first | rw [if_pos (by assumption)] | rw [if_neg (by assumption), if_pos (by assumption)] | rw [if_neg (by assumption), if_neg (by assumption)]); all_goals rfl, hE0⟩
    ·
      refine skip ?_
      refine kn10 _ _ ?_
      refine kn6 _ _ ?_
      refine seqK fun Q32 kn33 kr34 ke35 => ?_
      refine region ?_
      refine st_q (v := .int .i64 ((0 : Nat) : Int)) (x_assign rfl) ?_
      refine st_nil ?_
      refine kn33 _ _ ?_
      refine ret ?_
      refine leave1 (P := Try.prog) (fn := Try.f39) (t := 4) (v := .int .i64 ((0 : Nat) : Int)) rfl rfl ?_
      exact ⟨by unfold txt; (first | rw [if_pos (by assumption)] | rw [if_neg (by assumption), if_pos (by assumption)] | rw [if_neg (by assumption), if_neg (by assumption)]); all_goals rfl, hE0⟩

set_option maxHeartbeats 4000000 in
theorem told53 (f : Nat) (w0 : World) : Calls Try.prog 53 #[.func (.func f) #[] #[]] w0 fun e w' => e = .returned (.func (.func f) #[] #[]) ∧ w0 = w' := by
  refine enter Try.func53 rfl 6 Try.ntmps53 rfl ?_
  refine seqK fun Q1 kn2 kr3 ke4 => ?_
  refine region ?_
  refine st_q (v := .nilFunc) (x_assign rfl) ?_
  refine st_nil ?_
  refine kn2 _ _ ?_
  refine seqK fun Q5 kn6 kr7 ke8 => ?_
  refine seqK fun Q9 kn10 kr11 ke12 => ?_
  refine region ?_
  refine st_q (v := .func (.func f) #[] #[]) (x_move rfl) ?_
  refine st_q (v := .bool false) (x_eqlFnil Try.underlying68 rfl rfl) ?_
  refine st_nil ?_
  refine kn10 _ _ ?_
  refine cndF rfl ?_
  refine skip ?_
  refine kn6 _ _ ?_
  refine seqK fun Q13 kn14 kr15 ke16 => ?_
  refine region ?_
  refine st_q (v := .func (.func f) #[] #[]) (x_move rfl) ?_
  refine st_q (v := .func (.func f) #[] #[]) (x_assign rfl) ?_
  refine st_nil ?_
  refine kn14 _ _ ?_
  refine ret ?_
  refine leave1 (P := Try.prog) (fn := Try.f53) (t := 2) (v := .func (.func f) #[] #[]) rfl rfl ?_
  exact ⟨rfl, rfl⟩

theorem cmp39 : CmpS 39 txt := fun x y w => texts39 x y w
theorem told39 : Told (.func (.func 39) #[] #[]) 39 := fun w => told53 39 w
end Go.Proofs.Ytknfjgbipfpnjaa
