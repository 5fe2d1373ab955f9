/- A part of the engine: steps over the model. Over any program. -/
import Derived.Test.YtljfgmedbjlkaaaGreatQA
import Derived.Test.YtljfgmedbjlkaaaGreatV3
import Derived.Test.YtljfgmedbjlkaaaGreatQI
import Derived.Test.YtljfgmedbjlkaaaGreatQV
import Derived.Test.YtljfgmedbjlkaaaGreatProg
namespace Go.Proofs.YtljfgmedbjlkaaaGreat
open Go.RowKit Go.Eng Go.QP
theorem T.cf71 : CF Tryz.prog 71 := fun _ _ => by kernel_rfl
theorem two_b {x y : Tm} (h1 : x.2.size ≤ 1048576) (h2 : y.2.size ≤ 1048576) : ∀ i, i < 2 → (el [x, y] i).2.size ≤ 68719476736 := fun i hi => by
  match i, hi with
  | 0, _ => exact Nat.le_trans h1 (by decide)
  | 1, _ => exact Nat.le_trans h2 (by decide)
/-- what the terms are printed as, in one form -/
theorem listed_or {ts : List Tm} {a : Option Addr} {m c : Nat} {sep : ByteArray} {w0 : World} (h : Calls Tryz.prog 71 #[.slice a m c, .string sep, .func (.func 57) #[] #[]] w0 fun e w' => (∃ os t, e = .returned (.tuple #[.string t, .bool true]) ∧ OutR ts m os ∧ bl t = (bl sep).intercalate (os.map bl) ∧ Ext w0 w') ∨ ((∃ i, i < m ∧ ¬ TermG (el ts i).1 (el ts i).2) ∧ e = .returned (.tuple #[.string (ByteArray.mk #[]), .bool false]) ∧ Ext w0 w')) (hm : ts.length = m := by rfl) :
    Calls Tryz.prog 71 #[.slice a m c, .string sep, .func (.func 57) #[] #[]] w0 fun e w' => ∃ t r, e = .returned (.tuple #[.string t, .bool r]) ∧ ((r = true ∧ (∀ y ∈ ts, TmG y) ∧ bl t = joinL (bl sep) (ts.map termL)) ∨ (r = false ∧ ¬ ∀ y ∈ ts, TmG y)) ∧ Ext w0 w' :=
  h.mono fun e w' h => h.elim (fun ⟨os, t, he, ho, ht, x⟩ => ⟨t, true, he, .inl ⟨rfl, (ho.good hm).1, by rw [ht, (ho.good hm).2, inter_join]⟩, x⟩) fun ⟨⟨i, hi, hn⟩, he, x⟩ => ⟨_, false, he, .inr ⟨rfl, fun h => hn (h (el ts i) (by rw [el_eq (by omega)]; exact List.getElem_mem _))⟩, x⟩
theorem atom_text {p t : ByteArray} {xs : List Tm} (h : 0 < xs.length) (ht : bl t = joinL (bl (ByteArray.mk #[44, 32])) (xs.map termL)) : bl (p ++ ByteArray.mk #[40] ++ t ++ ByteArray.mk #[41]) = atomL p xs := by
  unfold atomL
  rw [if_neg (fun e => by rw [e] at h; cases h), bl_append, bl_append, bl_append, ht]
  rfl
theorem atom_size {t : ByteArray} {xs : List Tm} {r : Bool} (hl : xs.length ≤ 16) (h : r = true ∧ (∀ y ∈ xs, TmG y) ∧ bl t = joinL (bl (ByteArray.mk #[44, 32])) (xs.map termL)) : t.size ≤ 100000 := by
  have hj := joinL_len (bl (ByteArray.mk #[44, 32])) 4098 (xs.map termL) (fun x hx => by obtain ⟨y, hy, rfl⟩ := List.mem_map.1 hx; exact termL_len (h.2.1 y hy))
  rw [List.length_map] at hj
  have e : (bl (ByteArray.mk #[44, 32])).length = 2 := rfl
  have : xs.length * (4098 + 2) ≤ 16 * 4100 := Nat.mul_le_mul hl (Nat.le_refl _)
  rw [e] at hj
  rw [← bl_len, h.2.2]; omega
theorem Atom72 (p : ByteArray) (a : Option Addr) (c : Nat) (xs : List Tm) (w0 : World) (hs : Srm eT w0.heap a xs.length c xs) (hp : p.size ≤ 1048576) (hl : xs.length ≤ 1048576) (hb : ∀ i, i < xs.length → (el xs i).2.size ≤ 68719476736) :
    Calls Tryz.prog 72 #[.agg #[.string p, .slice a xs.length c]] w0 fun e w' => ∃ (t : ByteArray) (k : Nat), e = .returned (.tuple #[.string t, .int .i64 ((k : Nat) : Int)]) ∧ ((k = 0 ∧ AtG p xs ∧ bl t = atomL p xs) ∨ (k = 2 ∧ ¬ AtG p xs)) ∧ Ext w0 w' := by
  refine enter Tryz.func72 rfl 38 Tryz.ntmps72 rfl <| ?_
  refine sr fun Q1 k2 => ?_
  refine st_e <| Ebx (v := .agg #[.string p, .slice a xs.length c]) (Hp.start No w0) rfl fun b3 w4 H5 x6 => qt asg <| qt asg <| nl <| k2 _ _ <| ?_
  refine sr fun Q7 k8 => qt (x_field (o := 0) T.fa32_1 rfl) <| qt (x_load1 T.na30 rfl (H5.ld 0 rfl 1 rfl)) <| ?_
  refine st_c (t_call _ T.cf71 rfl rfl) (listed_or (listed71 xs _ xs.length _ (ByteArray.mk #[44, 32]) _ (hs.ext H5.x) (by omega) (by decide) hb)) fun _ w10 ⟨t11, r12, er, h9, K13⟩ => ⟨_, er, ?_⟩
  have H14 := H5.ext K13
  refine qt mv <| qt (x_extract rfl rfl) <| qt (x_extract rfl rfl) <| qt asg <| qt asg <| nl <| k8 _ _ <| seqK fun Q15 kn16 kr17 ke18 => ?_
  refine sr fun Q19 k20 => qt (mvB rfl) <| qt (x_notP rfl) <| st_if (p := ¬ (r12 = true)) (x_move rfl) (fun h21 => ?_) (fun h21 => ?_)
  · refine st_gn 2 14 rfl rfl (by decide) rfl <| st_gn 2 14 rfl rfl (by decide) rfl <| st_gn 2 14 rfl rfl (by decide) rfl <| st_gn 2 14 rfl rfl (by decide) rfl <| qt (pkT rfl) <| qt mv <| st_gn 8 20 rfl rfl (by decide) rfl <| st_gn 8 20 rfl rfl (by decide) rfl <| st_gn 8 20 rfl rfl (by decide) rfl <| st_gn 8 20 rfl rfl (by decide) rfl <| qt (pkT rfl) <| nl <| k20 _ _ <| cndT rfl <| ?_
    refine sr fun Q22 k23 => qt asg <| qt asg <| nl <| k23 _ _ <| ret <| kr17 _ _ <| leave2 (P := Tryz.prog) (fn := Tryz.f72) (t := 2) (u := 3) (v := .string (ByteArray.mk #[])) (v' := .int .i64 ((2 : Nat) : Int)) rfl rfl rfl ?_
    exact ⟨_, 2, rfl, .inr ⟨rfl, fun hg => by first | exact absurd hg.1 (by assumption) | (have := hg.2.1; omega) | exact (h9.resolve_left (fun h => by have := h.1.symm.trans (Bool.eq_false_iff.2 (by assumption)); cases this)).2 hg.2.2⟩, H14.x⟩
  · refine st_gq 2 14 rfl rfl (by decide) <| qt (x_field (o := 0) T.fa32_0 rfl) <| st_gq 2 14 rfl rfl (by decide) <| qt (x_load1 T.na9 rfl (H14.ld 0 rfl 0 rfl)) <| st_gq 2 14 rfl rfl (by decide) <| ?_
    refine cl T.cf127 (name127 p _ (by omega)) rfl fun _ _ ⟨er, rfl⟩ => ⟨_, er, ?_⟩
    refine st_gq 2 14 rfl rfl (by decide) <| qt (x_notP rfl) <| qt (pkF rfl) <| st_if (p := ¬ (kind p = 1)) (x_move rfl) (fun h25 => ?_) (fun h25 => ?_)
    · refine st_gn 8 20 rfl rfl (by decide) rfl <| st_gn 8 20 rfl rfl (by decide) rfl <| st_gn 8 20 rfl rfl (by decide) rfl <| st_gn 8 20 rfl rfl (by decide) rfl <| qt (pkT rfl) <| nl <| k20 _ _ <| cndT rfl <| ?_
      refine sr fun Q26 k27 => qt asg <| qt asg <| nl <| k27 _ _ <| ret <| kr17 _ _ <| leave2 (P := Tryz.prog) (fn := Tryz.f72) (t := 2) (u := 3) (v := .string (ByteArray.mk #[])) (v' := .int .i64 ((2 : Nat) : Int)) rfl rfl rfl ?_
      exact ⟨_, 2, rfl, .inr ⟨rfl, fun hg => by first | exact absurd hg.1 (by assumption) | (have := hg.2.1; omega) | exact (h9.resolve_left (fun h => by have := h.1.symm.trans (Bool.eq_false_iff.2 (by assumption)); cases this)).2 hg.2.2⟩, H14.x⟩
    · refine st_gq 8 20 rfl rfl (by decide) <| qt (x_field (o := 0) T.fa32_1 rfl) <| st_gq 8 20 rfl rfl (by decide) <| qt (x_load1 T.na30 rfl (H14.ld 0 rfl 1 rfl)) <| st_gq 8 20 rfl rfl (by decide) <| qt (x_lenSl rfl Tryz.underlying30 rfl) <| st_gq 8 20 rfl rfl (by decide) <| qt (x_gtrN (b := 16) rfl rfl) <| qt (pkF rfl) <| nl <| k20 _ _ <| cnd (p := 16 < xs.length) rfl (fun h28 => ?_) (fun h28 => ?_)
      · refine sr fun Q29 k30 => qt asg <| qt asg <| nl <| k30 _ _ <| ret <| kr17 _ _ <| leave2 (P := Tryz.prog) (fn := Tryz.f72) (t := 2) (u := 3) (v := .string (ByteArray.mk #[])) (v' := .int .i64 ((2 : Nat) : Int)) rfl rfl rfl ?_
        exact ⟨_, 2, rfl, .inr ⟨rfl, fun hg => by first | exact absurd hg.1 (by assumption) | (have := hg.2.1; omega) | exact (h9.resolve_left (fun h => by have := h.1.symm.trans (Bool.eq_false_iff.2 (by assumption)); cases this)).2 hg.2.2⟩, H14.x⟩
      · refine skip <| kn16 _ _ <| seqK fun Q31 kn32 kr33 ke34 => ?_
        refine sr fun Q35 k36 => qt (x_field (o := 0) T.fa32_1 rfl) <| qt (x_load1 T.na30 rfl (H14.ld 0 rfl 1 rfl)) <| qt (x_lenSl rfl Tryz.underlying30 rfl) <| qt (x_eqlN (b := 0) rfl rfl) <| nl <| k36 _ _ <| cnd (p := xs.length = 0) rfl (fun h37 => ?_) (fun h37 => ?_)
        · refine sr fun Q38 k39 => qt (x_field (o := 0) T.fa32_0 rfl) <| qt (x_load1 T.na9 rfl (H14.ld 0 rfl 0 rfl)) <| qt asg <| qt asg <| nl <| k39 _ _ <| ret <| kr33 _ _ <| leave2 (P := Tryz.prog) (fn := Tryz.f72) (t := 2) (u := 3) (v := .string p) (v' := .int .i64 ((0 : Nat) : Int)) rfl rfl rfl ?_
          have hr := h9.resolve_right (fun h => by have := h.1.symm.trans (Decidable.of_not_not (by assumption)); cases this)
          have h0 : xs = [] := List.eq_nil_of_length_eq_zero (by assumption)
          exact ⟨_, 0, rfl, .inl ⟨rfl, ⟨Decidable.of_not_not (by assumption), by omega, hr.2.1⟩, by unfold atomL; rw [if_pos h0]⟩, H14.x⟩
        · refine skip <| kn32 _ _ <| ?_
          refine sr fun Q40 k41 => qt (x_field (o := 0) T.fa32_0 rfl) <| qt (x_load1 T.na9 rfl (H14.ld 0 rfl 0 rfl)) <| ?_
          have hts : t11.size ≤ 100000 := atom_size (by omega) (h9.resolve_right (fun h => by have := h.1.symm.trans (Decidable.of_not_not (by assumption)); cases this))
          refine qt (x_addS rfl rfl (by have e1 : (ByteArray.mk #[40]).size = 1 := rfl; have e2 : (ByteArray.mk #[41]).size = 1 := rfl; (try simp only [ByteArray.size_append]); omega)) <| qt mv <| qt (x_addS rfl rfl (by have e1 : (ByteArray.mk #[40]).size = 1 := rfl; have e2 : (ByteArray.mk #[41]).size = 1 := rfl; (try simp only [ByteArray.size_append]); omega)) <| qt (x_addS rfl rfl (by have e1 : (ByteArray.mk #[40]).size = 1 := rfl; have e2 : (ByteArray.mk #[41]).size = 1 := rfl; (try simp only [ByteArray.size_append]); omega)) <| qt asg <| qt asg <| nl <| k41 _ _ <| ret <| leave2 (P := Tryz.prog) (fn := Tryz.f72) (t := 2) (u := 3) (v := .string (((p ++ (ByteArray.mk #[40])) ++ t11) ++ (ByteArray.mk #[41]))) (v' := .int .i64 ((0 : Nat) : Int)) rfl rfl rfl ?_
          have hr := h9.resolve_right (fun h => by have := h.1.symm.trans (Decidable.of_not_not (by assumption)); cases this)
          exact ⟨_, 0, rfl, .inl ⟨rfl, ⟨Decidable.of_not_not (by assumption), by omega, hr.2.1⟩, atom_text (by omega) hr.2.2⟩, H14.x⟩
end Go.Proofs.YtljfgmedbjlkaaaGreat
namespace Go.Proofs.YtljfgmedbjlkaaaGreat
open Go.RowKit Go.Eng Go.QP
theorem T.fa37_2 : FA Tryz.prog 37 2 3 := fun _ _ => by kernel_rfl
theorem T.eqT35 : EQT Tryz.prog 35 := ⟨⟨_, _, Tryz.underlying35, rfl, rfl, rfl, rfl, Tryz.underlying4, Tryz.underlying9⟩, by kernel_rfl, by kernel_rfl⟩
theorem T.na33 : NA Tryz.prog 33 := fun _ => by kernel_rfl
theorem T.ag32 : AG Tryz.prog 32 2 := fun _ => ⟨by kernel_rfl, by kernel_rfl⟩
theorem T.cf72 : CF Tryz.prog 72 := fun _ _ => by kernel_rfl
theorem T.zv37 : ZV Tryz.prog 37 (.agg #[.int .i64 ((0 : Nat) : Int), .string ByteArray.empty, .slice none 0 0, .bool false, .string ByteArray.empty, .bool false, .string ByteArray.empty]) := fun _ => by kernel_rfl
theorem T.cf33 : CF Tryz.prog 33 := fun _ _ => by kernel_rfl
theorem pair0 {x : Tm} : (decide (x.1 = true), x.2) = (false, ByteArray.empty) ↔ x = Tm0 := by
  obtain ⟨v, s⟩ := x
  cases v <;> simp [Tm0]
theorem tb_t {x : Rw} (h : ¬ ((decide (x.1.left.1 = true), x.1.left.2) = (false, ByteArray.empty))) : (true = true ↔ ¬ (x.1.left = Tm0 ∧ x.1.right = Tm0)) := ⟨fun _ h2 => h (pair0.2 h2.1), fun _ => rfl⟩
theorem tb_d {x : Rw} (h : ¬ ¬ ((decide (x.1.left.1 = true), x.1.left.2) = (false, ByteArray.empty))) : (decide (¬ ((decide (x.1.right.1 = true), x.1.right.2) = (false, ByteArray.empty))) = true ↔ ¬ (x.1.left = Tm0 ∧ x.1.right = Tm0)) := by
  rw [decide_eq_true_iff, pair0]
  exact ⟨fun h1 h2 => h1 h2.2, fun h1 h2 => h1 ⟨pair0.1 (Decidable.of_not_not h), h2⟩⟩
theorem lit_two {x : Qlit} (h : LitG x) (hk : x.kind = 3) : ∀ y ∈ [x.left, x.right], TmG y := by
  obtain ⟨h1, h2, _⟩ := LitG_un h hk
  intro y hy
  rcases List.mem_cons.1 hy with rfl | hy
  · exact h1
  · rcases List.mem_cons.1 hy with rfl | hy
    · exact h2
    · cases hy
theorem lit3 {x : Qlit} {t : ByteArray} {r : Bool} (hk : x.kind = 3) (hp : x.pred = ByteArray.mk #[]) (ha : ¬ 0 < x.args.length) (h : r = true ∧ (∀ y ∈ [x.left, x.right], TmG y) ∧ bl t = joinL (bl (ByteArray.mk #[32, 33, 61, 32])) ([x.left, x.right].map termL)) : LitG x ∧ bl t = litL x := by
  refine ⟨.inr ⟨hk, h.2.1 _ (List.mem_cons_self ..), h.2.1 _ (List.mem_cons_of_mem _ (List.mem_cons_self ..)), hp, List.eq_nil_of_length_eq_zero (by omega)⟩, ?_⟩
  unfold litL
  rw [if_pos hk, h.2.2]; rfl
theorem lit12a {x : Qlit} {t : ByteArray} {k : Nat} (hk : x.kind = 1) (h0 : x.left = Tm0 ∧ x.right = Tm0) (h : k = 0 ∧ AtG x.pred x.args ∧ bl t = atomL x.pred x.args) : LitG x ∧ bl (ByteArray.mk #[] ++ t) = litL x := by
  refine ⟨LitG_of h.2.1 h0.1 h0.2 (.inl hk), ?_⟩
  unfold litL
  rw [if_neg (by omega), if_neg (by omega), bl_append, h.2.2]; rfl
theorem lit12b {x : Qlit} {t : ByteArray} {k : Nat} (hk : x.kind = 2) (h0 : x.left = Tm0 ∧ x.right = Tm0) (h : k = 0 ∧ AtG x.pred x.args ∧ bl t = atomL x.pred x.args) : LitG x ∧ bl (ByteArray.mk #[110, 111, 116, 32] ++ t) = litL x := by
  refine ⟨LitG_of h.2.1 h0.1 h0.2 (.inr hk), ?_⟩
  unfold litL
  rw [if_neg (by omega), if_pos hk, bl_append, h.2.2]; rfl
theorem atom_sz {p t : ByteArray} {xs : List Tm} {k : Nat} (h : k = 0 ∧ AtG p xs ∧ bl t = atomL p xs) : t.size ≤ 100000 := by
  have := atomL_len h.2.1
  rw [← bl_len, h.2.2]; omega
theorem Literal33 (z : Rw) (w0 : World) (hs : RowM w0.heap z) (hb : RowB z.1) :
    Calls Tryz.prog 33 #[.agg (eL.enc z).toArray] w0 fun e w' => ∃ (t : ByteArray) (k : Nat), e = .returned (.tuple #[.string t, .int .i64 ((k : Nat) : Int)]) ∧ ((k = 0 ∧ LitG z.1 ∧ bl t = litL z.1) ∨ (k = 2 ∧ ¬ LitG z.1)) ∧ Ext w0 w' := by
  refine enter Tryz.func33 rfl 65 Tryz.ntmps33 rfl <| ?_
  refine sr fun Q1 k2 => ?_
  refine st_e <| Ebx (v := .agg #[.int .i64 z.1.kind, .string z.1.pred, .slice z.2.1 z.1.args.length z.2.2, .bool (decide (z.1.left.1 = true)), .string z.1.left.2, .bool (decide (z.1.right.1 = true)), .string z.1.right.2]) (Hp.start No w0) rfl fun b3 w4 H5 x6 => qt asg <| qt asg <| nl <| k2 _ _ <| ?_
  refine seqLK (n := 65) (ds := []) (α := Bool) (fun x => [(1, .pointer (some ⟨b3, 0, none⟩)), (4, .bool x)]) (fun x w7 => Hp No w0 w7 [cB b3 37 [.int .i64 z.1.kind, .string z.1.pred, .slice z.2.1 z.1.args.length z.2.2, .bool (decide (z.1.left.1 = true)), .string z.1.left.2, .bool (decide (z.1.right.1 = true)), .string z.1.right.2]] ∧ (x = true ↔ ¬ (z.1.left = Tm0 ∧ z.1.right = Tm0))) ?_ ?_
  · intro Q8 kn9 kr10 ke11
    refine region <| qt (x_field (o := 0) T.fa37_2 rfl) <| qt (x_loadA [.bool (decide (z.1.left.1 = true)), .string z.1.left.2] T.ag35 rfl (H5.lds 0 rfl 3 [.bool (decide (z.1.left.1 = true)), .string z.1.left.2] rfl)) <| qt (v := .agg #[.bool false, .string ByteArray.empty]) (x_build (fun _ => by kernel_rfl)) <| qt (x_neqT' T.eqT35 rfl rfl) <| st_if (p := ¬ ((decide (z.1.left.1 = true), z.1.left.2) = (false, ByteArray.empty))) (x_move rfl) (fun h12 => ?_) (fun h12 => ?_)
    · refine st_gn 4 14 rfl rfl (by decide) rfl <| st_gn 4 14 rfl rfl (by decide) rfl <| st_gn 4 14 rfl rfl (by decide) rfl <| st_gn 4 14 rfl rfl (by decide) rfl <| qt (pkT rfl) <| qt asg <| nl <| ?_
      refine kn9 _ (true) _ ⟨rfl, rfl, trivial⟩ ⟨H5, ?_⟩
      try dsimp only
      exact tb_t h12
    · refine st_gq 4 14 rfl rfl (by decide) <| qt (x_field (o := 0) T.fa37_3 rfl) <| st_gq 4 14 rfl rfl (by decide) <| qt (x_loadA [.bool (decide (z.1.right.1 = true)), .string z.1.right.2] T.ag35 rfl (H5.lds 0 rfl 5 [.bool (decide (z.1.right.1 = true)), .string z.1.right.2] rfl)) <| st_gq 4 14 rfl rfl (by decide) <| qt (v := .agg #[.bool false, .string ByteArray.empty]) (x_build (fun _ => by kernel_rfl)) <| st_gq 4 14 rfl rfl (by decide) <| qt (x_neqT' T.eqT35 rfl rfl) <| qt (pkF rfl) <| qt asg <| nl <| ?_
      refine kn9 _ ((decide (¬ ((decide (z.1.right.1 = true), z.1.right.2) = (false, ByteArray.empty))))) _ ⟨rfl, rfl, trivial⟩ ⟨H5, ?_⟩
      try dsimp only
      exact tb_d h12
  · rintro τ13 tb w14 ⟨H15, htb⟩
    try dsimp only at H15 htb ⊢
    refine sr fun Q16 k17 => qt asg <| nl <| k17 _ _ <| seqK fun Q18 kn19 kr20 ke21 => ?_
    refine sr fun Q22 k23 => qt (x_field (o := 0) T.fa37_0 rfl) <| qt (x_load1 T.na33 rfl (H15.ld 0 rfl 0 rfl)) <| nl <| k23 _ _ <| blockK fun Q24 kn25 kr26 kx27 kb28 => seqK fun Q29 kn30 kr31 ke32 => blockK fun Q33 kn34 kr35 kx36 kb37 => seqK fun Q38 kn39 kr40 ke41 => blockK fun Q42 kn43 kr44 kx45 kb46 => seqK fun Q47 kn48 kr49 ke50 => blockK fun Q51 kn52 kr53 kx54 kb55 => seqK fun Q56 kn57 kr58 ke59 => seqK fun Q60 kn61 kr62 ke63 => ?_
    refine sr fun Q64 k65 => qt (x_eql rfl rfl) <| qt asg <| nl <| k65 _ _ <| cnd (p := z.1.kind = 3) rfl (fun h66 => ?_) (fun h66 => ?_)
    · refine exit <| ke63 _ _ _ <| ke59 _ _ _ <| kb55 _ _ <| kn48 _ _ <| seqK fun Q67 kn68 kr69 ke70 => seqK fun Q71 kn72 kr73 ke74 => ?_
      refine sr fun Q75 k76 => qt (x_field (o := 0) T.fa37_1 rfl) <| qt (x_field (o := 1) T.fa32_0 rfl) <| qt (x_load1 T.na9 rfl (H15.ld 0 rfl 1 rfl)) <| qt (x_neqS rfl rfl) <| st_if (p := z.1.pred.toList ≠ (ByteArray.mk #[]).toList) (x_move rfl) (fun h77 => ?_) (fun h77 => ?_)
      · refine st_gn 4 32 rfl rfl (by decide) rfl <| st_gn 4 32 rfl rfl (by decide) rfl <| st_gn 4 32 rfl rfl (by decide) rfl <| st_gn 4 32 rfl rfl (by decide) rfl <| st_gn 4 32 rfl rfl (by decide) rfl <| qt (pkT rfl) <| nl <| k76 _ _ <| cndT rfl <| ?_
        refine sr fun Q78 k79 => qt asg <| qt asg <| nl <| k79 _ _ <| ret <| kr73 _ _ <| kr69 _ _ <| kr44 _ _ <| kr40 _ _ <| kr35 _ _ <| kr31 _ _ <| kr26 _ _ <| kr20 _ _ <| leave2 (P := Tryz.prog) (fn := Tryz.f33) (t := 2) (u := 3) (v := .string (ByteArray.mk #[])) (v' := .int .i64 ((2 : Nat) : Int)) rfl rfl rfl ?_
        exact ⟨_, 2, rfl, .inr ⟨rfl, fun hg => h77 (by rw [(LitG_un hg h66).2.2.1]; rfl)⟩, H15.x⟩
      · refine st_gq 4 32 rfl rfl (by decide) <| qt (x_field (o := 0) T.fa37_1 rfl) <| st_gq 4 32 rfl rfl (by decide) <| qt (x_field (o := 1) T.fa32_1 rfl) <| st_gq 4 32 rfl rfl (by decide) <| qt (x_load1 T.na30 rfl (H15.ld 0 rfl 2 rfl)) <| st_gq 4 32 rfl rfl (by decide) <| qt (x_lenSl rfl Tryz.underlying30 rfl) <| st_gq 4 32 rfl rfl (by decide) <| qt (x_gtrN (b := 0) rfl rfl) <| qt (pkF rfl) <| nl <| k76 _ _ <| cnd (p := 0 < z.1.args.length) rfl (fun h80 => ?_) (fun h80 => ?_)
        · refine sr fun Q81 k82 => qt asg <| qt asg <| nl <| k82 _ _ <| ret <| kr73 _ _ <| kr69 _ _ <| kr44 _ _ <| kr40 _ _ <| kr35 _ _ <| kr31 _ _ <| kr26 _ _ <| kr20 _ _ <| leave2 (P := Tryz.prog) (fn := Tryz.f33) (t := 2) (u := 3) (v := .string (ByteArray.mk #[])) (v' := .int .i64 ((2 : Nat) : Int)) rfl rfl rfl ?_
          exact ⟨_, 2, rfl, .inr ⟨rfl, fun hg => by have h9 := (LitG_un hg h66).2.2.2; rw [h9] at h80; cases h80⟩, H15.x⟩
        · refine skip <| kn72 _ _ <| ?_
          refine sr fun Q83 k84 => qt (x_field (o := 0) T.fa37_2 rfl) <| qt (x_loadA [.bool (decide (z.1.left.1 = true)), .string z.1.left.2] T.ag35 rfl (H15.lds 0 rfl 3 [.bool (decide (z.1.left.1 = true)), .string z.1.left.2] rfl)) <| qt (x_field (o := 0) T.fa37_3 rfl) <| qt (x_loadA [.bool (decide (z.1.right.1 = true)), .string z.1.right.2] T.ag35 rfl (H15.lds 0 rfl 5 [.bool (decide (z.1.right.1 = true)), .string z.1.right.2] rfl)) <| ?_
          refine st_e <| Ebs (cs := [.bool (decide (z.1.left.1 = true)), .string z.1.left.2, .bool (decide (z.1.right.1 = true)), .string z.1.right.2]) (e := 35) H15 (fun _ => by kernel_rfl) fun b85 w86 H87 x88 => ?_
          refine st_c (t_call _ T.cf71 rfl rfl) (listed_or (listed71 [z.1.left, z.1.right] _ 2 _ (ByteArray.mk #[32, 33, 61, 32]) _ ((H87.toQ eT 0 [z.1.left, z.1.right] rfl rfl (Nat.le_of_ble_eq_true rfl)).srQ 0 rfl) (by omega) (by decide) (two_b hb.2.2.2.1 hb.2.2.2.2))) fun _ w90 ⟨t91, r92, er, h89, K93⟩ => ⟨_, er, ?_⟩
          have H94 := H87.ext K93
          refine qt mv <| qt (x_extract rfl rfl) <| qt (x_extract rfl rfl) <| qt asg <| qt asg <| nl <| k84 _ _ <| seqK fun Q95 kn96 kr97 ke98 => ?_
          refine sr fun Q99 k100 => qt (mvB rfl) <| qt (x_notP rfl) <| nl <| k100 _ _ <| cnd (p := ¬ (r92 = true)) rfl (fun h101 => ?_) (fun h101 => ?_)
          · refine sr fun Q102 k103 => qt asg <| qt asg <| nl <| k103 _ _ <| ret <| kr97 _ _ <| kr69 _ _ <| kr44 _ _ <| kr40 _ _ <| kr35 _ _ <| kr31 _ _ <| kr26 _ _ <| kr20 _ _ <| leave2 (P := Tryz.prog) (fn := Tryz.f33) (t := 2) (u := 3) (v := .string (ByteArray.mk #[])) (v' := .int .i64 ((2 : Nat) : Int)) rfl rfl rfl ?_
            exact ⟨_, 2, rfl, .inr ⟨rfl, fun hg => (h89.resolve_left (fun h => by have := h.1.symm.trans (Bool.eq_false_iff.2 (by assumption)); cases this)).2 (lit_two hg h66)⟩, H94.x⟩
          · refine skip <| kn96 _ _ <| ?_
            refine sr fun Q104 k105 => qt mv <| qt asg <| qt asg <| nl <| k105 _ _ <| ret <| kr69 _ _ <| kr44 _ _ <| kr40 _ _ <| kr35 _ _ <| kr31 _ _ <| kr26 _ _ <| kr20 _ _ <| leave2 (P := Tryz.prog) (fn := Tryz.f33) (t := 2) (u := 3) (v := .string t91) (v' := .int .i64 ((0 : Nat) : Int)) rfl rfl rfl ?_
            have hr := h89.resolve_right (fun h => by have := h.1.symm.trans (Decidable.of_not_not (by assumption)); cases this)
            exact ⟨_, 0, rfl, .inl ⟨rfl, lit3 h66 (bytes_ext (Decidable.of_not_not (by assumption))) (by omega) hr⟩, H94.x⟩
    · refine skip <| kn61 _ _ <| seqK fun Q106 kn107 kr108 ke109 => ?_
      refine sr fun Q110 k111 => qt (x_eql rfl rfl) <| qt asg <| nl <| k111 _ _ <| cnd (p := z.1.kind = 2) rfl (fun h112 => ?_) (fun h112 => ?_)
      · refine exit <| ke109 _ _ _ <| ke59 _ _ _ <| kx54 _ _ _ rfl <| ke50 _ _ _ <| kb46 _ _ <| kn39 _ _ <| region <| qt asg <| nl <| kn34 _ _ <| kn30 _ _ <| seqK fun Q113 kn114 kr115 ke116 => ?_
        refine sr fun Q117 k118 => qt (x_field (o := 0) T.fa37_1 rfl) <| qt (x_loadA [.string z.1.pred, .slice z.2.1 z.1.args.length z.2.2] T.ag32 rfl (H15.lds 0 rfl 1 [.string z.1.pred, .slice z.2.1 z.1.args.length z.2.2] rfl)) <| ?_
        refine cl T.cf72 (Atom72 z.1.pred z.2.1 z.2.2 z.1.args _ (hs.ext H15.x) hb.1 hb.2.1 (fun i hi => Nat.le_trans (hb.2.2.1 i hi) (by decide))) rfl fun _ w123 ⟨t119, k120, er, ha121, X122⟩ => ⟨_, er, ?_⟩
        have H124 := H15.ext X122
        refine qt mv <| qt (x_extract rfl rfl) <| qt (x_extract rfl rfl) <| qt asg <| qt asg <| nl <| k118 _ _ <| seqK fun Q125 kn126 kr127 ke128 => ?_
        refine sr fun Q129 k130 => qt mv <| qt (x_neqN (b := 0) rfl rfl) <| st_if (p := k120 ≠ 0) (x_move rfl) (fun h131 => ?_) (fun h131 => ?_)
        · refine st_gn 2 59 rfl rfl (by decide) rfl <| qt (pkT rfl) <| nl <| k130 _ _ <| cndT rfl <| ?_
          refine sr fun Q132 k133 => qt asg <| qt asg <| nl <| k133 _ _ <| ret <| kr127 _ _ <| kr115 _ _ <| kr26 _ _ <| kr20 _ _ <| leave2 (P := Tryz.prog) (fn := Tryz.f33) (t := 2) (u := 3) (v := .string (ByteArray.mk #[])) (v' := .int .i64 ((2 : Nat) : Int)) rfl rfl rfl ?_
          exact ⟨_, 2, rfl, .inr ⟨rfl, fun hg => by first | exact absurd ⟨(LitG_at hg h66).2.1, (LitG_at hg h66).2.2.1⟩ (htb.1 (by assumption)) | exact (ha121.resolve_left (fun h => by have := h.1; omega)).2 (LitG_at hg h66).1⟩, H124.x⟩
        · refine st_gq 2 59 rfl rfl (by decide) <| qt (mvB rfl) <| qt (pkF rfl) <| nl <| k130 _ _ <| cnd (p := tb = true) rfl (fun h134 => ?_) (fun h134 => ?_)
          · refine sr fun Q135 k136 => qt asg <| qt asg <| nl <| k136 _ _ <| ret <| kr127 _ _ <| kr115 _ _ <| kr26 _ _ <| kr20 _ _ <| leave2 (P := Tryz.prog) (fn := Tryz.f33) (t := 2) (u := 3) (v := .string (ByteArray.mk #[])) (v' := .int .i64 ((2 : Nat) : Int)) rfl rfl rfl ?_
            exact ⟨_, 2, rfl, .inr ⟨rfl, fun hg => by first | exact absurd ⟨(LitG_at hg h66).2.1, (LitG_at hg h66).2.2.1⟩ (htb.1 (by assumption)) | exact (ha121.resolve_left (fun h => by have := h.1; omega)).2 (LitG_at hg h66).1⟩, H124.x⟩
          · refine skip <| kn126 _ _ <| ?_
            refine sr fun Q137 k138 => qt mv <| qt mv <| ?_
            have hts : t119.size ≤ 100000 := atom_sz (ha121.resolve_right (fun h => by have := h.1; omega))
            refine qt (x_addS rfl rfl (by have e1 : (ByteArray.mk #[110, 111, 116, 32]).size = 4 := rfl; have e2 : (ByteArray.mk #[]).size = 0 := rfl; omega)) <| qt asg <| qt asg <| nl <| k138 _ _ <| ret <| kr115 _ _ <| kr26 _ _ <| kr20 _ _ <| leave2 (P := Tryz.prog) (fn := Tryz.f33) (t := 2) (u := 3) (v := .string ((ByteArray.mk #[110, 111, 116, 32]) ++ t119)) (v' := .int .i64 ((0 : Nat) : Int)) rfl rfl rfl ?_
            have hr := ha121.resolve_right (fun h => by have := h.1; omega)
            have ht0 := Decidable.of_not_not (fun h => absurd (htb.2 h) (by assumption))
            exact ⟨_, 0, rfl, .inl ⟨rfl, lit12b h112 ht0 hr⟩, H124.x⟩
      · refine skip <| kn107 _ _ <| ?_
        refine sr fun Q139 k140 => qt (x_eql rfl rfl) <| qt asg <| nl <| k140 _ _ <| cnd (p := z.1.kind = 1) rfl (fun h141 => ?_) (fun h141 => ?_)
        · refine exit <| ke59 _ _ _ <| kx54 _ _ _ rfl <| ke50 _ _ _ <| kx45 _ _ _ rfl <| ke41 _ _ _ <| kb37 _ _ <| kn30 _ _ <| seqK fun Q142 kn143 kr144 ke145 => ?_
          refine sr fun Q146 k147 => qt (x_field (o := 0) T.fa37_1 rfl) <| qt (x_loadA [.string z.1.pred, .slice z.2.1 z.1.args.length z.2.2] T.ag32 rfl (H15.lds 0 rfl 1 [.string z.1.pred, .slice z.2.1 z.1.args.length z.2.2] rfl)) <| ?_
          refine cl T.cf72 (Atom72 z.1.pred z.2.1 z.2.2 z.1.args _ (hs.ext H15.x) hb.1 hb.2.1 (fun i hi => Nat.le_trans (hb.2.2.1 i hi) (by decide))) rfl fun _ w152 ⟨t148, k149, er, ha150, X151⟩ => ⟨_, er, ?_⟩
          have H153 := H15.ext X151
          refine qt mv <| qt (x_extract rfl rfl) <| qt (x_extract rfl rfl) <| qt asg <| qt asg <| nl <| k147 _ _ <| seqK fun Q154 kn155 kr156 ke157 => ?_
          refine sr fun Q158 k159 => qt mv <| qt (x_neqN (b := 0) rfl rfl) <| st_if (p := k149 ≠ 0) (x_move rfl) (fun h160 => ?_) (fun h160 => ?_)
          · refine st_gn 2 59 rfl rfl (by decide) rfl <| qt (pkT rfl) <| nl <| k159 _ _ <| cndT rfl <| ?_
            refine sr fun Q161 k162 => qt asg <| qt asg <| nl <| k162 _ _ <| ret <| kr156 _ _ <| kr144 _ _ <| kr26 _ _ <| kr20 _ _ <| leave2 (P := Tryz.prog) (fn := Tryz.f33) (t := 2) (u := 3) (v := .string (ByteArray.mk #[])) (v' := .int .i64 ((2 : Nat) : Int)) rfl rfl rfl ?_
            exact ⟨_, 2, rfl, .inr ⟨rfl, fun hg => by first | exact absurd ⟨(LitG_at hg h66).2.1, (LitG_at hg h66).2.2.1⟩ (htb.1 (by assumption)) | exact (ha150.resolve_left (fun h => by have := h.1; omega)).2 (LitG_at hg h66).1⟩, H153.x⟩
          · refine st_gq 2 59 rfl rfl (by decide) <| qt (mvB rfl) <| qt (pkF rfl) <| nl <| k159 _ _ <| cnd (p := tb = true) rfl (fun h163 => ?_) (fun h163 => ?_)
            · refine sr fun Q164 k165 => qt asg <| qt asg <| nl <| k165 _ _ <| ret <| kr156 _ _ <| kr144 _ _ <| kr26 _ _ <| kr20 _ _ <| leave2 (P := Tryz.prog) (fn := Tryz.f33) (t := 2) (u := 3) (v := .string (ByteArray.mk #[])) (v' := .int .i64 ((2 : Nat) : Int)) rfl rfl rfl ?_
              exact ⟨_, 2, rfl, .inr ⟨rfl, fun hg => by first | exact absurd ⟨(LitG_at hg h66).2.1, (LitG_at hg h66).2.2.1⟩ (htb.1 (by assumption)) | exact (ha150.resolve_left (fun h => by have := h.1; omega)).2 (LitG_at hg h66).1⟩, H153.x⟩
            · refine skip <| kn155 _ _ <| ?_
              refine sr fun Q166 k167 => qt mv <| qt mv <| ?_
              have hts : t148.size ≤ 100000 := atom_sz (ha150.resolve_right (fun h => by have := h.1; omega))
              refine qt (x_addS rfl rfl (by have e1 : (ByteArray.mk #[110, 111, 116, 32]).size = 4 := rfl; have e2 : (ByteArray.mk #[]).size = 0 := rfl; omega)) <| qt asg <| qt asg <| nl <| k167 _ _ <| ret <| kr144 _ _ <| kr26 _ _ <| kr20 _ _ <| leave2 (P := Tryz.prog) (fn := Tryz.f33) (t := 2) (u := 3) (v := .string ((ByteArray.mk #[]) ++ t148)) (v' := .int .i64 ((0 : Nat) : Int)) rfl rfl rfl ?_
              have hr := ha150.resolve_right (fun h => by have := h.1; omega)
              have ht0 := Decidable.of_not_not (fun h => absurd (htb.2 h) (by assumption))
              exact ⟨_, 0, rfl, .inl ⟨rfl, lit12a h141 ht0 hr⟩, H153.x⟩
        · refine skip <| kn57 _ _ <| exit <| kx54 _ _ _ rfl <| ke50 _ _ _ <| kx45 _ _ _ rfl <| ke41 _ _ _ <| kx36 _ _ _ rfl <| ke32 _ _ _ <| kb28 _ _ <| kn19 _ _ <| ?_
          refine sr fun Q168 k169 => qt asg <| qt asg <| nl <| k169 _ _ <| ret <| leave2 (P := Tryz.prog) (fn := Tryz.f33) (t := 2) (u := 3) (v := .string (ByteArray.mk #[])) (v' := .int .i64 ((2 : Nat) : Int)) rfl rfl rfl ?_
          exact ⟨_, 2, rfl, .inr ⟨rfl, fun hg => by have := (LitG_at hg h66).2.2.2; omega⟩, H15.x⟩
theorem Text12 (a : Option Addr) (m c : Nat) (rows : List Rw) (w0 : World) (hs : Lits w0.heap a m c rows) (hm : m ≤ 1048576) (hb : ∀ i, i < m → RowB (el rows i).1) :
    Calls Tryz.prog 12 #[.slice a m c] w0 fun e w' => (∃ t : ByteArray, e = .returned (.tuple #[.string t, .int .i64 ((0 : Nat) : Int)]) ∧ QG (rows.map (·.1)) ∧ bl t = textL (rows.map (·.1)) ++ [63] ∧ Ext w0 w') ∨ (e = .returned (.tuple #[.string (ByteArray.mk #[]), .int .i64 ((2 : Nat) : Int)]) ∧ ¬ QG (rows.map (·.1)) ∧ Ext w0 w') := by
  have hlen := hs.1.len
  refine enter Tryz.func12 rfl 38 Tryz.ntmps12 rfl <| ?_
  refine sr fun Q1 k2 => qt asg <| qt asg <| nl <| k2 _ _ <| ?_
  refine sr fun Q3 k4 => qt asg <| nl <| k4 _ _ <| ?_
  refine seqLK (n := 38) (ds := []) (α := Nat × (Option Addr) × Nat × (List ByteArray)) (fun x => [(0, .slice a m c), (4, .slice x.2.1 x.1 x.2.2.1)]) (fun x w5 => Hp No w0 w5 [cQ 9 eS x.2.1 x.1 x.2.2.1 x.2.2.2] ∧ x.1 = m ∧ OutL rows x.1 x.2.2.2) ?_ ?_
  · intro Q6 kn7 kr8 ke9
    refine sr fun Q10 k11 => qt mv <| qt (x_lenSl rfl Tryz.underlying23 rfl) <| qt mv <| nl <| k11 _ _ <| blockK fun Q12 kn13 kr14 kx15 kb16 => ?_
    refine loopK (α := Nat × (Option Addr) × Nat × (List ByteArray)) (fun x => [(0, .slice a m c), (4, .slice x.2.1 x.1 x.2.2.1), (9, .slice a m c), (10, .int .i64 ((m : Nat) : Int)), (11, .int .i64 ((x.1 : Nat) : Int))]) (fun x w17 => Hp No w0 w17 [cQ 9 eS x.2.1 x.1 x.2.2.1 x.2.2.2] ∧ x.1 ≤ m ∧ OutL rows x.1 x.2.2.2) (fun x => m - x.1) (0, none, 0, []) ⟨rfl, rfl, rfl, rfl, rfl, trivial⟩ ?_ ?_
    · refine ⟨((Hp.start No w0).nilQ 9 eS), ?_⟩
      try dsimp only
      exact ⟨Nat.zero_le _, OutL.nil rows⟩
    · rintro τ18 ⟨i, a2, c2, os⟩ w19 ⟨hx20, ⟨hi, ho⟩⟩
      try dsimp only at hi ho
      have hz21 := hx20.le
      intro Q22 kn23 kr24 ke25
      dsimp only at hx20 ⊢
      refine sr fun Q26 k27 => qt (x_lssN rfl rfl) <| nl <| k27 _ _ <| seqK fun Q28 kn29 kr30 ke31 => cnd (p := i < m) rfl (fun h32 => ?_) (fun h32 => ?_)
      · refine skip <| kn29 _ _ <| seqK fun Q33 kn34 kr35 ke36 => blockK fun Q37 kn38 kr39 kx40 kb41 => ?_
        refine sr fun Q42 k43 => qt (x_index' T.sl23 rfl ((hs.1.ext hx20.x).addr (by omega)) rfl (by omega)) <| qt (x_loadA [.int .i64 ((el rows i).1.kind), .string ((el rows i).1.pred), .slice ((el rows i).2.1) ((el rows i).1.args.length) ((el rows i).2.2), .bool (decide ((el rows i).1.left.1 = true)), .string ((el rows i).1.left.2), .bool (decide ((el rows i).1.right.1 = true)), .string ((el rows i).1.right.2)] T.ag37 rfl ((hs.1.ext hx20.x).cell (i := i) (by omega))) <| ?_
        refine st_e <| Eal hx20 T.zv37 fun b44 w45 H46 x47 => ?_
        refine st_s <| Est (v := .agg #[.int .i64 ((el rows i).1.kind), .string ((el rows i).1.pred), .slice ((el rows i).2.1) ((el rows i).1.args.length) ((el rows i).2.2), .bool (decide ((el rows i).1.left.1 = true)), .string ((el rows i).1.left.2), .bool (decide ((el rows i).1.right.1 = true)), .string ((el rows i).1.right.2)]) H46 0 T.sz37 rfl rfl rfl rfl rfl rfl fun w48 H49 => nl <| k43 _ _ <| ?_
        refine sr fun Q50 k51 => qt (x_loadA [.int .i64 ((el rows i).1.kind), .string ((el rows i).1.pred), .slice ((el rows i).2.1) ((el rows i).1.args.length) ((el rows i).2.2), .bool (decide ((el rows i).1.left.1 = true)), .string ((el rows i).1.left.2), .bool (decide ((el rows i).1.right.1 = true)), .string ((el rows i).1.right.2)] T.ag37 rfl (H49.lds 0 rfl 0 [.int .i64 ((el rows i).1.kind), .string ((el rows i).1.pred), .slice ((el rows i).2.1) ((el rows i).1.args.length) ((el rows i).2.2), .bool (decide ((el rows i).1.left.1 = true)), .string ((el rows i).1.left.2), .bool (decide ((el rows i).1.right.1 = true)), .string ((el rows i).1.right.2)] rfl)) <| ?_
        refine cl T.cf33 (Literal33 (el rows i) _ ((hs.2 i (by omega)).ext H49.x) (hb i (by omega))) rfl fun _ w56 ⟨t52, k53, er, hl54, X55⟩ => ⟨_, er, ?_⟩
        have H57 := H49.ext X55
        refine qt mv <| qt (x_extract rfl rfl) <| qt (x_extract rfl rfl) <| qt asg <| qt asg <| nl <| k51 _ _ <| seqK fun Q58 kn59 kr60 ke61 => ?_
        refine sr fun Q62 k63 => qt mv <| qt (x_neqN (b := 0) rfl rfl) <| nl <| k63 _ _ <| cnd (p := k53 ≠ 0) rfl (fun h64 => ?_) (fun h64 => ?_)
        · refine sr fun Q65 k66 => qt asg <| qt asg <| nl <| k66 _ _ <| ret <| kr60 _ _ <| kr39 _ _ <| kr35 _ _ <| kr24 _ _ <| kr14 _ _ <| kr8 _ _ <| leave2 (P := Tryz.prog) (fn := Tryz.f12) (t := 2) (u := 3) (v := .string (ByteArray.mk #[])) (v' := .int .i64 ((2 : Nat) : Int)) rfl rfl rfl ?_
          exact .inr ⟨rfl, fun hg => (hl54.resolve_left (fun h => by have := h.1; omega)).2 (hg.2.2 _ (List.mem_map_of_mem (by rw [el_eq (by omega)]; exact List.getElem_mem _))), H57.x⟩
        · refine skip <| kn59 _ _ <| region <| qt mv <| qt mv <| ?_
          refine st_e <| Ebs (cs := [.string t52]) (e := 9) H57 (fun _ => by kernel_rfl) fun b67 w68 H69 x70 => ?_
          refine st_e <| EapQ H69 2 T.sl50 rfl rfl rfl (H69.lst (E := eS) 0 rfl t52 rfl) (by omega) rfl rfl fun a71 c72 w73 H74 => qt asg <| nl <| kn38 _ _ <| kn34 _ _ <| region <| qt (addN (b := 1) rfl rfl) <| qt mv <| nl <| ?_
          refine kn23 _ ((i + 1), a71, c72, (os ++ [t52])) _ ⟨rfl, rfl, rfl, rfl, rfl, trivial⟩ ⟨(H74.pick [2] (by decide)), ?_⟩ ?_
          · try dsimp only
            have hr := hl54.resolve_right (fun h => by have := h.1; omega)
            exact ⟨by omega, ho.snoc hr.2.1 hr.2.2⟩
          · (try dsimp only); omega
      · refine exit <| ke31 _ _ _ <| ke25 _ _ _ <| kb16 _ _ <| ?_
        refine kn7 _ (i, a2, c2, os) _ ⟨rfl, rfl, trivial⟩ ⟨hx20, ?_⟩
        try dsimp only
        exact ⟨by omega, ho⟩
  · rintro τ75 ⟨i, a2, c2, os⟩ w76 ⟨H77, ⟨him, ho⟩⟩
    try dsimp only at H77 him ho ⊢
    refine seqK fun Q78 kn79 kr80 ke81 => ?_
    refine sr fun Q82 k83 => qt mv <| qt (x_lenSl rfl Tryz.underlying23 rfl) <| qt (x_eqlN (b := 0) rfl rfl) <| st_if (p := m = 0) (x_move rfl) (fun h84 => ?_) (fun h84 => ?_)
    · refine st_gn 3 30 rfl rfl (by decide) rfl <| st_gn 3 30 rfl rfl (by decide) rfl <| st_gn 3 30 rfl rfl (by decide) rfl <| qt (pkT rfl) <| nl <| k83 _ _ <| cndT rfl <| ?_
      refine sr fun Q85 k86 => qt asg <| qt asg <| nl <| k86 _ _ <| ret <| kr80 _ _ <| leave2 (P := Tryz.prog) (fn := Tryz.f12) (t := 2) (u := 3) (v := .string (ByteArray.mk #[])) (v' := .int .i64 ((2 : Nat) : Int)) rfl rfl rfl ?_
      exact .inr ⟨rfl, fun hg => by first | exact hg.1 (by rw [List.eq_nil_of_length_eq_zero (show rows.length = 0 by omega)]; rfl) | (have := hg.2.1; rw [List.length_map] at this; omega), H77.x⟩
    · refine st_gq 3 30 rfl rfl (by decide) <| qt mv <| st_gq 3 30 rfl rfl (by decide) <| qt (x_lenSl rfl Tryz.underlying23 rfl) <| st_gq 3 30 rfl rfl (by decide) <| qt (x_gtrN (b := 256) rfl rfl) <| qt (pkF rfl) <| nl <| k83 _ _ <| cnd (p := 256 < m) rfl (fun h87 => ?_) (fun h87 => ?_)
      · refine sr fun Q88 k89 => qt asg <| qt asg <| nl <| k89 _ _ <| ret <| kr80 _ _ <| leave2 (P := Tryz.prog) (fn := Tryz.f12) (t := 2) (u := 3) (v := .string (ByteArray.mk #[])) (v' := .int .i64 ((2 : Nat) : Int)) rfl rfl rfl ?_
        exact .inr ⟨rfl, fun hg => by first | exact hg.1 (by rw [List.eq_nil_of_length_eq_zero (show rows.length = 0 by omega)]; rfl) | (have := hg.2.1; rw [List.length_map] at this; omega), H77.x⟩
      · refine skip <| kn79 _ _ <| ?_
        refine sr fun Q90 k91 => qt mv <| ?_
        refine cl T.cf34 (join34 os _ _ _ _ _ (H77.srQ 0 rfl) (by omega) (Nat.le_trans (ho.len (by omega)) (by decide))) rfl fun _ w95 ⟨t92, er, hj93, X94⟩ => ⟨_, er, ?_⟩
        have H96 := H77.ext X94
        have hts : t92.size ≤ 100000000 := by rw [← bl_len, hj93]; exact ho.len (by omega)
        refine qt (x_addS rfl rfl (by have e1 : (ByteArray.mk #[63]).size = 1 := rfl; omega)) <| qt asg <| qt asg <| nl <| k91 _ _ <| ret <| leave2 (P := Tryz.prog) (fn := Tryz.f12) (t := 2) (u := 3) (v := .string (t92 ++ (ByteArray.mk #[63]))) (v' := .int .i64 ((0 : Nat) : Int)) rfl rfl rfl ?_
        have hg := ho.good (by omega)
        exact .inl ⟨_, rfl, ⟨fun h => by have := congrArg List.length h; rw [List.length_map] at this; exact absurd this (by have := hs.1.len; simp only [List.length_nil]; omega), by rw [List.length_map]; omega, hg.1⟩, by rw [bl_append, hj93, hg.2, inter_join]; rfl, H96.x⟩
end Go.Proofs.YtljfgmedbjlkaaaGreat
