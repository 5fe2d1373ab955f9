/- A part of the engine: steps over the model. Over any program. -/
import Derived.Test.YtljfgmedbjlkaaaGreatQA
import Derived.Test.YtljfgmedbjlkaaaGreatV3
import Derived.Test.YtljfgmedbjlkaaaGreatQI
import Derived.Test.YtljfgmedbjlkaaaGreatQV
import Derived.Test.YtljfgmedbjlkaaaGreatProg
import Derived.Test.YtljfgmedbjlkaaaGreatQJ
namespace Go.Proofs.YtljfgmedbjlkaaaGreat
open Go.RowKit Go.Eng Go.QP
theorem T.cf195 : CF Tryz.prog 195 := fun _ _ => by kernel_rfl
theorem T.cf196 : CF Tryz.prog 196 := fun _ _ => by kernel_rfl
theorem T.cf163 : CF Tryz.prog 163 := fun _ _ => by kernel_rfl
theorem T.cf129 : CF Tryz.prog 129 := fun _ _ => by kernel_rfl
theorem T.cf101 : CF Tryz.prog 101 := fun _ _ => by kernel_rfl
theorem Term129 (z : Tm) (w0 : World) (hb : z.2.size ≤ 9223372036854775807) :
    Calls Tryz.prog 129 #[.agg (eT.enc z).toArray] w0 fun e w' => ∃ r : Bool, e = .returned (.bool r) ∧ (r = true ↔ TmG z) ∧ Ext w0 w' := by
  refine enter Tryz.func129 rfl 11 Tryz.ntmps129 rfl <| ?_
  refine sr fun Q1 k2 => ?_
  refine st_e <| Ebx (v := .agg #[.bool (decide (z.1 = true)), .string z.2]) (Hp.start No w0) rfl fun b3 w4 H5 x6 => qt asg <| nl <| k2 _ _ <| seqK fun Q7 kn8 kr9 ke10 => ?_
  refine sr fun Q11 k12 => qt (x_field (o := 0) T.fa35_0 rfl) <| qt (x_load1 T.na4 rfl (H5.ld 0 rfl 0 rfl)) <| nl <| k12 _ _ <| cnd (p := z.1 = true) rfl (fun h13 => ?_) (fun h13 => ?_)
  · refine sr fun Q14 k15 => qt (x_field (o := 0) T.fa35_1 rfl) <| qt (x_load1 T.na9 rfl (H5.ld 0 rfl 1 rfl)) <| ?_
    refine cl T.cf195 (varD195 z.2 _ (by omega)) rfl fun _ _ ⟨er, rfl⟩ => ⟨_, er, ?_⟩
    refine qt asg <| nl <| k15 _ _ <| ret <| kr9 _ _ <| leave1 (P := Tryz.prog) (fn := Tryz.f129) (t := 2) (v := .bool (decide (WordD z.2 false))) rfl rfl <| ?_
    exact ⟨_, rfl, by rw [decide_eq_true_iff, ← kind_var]; exact ⟨fun h => .inl ⟨by assumption, h⟩, fun h => h.elim (fun h => h.2) (fun h => absurd (by assumption) h.1)⟩, H5.x⟩
  · refine skip <| kn8 _ _ <| ?_
    refine sr fun Q17 k18 => qt (x_field (o := 0) T.fa35_1 rfl) <| qt (x_load1 T.na9 rfl (H5.ld 0 rfl 1 rfl)) <| ?_
    refine cl T.cf196 (const196 z.2 _ (by omega)) rfl fun _ _ ⟨er, rfl⟩ => ⟨_, er, ?_⟩
    refine qt asg <| nl <| k18 _ _ <| ret <| leave1 (P := Tryz.prog) (fn := Tryz.f129) (t := 2) (v := .bool (decide (z.2.size ≤ 1024))) rfl rfl <| ?_
    exact ⟨_, rfl, by rw [decide_eq_true_iff]; exact ⟨fun h => .inr ⟨by assumption, h⟩, fun h => h.elim (fun h => absurd h.1 (by assumption)) (fun h => h.2)⟩, H5.x⟩
theorem Atom101 (p : ByteArray) (a : Option Addr) (c : Nat) (xs : List Tm) (w0 : World) (hs : Srm eT w0.heap a xs.length c xs) (hp : p.size ≤ 9223372036854775807) (hb : ∀ i, i < xs.length → (el xs i).2.size ≤ 9223372036854775807) :
    Calls Tryz.prog 101 #[.agg #[.string p, .slice a xs.length c]] w0 fun e w' => ∃ r : Bool, e = .returned (.bool r) ∧ (r = true ↔ AtG p xs) ∧ Ext w0 w' := by
  refine enter Tryz.func101 rfl 28 Tryz.ntmps101 rfl <| ?_
  refine sr fun Q1 k2 => ?_
  refine st_e <| Ebx (v := .agg #[.string p, .slice a xs.length c]) (Hp.start No w0) rfl fun b3 w4 H5 x6 => qt asg <| nl <| k2 _ _ <| seqK fun Q7 kn8 kr9 ke10 => ?_
  refine sr fun Q11 k12 => qt (x_field (o := 0) T.fa32_0 rfl) <| qt (x_load1 T.na9 rfl (H5.ld 0 rfl 0 rfl)) <| ?_
  refine cl T.cf163 (nameD163 p _ (by omega)) rfl fun _ _ ⟨er, rfl⟩ => ⟨_, er, ?_⟩
  refine qt (x_notP rfl) <| st_if (p := ¬ (NameD p)) (x_move rfl) (fun h14 => ?_) (fun h14 => ?_)
  · refine st_gn 4 8 rfl rfl (by decide) rfl <| st_gn 4 8 rfl rfl (by decide) rfl <| st_gn 4 8 rfl rfl (by decide) rfl <| st_gn 4 8 rfl rfl (by decide) rfl <| qt (pkT rfl) <| nl <| k12 _ _ <| cndT rfl <| ?_
    refine sr fun Q15 k16 => qt asg <| nl <| k16 _ _ <| ret <| kr9 _ _ <| leave1 (P := Tryz.prog) (fn := Tryz.f101) (t := 2) (v := .bool false) rfl rfl <| ?_
    exact ⟨_, rfl, ⟨fun h => (by cases h), fun h => (by first | exact absurd ((kind_name p).1 h.1) (by assumption) | (have := h.2.1; omega))⟩, H5.x⟩
  · refine st_gq 4 8 rfl rfl (by decide) <| qt (x_field (o := 0) T.fa32_1 rfl) <| st_gq 4 8 rfl rfl (by decide) <| qt (x_load1 T.na30 rfl (H5.ld 0 rfl 1 rfl)) <| st_gq 4 8 rfl rfl (by decide) <| qt (x_lenSl rfl Tryz.underlying30 rfl) <| st_gq 4 8 rfl rfl (by decide) <| qt (x_gtrN (b := 16) rfl rfl) <| qt (pkF rfl) <| nl <| k12 _ _ <| cnd (p := 16 < xs.length) rfl (fun h17 => ?_) (fun h17 => ?_)
    · refine sr fun Q18 k19 => qt asg <| nl <| k19 _ _ <| ret <| kr9 _ _ <| leave1 (P := Tryz.prog) (fn := Tryz.f101) (t := 2) (v := .bool false) rfl rfl <| ?_
      exact ⟨_, rfl, ⟨fun h => (by cases h), fun h => (by first | exact absurd ((kind_name p).1 h.1) (by assumption) | (have := h.2.1; omega))⟩, H5.x⟩
    · refine skip <| kn8 _ _ <| seqK fun Q20 kn21 kr22 ke23 => ?_
      refine sr fun Q24 k25 => qt asg <| nl <| k25 _ _ <| blockK fun Q26 kn27 kr28 kx29 kb30 => ?_
      refine loopK (α := Nat) (fun x => [(1, .pointer (some ⟨b3, 0, none⟩)), (3, .int .i64 ((x : Nat) : Int))]) (fun x w31 => Hp No w0 w31 [cB b3 32 [.string p, .slice a xs.length c]] ∧ x ≤ xs.length ∧ ∀ j, j < x → TmG (el xs j)) (fun x => xs.length - x) (0) ⟨rfl, rfl, trivial⟩ ?_ ?_
      · refine ⟨H5, ?_⟩
        try dsimp only
        exact ⟨Nat.zero_le _, fun j h => absurd h (Nat.not_lt_zero _)⟩
      · rintro τ32 i w33 ⟨hx34, ⟨hi, hg⟩⟩
        try dsimp only at hi hg
        have hz35 := hx34.le
        intro Q36 kn37 kr38 ke39
        refine seqK fun Q40 kn41 kr42 ke43 => ?_
        refine sr fun Q44 k45 => qt mv <| qt (x_field (o := 0) T.fa32_1 rfl) <| qt (x_load1 T.na30 rfl (hx34.ld 0 rfl 1 rfl)) <| qt (x_lenSl rfl Tryz.underlying30 rfl) <| qt (x_lssN rfl rfl) <| nl <| k45 _ _ <| cnd (p := i < xs.length) rfl (fun h46 => ?_) (fun h46 => ?_)
        · refine skip <| kn41 _ _ <| seqK fun Q47 kn48 kr49 ke50 => blockK fun Q51 kn52 kr53 kx54 kb55 => ?_
          refine sr fun Q56 k57 => qt (x_field (o := 0) T.fa32_1 rfl) <| qt (x_load1 T.na30 rfl (hx34.ld 0 rfl 1 rfl)) <| qt mv <| qt (x_index' T.sl30 rfl ((hs.ext hx34.x).addr (by omega)) rfl (by omega)) <| qt (x_loadA [.bool (decide ((el xs i).1 = true)), .string ((el xs i).2)] T.ag35 rfl ((hs.ext hx34.x).cell (i := i) (by omega))) <| ?_
          refine cl T.cf129 (Term129 (el xs i) _ (hb i (by omega))) rfl fun _ w61 ⟨r58, er, hr59, X60⟩ => ⟨_, er, ?_⟩
          have H62 := hx34.ext X60
          refine qt (x_notBB rfl) <| nl <| k57 _ _ <| cnd (p := ¬ (r58 = true)) rfl (fun h63 => ?_) (fun h63 => ?_)
          · refine sr fun Q64 k65 => qt asg <| nl <| k65 _ _ <| ret <| kr53 _ _ <| kr49 _ _ <| kr38 _ _ <| kr28 _ _ <| kr22 _ _ <| leave1 (P := Tryz.prog) (fn := Tryz.f101) (t := 2) (v := .bool false) rfl rfl <| ?_
            exact ⟨_, rfl, ⟨fun h => (by cases h), fun h => absurd (hr59.2 (h.2.2 _ (by rw [el_eq (by omega)]; exact List.getElem_mem _))) (by assumption)⟩, H62.x⟩
          · refine skip <| kn52 _ _ <| kn48 _ _ <| region <| qt mv <| qt (addN (b := 1) rfl rfl) <| qt asg <| nl <| kn37 _ ((i + 1)) _ ⟨rfl, rfl, trivial⟩ ⟨H62, ?_⟩ ?_
            · try dsimp only
              exact ⟨by omega, fun j hj => (Nat.lt_or_ge j i).elim (hg j) (fun h => (show j = i by omega) ▸ hr59.1 (Decidable.of_not_not (by assumption)))⟩
            · (try dsimp only); omega
        · refine exit <| ke43 _ _ _ <| ke39 _ _ _ <| kb30 _ _ <| kn21 _ _ <| ?_
          refine sr fun Q66 k67 => qt asg <| nl <| k67 _ _ <| ret <| leave1 (P := Tryz.prog) (fn := Tryz.f101) (t := 2) (v := .bool true) rfl rfl <| ?_
          exact ⟨_, rfl, ⟨fun _ => ⟨(kind_name p).2 (Decidable.of_not_not (by assumption)), by omega, fun y hy => (by obtain ⟨j, hj, rfl⟩ := List.getElem_of_mem hy; rw [← el_eq hj]; exact hg j (by omega))⟩, fun _ => rfl⟩, hx34.x⟩
theorem Literal74 (z : Rw) (w0 : World) (hs : RowM w0.heap z) (hb : RowB z.1) :
    Calls Tryz.prog 74 #[.agg (eL.enc z).toArray] w0 fun e w' => ∃ r : Bool, e = .returned (.bool r) ∧ (r = true ↔ LitG z.1) ∧ Ext w0 w' := by
  refine enter Tryz.func74 rfl 48 Tryz.ntmps74 rfl <| ?_
  refine sr fun Q1 k2 => ?_
  refine st_e <| Ebx (v := .agg #[.int .i64 z.1.kind, .string z.1.pred, .slice z.2.1 z.1.args.length z.2.2, .bool (decide (z.1.left.1 = true)), .string z.1.left.2, .bool (decide (z.1.right.1 = true)), .string z.1.right.2]) (Hp.start No w0) rfl fun b3 w4 H5 x6 => qt asg <| nl <| k2 _ _ <| ?_
  refine sr fun Q7 k8 => qt (v := .agg #[.bool false, .string ByteArray.empty]) (x_build (fun _ => by kernel_rfl)) <| ?_
  refine st_e <| Eal H5 T.zv35 fun b9 w10 H11 x12 => ?_
  refine st_s <| Est (v := .agg #[.bool false, .string ByteArray.empty]) H11 0 T.sz35 rfl rfl rfl rfl rfl rfl fun w13 H14 => nl <| k8 _ _ <| seqK fun Q15 kn16 kr17 ke18 => ?_
  refine sr fun Q19 k20 => qt (x_field (o := 0) T.fa37_0 rfl) <| qt (x_load1 T.na33 rfl (H14.ld 1 rfl 0 rfl)) <| nl <| k20 _ _ <| blockK fun Q21 kn22 kr23 kx24 kb25 => seqK fun Q26 kn27 kr28 ke29 => ?_
  refine sr fun Q30 k31 => qt (x_eql rfl rfl) <| qt asg <| nl <| k31 _ _ <| cnd (p := z.1.kind = 1) rfl (fun h32 => ?_) (fun h32 => ?_)
  · refine skip <| kn27 _ _ <| cndY (p := z.1.kind = 1) rfl (not_not_intro h32) <| ?_
    refine sr fun Q33 k34 => qt (x_field (o := 0) T.fa37_1 rfl) <| qt (x_loadA [.string z.1.pred, .slice z.2.1 z.1.args.length z.2.2] T.ag32 rfl (H14.lds 1 rfl 1 [.string z.1.pred, .slice z.2.1 z.1.args.length z.2.2] rfl)) <| ?_
    refine cl T.cf101 (Atom101 z.1.pred z.2.1 z.2.2 z.1.args _ (hs.ext H14.x) (Nat.le_trans hb.1 (by decide)) (fun i hi => Nat.le_trans (hb.2.2.1 i hi) (by decide))) rfl fun _ w38 ⟨r35, er, hr36, X37⟩ => ⟨_, er, ?_⟩
    have H39 := H14.ext X37
    refine st_if (p := r35 = true) (mvB rfl) (fun h40 => ?_) (fun h40 => ?_)
    · refine st_gq 3 13 rfl rfl (by decide) <| qt (x_field (o := 0) T.fa37_2 rfl) <| st_gq 3 13 rfl rfl (by decide) <| qt (x_loadA [.bool (decide (z.1.left.1 = true)), .string z.1.left.2] T.ag35 rfl (H39.lds 1 rfl 3 [.bool (decide (z.1.left.1 = true)), .string z.1.left.2] rfl)) <| st_gq 3 13 rfl rfl (by decide) <| qt (x_loadA [.bool false, .string ByteArray.empty] T.ag35 rfl (H39.lds 0 rfl 0 [.bool false, .string ByteArray.empty] rfl)) <| st_gq 3 13 rfl rfl (by decide) <| qt (x_eqlT' T.eqT35 rfl rfl) <| qt (pkT rfl) <| st_if (p := (decide (z.1.left.1 = true), z.1.left.2) = (false, ByteArray.empty)) (x_move rfl) (fun h41 => ?_) (fun h41 => ?_)
      · refine st_gq 9 19 rfl rfl (by decide) <| qt (x_field (o := 0) T.fa37_3 rfl) <| st_gq 9 19 rfl rfl (by decide) <| qt (x_loadA [.bool (decide (z.1.right.1 = true)), .string z.1.right.2] T.ag35 rfl (H39.lds 1 rfl 5 [.bool (decide (z.1.right.1 = true)), .string z.1.right.2] rfl)) <| st_gq 9 19 rfl rfl (by decide) <| qt (x_loadA [.bool false, .string ByteArray.empty] T.ag35 rfl (H39.lds 0 rfl 0 [.bool false, .string ByteArray.empty] rfl)) <| st_gq 9 19 rfl rfl (by decide) <| qt (x_eqlT' T.eqT35 rfl rfl) <| qt (pkT rfl) <| qt asg <| nl <| k34 _ _ <| ret <| kr23 _ _ <| kr17 _ _ <| leave1 (P := Tryz.prog) (fn := Tryz.f74) (t := 2) (v := .bool (decide ((decide (z.1.right.1 = true), z.1.right.2) = (false, ByteArray.empty)))) rfl rfl <| ?_
        exact ⟨_, rfl, (by rw [decide_eq_true_iff, pair0]; exact ⟨fun h => LitG_of (hr36.1 (by assumption)) (pair0.1 (by assumption)) h (by omega), fun h => (LitG_at h (show ¬ z.1.kind = 3 by omega)).2.2.1⟩), H39.x⟩
      · refine st_gn 9 19 rfl rfl (by decide) rfl <| st_gn 9 19 rfl rfl (by decide) rfl <| st_gn 9 19 rfl rfl (by decide) rfl <| st_gn 9 19 rfl rfl (by decide) rfl <| qt (pkF rfl) <| qt asg <| nl <| k34 _ _ <| ret <| kr23 _ _ <| kr17 _ _ <| leave1 (P := Tryz.prog) (fn := Tryz.f74) (t := 2) (v := .bool false) rfl rfl <| ?_
        exact ⟨_, rfl, ⟨fun h => (by cases h), fun h => (by first | exact absurd (hr36.2 (LitG_at h (show ¬ z.1.kind = 3 by omega)).1) (by assumption) | exact absurd (pair0.2 (LitG_at h (show ¬ z.1.kind = 3 by omega)).2.1) (by assumption))⟩, H39.x⟩
    · refine st_gn 3 13 rfl rfl (by decide) rfl <| st_gn 3 13 rfl rfl (by decide) rfl <| st_gn 3 13 rfl rfl (by decide) rfl <| st_gn 3 13 rfl rfl (by decide) rfl <| qt (pkF rfl) <| qt mv <| st_gn 9 19 rfl rfl (by decide) rfl <| st_gn 9 19 rfl rfl (by decide) rfl <| st_gn 9 19 rfl rfl (by decide) rfl <| st_gn 9 19 rfl rfl (by decide) rfl <| qt (pkF rfl) <| qt asg <| nl <| k34 _ _ <| ret <| kr23 _ _ <| kr17 _ _ <| leave1 (P := Tryz.prog) (fn := Tryz.f74) (t := 2) (v := .bool false) rfl rfl <| ?_
      exact ⟨_, rfl, ⟨fun h => (by cases h), fun h => (by first | exact absurd (hr36.2 (LitG_at h (show ¬ z.1.kind = 3 by omega)).1) (by assumption) | exact absurd (pair0.2 (LitG_at h (show ¬ z.1.kind = 3 by omega)).2.1) (by assumption))⟩, H39.x⟩
  · refine region <| qt (x_eql rfl rfl) <| qt asg <| nl <| kn27 _ _ <| cnd (p := z.1.kind = 2) rfl (fun h42 => ?_) (fun h42 => ?_)
    · refine sr fun Q43 k44 => qt (x_field (o := 0) T.fa37_1 rfl) <| qt (x_loadA [.string z.1.pred, .slice z.2.1 z.1.args.length z.2.2] T.ag32 rfl (H14.lds 1 rfl 1 [.string z.1.pred, .slice z.2.1 z.1.args.length z.2.2] rfl)) <| ?_
      refine cl T.cf101 (Atom101 z.1.pred z.2.1 z.2.2 z.1.args _ (hs.ext H14.x) (Nat.le_trans hb.1 (by decide)) (fun i hi => Nat.le_trans (hb.2.2.1 i hi) (by decide))) rfl fun _ w48 ⟨r45, er, hr46, X47⟩ => ⟨_, er, ?_⟩
      have H49 := H14.ext X47
      refine st_if (p := r45 = true) (mvB rfl) (fun h50 => ?_) (fun h50 => ?_)
      · refine st_gq 3 13 rfl rfl (by decide) <| qt (x_field (o := 0) T.fa37_2 rfl) <| st_gq 3 13 rfl rfl (by decide) <| qt (x_loadA [.bool (decide (z.1.left.1 = true)), .string z.1.left.2] T.ag35 rfl (H49.lds 1 rfl 3 [.bool (decide (z.1.left.1 = true)), .string z.1.left.2] rfl)) <| st_gq 3 13 rfl rfl (by decide) <| qt (x_loadA [.bool false, .string ByteArray.empty] T.ag35 rfl (H49.lds 0 rfl 0 [.bool false, .string ByteArray.empty] rfl)) <| st_gq 3 13 rfl rfl (by decide) <| qt (x_eqlT' T.eqT35 rfl rfl) <| qt (pkT rfl) <| st_if (p := (decide (z.1.left.1 = true), z.1.left.2) = (false, ByteArray.empty)) (x_move rfl) (fun h51 => ?_) (fun h51 => ?_)
        · refine st_gq 9 19 rfl rfl (by decide) <| qt (x_field (o := 0) T.fa37_3 rfl) <| st_gq 9 19 rfl rfl (by decide) <| qt (x_loadA [.bool (decide (z.1.right.1 = true)), .string z.1.right.2] T.ag35 rfl (H49.lds 1 rfl 5 [.bool (decide (z.1.right.1 = true)), .string z.1.right.2] rfl)) <| st_gq 9 19 rfl rfl (by decide) <| qt (x_loadA [.bool false, .string ByteArray.empty] T.ag35 rfl (H49.lds 0 rfl 0 [.bool false, .string ByteArray.empty] rfl)) <| st_gq 9 19 rfl rfl (by decide) <| qt (x_eqlT' T.eqT35 rfl rfl) <| qt (pkT rfl) <| qt asg <| nl <| k44 _ _ <| ret <| kr23 _ _ <| kr17 _ _ <| leave1 (P := Tryz.prog) (fn := Tryz.f74) (t := 2) (v := .bool (decide ((decide (z.1.right.1 = true), z.1.right.2) = (false, ByteArray.empty)))) rfl rfl <| ?_
          exact ⟨_, rfl, (by rw [decide_eq_true_iff, pair0]; exact ⟨fun h => LitG_of (hr46.1 (by assumption)) (pair0.1 (by assumption)) h (by omega), fun h => (LitG_at h (show ¬ z.1.kind = 3 by omega)).2.2.1⟩), H49.x⟩
        · refine st_gn 9 19 rfl rfl (by decide) rfl <| st_gn 9 19 rfl rfl (by decide) rfl <| st_gn 9 19 rfl rfl (by decide) rfl <| st_gn 9 19 rfl rfl (by decide) rfl <| qt (pkF rfl) <| qt asg <| nl <| k44 _ _ <| ret <| kr23 _ _ <| kr17 _ _ <| leave1 (P := Tryz.prog) (fn := Tryz.f74) (t := 2) (v := .bool false) rfl rfl <| ?_
          exact ⟨_, rfl, ⟨fun h => (by cases h), fun h => (by first | exact absurd (hr46.2 (LitG_at h (show ¬ z.1.kind = 3 by omega)).1) (by assumption) | exact absurd (pair0.2 (LitG_at h (show ¬ z.1.kind = 3 by omega)).2.1) (by assumption))⟩, H49.x⟩
      · refine st_gn 3 13 rfl rfl (by decide) rfl <| st_gn 3 13 rfl rfl (by decide) rfl <| st_gn 3 13 rfl rfl (by decide) rfl <| st_gn 3 13 rfl rfl (by decide) rfl <| qt (pkF rfl) <| qt mv <| st_gn 9 19 rfl rfl (by decide) rfl <| st_gn 9 19 rfl rfl (by decide) rfl <| st_gn 9 19 rfl rfl (by decide) rfl <| st_gn 9 19 rfl rfl (by decide) rfl <| qt (pkF rfl) <| qt asg <| nl <| k44 _ _ <| ret <| kr23 _ _ <| kr17 _ _ <| leave1 (P := Tryz.prog) (fn := Tryz.f74) (t := 2) (v := .bool false) rfl rfl <| ?_
        exact ⟨_, rfl, ⟨fun h => (by cases h), fun h => (by first | exact absurd (hr46.2 (LitG_at h (show ¬ z.1.kind = 3 by omega)).1) (by assumption) | exact absurd (pair0.2 (LitG_at h (show ¬ z.1.kind = 3 by omega)).2.1) (by assumption))⟩, H49.x⟩
    · refine sr fun Q52 k53 => qt (x_eql rfl rfl) <| qt asg <| nl <| k53 _ _ <| cnd (p := z.1.kind = 3) rfl (fun h54 => ?_) (fun h54 => ?_)
      · refine sr fun Q55 k56 => qt (x_field (o := 0) T.fa37_2 rfl) <| qt (x_loadA [.bool (decide (z.1.left.1 = true)), .string z.1.left.2] T.ag35 rfl (H14.lds 1 rfl 3 [.bool (decide (z.1.left.1 = true)), .string z.1.left.2] rfl)) <| ?_
        refine cl T.cf129 (Term129 z.1.left _ (Nat.le_trans hb.2.2.2.1 (by decide))) rfl fun _ w60 ⟨r57, er, hr58, X59⟩ => ⟨_, er, ?_⟩
        have H61 := H14.ext X59
        refine st_if (p := r57 = true) (mvB rfl) (fun h62 => ?_) (fun h62 => ?_)
        · refine st_gq 3 30 rfl rfl (by decide) <| qt (x_field (o := 0) T.fa37_3 rfl) <| st_gq 3 30 rfl rfl (by decide) <| qt (x_loadA [.bool (decide (z.1.right.1 = true)), .string z.1.right.2] T.ag35 rfl (H61.lds 1 rfl 5 [.bool (decide (z.1.right.1 = true)), .string z.1.right.2] rfl)) <| st_gq 3 30 rfl rfl (by decide) <| ?_
          refine cl T.cf129 (Term129 z.1.right _ (Nat.le_trans hb.2.2.2.2 (by decide))) rfl fun _ w66 ⟨r63, er, hr64, X65⟩ => ⟨_, er, ?_⟩
          have H67 := H61.ext X65
          refine qt (pkT rfl) <| st_if (p := r63 = true) (mvB rfl) (fun h68 => ?_) (fun h68 => ?_)
          · refine st_gq 8 35 rfl rfl (by decide) <| qt (x_field (o := 0) T.fa37_1 rfl) <| st_gq 8 35 rfl rfl (by decide) <| qt (x_field (o := 1) T.fa32_0 rfl) <| st_gq 8 35 rfl rfl (by decide) <| qt (x_load1 T.na9 rfl (H67.ld 1 rfl 1 rfl)) <| st_gq 8 35 rfl rfl (by decide) <| qt (x_eqlS rfl rfl) <| qt (pkT rfl) <| st_if (p := z.1.pred.toList = (ByteArray.mk #[]).toList) (x_move rfl) (fun h69 => ?_) (fun h69 => ?_)
            · refine st_gq 14 41 rfl rfl (by decide) <| qt (x_field (o := 0) T.fa37_1 rfl) <| st_gq 14 41 rfl rfl (by decide) <| qt (x_field (o := 1) T.fa32_1 rfl) <| st_gq 14 41 rfl rfl (by decide) <| qt (x_load1 T.na30 rfl (H67.ld 1 rfl 2 rfl)) <| st_gq 14 41 rfl rfl (by decide) <| qt (x_lenSl rfl Tryz.underlying30 rfl) <| st_gq 14 41 rfl rfl (by decide) <| qt (x_eqlN (b := 0) rfl rfl) <| qt (pkT rfl) <| qt asg <| nl <| k56 _ _ <| ret <| kr23 _ _ <| kr17 _ _ <| leave1 (P := Tryz.prog) (fn := Tryz.f74) (t := 2) (v := .bool (decide (z.1.args.length = 0))) rfl rfl <| ?_
              exact ⟨_, rfl, (by rw [decide_eq_true_iff]; exact ⟨fun h => .inr ⟨h54, hr58.1 (by assumption), hr64.1 (by assumption), bytes_ext (by assumption), List.eq_nil_of_length_eq_zero h⟩, fun h => (by rw [(LitG_un h h54).2.2.2]; rfl)⟩), H67.x⟩
            · refine st_gn 14 41 rfl rfl (by decide) rfl <| st_gn 14 41 rfl rfl (by decide) rfl <| st_gn 14 41 rfl rfl (by decide) rfl <| st_gn 14 41 rfl rfl (by decide) rfl <| st_gn 14 41 rfl rfl (by decide) rfl <| qt (pkF rfl) <| qt asg <| nl <| k56 _ _ <| ret <| kr23 _ _ <| kr17 _ _ <| leave1 (P := Tryz.prog) (fn := Tryz.f74) (t := 2) (v := .bool false) rfl rfl <| ?_
              exact ⟨_, rfl, ⟨fun h => (by cases h), fun h => (by have hu := LitG_un h h54; first | exact absurd (hr58.2 hu.1) (by assumption) | exact absurd (hr64.2 hu.2.1) (by assumption) | exact absurd (by rw [hu.2.2.1]; rfl : z.1.pred.toList = (ByteArray.mk #[]).toList) (by assumption))⟩, H67.x⟩
          · refine st_gn 8 35 rfl rfl (by decide) rfl <| st_gn 8 35 rfl rfl (by decide) rfl <| st_gn 8 35 rfl rfl (by decide) rfl <| st_gn 8 35 rfl rfl (by decide) rfl <| qt (pkF rfl) <| qt mv <| st_gn 14 41 rfl rfl (by decide) rfl <| st_gn 14 41 rfl rfl (by decide) rfl <| st_gn 14 41 rfl rfl (by decide) rfl <| st_gn 14 41 rfl rfl (by decide) rfl <| st_gn 14 41 rfl rfl (by decide) rfl <| qt (pkF rfl) <| qt asg <| nl <| k56 _ _ <| ret <| kr23 _ _ <| kr17 _ _ <| leave1 (P := Tryz.prog) (fn := Tryz.f74) (t := 2) (v := .bool false) rfl rfl <| ?_
            exact ⟨_, rfl, ⟨fun h => (by cases h), fun h => (by have hu := LitG_un h h54; first | exact absurd (hr58.2 hu.1) (by assumption) | exact absurd (hr64.2 hu.2.1) (by assumption) | exact absurd (by rw [hu.2.2.1]; rfl : z.1.pred.toList = (ByteArray.mk #[]).toList) (by assumption))⟩, H67.x⟩
        · refine st_gn 3 30 rfl rfl (by decide) rfl <| st_gn 3 30 rfl rfl (by decide) rfl <| st_gn 3 30 rfl rfl (by decide) rfl <| qt (pkF rfl) <| qt mv <| st_gn 8 35 rfl rfl (by decide) rfl <| st_gn 8 35 rfl rfl (by decide) rfl <| st_gn 8 35 rfl rfl (by decide) rfl <| st_gn 8 35 rfl rfl (by decide) rfl <| qt (pkF rfl) <| qt mv <| st_gn 14 41 rfl rfl (by decide) rfl <| st_gn 14 41 rfl rfl (by decide) rfl <| st_gn 14 41 rfl rfl (by decide) rfl <| st_gn 14 41 rfl rfl (by decide) rfl <| st_gn 14 41 rfl rfl (by decide) rfl <| qt (pkF rfl) <| qt asg <| nl <| k56 _ _ <| ret <| kr23 _ _ <| kr17 _ _ <| leave1 (P := Tryz.prog) (fn := Tryz.f74) (t := 2) (v := .bool false) rfl rfl <| ?_
          exact ⟨_, rfl, ⟨fun h => (by cases h), fun h => (by have hu := LitG_un h h54; first | exact absurd (hr58.2 hu.1) (by assumption)  | exact absurd (by rw [hu.2.2.1]; rfl : z.1.pred.toList = (ByteArray.mk #[]).toList) (by assumption))⟩, H61.x⟩
      · refine skip <| kn22 _ _ <| kn16 _ _ <| ?_
        refine sr fun Q70 k71 => qt asg <| nl <| k71 _ _ <| ret <| leave1 (P := Tryz.prog) (fn := Tryz.f74) (t := 2) (v := .bool false) rfl rfl <| ?_
        exact ⟨_, rfl, ⟨fun h => (by cases h), fun h => (by rcases h with ⟨h, _⟩ | ⟨h, _⟩ <;> omega)⟩, H14.x⟩
end Go.Proofs.YtljfgmedbjlkaaaGreat
namespace Go.Proofs.YtljfgmedbjlkaaaGreat
open Go.RowKit Go.Eng Go.QP
theorem T.zv60 : ZV Tryz.prog 60 (.agg #[.string ByteArray.empty, .slice none 0 0, .slice none 0 0]) := fun _ => by kernel_rfl
theorem T.sz60 : SZ Tryz.prog 60 3 := fun _ => by kernel_rfl
theorem T.ag60 : AG Tryz.prog 60 3 := fun _ => ⟨by kernel_rfl, by kernel_rfl⟩
theorem T.fa60_0 : FA Tryz.prog 60 0 0 := fun _ _ => by kernel_rfl
theorem T.fa60_1 : FA Tryz.prog 60 1 2 := fun _ _ => by kernel_rfl
theorem T.cf74 : CF Tryz.prog 74 := fun _ _ => by kernel_rfl
theorem T.cf39 : CF Tryz.prog 39 := fun _ _ => by kernel_rfl
theorem T.cf53 : CF Tryz.prog 53 := fun _ _ => by kernel_rfl
theorem T.cf126 : CF Tryz.prog 126 := fun _ _ => by kernel_rfl
theorem T.cf70 : CF Tryz.prog 70 := fun _ _ => by kernel_rfl
theorem T.cf30 : CF Tryz.prog 30 := fun _ _ => by kernel_rfl
theorem atG_q : AtG (ByteArray.mk #[113]) [] := ⟨by decide +kernel, by decide, fun _ h => by cases h⟩
theorem pairE {x y : Tm} : (decide (x.1 = true), x.2) = (decide (y.1 = true), y.2) ↔ x = y := by
  obtain ⟨v, s⟩ := x
  obtain ⟨u, t⟩ := y
  cases v <;> cases u <;> simp
theorem ext_el {α : Type} [Inhabited α] {xs ys : List α} (h : xs.length = ys.length) (hj : ∀ j, j < xs.length → el xs j = el ys j) : xs = ys := by
  refine List.ext_getElem h fun j h1 h2 => ?_
  have := hj j h1
  rwa [el_eq h1, el_eq h2] at this
theorem qg_iff {rows : List Rw} {m : Nat} {r : Bool} (hm : 0 < m) (hl : rows.length = m) (h : r = true ↔ (m ≤ 256 ∧ ∀ x ∈ rows.map (·.1), LitG x)) : r = true ↔ QG (rows.map (·.1)) := by
  rw [h]
  unfold QG
  rw [List.length_map, hl]
  exact ⟨fun ⟨a, b⟩ => ⟨fun e => by have := congrArg List.length e; rw [List.length_map, hl] at this; simp at this; omega, a, b⟩, fun ⟨_, a, b⟩ => ⟨a, b⟩⟩
theorem map_fst_iff {xs ys : List Rw} : xs.map (·.1) = ys.map (·.1) ↔ xs.length = ys.length ∧ ∀ j, j < xs.length → (el xs j).1 = (el ys j).1 := by
  constructor
  · intro h
    have hl : xs.length = ys.length := by have := congrArg List.length h; simpa using this
    refine ⟨hl, fun j hj => ?_⟩
    have := congrArg (fun l => l[j]?) h
    simp only [List.getElem?_map, el_get? hj, el_get? (show j < ys.length by omega), Option.map_some] at this
    injection this
  · rintro ⟨h1, h2⟩
    refine List.ext_getElem (by simp [h1]) fun j h3 h4 => ?_
    simp only [List.length_map] at h3 h4
    have := h2 j h3
    rw [el_eq h3, el_eq h4] at this
    simpa using this
theorem lit_iff {z y : Qlit} : z = y ↔ z.kind = y.kind ∧ (z.pred = y.pred ∧ z.args = y.args) ∧ z.left = y.left ∧ z.right = y.right := by
  obtain ⟨a, b, c, d, e⟩ := z
  obtain ⟨a', b', c', d', e'⟩ := y
  simp [and_assoc]
theorem rule39 (a : Option Addr) (m c : Nat) (w0 : World) :
    Calls Tryz.prog 39 #[.slice a m c] w0 fun e w' => e = .returned (.agg #[.string (ByteArray.mk #[113]), .slice none 0 0, .slice a m c]) ∧ Ext w0 w' := by
  refine enter Tryz.func39 rfl 6 Tryz.ntmps39 rfl <| ?_
  refine sr fun Q1 k2 => ?_
  refine st_e <| Eal (Hp.start No w0) T.zv60 fun b3 w4 H5 x6 => nl <| k2 _ _ <| ?_
  refine sr fun Q7 k8 => qt (v := .agg #[.string (ByteArray.mk #[113]), .slice none 0 0]) (x_build (fun _ => by kernel_rfl)) <| qt mv <| qt (v := .agg #[.string (ByteArray.mk #[113]), .slice none 0 0, .slice a m c]) (x_build (fun _ => by kernel_rfl)) <| ?_
  refine st_s <| Est (v := .agg #[.string (ByteArray.mk #[113]), .slice none 0 0, .slice a m c]) H5 0 T.sz60 rfl rfl rfl rfl rfl rfl fun w9 H10 => nl <| k8 _ _ <| ret <| leaveC (P := Tryz.prog) (fn := Tryz.f39) (t := 2) (T := 60) (b := b3) (o := 0) (cs := [.string (ByteArray.mk #[113]), .slice none 0 0, .slice a m c]) rfl T.ag60 rfl (H10.lds 0 rfl 0 [.string (ByteArray.mk #[113]), .slice none 0 0, .slice a m c] rfl) ?_
  exact ⟨rfl, H10.x⟩
theorem FormedRule53 (a : Option Addr) (m c : Nat) (rows : List Rw) (w0 : World) (hs : Lits w0.heap a m c rows) (hb : ∀ i, i < m → RowB (el rows i).1) :
    Calls Tryz.prog 53 #[.agg #[.string (ByteArray.mk #[113]), .slice none 0 0, .slice a m c]] w0 fun e w' => ∃ r : Bool, e = .returned (.bool r) ∧ (r = true ↔ (m ≤ 256 ∧ ∀ x ∈ rows.map (·.1), LitG x)) ∧ Ext w0 w' := by
  have hlen := hs.1.len
  refine enter Tryz.func53 rfl 28 Tryz.ntmps53 rfl <| ?_
  refine sr fun Q1 k2 => ?_
  refine st_e <| Ebx (v := .agg #[.string (ByteArray.mk #[113]), .slice none 0 0, .slice a m c]) (Hp.start No w0) rfl fun b3 w4 H5 x6 => qt asg <| nl <| k2 _ _ <| seqK fun Q7 kn8 kr9 ke10 => ?_
  refine sr fun Q11 k12 => qt (x_field (o := 0) T.fa60_0 rfl) <| qt (x_loadA [.string (ByteArray.mk #[113]), .slice none 0 0] T.ag32 rfl (H5.lds 0 rfl 0 [.string (ByteArray.mk #[113]), .slice none 0 0] rfl)) <| ?_
  refine cl T.cf101 (Atom101 (ByteArray.mk #[113]) none 0 [] _ (Src.nil _ _) (by decide) (fun i hi => absurd hi (Nat.not_lt_zero i))) rfl fun _ w16 ⟨r13, er, hr14, X15⟩ => ⟨_, er, ?_⟩
  have H17 := H5.ext X15
  refine qt (x_notBB rfl) <| st_if (p := ¬ (r13 = true)) (x_move rfl) (fun h18 => ?_) (fun h18 => ?_)
  · refine st_gn 4 8 rfl rfl (by decide) rfl <| st_gn 4 8 rfl rfl (by decide) rfl <| st_gn 4 8 rfl rfl (by decide) rfl <| st_gn 4 8 rfl rfl (by decide) rfl <| qt (pkT rfl) <| nl <| k12 _ _ <| cndT rfl <| ?_
    refine sr fun Q19 k20 => qt asg <| nl <| k20 _ _ <| ret <| kr9 _ _ <| leave1 (P := Tryz.prog) (fn := Tryz.f53) (t := 2) (v := .bool false) rfl rfl <| ?_
    exact ⟨_, rfl, ⟨fun h => (by cases h), fun h => (by first | exact absurd (hr14.2 atG_q) (by assumption) | (have := h.1; omega))⟩, H17.x⟩
  · refine st_gq 4 8 rfl rfl (by decide) <| qt (x_field (o := 0) T.fa60_1 rfl) <| st_gq 4 8 rfl rfl (by decide) <| qt (x_load1 T.na23 rfl (H17.ld 0 rfl 2 rfl)) <| st_gq 4 8 rfl rfl (by decide) <| qt (x_lenSl rfl Tryz.underlying23 rfl) <| st_gq 4 8 rfl rfl (by decide) <| qt (x_gtrN (b := 256) rfl rfl) <| qt (pkF rfl) <| nl <| k12 _ _ <| cnd (p := 256 < m) rfl (fun h21 => ?_) (fun h21 => ?_)
    · refine sr fun Q22 k23 => qt asg <| nl <| k23 _ _ <| ret <| kr9 _ _ <| leave1 (P := Tryz.prog) (fn := Tryz.f53) (t := 2) (v := .bool false) rfl rfl <| ?_
      exact ⟨_, rfl, ⟨fun h => (by cases h), fun h => (by first | exact absurd (hr14.2 atG_q) (by assumption) | (have := h.1; omega))⟩, H17.x⟩
    · refine skip <| kn8 _ _ <| seqK fun Q24 kn25 kr26 ke27 => ?_
      refine sr fun Q28 k29 => qt asg <| nl <| k29 _ _ <| blockK fun Q30 kn31 kr32 kx33 kb34 => ?_
      refine loopK (α := Nat) (fun x => [(1, .pointer (some ⟨b3, 0, none⟩)), (3, .int .i64 ((x : Nat) : Int))]) (fun x w35 => Hp No w0 w35 [cB b3 60 [.string (ByteArray.mk #[113]), .slice none 0 0, .slice a m c]] ∧ x ≤ m ∧ ∀ j, j < x → LitG (el rows j).1) (fun x => m - x) (0) ⟨rfl, rfl, trivial⟩ ?_ ?_
      · refine ⟨H17, ?_⟩
        try dsimp only
        exact ⟨Nat.zero_le _, fun j h => absurd h (Nat.not_lt_zero _)⟩
      · rintro τ36 i w37 ⟨hx38, ⟨hi, hg⟩⟩
        try dsimp only at hi hg
        have hz39 := hx38.le
        intro Q40 kn41 kr42 ke43
        refine seqK fun Q44 kn45 kr46 ke47 => ?_
        refine sr fun Q48 k49 => qt mv <| qt (x_field (o := 0) T.fa60_1 rfl) <| qt (x_load1 T.na23 rfl (hx38.ld 0 rfl 2 rfl)) <| qt (x_lenSl rfl Tryz.underlying23 rfl) <| qt (x_lssN rfl rfl) <| nl <| k49 _ _ <| cnd (p := i < m) rfl (fun h50 => ?_) (fun h50 => ?_)
        · refine skip <| kn45 _ _ <| seqK fun Q51 kn52 kr53 ke54 => blockK fun Q55 kn56 kr57 kx58 kb59 => ?_
          refine sr fun Q60 k61 => qt (x_field (o := 0) T.fa60_1 rfl) <| qt (x_load1 T.na23 rfl (hx38.ld 0 rfl 2 rfl)) <| qt mv <| qt (x_index' T.sl23 rfl ((hs.1.ext hx38.x).addr (by omega)) rfl (by omega)) <| qt (x_loadA [.int .i64 ((el rows i).1.kind), .string ((el rows i).1.pred), .slice ((el rows i).2.1) ((el rows i).1.args.length) ((el rows i).2.2), .bool (decide ((el rows i).1.left.1 = true)), .string ((el rows i).1.left.2), .bool (decide ((el rows i).1.right.1 = true)), .string ((el rows i).1.right.2)] T.ag37 rfl ((hs.1.ext hx38.x).cell (i := i) (by omega))) <| ?_
          refine cl T.cf74 (Literal74 (el rows i) _ ((hs.2 i (by omega)).ext hx38.x) (hb i (by omega))) rfl fun _ w65 ⟨r62, er, hr63, X64⟩ => ⟨_, er, ?_⟩
          have H66 := hx38.ext X64
          refine qt (x_notBB rfl) <| nl <| k61 _ _ <| cnd (p := ¬ (r62 = true)) rfl (fun h67 => ?_) (fun h67 => ?_)
          · refine sr fun Q68 k69 => qt asg <| nl <| k69 _ _ <| ret <| kr57 _ _ <| kr53 _ _ <| kr42 _ _ <| kr32 _ _ <| kr26 _ _ <| leave1 (P := Tryz.prog) (fn := Tryz.f53) (t := 2) (v := .bool false) rfl rfl <| ?_
            exact ⟨_, rfl, ⟨fun h => (by cases h), fun h => absurd (hr63.2 (h.2 _ (List.mem_map_of_mem (by rw [el_eq (by omega)]; exact List.getElem_mem _)))) (by assumption)⟩, H66.x⟩
          · refine skip <| kn56 _ _ <| kn52 _ _ <| region <| qt mv <| qt (addN (b := 1) rfl rfl) <| qt asg <| nl <| kn41 _ ((i + 1)) _ ⟨rfl, rfl, trivial⟩ ⟨H66, ?_⟩ ?_
            · try dsimp only
              exact ⟨by omega, fun j hj => (Nat.lt_or_ge j i).elim (hg j) (fun h => (show j = i by omega) ▸ hr63.1 (Decidable.of_not_not (by assumption)))⟩
            · (try dsimp only); omega
        · refine exit <| ke47 _ _ _ <| ke43 _ _ _ <| kb34 _ _ <| kn25 _ _ <| ?_
          refine sr fun Q70 k71 => qt asg <| nl <| k71 _ _ <| ret <| leave1 (P := Tryz.prog) (fn := Tryz.f53) (t := 2) (v := .bool true) rfl rfl <| ?_
          exact ⟨_, rfl, ⟨fun _ => ⟨by omega, fun y hy => (by obtain ⟨z, hz, rfl⟩ := List.mem_map.1 hy; obtain ⟨j, hj, rfl⟩ := List.getElem_of_mem hz; rw [← el_eq hj]; exact hg j (by omega))⟩, fun _ => rfl⟩, hx38.x⟩
theorem Formed20 (a : Option Addr) (m c : Nat) (rows : List Rw) (w0 : World) (hs : Lits w0.heap a m c rows) (hb : ∀ i, i < m → RowB (el rows i).1) :
    Calls Tryz.prog 20 #[.slice a m c] w0 fun e w' => ∃ r : Bool, e = .returned (.bool r) ∧ (r = true ↔ QG (rows.map (·.1))) ∧ Ext w0 w' := by
  have hlen := hs.1.len
  refine enter Tryz.func20 rfl 11 Tryz.ntmps20 rfl <| ?_
  refine sr fun Q1 k2 => qt asg <| nl <| k2 _ _ <| ?_
  refine sr fun Q3 k4 => qt mv <| qt (x_lenSl rfl Tryz.underlying23 rfl) <| qt (x_gtrN (b := 0) rfl rfl) <| st_if (p := 0 < m) (x_move rfl) (fun h5 => ?_) (fun h5 => ?_)
  · refine st_gq 3 6 rfl rfl (by decide) <| qt mv <| st_gq 3 6 rfl rfl (by decide) <| ?_
    refine cl T.cf39 (rule39 a m c _) rfl fun _ w7 ⟨er, X6⟩ => ⟨_, er, ?_⟩
    have H8 := (Hp.start No w0).ext X6
    refine st_gq 3 6 rfl rfl (by decide) <| ?_
    refine cl T.cf53 (FormedRule53 a m c rows _ (hs.ext H8.x) hb) rfl fun _ w12 ⟨r9, er, hr10, X11⟩ => ⟨_, er, ?_⟩
    have H13 := H8.ext X11
    refine qt (pkT rfl) <| qt asg <| nl <| k4 _ _ <| ret <| leave1 (P := Tryz.prog) (fn := Tryz.f20) (t := 2) (v := .bool r9) rfl rfl <| ?_
    exact ⟨_, rfl, (qg_iff (by omega) hlen hr10), H13.x⟩
  · refine st_gn 3 6 rfl rfl (by decide) rfl <| st_gn 3 6 rfl rfl (by decide) rfl <| st_gn 3 6 rfl rfl (by decide) rfl <| qt (pkF rfl) <| qt asg <| nl <| k4 _ _ <| ret <| leave1 (P := Tryz.prog) (fn := Tryz.f20) (t := 2) (v := .bool false) rfl rfl <| ?_
    exact ⟨_, rfl, ⟨fun h => (by cases h), fun h => absurd (by rw [List.eq_nil_of_length_eq_zero (show rows.length = 0 by omega)]; rfl) h.1⟩, (Hp.start No w0).x⟩
theorem SameTerms126 (a b : Option Addr) (c d : Nat) (xs ys : List Tm) (w0 : World) (hs : Srm eT w0.heap a xs.length c xs) (hs2 : Srm eT w0.heap b ys.length d ys) :
    Calls Tryz.prog 126 #[.slice a xs.length c, .slice b ys.length d] w0 fun e w' => ∃ r : Bool, e = .returned (.bool r) ∧ (r = true ↔ xs = ys) ∧ Ext w0 w' := by
  have hc := hs.cap
  refine enter Tryz.func126 rfl 26 Tryz.ntmps126 rfl <| ?_
  refine sr fun Q1 k2 => qt asg <| nl <| k2 _ _ <| seqK fun Q3 kn4 kr5 ke6 => ?_
  refine sr fun Q7 k8 => qt mv <| qt (x_lenSl rfl Tryz.underlying30 rfl) <| qt mv <| qt (x_lenSl rfl Tryz.underlying30 rfl) <| qt (x_neqN rfl rfl) <| nl <| k8 _ _ <| cnd (p := xs.length ≠ ys.length) rfl (fun h9 => ?_) (fun h9 => ?_)
  · refine sr fun Q10 k11 => qt asg <| nl <| k11 _ _ <| ret <| kr5 _ _ <| leave1 (P := Tryz.prog) (fn := Tryz.f126) (t := 4) (v := .bool false) rfl rfl <| ?_
    exact ⟨_, rfl, ⟨fun h => (by cases h), fun h => (by subst h; first | exact absurd rfl (by assumption) | (have hz := pairE.not.1 h9; exact absurd rfl hz))⟩, (Hp.start No w0).x⟩
  · refine skip <| kn4 _ _ <| seqK fun Q12 kn13 kr14 ke15 => ?_
    refine sr fun Q16 k17 => qt asg <| nl <| k17 _ _ <| blockK fun Q18 kn19 kr20 kx21 kb22 => ?_
    refine loopK (α := Nat) (fun x => [(0, .slice a xs.length c), (1, .slice b ys.length d), (5, .int .i64 ((x : Nat) : Int))]) (fun x w23 => Hp No w0 w23 [] ∧ x ≤ xs.length ∧ ∀ j, j < x → el xs j = el ys j) (fun x => xs.length - x) (0) ⟨rfl, rfl, rfl, trivial⟩ ?_ ?_
    · refine ⟨(Hp.start No w0), ?_⟩
      try dsimp only
      exact ⟨Nat.zero_le _, fun j h => absurd h (Nat.not_lt_zero _)⟩
    · rintro τ24 i w25 ⟨hx26, ⟨hi, hg⟩⟩
      try dsimp only at hi hg
      have hz27 := hx26.le
      intro Q28 kn29 kr30 ke31
      refine seqK fun Q32 kn33 kr34 ke35 => ?_
      refine sr fun Q36 k37 => qt mv <| qt mv <| qt (x_lenSl rfl Tryz.underlying30 rfl) <| qt (x_lssN rfl rfl) <| nl <| k37 _ _ <| cnd (p := i < xs.length) rfl (fun h38 => ?_) (fun h38 => ?_)
      · refine skip <| kn33 _ _ <| seqK fun Q39 kn40 kr41 ke42 => blockK fun Q43 kn44 kr45 kx46 kb47 => seqK fun Q48 kn49 kr50 ke51 => regionD1 [3, 7] [0, 1, 2, 3, 4, 5, 6, 7, 8] (.one 0 (.one 1 (.one 2 (.one 3 (.one 4 (.one 5 (.one 6 (.one 7 (.one 8 .done))))))))) (by kernel_rfl) (by kernel_rfl) fun w52 x53 s54 => ?_
        have H55 := hx26.ext x53
        have S56 : Ext w52 w52 := Below.refl _ _
        refine d_q rfl rfl (fun _ => mv) <| d_q rfl rfl (fun _ => mv) <| d_q rfl rfl (fun _ => x_index' T.sl30 rfl ((hs.ext H55.x).addr (by omega)) rfl (by omega)) <| d_l rfl rfl rfl (fun _ y57 => x_loadA [.bool (decide ((el xs i).1 = true)), .string ((el xs i).2)] T.ag35 rfl (((hs.ext H55.x).cell (i := i) (by omega)).ext y57)) <| d_q rfl rfl (fun _ => mv) <| d_q rfl rfl (fun _ => mv) <| d_q rfl rfl (fun _ => x_index' T.sl30 rfl ((hs2.ext H55.x).addr (by omega)) rfl (by omega)) <| d_l rfl rfl rfl (fun _ y58 => x_loadA [.bool (decide ((el ys i).1 = true)), .string ((el ys i).2)] T.ag35 rfl (((hs2.ext H55.x).cell (i := i) (by omega)).ext y58)) <| d_q rfl rfl (fun _ => x_neqT' T.eqT35 rfl rfl) <| d_done <| kn49 _ _ <| cnd (p := ¬ ((decide ((el xs i).1 = true), (el xs i).2) = (decide ((el ys i).1 = true), (el ys i).2))) rfl (fun h59 => ?_) (fun h59 => ?_)
        · refine sr fun Q60 k61 => qt asg <| nl <| k61 _ _ <| ret <| kr45 _ _ <| kr41 _ _ <| kr30 _ _ <| kr20 _ _ <| kr14 _ _ <| leave1 (P := Tryz.prog) (fn := Tryz.f126) (t := 4) (v := .bool false) rfl rfl <| ?_
          exact ⟨_, rfl, ⟨fun h => (by cases h), fun h => (by subst h; first | exact absurd rfl (by assumption) | (have hz := pairE.not.1 h59; exact absurd rfl hz))⟩, H55.x⟩
        · refine skip <| kn44 _ _ <| kn40 _ _ <| region <| qt mv <| qt (addN (b := 1) rfl rfl) <| qt asg <| nl <| kn29 _ ((i + 1)) _ ⟨rfl, rfl, rfl, trivial⟩ ⟨H55, ?_⟩ ?_
          · try dsimp only
            exact ⟨by omega, fun j hj => (Nat.lt_or_ge j i).elim (hg j) (fun h => (show j = i by omega) ▸ pairE.1 (Decidable.of_not_not (by assumption)))⟩
          · (try dsimp only); omega
      · refine exit <| ke35 _ _ _ <| ke31 _ _ _ <| kb22 _ _ <| kn13 _ _ <| ?_
        refine sr fun Q62 k63 => qt asg <| nl <| k63 _ _ <| ret <| leave1 (P := Tryz.prog) (fn := Tryz.f126) (t := 4) (v := .bool true) rfl rfl <| ?_
        exact ⟨_, rfl, ⟨fun _ => ext_el (by omega) fun j hj => hg j (by omega), fun _ => rfl⟩, hx26.x⟩
theorem SameAtom70 (p q : ByteArray) (a b : Option Addr) (c d : Nat) (xs ys : List Tm) (w0 : World) (hs : Srm eT w0.heap a xs.length c xs) (hs2 : Srm eT w0.heap b ys.length d ys) :
    Calls Tryz.prog 70 #[.agg #[.string p, .slice a xs.length c], .agg #[.string q, .slice b ys.length d]] w0 fun e w' => ∃ r : Bool, e = .returned (.bool r) ∧ (r = true ↔ (p = q ∧ xs = ys)) ∧ Ext w0 w' := by
  refine enter Tryz.func70 rfl 17 Tryz.ntmps70 rfl <| ?_
  refine sr fun Q1 k2 => ?_
  refine st_e <| Ebx (v := .agg #[.string p, .slice a xs.length c]) (Hp.start No w0) rfl fun b3 w4 H5 x6 => ?_
  refine st_e <| Ebx (v := .agg #[.string q, .slice b ys.length d]) H5 rfl fun b7 w8 H9 x10 => qt asg <| nl <| k2 _ _ <| ?_
  refine sr fun Q11 k12 => qt (x_field (o := 0) T.fa32_0 rfl) <| qt (x_load1 T.na9 rfl (H9.ld 1 rfl 0 rfl)) <| qt (x_field (o := 0) T.fa32_0 rfl) <| qt (x_load1 T.na9 rfl (H9.ld 0 rfl 0 rfl)) <| qt (x_eqlS rfl rfl) <| st_if (p := p.toList = q.toList) (x_move rfl) (fun h13 => ?_) (fun h13 => ?_)
  · refine st_gq 5 10 rfl rfl (by decide) <| qt (x_field (o := 0) T.fa32_1 rfl) <| st_gq 5 10 rfl rfl (by decide) <| qt (x_load1 T.na30 rfl (H9.ld 1 rfl 1 rfl)) <| st_gq 5 10 rfl rfl (by decide) <| qt (x_field (o := 0) T.fa32_1 rfl) <| st_gq 5 10 rfl rfl (by decide) <| qt (x_load1 T.na30 rfl (H9.ld 0 rfl 1 rfl)) <| st_gq 5 10 rfl rfl (by decide) <| ?_
    refine cl T.cf126 (SameTerms126 a b c d xs ys _ (hs.ext H9.x) (hs2.ext H9.x)) rfl fun _ w17 ⟨r14, er, hr15, X16⟩ => ⟨_, er, ?_⟩
    have H18 := H9.ext X16
    refine qt (pkT rfl) <| qt asg <| nl <| k12 _ _ <| ret <| leave1 (P := Tryz.prog) (fn := Tryz.f70) (t := 4) (v := .bool r14) rfl rfl <| ?_
    exact ⟨_, rfl, ⟨fun h => ⟨bytes_ext (by assumption), hr15.1 h⟩, fun h => hr15.2 h.2⟩, H18.x⟩
  · refine st_gn 5 10 rfl rfl (by decide) rfl <| st_gn 5 10 rfl rfl (by decide) rfl <| st_gn 5 10 rfl rfl (by decide) rfl <| st_gn 5 10 rfl rfl (by decide) rfl <| st_gn 5 10 rfl rfl (by decide) rfl <| qt (pkF rfl) <| qt asg <| nl <| k12 _ _ <| ret <| leave1 (P := Tryz.prog) (fn := Tryz.f70) (t := 4) (v := .bool false) rfl rfl <| ?_
    exact ⟨_, rfl, ⟨fun h => (by cases h), fun h => absurd (congrArg ByteArray.toList h.1) (by assumption)⟩, H9.x⟩
theorem SameLiteral30 (z y : Rw) (w0 : World) (hs : RowM w0.heap z) (hs2 : RowM w0.heap y) :
    Calls Tryz.prog 30 #[.agg (eL.enc z).toArray, .agg (eL.enc y).toArray] w0 fun e w' => ∃ r : Bool, e = .returned (.bool r) ∧ (r = true ↔ z.1 = y.1) ∧ Ext w0 w' := by
  refine enter Tryz.func30 rfl 31 Tryz.ntmps30 rfl <| ?_
  refine sr fun Q1 k2 => ?_
  refine st_e <| Ebx (v := .agg #[.int .i64 z.1.kind, .string z.1.pred, .slice z.2.1 z.1.args.length z.2.2, .bool (decide (z.1.left.1 = true)), .string z.1.left.2, .bool (decide (z.1.right.1 = true)), .string z.1.right.2]) (Hp.start No w0) rfl fun b3 w4 H5 x6 => ?_
  refine st_e <| Ebx (v := .agg #[.int .i64 y.1.kind, .string y.1.pred, .slice y.2.1 y.1.args.length y.2.2, .bool (decide (y.1.left.1 = true)), .string y.1.left.2, .bool (decide (y.1.right.1 = true)), .string y.1.right.2]) H5 rfl fun b7 w8 H9 x10 => qt asg <| nl <| k2 _ _ <| ?_
  refine sr fun Q11 k12 => qt (x_field (o := 0) T.fa37_0 rfl) <| qt (x_load1 T.na33 rfl (H9.ld 1 rfl 0 rfl)) <| qt (x_field (o := 0) T.fa37_0 rfl) <| qt (x_load1 T.na33 rfl (H9.ld 0 rfl 0 rfl)) <| qt (x_eql rfl rfl) <| st_if (p := z.1.kind = y.1.kind) (x_move rfl) (fun h13 => ?_) (fun h13 => ?_)
  · refine st_gq 5 10 rfl rfl (by decide) <| qt (x_field (o := 0) T.fa37_1 rfl) <| st_gq 5 10 rfl rfl (by decide) <| qt (x_loadA [.string z.1.pred, .slice z.2.1 z.1.args.length z.2.2] T.ag32 rfl (H9.lds 1 rfl 1 [.string z.1.pred, .slice z.2.1 z.1.args.length z.2.2] rfl)) <| st_gq 5 10 rfl rfl (by decide) <| qt (x_field (o := 0) T.fa37_1 rfl) <| st_gq 5 10 rfl rfl (by decide) <| qt (x_loadA [.string y.1.pred, .slice y.2.1 y.1.args.length y.2.2] T.ag32 rfl (H9.lds 0 rfl 1 [.string y.1.pred, .slice y.2.1 y.1.args.length y.2.2] rfl)) <| st_gq 5 10 rfl rfl (by decide) <| ?_
    refine cl T.cf70 (SameAtom70 z.1.pred y.1.pred z.2.1 y.2.1 z.2.2 y.2.2 z.1.args y.1.args _ (hs.ext H9.x) (hs2.ext H9.x)) rfl fun _ w17 ⟨r14, er, hr15, X16⟩ => ⟨_, er, ?_⟩
    have H18 := H9.ext X16
    refine qt (pkT rfl) <| st_if (p := r14 = true) (mvB rfl) (fun h19 => ?_) (fun h19 => ?_)
    · refine st_gq 12 17 rfl rfl (by decide) <| qt (x_field (o := 0) T.fa37_2 rfl) <| st_gq 12 17 rfl rfl (by decide) <| qt (x_loadA [.bool (decide (z.1.left.1 = true)), .string z.1.left.2] T.ag35 rfl (H18.lds 1 rfl 3 [.bool (decide (z.1.left.1 = true)), .string z.1.left.2] rfl)) <| st_gq 12 17 rfl rfl (by decide) <| qt (x_field (o := 0) T.fa37_2 rfl) <| st_gq 12 17 rfl rfl (by decide) <| qt (x_loadA [.bool (decide (y.1.left.1 = true)), .string y.1.left.2] T.ag35 rfl (H18.lds 0 rfl 3 [.bool (decide (y.1.left.1 = true)), .string y.1.left.2] rfl)) <| st_gq 12 17 rfl rfl (by decide) <| qt (x_eqlT' T.eqT35 rfl rfl) <| qt (pkT rfl) <| st_if (p := (decide (z.1.left.1 = true), z.1.left.2) = (decide (y.1.left.1 = true), y.1.left.2)) (x_move rfl) (fun h20 => ?_) (fun h20 => ?_)
      · refine st_gq 19 24 rfl rfl (by decide) <| qt (x_field (o := 0) T.fa37_3 rfl) <| st_gq 19 24 rfl rfl (by decide) <| qt (x_loadA [.bool (decide (z.1.right.1 = true)), .string z.1.right.2] T.ag35 rfl (H18.lds 1 rfl 5 [.bool (decide (z.1.right.1 = true)), .string z.1.right.2] rfl)) <| st_gq 19 24 rfl rfl (by decide) <| qt (x_field (o := 0) T.fa37_3 rfl) <| st_gq 19 24 rfl rfl (by decide) <| qt (x_loadA [.bool (decide (y.1.right.1 = true)), .string y.1.right.2] T.ag35 rfl (H18.lds 0 rfl 5 [.bool (decide (y.1.right.1 = true)), .string y.1.right.2] rfl)) <| st_gq 19 24 rfl rfl (by decide) <| qt (x_eqlT' T.eqT35 rfl rfl) <| qt (pkT rfl) <| qt asg <| nl <| k12 _ _ <| ret <| leave1 (P := Tryz.prog) (fn := Tryz.f30) (t := 4) (v := .bool (decide ((decide (z.1.right.1 = true), z.1.right.2) = (decide (y.1.right.1 = true), y.1.right.2)))) rfl rfl <| ?_
        exact ⟨_, rfl, (by rw [decide_eq_true_iff, pairE]; exact ⟨fun h => lit_iff.2 ⟨by assumption, hr15.1 (by assumption), pairE.1 (by assumption), h⟩, fun h => (lit_iff.1 h).2.2.2⟩), H18.x⟩
      · refine st_gn 19 24 rfl rfl (by decide) rfl <| st_gn 19 24 rfl rfl (by decide) rfl <| st_gn 19 24 rfl rfl (by decide) rfl <| st_gn 19 24 rfl rfl (by decide) rfl <| st_gn 19 24 rfl rfl (by decide) rfl <| qt (pkF rfl) <| qt asg <| nl <| k12 _ _ <| ret <| leave1 (P := Tryz.prog) (fn := Tryz.f30) (t := 4) (v := .bool false) rfl rfl <| ?_
        exact ⟨_, rfl, ⟨fun h => (by cases h), fun h => (by have hi := lit_iff.1 h; first | exact absurd hi.1 (by assumption) | exact absurd (hr15.2 hi.2.1) (by assumption) | exact absurd (pairE.2 hi.2.2.1) (by assumption))⟩, H18.x⟩
    · refine st_gn 12 17 rfl rfl (by decide) rfl <| st_gn 12 17 rfl rfl (by decide) rfl <| st_gn 12 17 rfl rfl (by decide) rfl <| st_gn 12 17 rfl rfl (by decide) rfl <| st_gn 12 17 rfl rfl (by decide) rfl <| qt (pkF rfl) <| qt mv <| st_gn 19 24 rfl rfl (by decide) rfl <| st_gn 19 24 rfl rfl (by decide) rfl <| st_gn 19 24 rfl rfl (by decide) rfl <| st_gn 19 24 rfl rfl (by decide) rfl <| st_gn 19 24 rfl rfl (by decide) rfl <| qt (pkF rfl) <| qt asg <| nl <| k12 _ _ <| ret <| leave1 (P := Tryz.prog) (fn := Tryz.f30) (t := 4) (v := .bool false) rfl rfl <| ?_
      exact ⟨_, rfl, ⟨fun h => (by cases h), fun h => (by have hi := lit_iff.1 h; first | exact absurd hi.1 (by assumption) | exact absurd (hr15.2 hi.2.1) (by assumption) | exact absurd (pairE.2 hi.2.2.1) (by assumption))⟩, H18.x⟩
  · refine st_gn 5 10 rfl rfl (by decide) rfl <| st_gn 5 10 rfl rfl (by decide) rfl <| st_gn 5 10 rfl rfl (by decide) rfl <| st_gn 5 10 rfl rfl (by decide) rfl <| st_gn 5 10 rfl rfl (by decide) rfl <| qt (pkF rfl) <| qt mv <| st_gn 12 17 rfl rfl (by decide) rfl <| st_gn 12 17 rfl rfl (by decide) rfl <| st_gn 12 17 rfl rfl (by decide) rfl <| st_gn 12 17 rfl rfl (by decide) rfl <| st_gn 12 17 rfl rfl (by decide) rfl <| qt (pkF rfl) <| qt mv <| st_gn 19 24 rfl rfl (by decide) rfl <| st_gn 19 24 rfl rfl (by decide) rfl <| st_gn 19 24 rfl rfl (by decide) rfl <| st_gn 19 24 rfl rfl (by decide) rfl <| st_gn 19 24 rfl rfl (by decide) rfl <| qt (pkF rfl) <| qt asg <| nl <| k12 _ _ <| ret <| leave1 (P := Tryz.prog) (fn := Tryz.f30) (t := 4) (v := .bool false) rfl rfl <| ?_
    exact ⟨_, rfl, ⟨fun h => (by cases h), fun h => (by have hi := lit_iff.1 h; first | exact absurd hi.1 (by assumption)  | exact absurd (pairE.2 hi.2.2.1) (by assumption))⟩, H9.x⟩
theorem SameBody9 (a b : Option Addr) (m c n d : Nat) (rows qs : List Rw) (w0 : World) (hs : Lits w0.heap a m c rows) (hs2 : Lits w0.heap b n d qs) :
    Calls Tryz.prog 9 #[.slice a m c, .slice b n d] w0 fun e w' => ∃ r : Bool, e = .returned (.bool r) ∧ (r = true ↔ rows.map (·.1) = qs.map (·.1)) ∧ Ext w0 w' := by
  have hlen := hs.1.len
  have hlen2 := hs2.1.len
  have hc := hs.1.cap
  refine enter Tryz.func9 rfl 29 Tryz.ntmps9 rfl <| ?_
  refine sr fun Q1 k2 => qt asg <| nl <| k2 _ _ <| seqK fun Q3 kn4 kr5 ke6 => ?_
  refine sr fun Q7 k8 => qt mv <| qt (x_lenSl rfl Tryz.underlying23 rfl) <| qt mv <| qt (x_lenSl rfl Tryz.underlying23 rfl) <| qt (x_neqN rfl rfl) <| nl <| k8 _ _ <| cnd (p := m ≠ n) rfl (fun h9 => ?_) (fun h9 => ?_)
  · refine sr fun Q10 k11 => qt asg <| nl <| k11 _ _ <| ret <| kr5 _ _ <| leave1 (P := Tryz.prog) (fn := Tryz.f9) (t := 4) (v := .bool false) rfl rfl <| ?_
    exact ⟨_, rfl, ⟨fun h => (by cases h), fun h => (by have := (map_fst_iff.1 h).1; omega)⟩, (Hp.start No w0).x⟩
  · refine skip <| kn4 _ _ <| seqK fun Q12 kn13 kr14 ke15 => ?_
    refine sr fun Q16 k17 => qt asg <| nl <| k17 _ _ <| blockK fun Q18 kn19 kr20 kx21 kb22 => ?_
    refine loopK (α := Nat) (fun x => [(0, .slice a m c), (1, .slice b n d), (5, .int .i64 ((x : Nat) : Int))]) (fun x w23 => Hp No w0 w23 [] ∧ x ≤ m ∧ ∀ j, j < x → (el rows j).1 = (el qs j).1) (fun x => m - x) (0) ⟨rfl, rfl, rfl, trivial⟩ ?_ ?_
    · refine ⟨(Hp.start No w0), ?_⟩
      try dsimp only
      exact ⟨Nat.zero_le _, fun j h => absurd h (Nat.not_lt_zero _)⟩
    · rintro τ24 i w25 ⟨hx26, ⟨hi, hg⟩⟩
      try dsimp only at hi hg
      have hz27 := hx26.le
      intro Q28 kn29 kr30 ke31
      refine seqK fun Q32 kn33 kr34 ke35 => ?_
      refine sr fun Q36 k37 => qt mv <| qt mv <| qt (x_lenSl rfl Tryz.underlying23 rfl) <| qt (x_lssN rfl rfl) <| nl <| k37 _ _ <| cnd (p := i < m) rfl (fun h38 => ?_) (fun h38 => ?_)
      · refine skip <| kn33 _ _ <| seqK fun Q39 kn40 kr41 ke42 => blockK fun Q43 kn44 kr45 kx46 kb47 => seqK fun Q48 kn49 kr50 ke51 => regionD1 [3, 7] [0, 1, 2, 3, 4, 5, 6, 7, 9] (.one 0 (.one 1 (.one 2 (.one 3 (.one 4 (.one 5 (.one 6 (.one 7 (.one 8 (.one 9 .done)))))))))) (by kernel_rfl) (by kernel_rfl) fun w52 x53 s54 => ?_
        have H55 := hx26.ext x53
        have S56 : Ext w52 w52 := Below.refl _ _
        refine d_q rfl rfl (fun _ => mv) <| d_q rfl rfl (fun _ => mv) <| d_q rfl rfl (fun _ => x_index' T.sl23 rfl ((hs.1.ext H55.x).addr (by omega)) rfl (by omega)) <| d_l rfl rfl rfl (fun _ y57 => x_loadA [.int .i64 ((el rows i).1.kind), .string ((el rows i).1.pred), .slice ((el rows i).2.1) ((el rows i).1.args.length) ((el rows i).2.2), .bool (decide ((el rows i).1.left.1 = true)), .string ((el rows i).1.left.2), .bool (decide ((el rows i).1.right.1 = true)), .string ((el rows i).1.right.2)] T.ag37 rfl (((hs.1.ext H55.x).cell (i := i) (by omega)).ext y57)) <| d_q rfl rfl (fun _ => mv) <| d_q rfl rfl (fun _ => mv) <| d_q rfl rfl (fun _ => x_index' T.sl23 rfl ((hs2.1.ext H55.x).addr (by omega)) rfl (by omega)) <| d_l rfl rfl rfl (fun _ y58 => x_loadA [.int .i64 ((el qs i).1.kind), .string ((el qs i).1.pred), .slice ((el qs i).2.1) ((el qs i).1.args.length) ((el qs i).2.2), .bool (decide ((el qs i).1.left.1 = true)), .string ((el qs i).1.left.2), .bool (decide ((el qs i).1.right.1 = true)), .string ((el qs i).1.right.2)] T.ag37 rfl (((hs2.1.ext H55.x).cell (i := i) (by omega)).ext y58)) <| ?_
        refine d_e (by decide) <| d_c' rfl rfl (t_call _ T.cf30 rfl rfl) (SameLiteral30 (el rows i) (el qs i) _ ((hs.2 i (by omega)).ext H55.x) ((hs2.2 i (by omega)).ext H55.x)) fun _ w62 ⟨r59, er, hr60, X61⟩ => ⟨_, er, ?_⟩
        have H63 := H55.ext X61
        have S64 := S56.trans (X61.mono S56.size)
        refine ⟨fun _ => S64, ?_⟩
        refine d_q rfl rfl (fun _ => asg) <| d_done <| kn49 _ _ <| ?_
        refine sr fun Q65 k66 => qt (mvB rfl) <| qt (x_notP rfl) <| nl <| k66 _ _ <| cnd (p := ¬ (r59 = true)) rfl (fun h67 => ?_) (fun h67 => ?_)
        · refine sr fun Q68 k69 => qt asg <| nl <| k69 _ _ <| ret <| kr45 _ _ <| kr41 _ _ <| kr30 _ _ <| kr20 _ _ <| kr14 _ _ <| leave1 (P := Tryz.prog) (fn := Tryz.f9) (t := 4) (v := .bool false) rfl rfl <| ?_
          exact ⟨_, rfl, ⟨fun h => (by cases h), fun h => absurd (hr60.2 ((map_fst_iff.1 h).2 i (by omega))) (by assumption)⟩, H63.x⟩
        · refine skip <| kn44 _ _ <| kn40 _ _ <| region <| qt mv <| qt (addN (b := 1) rfl rfl) <| qt asg <| nl <| kn29 _ ((i + 1)) _ ⟨rfl, rfl, rfl, trivial⟩ ⟨H63, ?_⟩ ?_
          · try dsimp only
            exact ⟨by omega, fun j hj => (Nat.lt_or_ge j i).elim (hg j) (fun h => (show j = i by omega) ▸ hr60.1 (by first | assumption | exact Decidable.of_not_not (by assumption)))⟩
          · (try dsimp only); omega
      · refine exit <| ke35 _ _ _ <| ke31 _ _ _ <| kb22 _ _ <| kn13 _ _ <| ?_
        refine sr fun Q70 k71 => qt asg <| nl <| k71 _ _ <| ret <| leave1 (P := Tryz.prog) (fn := Tryz.f9) (t := 4) (v := .bool true) rfl rfl <| ?_
        exact ⟨_, rfl, ⟨fun _ => map_fst_iff.2 ⟨by omega, fun j hj => hg j (by omega)⟩, fun _ => rfl⟩, hx26.x⟩
end Go.Proofs.YtljfgmedbjlkaaaGreat
namespace Go.Proofs.YtljfgmedbjlkaaaGreat
open Go.RowKit Go.Eng Go.QP

theorem blank21 (s : ByteArray) (w0 : World) :
    Calls Tryz.prog 21 #[.string s] w0 fun e w' => ∃ t : ByteArray, e = .returned (.string t) ∧ t.size ≤ 240 ∧ BlankL (bl t) ∧ w0 = w' := by
  refine enter Tryz.func21 rfl 34 Tryz.ntmps21 rfl <| ?_
  refine sr fun Q1 k2 => qt asg <| nl <| k2 _ _ <| ?_
  refine sr fun Q3 k4 => qt asg <| nl <| k4 _ _ <| seqK fun Q5 kn6 kr7 ke8 => ?_
  refine sr fun Q9 k10 => qt asg <| nl <| k10 _ _ <| blockK fun Q11 kn12 kr13 kx14 kb15 => ?_
  refine loopK (α := Nat × ByteArray) (fun x => [(0, .string s), (3, .string x.2), (4, .int .i64 ((x.1 : Nat) : Int))]) (fun x w16 => w0 = w16 ∧ x.1 ≤ s.size ∧ x.1 ≤ 40 ∧ x.2.size ≤ 6 * x.1 ∧ BlankL (bl x.2)) (fun x => s.size - x.1) (0, (ByteArray.mk #[])) ⟨rfl, rfl, rfl, trivial⟩ ?_ ?_
  · refine ⟨rfl, ?_⟩
    try dsimp only
    exact ⟨Nat.zero_le _, Nat.zero_le _, Nat.le_refl _, BlankL.nil⟩
  · rintro τ17 ⟨i, o⟩ w18 ⟨rfl, ⟨hi, hi4, ho, hq⟩⟩
    try dsimp only at hi hi4 ho hq
    intro Q19 kn20 kr21 ke22
    refine seqK fun Q23 kn24 kr25 ke26 => ?_
    refine sr fun Q27 k28 => qt mv <| qt mv <| qt (x_lenS rfl Tryz.underlying9 rfl) <| qt (x_lssN rfl rfl) <| st_if (p := i < s.size) (x_move rfl) (fun h29 => ?_) (fun h29 => ?_)
    · refine st_gq 4 9 rfl rfl (by decide) <| qt mv <| st_gq 4 9 rfl rfl (by decide) <| qt (x_lssN (b := 40) rfl rfl) <| qt (pkT rfl) <| nl <| k28 _ _ <| cnd (p := i < 40) rfl (fun h30 => ?_) (fun h30 => ?_)
      · refine skip <| kn24 _ _ <| seqK fun Q31 kn32 kr33 ke34 => blockK fun Q35 kn36 kr37 kx38 kb39 => ?_
        refine sr fun Q40 k41 => qt mv <| qt mv <| qt (x_indexS Tryz.underlying9 rfl rfl (by omega)) <| qt (x_rem8 (b := 5) rfl rfl (by decide)) <| nl <| k41 _ _ <| blockK fun Q42 kn43 kr44 kx45 kb46 => ?_
        refine sr fun Q47 k48 => qt (x_eqlN (b := 0) rfl rfl) <| qt asg <| nl <| k48 _ _ <| cnd (p := (ch s i % 5) = 0) rfl (fun h49 => ?_) (fun h49 => ?_)
        · refine region <| qt mv <| qt (x_addS (a := o) (b := (ByteArray.mk #[32])) rfl rfl (by have e1 : (ByteArray.mk #[32]).size = 1 := rfl; omega)) <| qt asg <| nl <| kn43 _ _ <| kn36 _ _ <| kn32 _ _ <| region <| qt mv <| qt (addN (b := 1) rfl rfl) <| qt asg <| nl <| kn20 _ ((i + 1), (o ++ (ByteArray.mk #[32]))) _ ⟨rfl, rfl, rfl, trivial⟩ ⟨rfl, ?_⟩ ?_
          · try dsimp only
            exact ⟨by omega, by omega, by rw [ByteArray.size_append]; have e1 : (ByteArray.mk #[32]).size = 1 := rfl; omega, by rw [bl_append]; exact hq.app (BlankL.one (.inl rfl))⟩
          · (try dsimp only); omega
        · refine sr fun Q50 k51 => qt (x_eqlN (b := 1) rfl rfl) <| qt asg <| nl <| k51 _ _ <| cnd (p := (ch s i % 5) = 1) rfl (fun h52 => ?_) (fun h52 => ?_)
          · refine region <| qt mv <| qt (x_addS (a := o) (b := (ByteArray.mk #[9, 13])) rfl rfl (by have e1 : (ByteArray.mk #[9, 13]).size = 2 := rfl; omega)) <| qt asg <| nl <| kn43 _ _ <| kn36 _ _ <| kn32 _ _ <| region <| qt mv <| qt (addN (b := 1) rfl rfl) <| qt asg <| nl <| kn20 _ ((i + 1), (o ++ (ByteArray.mk #[9, 13]))) _ ⟨rfl, rfl, rfl, trivial⟩ ⟨rfl, ?_⟩ ?_
            · try dsimp only
              exact ⟨by omega, by omega, by rw [ByteArray.size_append]; have e1 : (ByteArray.mk #[9, 13]).size = 2 := rfl; omega, by rw [bl_append]; exact hq.app (((BlankL.one (.inr (.inl rfl))).app (BlankL.one (.inr (.inr (.inr rfl))))))⟩
            · (try dsimp only); omega
          · refine sr fun Q53 k54 => qt (x_eqlN (b := 2) rfl rfl) <| qt asg <| nl <| k54 _ _ <| cnd (p := (ch s i % 5) = 2) rfl (fun h55 => ?_) (fun h55 => ?_)
            · refine region <| qt mv <| qt (x_addS (a := o) (b := (ByteArray.mk #[37, 63, 40, 0, 46, 10])) rfl rfl (by have e1 : (ByteArray.mk #[37, 63, 40, 0, 46, 10]).size = 6 := rfl; omega)) <| qt asg <| nl <| kn43 _ _ <| kn36 _ _ <| kn32 _ _ <| region <| qt mv <| qt (addN (b := 1) rfl rfl) <| qt asg <| nl <| kn20 _ ((i + 1), (o ++ (ByteArray.mk #[37, 63, 40, 0, 46, 10]))) _ ⟨rfl, rfl, rfl, trivial⟩ ⟨rfl, ?_⟩ ?_
              · try dsimp only
                exact ⟨by omega, by omega, by rw [ByteArray.size_append]; have e1 : (ByteArray.mk #[37, 63, 40, 0, 46, 10]).size = 6 := rfl; omega, by rw [bl_append]; exact hq.app (BlankL.rem)⟩
              · (try dsimp only); omega
            · refine region <| qt mv <| qt (x_addS (a := o) (b := (ByteArray.mk #[10])) rfl rfl (by have e1 : (ByteArray.mk #[10]).size = 1 := rfl; omega)) <| qt asg <| nl <| kn43 _ _ <| kn36 _ _ <| kn32 _ _ <| region <| qt mv <| qt (addN (b := 1) rfl rfl) <| qt asg <| nl <| kn20 _ ((i + 1), (o ++ (ByteArray.mk #[10]))) _ ⟨rfl, rfl, rfl, trivial⟩ ⟨rfl, ?_⟩ ?_
              · try dsimp only
                exact ⟨by omega, by omega, by rw [ByteArray.size_append]; have e1 : (ByteArray.mk #[10]).size = 1 := rfl; omega, by rw [bl_append]; exact hq.app (BlankL.one (.inr (.inr (.inl rfl))))⟩
              · (try dsimp only); omega
      · refine exit <| ke26 _ _ _ <| ke22 _ _ _ <| kb15 _ _ <| kn6 _ _ <| ?_
        exact sr fun Q56 k57 => qt mv <| qt asg <| nl <| k57 _ _ <| ret <| leave1 (P := Tryz.prog) (fn := Tryz.f21) (t := 2) (v := .string o) rfl rfl <| ⟨_, rfl, by omega, hq, rfl⟩
    · refine st_gn 4 9 rfl rfl (by decide) rfl <| st_gn 4 9 rfl rfl (by decide) rfl <| qt (pkF rfl) <| nl <| k28 _ _ <| cndF rfl <| exit <| ke26 _ _ _ <| ke22 _ _ _ <| kb15 _ _ <| kn6 _ _ <| ?_
      exact sr fun Q58 k59 => qt mv <| qt asg <| nl <| k59 _ _ <| ret <| leave1 (P := Tryz.prog) (fn := Tryz.f21) (t := 2) (v := .string o) rfl rfl <| ⟨_, rfl, by omega, hq, rfl⟩
end Go.Proofs.YtljfgmedbjlkaaaGreat
