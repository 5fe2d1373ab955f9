/- What the law's calls tell, given what is known of a question in form. -/
import Derived.Test.YtljfgmedbjlkaaaGreatQN
import Derived.Test.YtljfgmedbjlkaaaGreatHkC
import Derived.Test.YtljfgmedbjlkaaaGreatQA
import Derived.Test.YtljfgmedbjlkaaaGreatV3
import Derived.Test.YtljfgmedbjlkaaaGreatQI
import Derived.Test.YtljfgmedbjlkaaaGreatQV
import Derived.Test.YtljfgmedbjlkaaaGreatProg
namespace Go.Proofs.YtljfgmedbjlkaaaGreat
open Go.RowKit Go.Eng Go.QP
theorem word_no {c : Nat} {l : List Nat} (hc : c = 63) (i : Nat) : nextP (c :: l) i = (Tk0, false) := by
  subst hc
  show wordT (63 :: l) i = _
  unfold wordT
  have : wordN (decide (Dg ((63 :: l).headD 0))) 64 (63 :: l) = 0 := rfl
  rw [this]
  rfl
theorem end_mark {l : List Nat} (n i : Nat) (jt : Int) : toksP (n + 1) (63 :: l) i jt = ([], Tk0, i) := by
  rw [toksP, if_neg (by simp)]
  simp only [word_no rfl]
  rw [if_neg (fun h => by have := h.1; simp [WordK] at this), if_pos trivial, if_pos trivial]
theorem end_nil (n i : Nat) (jt : Int) : toksP (n + 1) [] i jt = ([], Tk0, i) := by rw [toksP, if_pos rfl]
theorem parse_text {q : List Qlit} {t : ByteArray} {a b : List Nat} (hq : QG q) (ht : bl t = a ++ textL q ++ 63 :: b) (ha : BlankL a) (hb : BlankL b) : parseS t = (some q, 0) := by
  obtain ⟨ts, r', h1, h2, h3⟩ := toks_text ht ha (NoW.cons (by decide)) hq.1 hq.2.2 hq.2.1 (NoB.cons (by decide)) (fun n i jt => end_mark n i jt)
  have hsz : t.size = a.length + (textL q).length + (b.length + 1) := by rw [← bl_len, ht]; simp only [List.length_append, List.length_cons]
  have hlt : a.length + (textL q).length < t.size := by omega
  have hd : (bl t).drop (a.length + (textL q).length) = 63 :: b := by rw [ht, ← List.length_append, List.drop_left]
  have hch : ch t (a.length + (textL q).length) = 63 := by
    have := drop_ch hlt
    rw [hd] at this
    injection this with h _
    exact h.symm
  have hd2 : (bl t).drop (a.length + (textL q).length + 1) = b := by
    have := drop_ch hlt
    rw [hd] at this
    injection this with _ h
    exact h.symm
  have hp : blankP ((bl t).drop (a.length + (textL q).length + 1)) false (a.length + (textL q).length + 1) = t.size := by
    rw [hd2]
    have := hb [] (a.length + (textL q).length + 1)
    rw [List.append_nil] at this
    rw [this]
    show a.length + (textL q).length + 1 + b.length = _
    omega
  have hy : takesS RS0 (toksOf t).1 = (r', none) := by rw [h1]; exact h2
  have hno : ¬ PsO t r' := by unfold PsO; rw [h1]; simp
  have hno2 : ¬ ((toksOf t).2.1.k ≠ 0 ∨ t.size ≤ (toksOf t).2.2 ∨ ch t (toksOf t).2.2 ≠ 63 ∨ (endsS r').at_ ≠ 8) := by
    rw [h1, h3]
    rintro (h | h | h | h)
    · exact h rfl
    · exact absurd h (by show ¬ t.size ≤ a.length + (textL q).length; omega)
    · exact h hch
    · exact h rfl
  rw [ps_ok (p := t.size) hy hno hno2 (by rw [h1]; exact hp) (by omega), h3]
theorem parse_open {q : List Qlit} {t : ByteArray} (hq : QG q) (ht : bl t = textL q) : parseS t = (none, t.size) := by
  obtain ⟨ts, r', h1, h2, h3⟩ := toks_text (r := []) (a := []) (by rw [ht]; simp) .nil NoW.nil hq.1 hq.2.2 hq.2.1 NoB.nil (fun n i jt => end_nil n i jt)
  have hsz : t.size = (textL q).length := by rw [← bl_len, ht]
  have hy : takesS RS0 (toksOf t).1 = (r', none) := by rw [h1]; exact h2
  have hno : ¬ PsO t r' := by unfold PsO; rw [h1]; simp
  rw [ps_far hy hno (.inr (.inl (by rw [h1]; simp only [List.length_nil]; omega))), h1]
  simp only [List.length_nil, Nat.zero_add, hsz]
theorem Parse_ok {t : ByteArray} {q : List Qlit} (w0 : World) (hs : t.size ≤ 68719476736) (hp : parseS t = (some q, 0)) : Calls Tryz.prog 8 #[.string t] w0 fun e w' => ∃ a c rows, e = .returned (.tuple #[.slice a rows.length c, .int .i64 ((0 : Nat) : Int), .int .i64 ((0 : Nat) : Int)]) ∧ rows.map (·.1) = q ∧ Hp No w0 w' [cQ 37 eL a rows.length c rows, cF rows.length fun k => pL (el rows k)] :=
  (Parse8 t w0 hs).mono fun e w' h => by
    rcases h with ⟨a, c, rows, he, h1, H⟩ | ⟨n, _, h1, _⟩
    · rw [hp] at h1
      exact ⟨a, c, rows, he, by injection h1 with h1 _; injection h1 with h1; exact h1.symm, H⟩
    · rw [hp] at h1; cases h1
theorem Parse_no {t : ByteArray} {n : Nat} (w0 : World) (hs : t.size ≤ 68719476736) (hp : parseS t = (none, n)) : Calls Tryz.prog 8 #[.string t] w0 fun e w' => e = .returned (.tuple #[.slice none 0 0, .int .i64 ((n : Nat) : Int), .int .i64 ((11 : Nat) : Int)]) ∧ Ext w0 w' :=
  (Parse8 t w0 hs).mono fun e w' h => by
    rcases h with ⟨a, c, rows, he, h1, H⟩ | ⟨n', he, h1, x⟩
    · rw [hp] at h1; cases h1
    · rw [hp] at h1
      injection h1 with _ h1
      subst h1
      exact ⟨he, x⟩
theorem Text_or {a : Option Addr} {m c : Nat} {rows : List Rw} {w0 : World} (hs : Lits w0.heap a m c rows) (hm : m ≤ 1048576) (hb : ∀ i, i < m → RowB (el rows i).1) :
    Calls Tryz.prog 12 #[.slice a m c] w0 fun e w' => ∃ (t : ByteArray) (k : Nat), e = .returned (.tuple #[.string t, .int .i64 ((k : Nat) : Int)]) ∧ ((k = 0 ∧ QG (rows.map (·.1)) ∧ bl t = textL (rows.map (·.1)) ++ [63]) ∨ (k = 2 ∧ t = ByteArray.mk #[] ∧ ¬ QG (rows.map (·.1)))) ∧ Ext w0 w' :=
  (Text12 a m c rows w0 hs hm hb).mono fun e w' h => h.elim (fun ⟨t, he, h1, h2, x⟩ => ⟨t, 0, he, .inl ⟨rfl, h1, h2⟩, x⟩) fun ⟨he, h1, x⟩ => ⟨_, 2, he, .inr ⟨rfl, rfl, h1⟩, x⟩
theorem Same_yes {a b : Option Addr} {m c n d : Nat} {rows qs : List Rw} {w0 : World} (hs : Lits w0.heap a m c rows) (hs2 : Lits w0.heap b n d qs) (h : rows.map (·.1) = qs.map (·.1)) :
    Calls Tryz.prog 9 #[.slice a m c, .slice b n d] w0 fun e w' => e = .returned (.bool true) ∧ Ext w0 w' :=
  (SameBody9 a b m c n d rows qs w0 hs hs2).mono fun e w' ⟨r, he, hr, x⟩ => ⟨by rw [he, hr.2 h], x⟩
theorem text_size {q : List Qlit} {t : ByteArray} (hq : QG q) (ht : bl t = textL q ++ [63]) : 1 ≤ t.size ∧ t.size ≤ 100000000 := by
  have hj := joinL_len [44, 32] 80000 (q.map litL) (fun x hx => by obtain ⟨y, hy, rfl⟩ := List.mem_map.1 hx; exact litL_len (hq.2.2 y hy))
  rw [List.length_map] at hj
  have e1 : ([44, 32] : List Nat).length = 2 := rfl
  rw [e1] at hj
  have : q.length * (80000 + 2) ≤ 256 * 80002 := Nat.mul_le_mul hq.2.1 (Nat.le_refl _)
  have h2 : t.size = (textL q).length + 1 := by rw [← bl_len, ht, List.length_append]; rfl
  unfold textL at h2
  omega
theorem text_ne {q : List Qlit} {t : ByteArray} (hq : QG q) (ht : bl t = textL q ++ [63]) : ¬ t.toList = (ByteArray.mk #[]).toList := fun h => by
  have h1 := (text_size hq ht).1
  rw [bytes_ext h] at h1
  exact absurd h1 (by decide)
theorem cut_text {q : List Qlit} {t : ByteArray} (ht : bl t = textL q ++ [63]) : bl (t.extract 0 (t.size - 1)) = textL q ∧ (t.extract 0 (t.size - 1)).size = t.size - 1 := by
  have h2 : t.size = (textL q).length + 1 := by rw [← bl_len, ht, List.length_append]; rfl
  have h3 : bl (t.extract 0 (t.size - 1)) = textL q := by
    rw [bl_extract, ht, List.drop_zero, show t.size - 1 - 0 = (textL q).length by omega, List.take_left]
  exact ⟨h3, by rw [← bl_len, h3]; omega⟩
theorem blank_ext (s : ByteArray) (w0 : World) : Calls Tryz.prog 21 #[.string s] w0 fun e w' => ∃ t : ByteArray, e = .returned (.string t) ∧ t.size ≤ 240 ∧ BlankL (bl t) ∧ Ext w0 w' :=
  (blank21 s w0).mono fun _ _ ⟨t, he, h1, h2, h3⟩ => ⟨t, he, h1, h2, h3 ▸ Below.refl _ _⟩
end Go.Proofs.YtljfgmedbjlkaaaGreat
namespace Go.Proofs.YtljfgmedbjlkaaaGreat
open Go.RowKit Go.Eng Go.QP
theorem T.cf12 : CF Tryz.prog 12 := fun _ _ => by kernel_rfl
theorem T.cf20 : CF Tryz.prog 20 := fun _ _ => by kernel_rfl
theorem T.cf6 : CF Tryz.prog 6 := fun _ _ => by kernel_rfl
theorem T.cf8 : CF Tryz.prog 8 := fun _ _ => by kernel_rfl
theorem T.cf21 : CF Tryz.prog 21 := fun _ _ => by kernel_rfl
theorem T.cf9 : CF Tryz.prog 9 := fun _ _ => by kernel_rfl
theorem law5 (a : Option Addr) (m c : Nat) (rows : List Rw) (ahead behind : ByteArray) (w0 : World) (hs : Lits w0.heap a m c rows) (hm : m ≤ 1048576) (hb : ∀ i, i < m → RowB (el rows i).1) :
    Calls Tryz.prog 5 #[.slice a m c, .string ahead, .string behind] w0 fun e w' => e = .returned (.bool true) ∧ Ext w0 w' := by
  refine enter Tryz.func5 rfl 110 Tryz.ntmps5 rfl <| ?_
  refine sr fun Q1 k2 => qt asg <| nl <| k2 _ _ <| ?_
  refine sr fun Q3 k4 => qt mv <| ?_
  refine cl T.cf12 (Text_or (hs.ext (Hp.start No w0).x) hm hb) rfl fun _ w9 ⟨t5, k6, er, ht7, X8⟩ => ⟨_, er, ?_⟩
  have H10 := (Hp.start No w0).ext X8
  refine qt mv <| qt (x_extract rfl rfl) <| qt (x_extract rfl rfl) <| qt asg <| qt asg <| nl <| k4 _ _ <| seqK fun Q11 kn12 kr13 ke14 => ?_
  refine sr fun Q15 k16 => qt mv <| ?_
  refine cl T.cf20 (Formed20 a m c rows _ (hs.ext H10.x) hb) rfl fun _ w20 ⟨r17, er, hr18, X19⟩ => ⟨_, er, ?_⟩
  have H21 := H10.ext X19
  refine qt (x_notBB rfl) <| nl <| k16 _ _ <| cnd (p := ¬ (r17 = true)) rfl (fun h22 => ?_) (fun h22 => ?_)
  · refine sr fun Q23 k24 => ?_
    have hbad := ht7.resolve_left (fun h => absurd (hr18.2 h.2.1) (by assumption))
    refine qt mv <| qt (x_eqlS rfl rfl) <| st_if (p := t5.toList = (ByteArray.mk #[]).toList) (x_move rfl) (fun h25 => ?_) (fun h25 => ?_)
    · refine st_gq 2 28 rfl rfl (by decide) <| qt mv <| st_gq 2 28 rfl rfl (by decide) <| qt (x_eqlN (b := 2) rfl rfl) <| qt (pkT rfl) <| st_if (p := k6 = 2) (x_move rfl) (fun h26 => ?_) (fun h26 => ?_)
      · refine st_gq 6 32 rfl rfl (by decide) <| ?_
        refine cl T.cf6 (known6 _) rfl fun _ w28 ⟨er, X27⟩ => ⟨_, er, ?_⟩
        have H29 := H21.ext X27
        refine qt (pkT rfl) <| qt asg <| nl <| k24 _ _ <| ret <| kr13 _ _ <| leave1 (P := Tryz.prog) (fn := Tryz.f5) (t := 6) (v := .bool true) rfl rfl <| ?_
        exact ⟨rfl, H29.x⟩
      · exact absurd h26 (not_not_intro hbad.1)
    · exact absurd h25 (not_not_intro (by rw [hbad.2.1]))
  · refine skip <| kn12 _ _ <| seqK fun Q30 kn31 kr32 ke33 => ?_
    refine sr fun Q34 k35 => ?_
    have hg := ht7.resolve_right (fun h => absurd (hr18.1 (Decidable.of_not_not (by assumption))) h.2.2)
    have htz := text_size hg.2.1 hg.2.2
    refine qt mv <| qt (x_eqlS rfl rfl) <| nl <| k35 _ _ <| cndN (p := t5.toList = (ByteArray.mk #[]).toList) rfl (text_ne hg.2.1 hg.2.2) <| skip <| kn31 _ _ <| ?_
    refine sr fun Q36 k37 => qt mv <| ?_
    refine cl T.cf8 (Parse_ok (t := t5) _ (by omega) (parse_text (a := []) (b := []) hg.2.1 (by rw [hg.2.2]; rfl) BlankL.nil BlankL.nil)) rfl fun _ w43 ⟨a38, c39, rs40, er, hq41, K42⟩ => ⟨_, er, ?_⟩
    have H44 := H21.app' K42
    refine qt mv <| qt (x_extract rfl rfl) <| qt (x_extract rfl rfl) <| qt (x_extract rfl rfl) <| qt asg <| qt asg <| qt asg <| nl <| k37 _ _ <| ?_
    refine sr fun Q45 k46 => qt mv <| ?_
    refine cl T.cf21 (blank_ext ahead _) rfl fun _ w51 ⟨t47, er, hz48, hb49, X50⟩ => ⟨_, er, ?_⟩
    have H52 := H44.ext X50
    refine qt mv <| qt (x_addS rfl rfl (by omega)) <| qt mv <| ?_
    refine cl T.cf21 (blank_ext behind _) rfl fun _ w57 ⟨t53, er, hz54, hb55, X56⟩ => ⟨_, er, ?_⟩
    have H58 := H52.ext X56
    refine qt (x_addS rfl rfl (by rw [ByteArray.size_append]; omega)) <| ?_
    refine cl T.cf8 (Parse_ok (t := ((t47 ++ t5) ++ t53)) _ (by rw [ByteArray.size_append, ByteArray.size_append]; omega) (parse_text (a := bl t47) (b := bl t53) hg.2.1 (by rw [bl_append, bl_append, hg.2.2]; simp only [List.append_assoc, List.singleton_append]) hb49 hb55)) rfl fun _ w64 ⟨a59, c60, rs61, er, hq62, K63⟩ => ⟨_, er, ?_⟩
    have H65 := H58.app' K63
    refine qt mv <| qt (x_extract rfl rfl) <| qt (x_extract rfl rfl) <| qt (x_extract rfl rfl) <| qt asg <| qt asg <| qt asg <| nl <| k46 _ _ <| ?_
    refine sr fun Q66 k67 => qt mv <| qt mv <| qt (x_lenS rfl Tryz.underlying9 rfl) <| qt (subN (b := 1) rfl rfl) <| qt (x_sliceSHi Tryz.underlying9 rfl rfl (by omega)) <| ?_
    refine cl T.cf8 (Parse_no (t := (t5.extract 0 (t5.size - 1))) (n := t5.size - 1) _ (by have := (cut_text hg.2.2).2; omega) ((parse_open hg.2.1 (cut_text hg.2.2).1).trans (by rw [(cut_text hg.2.2).2]))) rfl fun _ w69 ⟨er, X68⟩ => ⟨_, er, ?_⟩
    have H70 := H65.ext X68
    refine qt mv <| qt (x_extract rfl rfl) <| qt (x_extract rfl rfl) <| qt (x_extract rfl rfl) <| qt asg <| qt asg <| qt asg <| nl <| k67 _ _ <| seqK fun Q71 kn72 kr73 ke74 => ?_
    refine sr fun Q75 k76 => qt mv <| qt (x_neqN (b := 0) rfl rfl) <| st_if (p := k6 ≠ 0) (x_move rfl) (fun h77 => ?_) (fun h77 => ?_)
    · exact absurd h77 (not_not_intro hg.1)
    · refine st_gq 2 67 rfl rfl (by decide) <| qt mv <| st_gq 2 67 rfl rfl (by decide) <| qt (x_neqN (b := 0) rfl rfl) <| qt (pkF rfl) <| st_if (p := 0 ≠ 0) (x_move rfl) (fun h78 => ?_) (fun h78 => ?_)
      · exact absurd h78 (fun h => h rfl)
      · refine st_gq 6 71 rfl rfl (by decide) <| qt mv <| st_gq 6 71 rfl rfl (by decide) <| qt (x_neqN (b := 0) rfl rfl) <| qt (pkF rfl) <| st_if (p := 0 ≠ 0) (x_move rfl) (fun h79 => ?_) (fun h79 => ?_)
        · exact absurd h79 (fun h => h rfl)
        · refine st_gq 10 75 rfl rfl (by decide) <| qt mv <| st_gq 10 75 rfl rfl (by decide) <| qt (x_neqN (b := 11) rfl rfl) <| qt (pkF rfl) <| st_if (p := 11 ≠ 11) (x_move rfl) (fun h80 => ?_) (fun h80 => ?_)
          · exact absurd h80 (fun h => h rfl)
          · refine st_gq 14 79 rfl rfl (by decide) <| qt mv <| st_gq 14 79 rfl rfl (by decide) <| qt (x_neqN (b := 0) rfl rfl) <| qt (pkF rfl) <| st_if (p := 0 ≠ 0) (x_move rfl) (fun h81 => ?_) (fun h81 => ?_)
            · exact absurd h81 (fun h => h rfl)
            · refine st_gq 18 83 rfl rfl (by decide) <| qt mv <| st_gq 18 83 rfl rfl (by decide) <| qt (x_neqN (b := 0) rfl rfl) <| qt (pkF rfl) <| st_if (p := 0 ≠ 0) (x_move rfl) (fun h82 => ?_) (fun h82 => ?_)
              · exact absurd h82 (fun h => h rfl)
              · refine st_gq 22 87 rfl rfl (by decide) <| qt mv <| st_gq 22 87 rfl rfl (by decide) <| qt mv <| st_gq 22 87 rfl rfl (by decide) <| qt (x_lenS rfl Tryz.underlying9 rfl) <| st_gq 22 87 rfl rfl (by decide) <| qt (subN (b := 1) rfl rfl) <| st_gq 22 87 rfl rfl (by decide) <| qt (x_neqN rfl rfl) <| qt (pkF rfl) <| st_if (p := (t5.size - 1) ≠ (t5.size - 1)) (x_move rfl) (fun h83 => ?_) (fun h83 => ?_)
                · exact absurd h83 (fun h => h rfl)
                · refine st_gq 29 94 rfl rfl (by decide) <| qt mv <| st_gq 29 94 rfl rfl (by decide) <| qt (x_lenSl rfl Tryz.underlying23 rfl) <| st_gq 29 94 rfl rfl (by decide) <| qt (x_neqN (b := 0) rfl rfl) <| qt (pkF rfl) <| nl <| k76 _ _ <| cndN (p := 0 ≠ 0) rfl (not_not_intro rfl) <| skip <| kn72 _ _ <| ?_
                  refine sr fun Q84 k85 => qt mv <| qt mv <| ?_
                  refine cl T.cf9 (Same_yes (Lits.own H70 2 3 rfl rfl) (hs.ext H70.x) hq41) rfl fun _ w87 ⟨er, X86⟩ => ⟨_, er, ?_⟩
                  have H88 := H70.ext X86
                  refine qt mv <| st_gq 3 102 rfl rfl (by decide) <| qt mv <| st_gq 3 102 rfl rfl (by decide) <| qt mv <| st_gq 3 102 rfl rfl (by decide) <| ?_
                  refine cl T.cf9 (Same_yes (Lits.own H88 0 1 rfl rfl) (hs.ext H88.x) hq62) rfl fun _ w90 ⟨er, X89⟩ => ⟨_, er, ?_⟩
                  have H91 := H88.ext X89
                  refine qt (pkT rfl) <| qt mv <| st_gq 8 107 rfl rfl (by decide) <| ?_
                  refine cl T.cf6 (known6 _) rfl fun _ w93 ⟨er, X92⟩ => ⟨_, er, ?_⟩
                  have H94 := H91.ext X92
                  refine qt (pkT rfl) <| qt asg <| nl <| k85 _ _ <| ret <| leave1 (P := Tryz.prog) (fn := Tryz.f5) (t := 6) (v := .bool true) rfl rfl <| ?_
                  exact ⟨rfl, H94.x⟩
end Go.Proofs.YtljfgmedbjlkaaaGreat
