import Derived.Test.YtgfolockecjlnaaRef2
import Derived.Test.YtgfolockecjlnaaFnsT
namespace Go.Proofs.Ytgfolockecjlnaa
open Go.RowKit Go.Eng Go.OrdPure Go.HeapPure
theorem T.cf68 : CF Try.prog 68 := fun _ _ => by kernel_rfl
theorem T.cf17 : CF Try.prog 17 := fun _ _ => by kernel_rfl
theorem T.cf18 : CF Try.prog 18 := fun _ _ => by kernel_rfl
theorem T.cf19 : CF Try.prog 19 := fun _ _ => by kernel_rfl
theorem T.cf21 : CF Try.prog 21 := fun _ _ => by kernel_rfl
theorem T.cf22 : CF Try.prog 22 := fun _ _ => by kernel_rfl
theorem T.cf16 : CF Try.prog 16 := fun _ _ => by kernel_rfl

def c0 : Int × Int → Int × Int → Int := fun _ _ => 0
theorem cmp68 : Cmp 68 c0 := fun x y w => nil68 x y w
theorem told68 : Told .nilFunc 68 := fun w => told53nil w
theorem c0_law : Lawful c0 := ⟨fun _ _ h => by simp [c0] at h, fun _ _ h => by simp [c0] at h, fun _ _ _ _ _ => by simp [c0]⟩
theorem lend_srcT {h : Array Obj} {lo : Nat} {xs : List (Int × Int)} {a : Option Addr} {c : Nat} (ho : Own h lo 31 2 (.slice a (xs.length + 9) c) (xs.length + 9) (flat enT (xs ++ roomT 9))) : Src h (.slice a xs.length c) xs.length 2 (flat enT xs) := by
  have := ho.src.take enT_len (j := xs.length) (by omega) (by simp)
  simpa using this
theorem low_split {F : List (Int × Int)} {z : Int × Int} : ∀ {p : Nat}, p ≤ F.length → (∀ i, i < p → (el F i).1 < z.1) → low (F.take p) z = p
  | 0, _, _ => rfl
  | p + 1, hp, h => by rw [low_y (by omega) (h p (by omega)), low_split (by omega) (fun i hi => h i (by omega))]
theorem low_rest {F : List (Int × Int)} {z : Int × Int} {p : Nat} (h : ∀ i, p ≤ i → i < F.length → ¬ (el F i).1 < z.1) : ∀ {k : Nat}, p + k ≤ F.length → low (F.take (p + k)) z = low (F.take p) z
  | 0, _ => rfl
  | k + 1, hk => by rw [← Nat.add_assoc, low_n (by omega) (h (p + k) (by omega) (by omega)), low_rest h (by omega)]
theorem find_low {F : List (Int × Int)} {z : Int × Int} {p : Nat} (h1 : p ≤ F.length) (h2 : ∀ i, i < p → byc (el F i) z < 0) (h3 : ∀ i, p ≤ i → i < F.length → ¬ byc (el F i) z < 0) : p = low F z := by
  have e := low_rest (F := F) (z := z) (p := p) (fun i a b => fun h => h3 i a b (byc_lt.2 h)) (k := F.length - p) (by omega)
  rw [show p + (F.length - p) = F.length by omega, List.take_length, low_split h1 (fun i hi => byc_lt.1 (h2 i hi))] at e
  exact e.symm
theorem byc_zero {a b : Int × Int} : byc a b = 0 ↔ a.1 = b.1 := by unfold byc; split <;> (try split) <;> omega
theorem find_has {xs F : List (Int × Int)} (hF : F = srt byc xs) {z : Int × Int} {p : Nat} (h2 : ∀ i, i < p → byc (el F i) z < 0) (h3 : ∀ i, p ≤ i → i < F.length → ¬ byc (el F i) z < 0) : decide (p < F.length ∧ byc (el F p) z = 0) = decide (hasB F z = true) := by
  refine decide_eq_decide.2 ⟨fun h => has_t h.1 (byc_zero.1 h.2), fun h => ?_⟩
  rw [hasB, List.any_eq_true] at h
  obtain ⟨a, ha, he⟩ := h
  obtain ⟨i, hi, rfl⟩ := List.getElem_of_mem ha
  rw [← el_eq hi] at he
  have he : (el F i).1 = z.1 := by simpa using he
  have hpi : p ≤ i := by
    rcases Nat.lt_or_ge i p with h | h
    · have := byc_lt.1 (h2 i h); omega
    · exact h
  refine ⟨by omega, byc_zero.2 ?_⟩
  have h4 := h3 p (Nat.le_refl _) (by omega)
  rw [byc_lt] at h4
  by_cases e : p = i
  · rw [e]; exact he
  · have := byc_le.1 (rise_el (hF ▸ srt_rise byc_law xs) (i := p) (j := i) (by omega) hi)
    omega
theorem find_monoT {xs F : List (Int × Int)} (hF : F = srt byc xs) {z : Int × Int} : ∀ i j, i ≤ j → j < F.length → byc (el F j) z < 0 → byc (el F i) z < 0 := by
  intro i j h1 h2 h3
  rw [byc_lt] at h3 ⊢
  by_cases e : i = j
  · rw [e]; exact h3
  · have := byc_le.1 (rise_el (hF ▸ srt_rise byc_law xs) (i := i) (j := j) (by omega) h2)
    omega
theorem b_dec (b : Bool) : b = decide (b = true) := by cases b <;> rfl
set_option maxHeartbeats 4000000 in
theorem orderfinds4 (xs : List (Int × Int)) (z : Int × Int) (vl : Value) (w0 : World) (hl : Src w0.heap vl xs.length 2 (flat enT xs)) (hn : xs.length ≤ 8796093021952) : Calls Try.prog 4 #[vl, .agg (enT z).toArray] w0 fun e w' => e = .returned (.bool true) ∧ Ext w0 w' := by
  have hE0 : Below w0.heap.size w0 w0 := Below.refl _ _
  have hz0 := hE0.le
  obtain ⟨a, ca, rfl, hca, hca1⟩ := hl.form
  obtain ⟨F, hF⟩ : ∃ F, F = srt byc xs := ⟨_, rfl⟩
  have hFl : F.length = xs.length := by rw [hF, srt_length]
  refine enter Try.func4 rfl 62 Try.ntmps4 rfl ?_
  refine seqK fun Q1 kn2 kr3 ke4 => ?_
  refine region ?_
  refine st_e (e_box (v := .agg #[.int .i64 z.1, .int .i64 z.2]) rfl ?_)
  intro w5 hA6
  have hx7 := hA6.ext
  have hs8 := hA6.size
  have hB9 : Blk w5.heap w0.heap.size [.int .i64 z.1, .int .i64 z.2] 31 := hA6.new
  have hE10 : Below w0.heap.size w0 w5 := hx7.e hE0 (Nat.le_refl _)
  have hz11 := hE10.le
  have hs12 := hx7.size
  refine st_q (v := .bool false) (x_assign rfl) ?_
  refine st_nil ?_
  refine kn2 _ _ ?_
  refine seqK fun Q13 kn14 kr15 ke16 => ?_
  refine region ?_
  refine st_q (v := .slice a xs.length ca) (x_move rfl) ?_
  refine st_c (t_call [.slice a xs.length ca] T.cf17 rfl rfl) (refsort17 xs _ _ (hl.below hE10) (by omega)) ?_
  rintro _ w17 ⟨v5, rfl, hx18, hO19⟩
  rw [← hF, ← hFl] at hO19
  refine ⟨_, rfl, ?_⟩
  have hB20 := hB9.ext hx18
  have hE21 : Below w0.heap.size w0 w17 := hx18.e hE10 (Nat.le_refl _)
  have hz22 := hE21.le
  have hs23 := hx18.size
  have hO24 := hO19.weak (lo' := w0.heap.size) (by omega)
  obtain ⟨a25, c26, rfl, hm27, hm28⟩ := hO24.src.form
  refine st_q (v := .slice a25 F.length c26) (x_assign rfl) ?_
  refine st_nil ?_
  refine kn14 _ _ ?_
  refine seqK fun Q29 kn30 kr31 ke32 => ?_
  refine region ?_
  refine st_q (v := .slice a25 F.length c26) (x_move rfl) ?_
  refine st_c (t_call [.slice a25 F.length c26] T.cf18 rfl rfl) (lend18 F _ _ hO24.src (by omega)) ?_
  rintro _ w33 ⟨la, cl, rfl, hx34, _, hO35, _⟩
  refine ⟨_, rfl, ?_⟩
  have hB36 := hB20.ext hx34
  have hF37 := hO24.ext hx34
  have hE38 : Below w0.heap.size w0 w33 := hx34.e hE21 (Nat.le_refl _)
  have hz39 := hE38.le
  have hs40 := hx34.size
  refine st_q (v := .slice la F.length cl) (x_assign rfl) ?_
  refine st_nil ?_
  refine kn30 _ _ ?_
  refine seqK fun Q41 kn42 kr43 ke44 => ?_
  refine region ?_
  refine st_q (v := .slice la F.length cl) (x_move rfl) ?_
  refine st_q (v := .agg #[.int .i64 z.1, .int .i64 z.2]) (x_loadA [.int .i64 z.1, .int .i64 z.2] T.ag31 rfl (hB36.cells 0 [.int .i64 z.1, .int .i64 z.2] (cells_at rfl))) ?_
  refine st_c (t_call [.slice la F.length cl, .agg #[.int .i64 z.1, .int .i64 z.2], .func (.func 20) #[] #[]] T.cf19 rfl rfl) (find19 20 byc T.cf20 cmp20 (.func (.func 20) #[] #[]) told20 F z _ _ (lend_srcT hO35) (by omega) (find_monoT hF)) ?_
  rintro _ w45 ⟨p, he, hx46, q1, q2, q3⟩
  rw [find_has hF q2 q3] at he
  obtain rfl : p = low F z := find_low q1 q2 q3
  subst he
  refine ⟨_, rfl, ?_⟩
  have hB47 := hB36.ext hx46
  have hF48 := hF37.ext hx46
  have hF49 := hO35.ext hx46
  have hE50 : Below w0.heap.size w0 w45 := hx46.e hE38 (Nat.le_refl _)
  have hz51 := hE50.le
  have hs52 := hx46.size
  refine st_q (v := .tuple #[.int .i64 ((low F z : Nat) : Int), .bool (decide (hasB F z = true))]) (x_move rfl) ?_
  refine st_q (v := .int .i64 ((low F z : Nat) : Int)) (x_extract rfl rfl) ?_
  refine st_q (v := .bool (decide (hasB F z = true))) (x_extract rfl rfl) ?_
  refine st_q (v := .int .i64 ((low F z : Nat) : Int)) (x_assign rfl) ?_
  refine st_q (v := .bool (decide (hasB F z = true))) (x_assign rfl) ?_
  refine st_nil ?_
  refine kn42 _ _ ?_
  refine seqK fun Q53 kn54 kr55 ke56 => ?_
  refine region ?_
  refine st_q (v := .slice a25 F.length c26) (x_move rfl) ?_
  refine st_q (v := .agg #[.int .i64 z.1, .int .i64 z.2]) (x_loadA [.int .i64 z.1, .int .i64 z.2] T.ag31 rfl (hB47.cells 0 [.int .i64 z.1, .int .i64 z.2] (cells_at rfl))) ?_
  refine st_c (t_call [.slice a25 F.length c26, .agg #[.int .i64 z.1, .int .i64 z.2]] T.cf21 rfl rfl) (reffind21 F z _ _ hF48.src) ?_
  rintro _ w57 ⟨he, hx58⟩
  rw [b_dec (hasB F z)] at he
  subst he
  refine ⟨_, rfl, ?_⟩
  have hB59 := hB47.ext hx58
  have hF60 := hF48.ext hx58
  have hF61 := hF49.ext hx58
  have hE62 : Below w0.heap.size w0 w57 := hx58.e hE50 (Nat.le_refl _)
  have hz63 := hE62.le
  have hs64 := hx58.size
  refine st_q (v := .tuple #[.int .i64 ((low F z : Nat) : Int), .bool (decide (hasB F z = true))]) (x_move rfl) ?_
  refine st_q (v := .int .i64 ((low F z : Nat) : Int)) (x_extract rfl rfl) ?_
  refine st_q (v := .bool (decide (hasB F z = true))) (x_extract rfl rfl) ?_
  refine st_q (v := .int .i64 ((low F z : Nat) : Int)) (x_assign rfl) ?_
  refine st_q (v := .bool (decide (hasB F z = true))) (x_assign rfl) ?_
  refine st_nil ?_
  refine kn54 _ _ ?_
  refine seqK fun Q65 kn66 kr67 ke68 => ?_
  refine region ?_
  refine st_q (v := .slice la F.length cl) (x_move rfl) ?_
  refine st_q (v := .agg #[.int .i64 z.1, .int .i64 z.2]) (x_loadA [.int .i64 z.1, .int .i64 z.2] T.ag31 rfl (hB59.cells 0 [.int .i64 z.1, .int .i64 z.2] (cells_at rfl))) ?_
  refine st_c (t_call [.slice la F.length cl, .agg #[.int .i64 z.1, .int .i64 z.2], .nilFunc] T.cf19 rfl rfl) (find19 68 c0 T.cf68 cmp68 .nilFunc told68 F z _ _ (lend_srcT hF61) (by omega) (fun _ _ _ _ h => absurd h (by simp [c0]))) ?_
  rintro _ w69 ⟨p, he, hx70, q1, q2, q3⟩
  obtain rfl : p = 0 := Nat.eq_zero_of_not_pos fun h => absurd (q2 0 h) (by simp [c0])
  rw [show decide (0 < F.length ∧ c0 (el F 0) z = 0) = decide (0 < xs.length) from decide_eq_decide.2 ⟨fun h => hFl ▸ h.1, fun h => ⟨hFl ▸ h, rfl⟩⟩] at he
  subst he
  refine ⟨_, rfl, ?_⟩
  have hB71 := hB59.ext hx70
  have hF72 := hF60.ext hx70
  have hF73 := hF61.ext hx70
  have hE74 : Below w0.heap.size w0 w69 := hx70.e hE62 (Nat.le_refl _)
  have hz75 := hE74.le
  have hs76 := hx70.size
  refine st_q (v := .tuple #[.int .i64 ((0 : Nat) : Int), .bool (decide (0 < xs.length))]) (x_move rfl) ?_
  refine st_q (v := .int .i64 ((0 : Nat) : Int)) (x_extract rfl rfl) ?_
  refine st_q (v := .bool (decide (0 < xs.length))) (x_extract rfl rfl) ?_
  refine st_q (v := .int .i64 ((0 : Nat) : Int)) (x_assign rfl) ?_
  refine st_q (v := .bool (decide (0 < xs.length))) (x_assign rfl) ?_
  refine st_nil ?_
  refine kn66 _ _ ?_
  refine seqK fun Q77 kn78 kr79 ke80 => ?_
  refine region ?_
  refine st_q (v := .int .i64 ((low F z : Nat) : Int)) (x_move rfl) ?_
  refine st_q (v := .int .i64 ((low F z : Nat) : Int)) (x_move rfl) ?_
  refine st_q (v := .bool (decide ((low F z) = (low F z)))) (x_eqlN rfl rfl) ?_
  refine st_if (p := (low F z) = (low F z)) (x_move rfl) (fun h81 => ?_) (fun h81 => ?_)
  ·
    refine st_gq 3 38 rfl rfl (by decide) ?_
    refine st_q (v := .bool (decide (hasB F z = true))) (x_move rfl) ?_
    refine st_gq 3 38 rfl rfl (by decide) ?_
    refine st_q (v := .bool (decide (hasB F z = true))) (x_move rfl) ?_
    refine st_gq 3 38 rfl rfl (by decide) ?_
    refine st_q (v := .bool (decide ((hasB F z = true) ↔ (hasB F z = true)))) (x_eqlB Try.underlying4 rfl rfl) ?_
    refine st_q (v := .bool (decide ((hasB F z = true) ↔ (hasB F z = true)))) (x_pickT rfl rfl) ?_
    refine st_if (p := (hasB F z = true) ↔ (hasB F z = true)) (x_move rfl) (fun h82 => ?_) (fun h82 => ?_)
    ·
      refine st_gq 8 43 rfl rfl (by decide) ?_
      refine st_q (v := .int .i64 ((0 : Nat) : Int)) (x_move rfl) ?_
      refine st_gq 8 43 rfl rfl (by decide) ?_
      refine st_q (v := .bool (decide (0 = 0))) (x_eqlN rfl rfl) ?_
      refine st_q (v := .bool (decide (0 = 0))) (x_pickT rfl rfl) ?_
      refine st_if (p := 0 = 0) (x_move rfl) (fun h83 => ?_) (fun h83 => ?_)
      ·
        refine st_gq 12 47 rfl rfl (by decide) ?_
        refine st_q (v := .bool (decide (0 < xs.length))) (x_move rfl) ?_
        refine st_gq 12 47 rfl rfl (by decide) ?_
        refine st_q (v := .slice a xs.length ca) (x_move rfl) ?_
        refine st_gq 12 47 rfl rfl (by decide) ?_
        refine st_q (v := .int .i64 ((xs.length : Nat) : Int)) (x_lenSl rfl Try.underlying29 rfl) ?_
        refine st_gq 12 47 rfl rfl (by decide) ?_
        refine st_q (v := .bool (decide (0 < xs.length))) (x_gtrN rfl rfl) ?_
        refine st_gq 12 47 rfl rfl (by decide) ?_
        refine st_q (v := .bool (decide ((0 < xs.length) ↔ (0 < xs.length)))) (x_eqlB Try.underlying4 rfl rfl) ?_
        refine st_q (v := .bool (decide ((0 < xs.length) ↔ (0 < xs.length)))) (x_pickT rfl rfl) ?_
        refine st_if (p := (0 < xs.length) ↔ (0 < xs.length)) (x_move rfl) (fun h84 => ?_) (fun h84 => ?_)
        ·
          refine st_gq 19 54 rfl rfl (by decide) ?_
          refine st_q (v := .slice la F.length cl) (x_move rfl) ?_
          refine st_gq 19 54 rfl rfl (by decide) ?_
          refine st_q (v := .slice a25 F.length c26) (x_move rfl) ?_
          refine st_gq 19 54 rfl rfl (by decide) ?_
          refine st_c (t_call [.slice la F.length cl, .slice a25 F.length c26] T.cf22 rfl rfl) (kept22 F _ _ _ _ hF73.src hF72.src (by omega)) ?_
          rintro _ w85 ⟨rfl, hx86⟩
          refine ⟨_, rfl, ?_⟩
          have hB87 := hB71.ext hx86
          have hF88 := hF72.ext hx86
          have hF89 := hF73.ext hx86
          have hE90 : Below w0.heap.size w0 w85 := hx86.e hE74 (Nat.le_refl _)
          have hz91 := hE90.le
          have hs92 := hx86.size
          refine st_q (v := .bool true) (x_pickT rfl rfl) ?_
          refine st_q (v := .bool true) (x_move rfl) ?_
          refine st_gq 24 59 rfl rfl (by decide) ?_
          refine st_c (t_call [] T.cf16 rfl rfl) (works16 _) ?_
          rintro _ w93 ⟨rfl, hx94⟩
          refine ⟨_, rfl, ?_⟩
          have hB95 := hB87.ext hx94
          have hF96 := hF88.ext hx94
          have hF97 := hF89.ext hx94
          have hE98 : Below w0.heap.size w0 w93 := hx94.e hE90 (Nat.le_refl _)
          have hz99 := hE98.le
          have hs100 := hx94.size
          refine st_q (v := .bool true) (x_pickT rfl rfl) ?_
          refine st_q (v := .bool true) (x_assign rfl) ?_
          refine st_nil ?_
          refine kn78 _ _ ?_
          refine ret ?_
          refine leave1 (P := Try.prog) (fn := Try.f4) (t := 4) (v := .bool true) rfl rfl ?_
          exact ⟨rfl, hE98⟩
        ·
          exact absurd h84 (not_not_intro Iff.rfl)
      ·
        exact absurd h83 (by omega)
    ·
      exact absurd h82 (not_not_intro Iff.rfl)
  ·
    exact absurd h81 (by omega)

end Go.Proofs.Ytgfolockecjlnaa
