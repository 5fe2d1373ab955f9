import Derived.Test.YtgfolockecjlnaaApart
import Derived.Test.YtgfolockecjlnaaRows1
namespace Go.Proofs.Ytgfolockecjlnaa
open Go.RowKit Go.Eng Go.OrdPure Go.HeapPure
theorem T.cf31 : CF Try.prog 31 := fun _ _ => by kernel_rfl
theorem T.cf32 : CF Try.prog 32 := fun _ _ => by kernel_rfl
theorem T.cf33 : CF Try.prog 33 := fun _ _ => by kernel_rfl
theorem T.cf35 : CF Try.prog 35 := fun _ _ => by kernel_rfl
theorem T.cf36 : CF Try.prog 36 := fun _ _ => by kernel_rfl

theorem risesnil (xs : List (Int × Int)) (vl : Value) (w0 : World) (hl : Src w0.heap vl xs.length 2 (flat enT xs)) : Calls Try.prog 32 #[vl, .nilFunc] w0 fun e w' => e = .returned (.bool true) ∧ Ext w0 w' :=
  (sorted32 68 c0 T.cf68 cmp68 .nilFunc told68 xs vl w0 hl).mono fun e w' h => by rw [rises_c0] at h; exact h
set_option maxHeartbeats 4000000 in
theorem ordersorts6 (xs : List (Int × Int)) (vl : Value) (w0 : World) (hl : Src w0.heap vl xs.length 2 (flat enT xs)) (hn : xs.length ≤ 8796093021952) : Calls Try.prog 6 #[vl] w0 fun e w' => e = .returned (.bool true) ∧ Ext w0 w' := by
  have hE0 : Below w0.heap.size w0 w0 := Below.refl _ _
  have hz0 := hE0.le
  obtain ⟨a, ca, rfl, hca, hca1⟩ := hl.form
  obtain ⟨A, hA⟩ : ∃ A, A = srt byc xs := ⟨_, rfl⟩
  have hAl : A.length = xs.length := by rw [hA, srt_length]
  have hAA : srt byc A = A := by rw [hA, srt_srt]
  have hAr : risesB byc A = true := by rw [hA, rises_srt]
  obtain ⟨D, hD⟩ : ∃ D, D = ddL byc A := ⟨_, rfl⟩
  have hDl : D.length ≤ A.length := by rw [hD]; exact ddL_len A
  have ht1 : (xs.take 1).length = min 1 xs.length := List.length_take
  refine enter Try.func6 rfl 153 Try.ntmps6 rfl ?_
  refine seqK fun Q1 kn2 kr3 ke4 => ?_
  refine region ?_
  refine st_q (v := .bool false) (x_assign rfl) ?_
  refine st_nil ?_
  refine kn2 _ _ ?_
  refine seqK fun Q5 kn6 kr7 ke8 => ?_
  refine region ?_
  refine st_q (v := .slice a xs.length ca) (x_move rfl) ?_
  refine st_c (t_call [.slice a xs.length ca] T.cf18 rfl rfl) (lend18 xs _ _ (hl.below hE0) (by omega)) ?_
  rintro _ w9 ⟨la, cl, rfl, hx10, hcl, hO11, hcl1⟩
  obtain ⟨bx, cx, hvx, _, hOx⟩ := hO11.ob (fun e => by have := (Value.slice.inj e).2.1; omega)
  obtain ⟨hla, _, hcx⟩ := Value.slice.inj hvx
  subst hla
  rw [← hcx] at hOx
  clear hvx hcx
  refine ⟨_, rfl, ?_⟩
  have hE12 : Below w0.heap.size w0 w9 := hx10.e hE0 (Nat.le_refl _)
  have hz13 := hE12.le
  have hs14 := hx10.size
  obtain ⟨lo, hlo, hlo2⟩ : ∃ lo, lo = w9.heap.size ∧ w0.heap.size ≤ lo := ⟨_, rfl, by omega⟩
  have hbx : bx < lo := by have := hOx.lt; omega
  have hl15 := hOx.lo
  have hl16 := hOx.lt
  have hcz17 : w0.heap.size ≤ lo := by omega
  have hcz18 : lo ≤ w9.heap.size := by omega
  clear hz13 hs14
  refine st_q (v := .slice ((some ⟨bx, 0, none⟩)) xs.length cl) (x_assign rfl) ?_
  refine st_nil ?_
  refine kn6 _ _ ?_
  refine seqK fun Q19 kn20 kr21 ke22 => ?_
  refine region ?_
  refine st_q (v := .slice ((some ⟨bx, 0, none⟩)) xs.length cl) (x_move rfl) ?_
  refine st_c (t_call [.slice ((some ⟨bx, 0, none⟩)) xs.length cl, .func (.func 20) #[] #[]] T.cf30 rfl rfl) (sort30 20 byc T.cf20 cmp20 byc_law (.func (.func 20) #[] #[]) told20 xs _ _ (OB.srcN (Y := xs) hOx (by omega)) (by omega)) ?_
  rintro _ w23 ⟨v25, rfl, hx24, hO26⟩
  rw [← hA, ← hAl] at hO26
  refine ⟨_, rfl, ?_⟩
  have hd27 : ∀ k, Value.ownBlock v25 = some k → w9.heap.size ≤ k ∧ k < w23.heap.size := fun k e => hO26.lt e
  have hF28 := hOx.ext hx24
  have hE29 : Below w0.heap.size w0 w23 := hx24.e hE12 (Nat.le_refl _)
  have hz30 := hE29.le
  have hs31 := hx24.size
  have hO32 := hO26.weak (lo' := lo) (by omega)
  obtain ⟨a33, c34, rfl, hm35, hm36⟩ := hO32.src.form
  have hcz37 : w0.heap.size ≤ lo := by omega
  have hcz38 : lo ≤ w9.heap.size := by omega
  have hcz39 : w9.heap.size ≤ w23.heap.size := by omega
  clear hcz17 hcz18 hz30 hs31 hm36 hm35
  refine st_q (v := .slice a33 A.length c34) (x_assign rfl) ?_
  refine st_nil ?_
  refine kn20 _ _ ?_
  refine seqK fun Q40 kn41 kr42 ke43 => ?_
  refine region ?_
  refine st_q (v := .slice ((some ⟨bx, 0, none⟩)) xs.length cl) (x_move rfl) ?_
  refine st_c (t_call [.slice ((some ⟨bx, 0, none⟩)) xs.length cl, .func (.func 20) #[] #[]] T.cf30 rfl rfl) (sort30 20 byc T.cf20 cmp20 byc_law (.func (.func 20) #[] #[]) told20 xs _ _ (OB.srcN (Y := xs) hF28 (by omega)) (by omega)) ?_
  rintro _ w44 ⟨v46, rfl, hx45, hO47⟩
  rw [← hA, ← hAl] at hO47
  refine ⟨_, rfl, ?_⟩
  have hd48 : ∀ k, Value.ownBlock v46 = some k → w23.heap.size ≤ k ∧ k < w44.heap.size := fun k e => hO47.lt e
  have hF49 := hF28.ext hx45
  have hF50 := hO32.ext hx45
  have hE51 : Below w0.heap.size w0 w44 := hx45.e hE29 (Nat.le_refl _)
  have hz52 := hE51.le
  have hs53 := hx45.size
  have hO54 := hO47.weak (lo' := lo) (by omega)
  obtain ⟨a55, c56, rfl, hm57, hm58⟩ := hO54.src.form
  have hcz59 : w0.heap.size ≤ lo := by omega
  have hcz60 : lo ≤ w9.heap.size := by omega
  have hcz61 : w9.heap.size ≤ w23.heap.size := by omega
  have hcz62 : w23.heap.size ≤ w44.heap.size := by omega
  clear hcz37 hcz38 hcz39 hz52 hs53 hm58 hm57
  refine st_q (v := .slice a55 A.length c56) (x_assign rfl) ?_
  refine st_nil ?_
  refine kn41 _ _ ?_
  refine seqK fun Q63 kn64 kr65 ke66 => ?_
  refine region ?_
  refine st_q (v := .slice ((some ⟨bx, 0, none⟩)) xs.length cl) (x_move rfl) ?_
  refine st_c (t_call [.slice ((some ⟨bx, 0, none⟩)) xs.length cl, .func (.func 20) #[] #[]] T.cf31 rfl rfl) (set31 20 byc T.cf20 cmp20 byc_law (.func (.func 20) #[] #[]) told20 xs _ _ (OB.srcN (Y := xs) hF49 (by omega)) (by omega)) ?_
  rintro _ w67 ⟨v69, rfl, hx68, hO70⟩
  rw [← hA, ← hD] at hO70
  refine ⟨_, rfl, ?_⟩
  have hd71 : ∀ k, Value.ownBlock v69 = some k → w44.heap.size ≤ k ∧ k < w67.heap.size := fun k e => hO70.lt e
  have hF72 := hF49.ext hx68
  have hF73 := hF50.ext hx68
  have hF74 := hO54.ext hx68
  have hE75 : Below w0.heap.size w0 w67 := hx68.e hE51 (Nat.le_refl _)
  have hz76 := hE75.le
  have hs77 := hx68.size
  have hO78 := hO70.weak (lo' := lo) (by omega)
  obtain ⟨a79, c80, rfl, hm81, hm82⟩ := hO78.src.form
  have hcz83 : w0.heap.size ≤ lo := by omega
  have hcz84 : lo ≤ w9.heap.size := by omega
  have hcz85 : w9.heap.size ≤ w23.heap.size := by omega
  have hcz86 : w23.heap.size ≤ w44.heap.size := by omega
  have hcz87 : w44.heap.size ≤ w67.heap.size := by omega
  clear hcz59 hcz60 hcz61 hcz62 hz76 hs77 hm82 hm81
  refine st_q (v := .slice a79 D.length c80) (x_assign rfl) ?_
  refine st_nil ?_
  refine kn64 _ _ ?_
  refine seqK fun Q88 kn89 kr90 ke91 => ?_
  refine region ?_
  refine st_q (v := .slice ((some ⟨bx, 0, none⟩)) xs.length cl) (x_move rfl) ?_
  refine st_c (t_call [.slice ((some ⟨bx, 0, none⟩)) xs.length cl, .func (.func 20) #[] #[]] T.cf31 rfl rfl) (set31 20 byc T.cf20 cmp20 byc_law (.func (.func 20) #[] #[]) told20 xs _ _ (OB.srcN (Y := xs) hF72 (by omega)) (by omega)) ?_
  rintro _ w92 ⟨v94, rfl, hx93, hO95⟩
  rw [← hA, ← hD] at hO95
  refine ⟨_, rfl, ?_⟩
  have hd96 : ∀ k, Value.ownBlock v94 = some k → w67.heap.size ≤ k ∧ k < w92.heap.size := fun k e => hO95.lt e
  have hF97 := hF72.ext hx93
  have hF98 := hF73.ext hx93
  have hF99 := hF74.ext hx93
  have hF100 := hO78.ext hx93
  have hE101 : Below w0.heap.size w0 w92 := hx93.e hE75 (Nat.le_refl _)
  have hz102 := hE101.le
  have hs103 := hx93.size
  have hO104 := hO95.weak (lo' := lo) (by omega)
  obtain ⟨a105, c106, rfl, hm107, hm108⟩ := hO104.src.form
  have hcz109 : w0.heap.size ≤ lo := by omega
  have hcz110 : lo ≤ w9.heap.size := by omega
  have hcz111 : w9.heap.size ≤ w23.heap.size := by omega
  have hcz112 : w23.heap.size ≤ w44.heap.size := by omega
  have hcz113 : w44.heap.size ≤ w67.heap.size := by omega
  have hcz114 : w67.heap.size ≤ w92.heap.size := by omega
  clear hcz83 hcz84 hcz85 hcz86 hcz87 hz102 hs103 hm108 hm107
  refine st_q (v := .slice a105 D.length c106) (x_assign rfl) ?_
  refine st_nil ?_
  refine kn89 _ _ ?_
  refine seqK fun Q115 kn116 kr117 ke118 => ?_
  refine seqK fun Q119 kn120 kr121 ke122 => ?_
  refine region ?_
  refine st_q (v := .slice ((some ⟨bx, 0, none⟩)) xs.length cl) (x_move rfl) ?_
  refine st_c (t_call [.slice ((some ⟨bx, 0, none⟩)) xs.length cl, .func (.func 20) #[] #[]] T.cf32 rfl rfl) (sorted32 20 byc T.cf20 cmp20 (.func (.func 20) #[] #[]) told20 xs _ _ (OB.srcN (Y := xs) hF97 (by omega))) ?_
  rintro _ w123 ⟨he, hx124⟩
  rw [b_dec (risesB byc xs)] at he
  subst he
  refine ⟨_, rfl, ?_⟩
  have hF125 := hF97.ext hx124
  have hF126 := hF98.ext hx124
  have hF127 := hF99.ext hx124
  have hF128 := hF100.ext hx124
  have hF129 := hO104.ext hx124
  have hE130 : Below w0.heap.size w0 w123 := hx124.e hE101 (Nat.le_refl _)
  have hz131 := hE130.le
  have hs132 := hx124.size
  refine st_q (v := .slice a xs.length ca) (x_move rfl) ?_
  refine st_c (t_call [.slice a xs.length ca] T.cf33 rfl rfl) (refsorted33 xs _ _ (hl.below hE130)) ?_
  rintro _ w133 ⟨he, hx134⟩
  rw [b_dec (risesB byc xs)] at he
  subst he
  refine ⟨_, rfl, ?_⟩
  have hF135 := hF125.ext hx134
  have hF136 := hF126.ext hx134
  have hF137 := hF127.ext hx134
  have hF138 := hF128.ext hx134
  have hF139 := hF129.ext hx134
  have hE140 : Below w0.heap.size w0 w133 := hx134.e hE130 (Nat.le_refl _)
  have hz141 := hE140.le
  have hs142 := hx134.size
  refine st_q (v := .bool (decide (¬ ((risesB byc xs = true) ↔ (risesB byc xs = true))))) (x_neqB Try.underlying4 rfl rfl) ?_
  refine st_if (p := ¬ ((risesB byc xs = true) ↔ (risesB byc xs = true))) (x_move rfl) (fun h143 => ?_) (fun h143 => ?_)
  ·
    exact absurd h143 (not_not_intro Iff.rfl)
  ·
    clear h143
    refine st_gq 5 27 rfl rfl (by decide) ?_
    refine st_q (v := .slice a33 A.length c34) (x_move rfl) ?_
    refine st_gq 5 27 rfl rfl (by decide) ?_
    refine st_q (v := .slice a xs.length ca) (x_move rfl) ?_
    refine st_gq 5 27 rfl rfl (by decide) ?_
    refine st_c (t_call [.slice a xs.length ca] T.cf17 rfl rfl) (refsort17 xs _ _ (hl.below hE140) (by omega)) ?_
    rintro _ w144 ⟨v146, rfl, hx145, hO147⟩
    rw [← hA, ← hAl] at hO147
    refine ⟨_, rfl, ?_⟩
    have hd148 : ∀ k, Value.ownBlock v146 = some k → w133.heap.size ≤ k ∧ k < w144.heap.size := fun k e => hO147.lt e
    have hF149 := hF135.ext hx145
    have hF150 := hF136.ext hx145
    have hF151 := hF137.ext hx145
    have hF152 := hF138.ext hx145
    have hF153 := hF139.ext hx145
    have hE154 : Below w0.heap.size w0 w144 := hx145.e hE140 (Nat.le_refl _)
    have hz155 := hE154.le
    have hs156 := hx145.size
    have hO157 := hO147.weak (lo' := lo) (by omega)
    obtain ⟨a158, c159, rfl, hm160, hm161⟩ := hO157.src.form
    have hcz162 : w0.heap.size ≤ lo := by omega
    have hcz163 : lo ≤ w9.heap.size := by omega
    have hcz164 : w9.heap.size ≤ w23.heap.size := by omega
    have hcz165 : w23.heap.size ≤ w44.heap.size := by omega
    have hcz166 : w44.heap.size ≤ w67.heap.size := by omega
    have hcz167 : w67.heap.size ≤ w92.heap.size := by omega
    have hcz168 : w92.heap.size ≤ w144.heap.size := by omega
    clear hcz109 hcz110 hcz111 hcz112 hcz113 hcz114 hz131 hs132 hz141 hs142 hz155 hs156 hm161 hm160
    refine st_gq 5 27 rfl rfl (by decide) ?_
    refine st_c (t_call [.slice a33 A.length c34, .slice a158 A.length c159] T.cf34 rfl rfl) (same A A _ _ _ hF150.src hO157.src) ?_
    rintro _ w169 ⟨rfl, hx170⟩
    refine ⟨_, rfl, ?_⟩
    have hF171 := hF149.ext hx170
    have hF172 := hF150.ext hx170
    have hF173 := hF151.ext hx170
    have hF174 := hF152.ext hx170
    have hF175 := hF153.ext hx170
    have hF176 := hO157.ext hx170
    have hE177 : Below w0.heap.size w0 w169 := hx170.e hE154 (Nat.le_refl _)
    have hz178 := hE177.le
    have hs179 := hx170.size
    refine st_gq 5 27 rfl rfl (by decide) ?_
    refine st_q (v := .bool (decide (¬ (A = A)))) (x_notP rfl) ?_
    refine st_q (v := .bool (decide (¬ (A = A)))) (x_pickF rfl rfl) ?_
    refine st_if (p := ¬ (A = A)) (x_move rfl) (fun h180 => ?_) (fun h180 => ?_)
    ·
      exact absurd h180 (not_not_intro rfl)
    ·
      clear h180
      refine st_gq 12 34 rfl rfl (by decide) ?_
      refine st_q (v := .slice a55 A.length c56) (x_move rfl) ?_
      refine st_gq 12 34 rfl rfl (by decide) ?_
      refine st_q (v := .slice a33 A.length c34) (x_move rfl) ?_
      refine st_gq 12 34 rfl rfl (by decide) ?_
      refine st_c (t_call [.slice a55 A.length c56, .slice a33 A.length c34] T.cf34 rfl rfl) (same A A _ _ _ hF173.src hF172.src) ?_
      rintro _ w181 ⟨rfl, hx182⟩
      refine ⟨_, rfl, ?_⟩
      have hF183 := hF171.ext hx182
      have hF184 := hF172.ext hx182
      have hF185 := hF173.ext hx182
      have hF186 := hF174.ext hx182
      have hF187 := hF175.ext hx182
      have hF188 := hF176.ext hx182
      have hE189 : Below w0.heap.size w0 w181 := hx182.e hE177 (Nat.le_refl _)
      have hz190 := hE189.le
      have hs191 := hx182.size
      refine st_gq 12 34 rfl rfl (by decide) ?_
      refine st_q (v := .bool (decide (¬ (A = A)))) (x_notP rfl) ?_
      refine st_q (v := .bool (decide (¬ (A = A)))) (x_pickF rfl rfl) ?_
      refine st_if (p := ¬ (A = A)) (x_move rfl) (fun h192 => ?_) (fun h192 => ?_)
      ·
        exact absurd h192 (not_not_intro rfl)
      ·
        clear h192
        refine st_gq 18 40 rfl rfl (by decide) ?_
        refine st_q (v := .slice a79 D.length c80) (x_move rfl) ?_
        refine st_gq 18 40 rfl rfl (by decide) ?_
        refine st_q (v := .slice a xs.length ca) (x_move rfl) ?_
        refine st_gq 18 40 rfl rfl (by decide) ?_
        refine st_c (t_call [.slice a xs.length ca] T.cf35 rfl rfl) (refset35 xs _ _ (hl.below hE189) (by omega)) ?_
        rintro _ w193 ⟨v195, rfl, hx194, hO196⟩
        rw [← hA, ← hD] at hO196
        refine ⟨_, rfl, ?_⟩
        have hd197 : ∀ k, Value.ownBlock v195 = some k → w181.heap.size ≤ k ∧ k < w193.heap.size := fun k e => hO196.lt e
        have hF198 := hF183.ext hx194
        have hF199 := hF184.ext hx194
        have hF200 := hF185.ext hx194
        have hF201 := hF186.ext hx194
        have hF202 := hF187.ext hx194
        have hF203 := hF188.ext hx194
        have hE204 : Below w0.heap.size w0 w193 := hx194.e hE189 (Nat.le_refl _)
        have hz205 := hE204.le
        have hs206 := hx194.size
        have hO207 := hO196.weak (lo' := lo) (by omega)
        obtain ⟨a208, c209, rfl, hm210, hm211⟩ := hO207.src.form
        have hcz212 : w0.heap.size ≤ lo := by omega
        have hcz213 : lo ≤ w9.heap.size := by omega
        have hcz214 : w9.heap.size ≤ w23.heap.size := by omega
        have hcz215 : w23.heap.size ≤ w44.heap.size := by omega
        have hcz216 : w44.heap.size ≤ w67.heap.size := by omega
        have hcz217 : w67.heap.size ≤ w92.heap.size := by omega
        have hcz218 : w92.heap.size ≤ w193.heap.size := by omega
        clear hcz162 hcz163 hcz164 hcz165 hcz166 hcz167 hcz168 hz178 hs179 hz190 hs191 hz205 hs206 hm211 hm210
        refine st_gq 18 40 rfl rfl (by decide) ?_
        refine st_c (t_call [.slice a79 D.length c80, .slice a208 D.length c209] T.cf34 rfl rfl) (same D D _ _ _ hF201.src hO207.src) ?_
        rintro _ w219 ⟨rfl, hx220⟩
        refine ⟨_, rfl, ?_⟩
        have hF221 := hF198.ext hx220
        have hF222 := hF199.ext hx220
        have hF223 := hF200.ext hx220
        have hF224 := hF201.ext hx220
        have hF225 := hF202.ext hx220
        have hF226 := hF203.ext hx220
        have hF227 := hO207.ext hx220
        have hE228 : Below w0.heap.size w0 w219 := hx220.e hE204 (Nat.le_refl _)
        have hz229 := hE228.le
        have hs230 := hx220.size
        refine st_gq 18 40 rfl rfl (by decide) ?_
        refine st_q (v := .bool (decide (¬ (D = D)))) (x_notP rfl) ?_
        refine st_q (v := .bool (decide (¬ (D = D)))) (x_pickF rfl rfl) ?_
        refine st_if (p := ¬ (D = D)) (x_move rfl) (fun h231 => ?_) (fun h231 => ?_)
        ·
          exact absurd h231 (not_not_intro rfl)
        ·
          clear h231
          refine st_gq 25 47 rfl rfl (by decide) ?_
          refine st_q (v := .slice a105 D.length c106) (x_move rfl) ?_
          refine st_gq 25 47 rfl rfl (by decide) ?_
          refine st_q (v := .slice a79 D.length c80) (x_move rfl) ?_
          refine st_gq 25 47 rfl rfl (by decide) ?_
          refine st_c (t_call [.slice a105 D.length c106, .slice a79 D.length c80] T.cf34 rfl rfl) (same D D _ _ _ hF225.src hF224.src) ?_
          rintro _ w232 ⟨rfl, hx233⟩
          refine ⟨_, rfl, ?_⟩
          have hF234 := hF221.ext hx233
          have hF235 := hF222.ext hx233
          have hF236 := hF223.ext hx233
          have hF237 := hF224.ext hx233
          have hF238 := hF225.ext hx233
          have hF239 := hF226.ext hx233
          have hF240 := hF227.ext hx233
          have hE241 : Below w0.heap.size w0 w232 := hx233.e hE228 (Nat.le_refl _)
          have hz242 := hE241.le
          have hs243 := hx233.size
          refine st_gq 25 47 rfl rfl (by decide) ?_
          refine st_q (v := .bool (decide (¬ (D = D)))) (x_notP rfl) ?_
          refine st_q (v := .bool (decide (¬ (D = D)))) (x_pickF rfl rfl) ?_
          refine st_if (p := ¬ (D = D)) (x_move rfl) (fun h244 => ?_) (fun h244 => ?_)
          ·
            exact absurd h244 (not_not_intro rfl)
          ·
            clear h244
            refine st_gq 31 53 rfl rfl (by decide) ?_
            refine st_q (v := .slice ((some ⟨bx, 0, none⟩)) xs.length cl) (x_move rfl) ?_
            refine st_gq 31 53 rfl rfl (by decide) ?_
            refine st_q (v := .slice a xs.length ca) (x_move rfl) ?_
            refine st_gq 31 53 rfl rfl (by decide) ?_
            refine st_c (t_call [.slice ((some ⟨bx, 0, none⟩)) xs.length cl, .slice a xs.length ca] T.cf22 rfl rfl) (kept22 xs _ _ _ _ (OB.srcA hF234 (by omega) (by simp)) (hl.below hE241) (by omega)) ?_
            rintro _ w245 ⟨rfl, hx246⟩
            refine ⟨_, rfl, ?_⟩
            have hF247 := hF234.ext hx246
            have hF248 := hF235.ext hx246
            have hF249 := hF236.ext hx246
            have hF250 := hF237.ext hx246
            have hF251 := hF238.ext hx246
            have hF252 := hF239.ext hx246
            have hF253 := hF240.ext hx246
            have hE254 : Below w0.heap.size w0 w245 := hx246.e hE241 (Nat.le_refl _)
            have hz255 := hE254.le
            have hs256 := hx246.size
            refine st_gq 31 53 rfl rfl (by decide) ?_
            refine st_q (v := .bool false) (x_notB (b := true) rfl) ?_
            refine st_q (v := .bool false) (x_pickF rfl rfl) ?_
            refine st_nil ?_
            refine kn120 _ _ ?_
            refine cndF rfl ?_
            refine skip ?_
            refine kn116 _ _ ?_
            refine seqK fun Q257 kn258 kr259 ke260 => ?_
            refine seqK fun Q261 kn262 kr263 ke264 => ?_
            refine region ?_
            refine st_q (v := .slice a33 A.length c34) (x_move rfl) ?_
            refine st_c (t_call [.slice a33 A.length c34, .func (.func 20) #[] #[]] T.cf32 rfl rfl) (sorted32 20 byc T.cf20 cmp20 (.func (.func 20) #[] #[]) told20 A _ _ hF248.src) ?_
            rintro _ w265 ⟨he, hx266⟩
            rw [b_dec (risesB byc A)] at he
            subst he
            refine ⟨_, rfl, ?_⟩
            have hF267 := hF247.ext hx266
            have hF268 := hF248.ext hx266
            have hF269 := hF249.ext hx266
            have hF270 := hF250.ext hx266
            have hF271 := hF251.ext hx266
            have hF272 := hF252.ext hx266
            have hF273 := hF253.ext hx266
            have hE274 : Below w0.heap.size w0 w265 := hx266.e hE254 (Nat.le_refl _)
            have hz275 := hE274.le
            have hs276 := hx266.size
            refine st_q (v := .bool (decide (¬ (risesB byc A = true)))) (x_notP rfl) ?_
            refine st_if (p := ¬ (risesB byc A = true)) (x_move rfl) (fun h277 => ?_) (fun h277 => ?_)
            ·
              exact absurd h277 (not_not_intro hAr)
            ·
              clear h277
              refine st_gq 3 62 rfl rfl (by decide) ?_
              refine st_q (v := .slice a33 A.length c34) (x_move rfl) ?_
              refine st_gq 3 62 rfl rfl (by decide) ?_
              refine st_c (t_call [.slice a33 A.length c34, .func (.func 20) #[] #[]] T.cf30 rfl rfl) (sort30 20 byc T.cf20 cmp20 byc_law (.func (.func 20) #[] #[]) told20 A _ _ hF268.src (by omega)) ?_
              rintro _ w278 ⟨v280, rfl, hx279, hO281⟩
              rw [hAA] at hO281
              refine ⟨_, rfl, ?_⟩
              have hd282 : ∀ k, Value.ownBlock v280 = some k → w265.heap.size ≤ k ∧ k < w278.heap.size := fun k e => hO281.lt e
              have hF283 := hF267.ext hx279
              have hF284 := hF268.ext hx279
              have hF285 := hF269.ext hx279
              have hF286 := hF270.ext hx279
              have hF287 := hF271.ext hx279
              have hF288 := hF272.ext hx279
              have hF289 := hF273.ext hx279
              have hE290 : Below w0.heap.size w0 w278 := hx279.e hE274 (Nat.le_refl _)
              have hz291 := hE290.le
              have hs292 := hx279.size
              have hO293 := hO281.weak (lo' := lo) (by omega)
              obtain ⟨a294, c295, rfl, hm296, hm297⟩ := hO293.src.form
              have hcz298 : w0.heap.size ≤ lo := by omega
              have hcz299 : lo ≤ w9.heap.size := by omega
              have hcz300 : w9.heap.size ≤ w23.heap.size := by omega
              have hcz301 : w23.heap.size ≤ w44.heap.size := by omega
              have hcz302 : w44.heap.size ≤ w67.heap.size := by omega
              have hcz303 : w67.heap.size ≤ w92.heap.size := by omega
              have hcz304 : w92.heap.size ≤ w278.heap.size := by omega
              clear hcz212 hcz213 hcz214 hcz215 hcz216 hcz217 hcz218 hz229 hs230 hz242 hs243 hz255 hs256 hz275 hs276 hz291 hs292 hm297 hm296
              refine st_gq 3 62 rfl rfl (by decide) ?_
              refine st_q (v := .slice a33 A.length c34) (x_move rfl) ?_
              refine st_gq 3 62 rfl rfl (by decide) ?_
              refine st_c (t_call [.slice a294 A.length c295, .slice a33 A.length c34] T.cf34 rfl rfl) (same A A _ _ _ hO293.src hF284.src) ?_
              rintro _ w305 ⟨rfl, hx306⟩
              refine ⟨_, rfl, ?_⟩
              have hF307 := hF283.ext hx306
              have hF308 := hF284.ext hx306
              have hF309 := hF285.ext hx306
              have hF310 := hF286.ext hx306
              have hF311 := hF287.ext hx306
              have hF312 := hF288.ext hx306
              have hF313 := hF289.ext hx306
              have hF314 := hO293.ext hx306
              have hE315 : Below w0.heap.size w0 w305 := hx306.e hE290 (Nat.le_refl _)
              have hz316 := hE315.le
              have hs317 := hx306.size
              refine st_gq 3 62 rfl rfl (by decide) ?_
              refine st_q (v := .bool (decide (¬ (A = A)))) (x_notP rfl) ?_
              refine st_q (v := .bool (decide (¬ (A = A)))) (x_pickF rfl rfl) ?_
              refine st_if (p := ¬ (A = A)) (x_move rfl) (fun h318 => ?_) (fun h318 => ?_)
              ·
                exact absurd h318 (not_not_intro rfl)
              ·
                clear h318
                refine st_gq 10 69 rfl rfl (by decide) ?_
                refine st_q (v := .slice a33 A.length c34) (x_move rfl) ?_
                refine st_gq 10 69 rfl rfl (by decide) ?_
                refine st_q (v := .slice a55 A.length c56) (x_move rfl) ?_
                refine st_gq 10 69 rfl rfl (by decide) ?_
                refine st_q (v := .slice a79 D.length c80) (x_move rfl) ?_
                refine st_gq 10 69 rfl rfl (by decide) ?_
                refine st_q (v := .slice a105 D.length c106) (x_move rfl) ?_
                refine st_gq 10 69 rfl rfl (by decide) ?_
                refine st_e (e_buildSlice (cs := [.slice a33 A.length c34, .slice a55 A.length c56, .slice a79 D.length c80, .slice a105 D.length c106]) (e := 29) (fun _ => by kernel_rfl) ?_)
                intro w319 hA320
                have hx321 := hA320.ext
                have hs322 := hA320.size
                have hB323 : Blk w319.heap w305.heap.size [.slice a33 A.length c34, .slice a55 A.length c56, .slice a79 D.length c80, .slice a105 D.length c106] 29 := hA320.new
                have hF324 := hF307.ext hx321
                have hF325 := hF308.ext hx321
                have hF326 := hF309.ext hx321
                have hF327 := hF310.ext hx321
                have hF328 := hF311.ext hx321
                have hF329 := hF312.ext hx321
                have hF330 := hF313.ext hx321
                have hF331 := hF314.ext hx321
                have hE332 : Below w0.heap.size w0 w319 := hx321.e hE315 (Nat.le_refl _)
                have hz333 := hE332.le
                have hs334 := hx321.size
                refine st_gq 10 69 rfl rfl (by decide) ?_
                refine st_c (t_call [.slice ((some ⟨w305.heap.size, 0, none⟩)) 4 4] T.cf36 rfl rfl) (apart_4 lo (v0 := (a33, A.length, c34)) (v1 := (a55, A.length, c56)) (v2 := (a79, D.length, c80)) (v3 := (a105, D.length, c106)) A A D D w305.heap.size _ (by omega) hB323 hF325 hF326 hF327 hF328 (by show A.length ≤ _; omega) (by show A.length ≤ _; omega) (by show D.length ≤ _; omega) (by show D.length ≤ _; omega) hd27 hd48 hd71 hd96 (by constructor <;> omega) (by constructor <;> omega) (by constructor <;> omega)) ?_
                rintro _ w335 ⟨rfl, hb336⟩
                refine ⟨_, rfl, ?_⟩
                have hF337 := OB.belowLo hF324 hb336 (by omega)
                have hE338 : Below w0.heap.size w0 w335 := hE332.trans (hb336.mono (by omega))
                have hz339 := hE338.le
                have hs340 := hb336.size
                have hcz341 : w0.heap.size ≤ lo := by omega
                have hcz342 : lo ≤ w335.heap.size := by omega
                clear hcz298 hcz299 hcz300 hcz301 hcz302 hcz303 hcz304 hz316 hs317 hs322 hz333 hs334 hz339 hs340
                refine st_gq 10 69 rfl rfl (by decide) ?_
                refine st_q (v := .bool false) (x_notB (b := true) rfl) ?_
                refine st_q (v := .bool false) (x_pickF rfl rfl) ?_
                refine st_q (v := .bool false) (x_move rfl) ?_
                refine st_gq 19 78 rfl rfl (by decide) ?_
                refine st_q (v := .slice ((some ⟨bx, 0, none⟩)) xs.length cl) (x_move rfl) ?_
                refine st_gq 19 78 rfl rfl (by decide) ?_
                refine st_q (v := .slice a xs.length ca) (x_move rfl) ?_
                refine st_gq 19 78 rfl rfl (by decide) ?_
                refine st_c (t_call [.slice ((some ⟨bx, 0, none⟩)) xs.length cl, .slice a xs.length ca] T.cf22 rfl rfl) (kept22 xs _ _ _ _ (OB.srcA hF337 (by omega) (by simp)) (hl.below hE338) (by omega)) ?_
                rintro _ w343 ⟨rfl, hx344⟩
                refine ⟨_, rfl, ?_⟩
                have hF345 := hF337.ext hx344
                have hE346 : Below w0.heap.size w0 w343 := hx344.e hE338 (Nat.le_refl _)
                have hz347 := hE346.le
                have hs348 := hx344.size
                refine st_gq 19 78 rfl rfl (by decide) ?_
                refine st_q (v := .bool false) (x_notB (b := true) rfl) ?_
                refine st_q (v := .bool false) (x_pickF rfl rfl) ?_
                refine st_nil ?_
                refine kn262 _ _ ?_
                refine cndF rfl ?_
                refine skip ?_
                refine kn258 _ _ ?_
                refine seqK fun Q349 kn350 kr351 ke352 => ?_
                refine region ?_
                refine st_q (v := .slice ((some ⟨bx, 0, none⟩)) xs.length cl) (x_move rfl) ?_
                refine st_c (t_call [.slice ((some ⟨bx, 0, none⟩)) xs.length cl, .nilFunc] T.cf30 rfl rfl) (sort30 68 c0 T.cf68 cmp68 c0_law .nilFunc told68 xs _ _ (OB.srcN (Y := xs) hF345 (by omega)) (by omega)) ?_
                rintro _ w353 ⟨v355, rfl, hx354, hO356⟩
                rw [srt_c0] at hO356
                refine ⟨_, rfl, ?_⟩
                have hd357 : ∀ k, Value.ownBlock v355 = some k → w343.heap.size ≤ k ∧ k < w353.heap.size := fun k e => hO356.lt e
                have hF358 := hF345.ext hx354
                have hE359 : Below w0.heap.size w0 w353 := hx354.e hE346 (Nat.le_refl _)
                have hz360 := hE359.le
                have hs361 := hx354.size
                have hO362 := hO356.weak (lo' := lo) (by omega)
                obtain ⟨a363, c364, rfl, hm365, hm366⟩ := hO362.src.form
                have hcz367 : w0.heap.size ≤ lo := by omega
                have hcz368 : lo ≤ w343.heap.size := by omega
                have hcz369 : w343.heap.size ≤ w353.heap.size := by omega
                clear hcz341 hcz342 hz347 hs348 hz360 hs361 hm366 hm365
                refine st_q (v := .slice a363 xs.length c364) (x_assign rfl) ?_
                refine st_nil ?_
                refine kn350 _ _ ?_
                refine seqK fun Q370 kn371 kr372 ke373 => ?_
                refine region ?_
                refine st_q (v := .slice ((some ⟨bx, 0, none⟩)) xs.length cl) (x_move rfl) ?_
                refine st_c (t_call [.slice ((some ⟨bx, 0, none⟩)) xs.length cl, .nilFunc] T.cf31 rfl rfl) (set31 68 c0 T.cf68 cmp68 c0_law .nilFunc told68 xs _ _ (OB.srcN (Y := xs) hF358 (by omega)) (by omega)) ?_
                rintro _ w374 ⟨v376, rfl, hx375, hO377⟩
                rw [srt_c0, ddL_c0, List.length_take] at hO377
                refine ⟨_, rfl, ?_⟩
                have hd378 : ∀ k, Value.ownBlock v376 = some k → w353.heap.size ≤ k ∧ k < w374.heap.size := fun k e => hO377.lt e
                have hF379 := hF358.ext hx375
                have hF380 := hO362.ext hx375
                have hE381 : Below w0.heap.size w0 w374 := hx375.e hE359 (Nat.le_refl _)
                have hz382 := hE381.le
                have hs383 := hx375.size
                have hO384 := hO377.weak (lo' := lo) (by omega)
                obtain ⟨a385, c386, rfl, hm387, hm388⟩ := hO384.src.form
                have hcz389 : w0.heap.size ≤ lo := by omega
                have hcz390 : lo ≤ w343.heap.size := by omega
                have hcz391 : w343.heap.size ≤ w353.heap.size := by omega
                have hcz392 : w353.heap.size ≤ w374.heap.size := by omega
                clear hcz367 hcz368 hcz369 hz382 hs383 hm388 hm387
                refine st_q (v := .slice a385 ((min 1 xs.length)) c386) (x_assign rfl) ?_
                refine st_nil ?_
                refine kn371 _ _ ?_
                refine seqK fun Q393 kn394 kr395 ke396 => ?_
                refine seqK fun Q397 kn398 kr399 ke400 => ?_
                refine regionD1 [19, 22] [0, 1, 3, 4, 5, 6, 7, 8, 9, 10, 11, 12, 13, 14, 15, 16, 17, 18, 19, 20, 21, 22, 23, 24, 25, 26, 27, 29, 30] (.one 0 (.one 1 (.one 2 (.one 3 (.one 4 (.one 5 (.one 6 (.one 7 (.one 8 (.one 9 (.one 10 (.one 11 (.one 12 (.one 13 (.one 14 (.one 15 (.one 16 (.one 17 (.one 18 (.one 19 (.one 20 (.one 21 (.one 22 (.one 23 (.one 24 (.one 25 (.one 26 (.one 27 (.one 28 (.one 29 (.one 30 .done))))))))))))))))))))))))))))))) (by kernel_rfl) (by kernel_rfl) ?_
                intro w401 hx402 hs403
                have hF404 := hF379.ext hx402
                have hF405 := hF380.ext hx402
                have hF406 := hO384.ext hx402
                have hE407 : Below w0.heap.size w0 w401 := hx402.e hE381 (Nat.le_refl _)
                have hz408 := hE407.le
                have hs409 := hx402.size
                have hS410 : Ext w401 w401 := Below.refl _ _
                refine d_q (v := .slice a363 xs.length c364) rfl rfl (fun _ => x_move rfl) ?_
                refine d_q (v := .slice a xs.length ca) rfl rfl (fun _ => x_move rfl) ?_
                refine d_e (by decide) (d_c' rfl rfl (t_call [.slice a363 xs.length c364, .slice a xs.length ca] T.cf34 rfl rfl) (same xs xs _ _ _ hF405.src (hl.below hE407)) ?_)
                rintro _ w411 ⟨rfl, hx412⟩
                refine ⟨_, rfl, ?_⟩
                have hF413 := hF404.ext hx412
                have hF414 := hF405.ext hx412
                have hF415 := hF406.ext hx412
                have hE416 : Below w0.heap.size w0 w411 := hx412.e hE407 (Nat.le_refl _)
                have hz417 := hE416.le
                have hs418 := hx412.size
                have hS419 := hS410.trans (hx412.mono hS410.size)
                refine ⟨fun _ => hS419, ?_⟩
                refine d_q (v := .bool (decide (¬ (xs = xs)))) rfl rfl (fun _ => x_notP rfl) ?_
                refine d_if rfl rfl (p := ¬ (xs = xs)) (fun _ => x_move rfl) (fun h420 => ?_) (fun h420 => ?_)
                ·
                  exact absurd h420 (not_not_intro rfl)
                ·
                  clear h420
                  refine d_gq (v := .slice a385 ((min 1 xs.length)) c386) (j := 4) (t := 92) rfl rfl rfl rfl (by decide) (fun _ => x_move rfl) ?_
                  refine d_gq (v := .int .i64 (((min 1 xs.length) : Nat) : Int)) (j := 4) (t := 92) rfl rfl rfl rfl (by decide) (fun _ => x_lenSl rfl Try.underlying29 rfl) ?_
                  refine d_gq (v := .slice a xs.length ca) (j := 4) (t := 92) rfl rfl rfl rfl (by decide) (fun _ => x_move rfl) ?_
                  refine d_gq (v := .int .i64 ((xs.length : Nat) : Int)) (j := 4) (t := 92) rfl rfl rfl rfl (by decide) (fun _ => x_lenSl rfl Try.underlying29 rfl) ?_
                  refine d_gq (v := .int .i64 (((min 1 xs.length) : Nat) : Int)) (j := 4) (t := 92) rfl rfl rfl rfl (by decide) (fun _ => x_minN rfl rfl) ?_
                  refine d_gq (v := .bool (decide (((min 1 xs.length)) ≠ ((min 1 xs.length))))) (j := 4) (t := 92) rfl rfl rfl rfl (by decide) (fun _ => x_neqN rfl rfl) ?_
                  refine d_q (v := .bool (decide (((min 1 xs.length)) ≠ ((min 1 xs.length))))) rfl rfl (fun _ => x_pickF rfl rfl) ?_
                  refine d_if rfl rfl (p := ((min 1 xs.length)) ≠ ((min 1 xs.length))) (fun _ => x_move rfl) (fun h421 => ?_) (fun h421 => ?_)
                  ·
                    exact absurd h421 (by omega)
                  ·
                    clear h421
                    refine d_gq (v := .slice a xs.length ca) (j := 12) (t := 100) rfl rfl rfl rfl (by decide) (fun _ => x_move rfl) ?_
                    refine d_gq (v := .int .i64 ((xs.length : Nat) : Int)) (j := 12) (t := 100) rfl rfl rfl rfl (by decide) (fun _ => x_lenSl rfl Try.underlying29 rfl) ?_
                    refine d_gq (v := .bool (decide (0 < xs.length))) (j := 12) (t := 100) rfl rfl rfl rfl (by decide) (fun _ => x_gtrN rfl rfl) ?_
                    refine d_gif (j := 12) (t := 100) rfl rfl rfl rfl (by decide) (p := 0 < xs.length) (fun _ => x_move rfl) (fun h422 => ?_) (fun h422 => ?_)
                    ·
                      refine d_gq (v := .slice a385 ((min 1 xs.length)) c386) (j := 16) (t := 104) rfl rfl rfl rfl (by decide) (fun _ => x_move rfl) ?_
                      obtain ⟨b423, o424, ha425, hc426⟩ := hF406.src.at (by omega)
                      have hF427 := hc426.ext hS419
                      refine d_gq (v := .pointer (some ⟨b423, o424 + 0 * 2, none⟩)) (j := 16) (t := 104) rfl rfl rfl rfl (by decide) (fun _ => x_index' T.sl29 rfl ha425 rfl (by omega)) ?_
                      refine d_gl (v := .agg #[.int .i64 ((el (xs.take 1) 0).1), .int .i64 ((el (xs.take 1) 0).2)]) (j := 16) (t := 104) rfl rfl rfl rfl rfl (by decide) (fun v429 hw428 => x_loadA [.int .i64 ((el (xs.take 1) 0).1), .int .i64 ((el (xs.take 1) 0).2)] T.ag31 rfl ((hc426.elem enT_len (i := 0) (by omega)).ext hw428)) ?_
                      refine d_gq (v := .slice a xs.length ca) (j := 16) (t := 104) rfl rfl rfl rfl (by decide) (fun _ => x_move rfl) ?_
                      obtain ⟨b430, o431, ha432, hc433⟩ := hl.at (by omega)
                      refine d_gq (v := .pointer (some ⟨b430, o431 + 0 * 2, none⟩)) (j := 16) (t := 104) rfl rfl rfl rfl (by decide) (fun _ => x_index' T.sl29 rfl ha432 rfl (by omega)) ?_
                      refine d_gl (v := .agg #[.int .i64 ((el xs 0).1), .int .i64 ((el xs 0).2)]) (j := 16) (t := 104) rfl rfl rfl rfl rfl (by decide) (fun v435 hw434 => x_loadA [.int .i64 ((el xs 0).1), .int .i64 ((el xs 0).2)] T.ag31 rfl (((hc433.below hE407).elem enT_len (i := 0) (by omega)).ext hw434)) ?_
                      refine d_gq (v := .bool (decide (¬ ((el (xs.take 1) 0) = (el xs 0))))) (j := 16) (t := 104) rfl rfl rfl rfl (by decide) (fun _ => x_neq2 T.eq2_31 rfl rfl) ?_
                      refine d_gq (v := .bool (decide (¬ ((el (xs.take 1) 0) = (el xs 0))))) (j := 12) (t := 100) rfl rfl rfl rfl (by decide) (fun _ => x_pickT rfl rfl) ?_
                      refine d_q (v := .bool (decide (¬ ((el (xs.take 1) 0) = (el xs 0))))) rfl rfl (fun _ => x_pickF rfl rfl) ?_
                      refine d_if rfl rfl (p := ¬ ((el (xs.take 1) 0) = (el xs 0))) (fun _ => x_move rfl) (fun h436 => ?_) (fun h436 => ?_)
                      ·
                        exact absurd h436 (not_not_intro (take1_el (by assumption)))
                      ·
                        clear h436
                        refine d_gq (v := .slice ((some ⟨bx, 0, none⟩)) xs.length cl) (j := 26) (t := 114) rfl rfl rfl rfl (by decide) (fun _ => x_move rfl) ?_
                        refine d_e (by decide) (d_c' rfl (wanted_true (j := 26) (t := 114) rfl rfl (by decide)) (t_call [.slice ((some ⟨bx, 0, none⟩)) xs.length cl, .nilFunc] T.cf32 rfl rfl) (risesnil xs _ _ (OB.srcN (Y := xs) hF413 (by omega))) ?_)
                        rintro _ w437 ⟨rfl, hx438⟩
                        refine ⟨_, rfl, ?_⟩
                        have hF439 := hF413.ext hx438
                        have hF440 := hF414.ext hx438
                        have hF441 := hF415.ext hx438
                        have hF442 := hF427.ext hx438
                        have hE443 : Below w0.heap.size w0 w437 := hx438.e hE416 (Nat.le_refl _)
                        have hz444 := hE443.le
                        have hs445 := hx438.size
                        have hS446 := hS419.trans (hx438.mono hS419.size)
                        refine ⟨fun _ => hS446, ?_⟩
                        refine d_gq (v := .bool false) (j := 26) (t := 114) rfl rfl rfl rfl (by decide) (fun _ => x_notB (b := true) rfl) ?_
                        refine d_q (v := .bool false) rfl rfl (fun _ => x_pickF rfl rfl) ?_
                        refine d_done ?_
                        refine kn398 _ _ ?_
                        refine cndF rfl ?_
                        refine skip ?_
                        refine kn394 _ _ ?_
                        refine seqK fun Q447 kn448 kr449 ke450 => ?_
                        refine seqK fun Q451 kn452 kr453 ke454 => ?_
                        refine region ?_
                        refine st_q (v := .int .i64 ((0 : Nat) : Int)) (x_assign rfl) ?_
                        refine st_nil ?_
                        refine kn452 _ _ ?_
                        refine blockK fun Q455 kn456 kr457 kx458 kb459 => ?_
                        refine loopK (α := Nat × (List (Int × Int))) (fun x => [(3, .slice ((some ⟨bx, 0, none⟩)) xs.length cl), (8, .slice a363 xs.length c364), (9, .slice a385 ((min 1 xs.length)) c386), (10, .int .i64 ((x.1 : Nat) : Int))]) (fun x w460 => Below w0.heap.size w0 w460 ∧ x.2.length = xs.length ∧ w374.heap.size ≤ w460.heap.size ∧ OB w460.heap w0.heap.size 31 2 bx cl (flat enT (x.2 ++ roomT 9)) ∧ Own w460.heap lo 31 2 (.slice a363 xs.length c364) xs.length (flat enT xs) ∧ Own w460.heap lo 31 2 (.slice a385 ((min 1 xs.length)) c386) (min 1 xs.length) (flat enT (xs.take 1))) (fun x => xs.length - x.1) (0, xs) ⟨rfl, rfl, rfl, rfl, trivial⟩ ?_ ?_
                        ·
                          refine ⟨hE443, ?_⟩
                          try dsimp only
                          exact ⟨rfl, by omega, hF439, hF440, hF441⟩
                        ·
                          rintro τ461 ⟨i, Y⟩ w462 ⟨hx463, ⟨hY, hlw, hX, hN, hOn⟩⟩
                          try dsimp only at hY hlw hX hN hOn
                          have hz464 := hx463.le
                          intro Q465 kn466 kr467 ke468
                          have hl469 := hX.lo
                          have hl470 := hX.lt
                          have hYl : (Y ++ roomT 9).length = xs.length + 9 := by rw [List.length_append, roomT_len, hY]
                          have hcz471 : w0.heap.size ≤ lo := by omega
                          have hcz472 : lo ≤ w343.heap.size := by omega
                          have hcz473 : w343.heap.size ≤ w353.heap.size := by omega
                          have hcz474 : w353.heap.size ≤ w374.heap.size := by omega
                          have hcz475 : w374.heap.size ≤ w462.heap.size := by omega
                          clear hcz389 hcz390 hcz391 hcz392 hz408 hs409 hz417 hs418 hz444 hs445 hz464
                          have hXn := OB.ownN hX hY (by omega)
                          refine seqK fun Q476 kn477 kr478 ke479 => ?_
                          refine seqK fun Q480 kn481 kr482 ke483 => ?_
                          refine region ?_
                          refine st_q (v := .int .i64 ((i : Nat) : Int)) (x_move rfl) ?_
                          refine st_q (v := .slice ((some ⟨bx, 0, none⟩)) xs.length cl) (x_move rfl) ?_
                          refine st_q (v := .int .i64 ((xs.length : Nat) : Int)) (x_lenSl rfl Try.underlying29 rfl) ?_
                          refine st_q (v := .bool (decide (i < xs.length))) (x_lssN rfl rfl) ?_
                          refine st_nil ?_
                          refine kn481 _ _ ?_
                          refine cnd (p := i < xs.length) rfl (fun h484 => ?_) (fun h484 => ?_)
                          ·
                            refine skip ?_
                            refine kn477 _ _ ?_
                            refine seqK fun Q485 kn486 kr487 ke488 => ?_
                            refine blockK fun Q489 kn490 kr491 kx492 kb493 => ?_
                            refine region ?_
                            refine st_q (v := .slice ((some ⟨bx, 0, none⟩)) xs.length cl) (x_move rfl) ?_
                            refine st_q (v := .int .i64 ((i : Nat) : Int)) (x_move rfl) ?_
                            refine st_q (v := .slice ((some ⟨bx, 0, none⟩)) xs.length cl) (x_move rfl) ?_
                            refine st_q (v := .int .i64 ((i : Nat) : Int)) (x_move rfl) ?_
                            refine st_q (v := .pointer (some ⟨bx, 0 + i * 2, none⟩)) (x_index T.sl29 rfl rfl (by omega)) ?_
                            refine st_q (v := .pointer (some ⟨bx, 0 + i * 2, none⟩)) (x_field (o := 0 + i * 2) T.fa31_0 rfl) ?_
                            refine st_q (v := .int .i64 ((el (Y ++ roomT 9) i).1)) (x_load1 T.na3 rfl ((hX.cells.elem enT_len (i := i) (by omega)).fld 0 rfl)) ?_
                            refine st_q (v := .int .i64 ((IntKind.i64.wrap (0 - (el (Y ++ roomT 9) i).1)))) (x_negW rfl) ?_
                            refine st_q (v := .int .i64 ((nk (el (Y ++ roomT 9) i).1))) (x_quoW rfl rfl (by decide)) ?_
                            refine st_q (v := .pointer (some ⟨bx, 0 + i * 2, none⟩)) (x_index T.sl29 rfl rfl (by omega)) ?_
                            refine st_q (v := .pointer (some ⟨bx, 0 + i * 2, none⟩)) (x_field (o := 0 + i * 2) T.fa31_0 rfl) ?_
                            refine st_s (e_stO1 (v := .int .i64 (nk (el (Y ++ roomT 9) i).1)) (z := .int .i64 (el (Y ++ roomT 9) i).2) (u := (nk (el (Y ++ roomT 9) i).1, (el (Y ++ roomT 9) i).2)) enT_len T.sz3 rfl rfl rfl rfl rfl rfl hX (by omega) ?_)
                            intro w494 _ hP495 hB496
                            have hs497 := hP495.size
                            have hF498 := hN.pt hP495 (by intro e; have := (hN.lt e).1; omega)
                            have hF499 := hOn.pt hP495 (by intro e; have := (hOn.lt e).1; omega)
                            have hE501 : Below w0.heap.size w0 w494 := hP495.below hx463 (by omega)
                            have hz502 := hE501.le
                            refine st_nil ?_
                            refine kn490 _ _ ?_
                            refine kn486 _ _ ?_
                            refine region ?_
                            refine st_q (v := .int .i64 ((i : Nat) : Int)) (x_move rfl) ?_
                            refine st_q (v := .int .i64 (((i + 1) : Nat) : Int)) (x_addN rfl rfl (by omega)) ?_
                            refine st_q (v := .int .i64 (((i + 1) : Nat) : Int)) (x_assign rfl) ?_
                            refine st_nil ?_
                            refine kn466 _ ((i + 1), (Y.set i (nk (el (Y ++ roomT 9) i).1, (el (Y ++ roomT 9) i).2))) _ ⟨rfl, rfl, rfl, rfl, trivial⟩ ⟨hE501, ?_⟩ ?_
                            ·
                              try dsimp only
                              exact ⟨by rw [List.length_set, hY], by omega, by rw [← List.set_append_left _ _ (by omega)]; exact hB496, hF498, hF499⟩
                            ·
                              (try dsimp only); omega
                          ·
                            refine exit ?_
                            refine ke479 _ _ _ ?_
                            refine ke468 _ _ _ ?_
                            refine kb459 _ _ ?_
                            refine kn448 _ _ ?_
                            refine seqK fun Q503 kn504 kr505 ke506 => ?_
                            refine region ?_
                            refine st_e (e_buildSlice (cs := []) (e := 31) (fun _ => by kernel_rfl) ?_)
                            intro w507 hA508
                            have hx509 := hA508.ext
                            have hs510 := hA508.size
                            have hB511 : Blk w507.heap w462.heap.size [] 31 := hA508.new
                            have hF512 := hX.ext hx509
                            have hF513 := hN.ext hx509
                            have hF514 := hOn.ext hx509
                            have hF515 := hXn.ext hx509
                            have hE516 : Below w0.heap.size w0 w507 := hx509.e hx463 (Nat.le_refl _)
                            have hz517 := hE516.le
                            have hs518 := hx509.size
                            refine st_q (v := .slice ((some ⟨bx, 0, none⟩)) xs.length cl) (x_move rfl) ?_
                            have hO524 := hB511.own0 (k := 2) (lo := w462.heap.size) (by omega)
                            refine st_e (e_appendX T.sl29 rfl rfl hO524 hF515.src (ones (by exact flat_ones)) (by omega) (by decide) (by omega) ?_)
                            intro v519 w520 hO521 hG522 hN523 hW525
                            have hF526 := hF512.grown hG522 (fun e => by first | (have := (hO524.lt e).1; clear e; omega) | (have := (hO.lt e).2; clear e; omega))
                            have hF527 := hF513.grown hG522 (fun b hb e => by have h1 := (hO524.lt e).1; have h2 := (hN.lt hb).2; clear e hb; omega)
                            have hF528 := hF514.grown hG522 (fun b hb e => by have h1 := (hO524.lt e).1; have h2 := (hOn.lt hb).2; clear e hb; omega)
                            have hF529 := hF515.grown hG522 (fun b hb e => by have h1 := (hO524.lt e).1; have h2 := (hXn.lt hb).2; clear e hb; omega)
                            have hE530 : Below w0.heap.size w0 w520 := grown_below hG522 hE516 (Nat.le_refl _) (fun b hb => (by have := (hO524.lt hb).1; clear hb; omega))
                            have hz531 := hE530.le
                            have hs532 := hG522.size
                            have hO533 := hO521.zero
                            obtain ⟨a534, c535, rfl, hm536, hm537⟩ := hO533.src.form
                            refine st_q (v := .slice a534 xs.length c535) (x_assign rfl) ?_
                            refine st_nil ?_
                            refine kn504 _ _ ?_
                            refine seqK fun Q538 kn539 kr540 ke541 => ?_
                            refine region ?_
                            refine st_q (v := .slice ((some ⟨bx, 0, none⟩)) xs.length cl) (x_move rfl) ?_
                            refine st_c (t_call [.slice ((some ⟨bx, 0, none⟩)) xs.length cl, .func (.func 20) #[] #[]] T.cf30 rfl rfl) (sort30 20 byc T.cf20 cmp20 byc_law (.func (.func 20) #[] #[]) told20 Y _ _ (by rw [hY]; exact hF529.src) (by omega)) ?_
                            rintro _ w542 ⟨v544, rfl, hx543, hO545⟩
                            rw [hY] at hO545
                            refine ⟨_, rfl, ?_⟩
                            have hd546 : ∀ k, Value.ownBlock v544 = some k → w520.heap.size ≤ k ∧ k < w542.heap.size := fun k e => hO545.lt e
                            have hF547 := hF526.ext hx543
                            have hF548 := hF527.ext hx543
                            have hF549 := hF528.ext hx543
                            have hF550 := hF529.ext hx543
                            have hF551 := hO533.ext hx543
                            have hE552 : Below w0.heap.size w0 w542 := hx543.e hE530 (Nat.le_refl _)
                            have hz553 := hE552.le
                            have hs554 := hx543.size
                            have hO555 := hO545.weak (lo' := lo) (by omega)
                            obtain ⟨a556, c557, rfl, hm558, hm559⟩ := hO555.src.form
                            have hcz560 : w0.heap.size ≤ lo := by omega
                            have hcz561 : lo ≤ w343.heap.size := by omega
                            have hcz562 : w343.heap.size ≤ w353.heap.size := by omega
                            have hcz563 : w353.heap.size ≤ w374.heap.size := by omega
                            have hcz564 : w374.heap.size ≤ w542.heap.size := by omega
                            clear hcz471 hcz472 hcz473 hcz474 hcz475 hs510 hz517 hs518 hz531 hs532 hm537 hm536 hz553 hs554 hm559 hm558
                            refine st_q (v := .slice a534 xs.length c535) (x_move rfl) ?_
                            refine st_c (t_call [.slice a534 xs.length c535] T.cf17 rfl rfl) (refsort17 Y _ _ (by rw [hY]; exact hF551.src) (by omega)) ?_
                            rintro _ w565 ⟨v567, rfl, hx566, hO568⟩
                            rw [hY] at hO568
                            refine ⟨_, rfl, ?_⟩
                            have hd569 : ∀ k, Value.ownBlock v567 = some k → w542.heap.size ≤ k ∧ k < w565.heap.size := fun k e => hO568.lt e
                            have hF570 := hF547.ext hx566
                            have hF571 := hF548.ext hx566
                            have hF572 := hF549.ext hx566
                            have hF573 := hF550.ext hx566
                            have hF574 := hF551.ext hx566
                            have hF575 := hO555.ext hx566
                            have hE576 : Below w0.heap.size w0 w565 := hx566.e hE552 (Nat.le_refl _)
                            have hz577 := hE576.le
                            have hs578 := hx566.size
                            have hO579 := hO568.weak (lo' := lo) (by omega)
                            obtain ⟨a580, c581, rfl, hm582, hm583⟩ := hO579.src.form
                            have hcz584 : w0.heap.size ≤ lo := by omega
                            have hcz585 : lo ≤ w343.heap.size := by omega
                            have hcz586 : w343.heap.size ≤ w353.heap.size := by omega
                            have hcz587 : w353.heap.size ≤ w374.heap.size := by omega
                            have hcz588 : w374.heap.size ≤ w565.heap.size := by omega
                            clear hcz560 hcz561 hcz562 hcz563 hcz564 hz577 hs578 hm583 hm582
                            refine st_c (t_call [.slice a556 xs.length c557, .slice a580 xs.length c581] T.cf34 rfl rfl) (same (srt byc Y) (srt byc Y) _ _ _ (by rw [srt_length, hY]; exact hF575.src) (by rw [srt_length, hY]; exact hO579.src)) ?_
                            rintro _ w589 ⟨rfl, hx590⟩
                            refine ⟨_, rfl, ?_⟩
                            have hF591 := hF570.ext hx590
                            have hF592 := hF571.ext hx590
                            have hF593 := hF572.ext hx590
                            have hF594 := hF573.ext hx590
                            have hF595 := hF574.ext hx590
                            have hF596 := hF575.ext hx590
                            have hF597 := hO579.ext hx590
                            have hE598 : Below w0.heap.size w0 w589 := hx590.e hE576 (Nat.le_refl _)
                            have hz599 := hE598.le
                            have hs600 := hx590.size
                            refine st_if (p := (srt byc Y) = (srt byc Y)) (x_move rfl) (fun h601 => ?_) (fun h601 => ?_)
                            ·
                              clear h601
                              refine st_gq 5 144 rfl rfl (by decide) ?_
                              refine st_q (v := .slice a363 xs.length c364) (x_move rfl) ?_
                              refine st_gq 5 144 rfl rfl (by decide) ?_
                              refine st_q (v := .slice a385 ((min 1 xs.length)) c386) (x_move rfl) ?_
                              refine st_gq 5 144 rfl rfl (by decide) ?_
                              refine st_e (e_buildSlice (cs := [.slice a363 xs.length c364, .slice a385 ((min 1 xs.length)) c386]) (e := 29) (fun _ => by kernel_rfl) ?_)
                              intro w602 hA603
                              have hx604 := hA603.ext
                              have hs605 := hA603.size
                              have hB606 : Blk w602.heap w589.heap.size [.slice a363 xs.length c364, .slice a385 ((min 1 xs.length)) c386] 29 := hA603.new
                              have hF607 := hF591.ext hx604
                              have hF608 := hF592.ext hx604
                              have hF609 := hF593.ext hx604
                              have hF610 := hF594.ext hx604
                              have hF611 := hF595.ext hx604
                              have hF612 := hF596.ext hx604
                              have hF613 := hF597.ext hx604
                              have hE614 : Below w0.heap.size w0 w602 := hx604.e hE598 (Nat.le_refl _)
                              have hz615 := hE614.le
                              have hs616 := hx604.size
                              refine st_gq 5 144 rfl rfl (by decide) ?_
                              refine st_c (t_call [.slice ((some ⟨w589.heap.size, 0, none⟩)) 2 2] T.cf36 rfl rfl) (apart_2 lo (v0 := (a363, xs.length, c364)) (v1 := (a385, (min 1 xs.length), c386)) xs ((xs.take 1)) w589.heap.size _ (by omega) hB606 hF608 hF609 (by show xs.length ≤ _; omega) (by show (min 1 xs.length) ≤ _; omega) hd357 hd378 (by constructor <;> omega)) ?_
                              rintro _ w617 ⟨rfl, hb618⟩
                              refine ⟨_, rfl, ?_⟩
                              have hF619 := OB.belowLo hF607 hb618 (by omega)
                              have hE620 : Below w0.heap.size w0 w617 := hE614.trans (hb618.mono (by omega))
                              have hz621 := hE620.le
                              have hs622 := hb618.size
                              have hcz623 : w0.heap.size ≤ lo := by omega
                              have hcz624 : lo ≤ w617.heap.size := by omega
                              clear hcz584 hcz585 hcz586 hcz587 hcz588 hz599 hs600 hs605 hz615 hs616 hz621 hs622
                              refine st_q (v := .bool true) (x_pickT rfl rfl) ?_
                              refine st_q (v := .bool true) (x_move rfl) ?_
                              refine st_gq 11 150 rfl rfl (by decide) ?_
                              refine st_c (t_call [] T.cf16 rfl rfl) (works16 _) ?_
                              rintro _ w625 ⟨rfl, hx626⟩
                              refine ⟨_, rfl, ?_⟩
                              have hF627 := hF619.ext hx626
                              have hE628 : Below w0.heap.size w0 w625 := hx626.e hE620 (Nat.le_refl _)
                              have hz629 := hE628.le
                              have hs630 := hx626.size
                              refine st_q (v := .bool true) (x_pickT rfl rfl) ?_
                              refine st_q (v := .bool true) (x_assign rfl) ?_
                              refine st_nil ?_
                              refine kn539 _ _ ?_
                              refine ret ?_
                              refine leave1 (P := Try.prog) (fn := Try.f6) (t := 2) (v := .bool true) rfl rfl ?_
                              exact ⟨rfl, hE628⟩
                            ·
                              exact absurd h601 (not_not_intro rfl)
                    ·
                      refine d_gn (j := 16) (t := 104) rfl rfl rfl rfl (by decide) rfl ?_
                      refine d_gn (j := 16) (t := 104) rfl rfl rfl rfl (by decide) rfl ?_
                      refine d_gn (j := 16) (t := 104) rfl rfl rfl rfl (by decide) rfl ?_
                      refine d_gn (j := 16) (t := 104) rfl rfl rfl rfl (by decide) rfl ?_
                      refine d_gn (j := 16) (t := 104) rfl rfl rfl rfl (by decide) rfl ?_
                      refine d_gn (j := 16) (t := 104) rfl rfl rfl rfl (by decide) rfl ?_
                      refine d_gn (j := 16) (t := 104) rfl rfl rfl rfl (by decide) rfl ?_
                      refine d_gq (v := .bool false) (j := 12) (t := 100) rfl rfl rfl rfl (by decide) (fun _ => x_pickF rfl rfl) ?_
                      refine d_q (v := .bool false) rfl rfl (fun _ => x_pickF rfl rfl) ?_
                      refine d_q (v := .bool false) rfl rfl (fun _ => x_move rfl) ?_
                      refine d_gq (v := .slice ((some ⟨bx, 0, none⟩)) xs.length cl) (j := 26) (t := 114) rfl rfl rfl rfl (by decide) (fun _ => x_move rfl) ?_
                      refine d_e (by decide) (d_c' rfl (wanted_true (j := 26) (t := 114) rfl rfl (by decide)) (t_call [.slice ((some ⟨bx, 0, none⟩)) xs.length cl, .nilFunc] T.cf32 rfl rfl) (risesnil xs _ _ (OB.srcN (Y := xs) hF413 (by omega))) ?_)
                      rintro _ w631 ⟨rfl, hx632⟩
                      refine ⟨_, rfl, ?_⟩
                      have hF633 := hF413.ext hx632
                      have hF634 := hF414.ext hx632
                      have hF635 := hF415.ext hx632
                      have hE636 : Below w0.heap.size w0 w631 := hx632.e hE416 (Nat.le_refl _)
                      have hz637 := hE636.le
                      have hs638 := hx632.size
                      have hS639 := hS419.trans (hx632.mono hS419.size)
                      refine ⟨fun _ => hS639, ?_⟩
                      refine d_gq (v := .bool false) (j := 26) (t := 114) rfl rfl rfl rfl (by decide) (fun _ => x_notB (b := true) rfl) ?_
                      refine d_q (v := .bool false) rfl rfl (fun _ => x_pickF rfl rfl) ?_
                      refine d_done ?_
                      refine kn398 _ _ ?_
                      refine cndF rfl ?_
                      refine skip ?_
                      refine kn394 _ _ ?_
                      refine seqK fun Q640 kn641 kr642 ke643 => ?_
                      refine seqK fun Q644 kn645 kr646 ke647 => ?_
                      refine region ?_
                      refine st_q (v := .int .i64 ((0 : Nat) : Int)) (x_assign rfl) ?_
                      refine st_nil ?_
                      refine kn645 _ _ ?_
                      refine blockK fun Q648 kn649 kr650 kx651 kb652 => ?_
                      refine loopK (α := Nat × (List (Int × Int))) (fun x => [(3, .slice ((some ⟨bx, 0, none⟩)) xs.length cl), (8, .slice a363 xs.length c364), (9, .slice a385 ((min 1 xs.length)) c386), (10, .int .i64 ((x.1 : Nat) : Int))]) (fun x w653 => Below w0.heap.size w0 w653 ∧ x.2.length = xs.length ∧ w374.heap.size ≤ w653.heap.size ∧ OB w653.heap w0.heap.size 31 2 bx cl (flat enT (x.2 ++ roomT 9)) ∧ Own w653.heap lo 31 2 (.slice a363 xs.length c364) xs.length (flat enT xs) ∧ Own w653.heap lo 31 2 (.slice a385 ((min 1 xs.length)) c386) (min 1 xs.length) (flat enT (xs.take 1))) (fun x => xs.length - x.1) (0, xs) ⟨rfl, rfl, rfl, rfl, trivial⟩ ?_ ?_
                      ·
                        refine ⟨hE636, ?_⟩
                        try dsimp only
                        exact ⟨rfl, by omega, hF633, hF634, hF635⟩
                      ·
                        rintro τ654 ⟨i, Y⟩ w655 ⟨hx656, ⟨hY, hlw, hX, hN, hOn⟩⟩
                        try dsimp only at hY hlw hX hN hOn
                        have hz657 := hx656.le
                        intro Q658 kn659 kr660 ke661
                        have hl662 := hX.lo
                        have hl663 := hX.lt
                        have hYl : (Y ++ roomT 9).length = xs.length + 9 := by rw [List.length_append, roomT_len, hY]
                        have hcz664 : w0.heap.size ≤ lo := by omega
                        have hcz665 : lo ≤ w343.heap.size := by omega
                        have hcz666 : w343.heap.size ≤ w353.heap.size := by omega
                        have hcz667 : w353.heap.size ≤ w374.heap.size := by omega
                        have hcz668 : w374.heap.size ≤ w655.heap.size := by omega
                        clear hcz389 hcz390 hcz391 hcz392 hz408 hs409 hz417 hs418 hz637 hs638 hz657
                        have hXn := OB.ownN hX hY (by omega)
                        refine seqK fun Q669 kn670 kr671 ke672 => ?_
                        refine seqK fun Q673 kn674 kr675 ke676 => ?_
                        refine region ?_
                        refine st_q (v := .int .i64 ((i : Nat) : Int)) (x_move rfl) ?_
                        refine st_q (v := .slice ((some ⟨bx, 0, none⟩)) xs.length cl) (x_move rfl) ?_
                        refine st_q (v := .int .i64 ((xs.length : Nat) : Int)) (x_lenSl rfl Try.underlying29 rfl) ?_
                        refine st_q (v := .bool (decide (i < xs.length))) (x_lssN rfl rfl) ?_
                        refine st_nil ?_
                        refine kn674 _ _ ?_
                        refine cnd (p := i < xs.length) rfl (fun h677 => ?_) (fun h677 => ?_)
                        ·
                          refine skip ?_
                          refine kn670 _ _ ?_
                          refine seqK fun Q678 kn679 kr680 ke681 => ?_
                          refine blockK fun Q682 kn683 kr684 kx685 kb686 => ?_
                          refine region ?_
                          refine st_q (v := .slice ((some ⟨bx, 0, none⟩)) xs.length cl) (x_move rfl) ?_
                          refine st_q (v := .int .i64 ((i : Nat) : Int)) (x_move rfl) ?_
                          refine st_q (v := .slice ((some ⟨bx, 0, none⟩)) xs.length cl) (x_move rfl) ?_
                          refine st_q (v := .int .i64 ((i : Nat) : Int)) (x_move rfl) ?_
                          refine st_q (v := .pointer (some ⟨bx, 0 + i * 2, none⟩)) (x_index T.sl29 rfl rfl (by omega)) ?_
                          refine st_q (v := .pointer (some ⟨bx, 0 + i * 2, none⟩)) (x_field (o := 0 + i * 2) T.fa31_0 rfl) ?_
                          refine st_q (v := .int .i64 ((el (Y ++ roomT 9) i).1)) (x_load1 T.na3 rfl ((hX.cells.elem enT_len (i := i) (by omega)).fld 0 rfl)) ?_
                          refine st_q (v := .int .i64 ((IntKind.i64.wrap (0 - (el (Y ++ roomT 9) i).1)))) (x_negW rfl) ?_
                          refine st_q (v := .int .i64 ((nk (el (Y ++ roomT 9) i).1))) (x_quoW rfl rfl (by decide)) ?_
                          refine st_q (v := .pointer (some ⟨bx, 0 + i * 2, none⟩)) (x_index T.sl29 rfl rfl (by omega)) ?_
                          refine st_q (v := .pointer (some ⟨bx, 0 + i * 2, none⟩)) (x_field (o := 0 + i * 2) T.fa31_0 rfl) ?_
                          refine st_s (e_stO1 (v := .int .i64 (nk (el (Y ++ roomT 9) i).1)) (z := .int .i64 (el (Y ++ roomT 9) i).2) (u := (nk (el (Y ++ roomT 9) i).1, (el (Y ++ roomT 9) i).2)) enT_len T.sz3 rfl rfl rfl rfl rfl rfl hX (by omega) ?_)
                          intro w687 _ hP688 hB689
                          have hs690 := hP688.size
                          have hF691 := hN.pt hP688 (by intro e; have := (hN.lt e).1; omega)
                          have hF692 := hOn.pt hP688 (by intro e; have := (hOn.lt e).1; omega)
                          have hE694 : Below w0.heap.size w0 w687 := hP688.below hx656 (by omega)
                          have hz695 := hE694.le
                          refine st_nil ?_
                          refine kn683 _ _ ?_
                          refine kn679 _ _ ?_
                          refine region ?_
                          refine st_q (v := .int .i64 ((i : Nat) : Int)) (x_move rfl) ?_
                          refine st_q (v := .int .i64 (((i + 1) : Nat) : Int)) (x_addN rfl rfl (by omega)) ?_
                          refine st_q (v := .int .i64 (((i + 1) : Nat) : Int)) (x_assign rfl) ?_
                          refine st_nil ?_
                          refine kn659 _ ((i + 1), (Y.set i (nk (el (Y ++ roomT 9) i).1, (el (Y ++ roomT 9) i).2))) _ ⟨rfl, rfl, rfl, rfl, trivial⟩ ⟨hE694, ?_⟩ ?_
                          ·
                            try dsimp only
                            exact ⟨by rw [List.length_set, hY], by omega, by rw [← List.set_append_left _ _ (by omega)]; exact hB689, hF691, hF692⟩
                          ·
                            (try dsimp only); omega
                        ·
                          refine exit ?_
                          refine ke672 _ _ _ ?_
                          refine ke661 _ _ _ ?_
                          refine kb652 _ _ ?_
                          refine kn641 _ _ ?_
                          refine seqK fun Q696 kn697 kr698 ke699 => ?_
                          refine region ?_
                          refine st_e (e_buildSlice (cs := []) (e := 31) (fun _ => by kernel_rfl) ?_)
                          intro w700 hA701
                          have hx702 := hA701.ext
                          have hs703 := hA701.size
                          have hB704 : Blk w700.heap w655.heap.size [] 31 := hA701.new
                          have hF705 := hX.ext hx702
                          have hF706 := hN.ext hx702
                          have hF707 := hOn.ext hx702
                          have hF708 := hXn.ext hx702
                          have hE709 : Below w0.heap.size w0 w700 := hx702.e hx656 (Nat.le_refl _)
                          have hz710 := hE709.le
                          have hs711 := hx702.size
                          refine st_q (v := .slice ((some ⟨bx, 0, none⟩)) xs.length cl) (x_move rfl) ?_
                          have hO717 := hB704.own0 (k := 2) (lo := w655.heap.size) (by omega)
                          refine st_e (e_appendX T.sl29 rfl rfl hO717 hF708.src (ones (by exact flat_ones)) (by omega) (by decide) (by omega) ?_)
                          intro v712 w713 hO714 hG715 hN716 hW718
                          have hF719 := hF705.grown hG715 (fun e => by first | (have := (hO717.lt e).1; clear e; omega) | (have := (hO.lt e).2; clear e; omega))
                          have hF720 := hF706.grown hG715 (fun b hb e => by have h1 := (hO717.lt e).1; have h2 := (hN.lt hb).2; clear e hb; omega)
                          have hF721 := hF707.grown hG715 (fun b hb e => by have h1 := (hO717.lt e).1; have h2 := (hOn.lt hb).2; clear e hb; omega)
                          have hF722 := hF708.grown hG715 (fun b hb e => by have h1 := (hO717.lt e).1; have h2 := (hXn.lt hb).2; clear e hb; omega)
                          have hE723 : Below w0.heap.size w0 w713 := grown_below hG715 hE709 (Nat.le_refl _) (fun b hb => (by have := (hO717.lt hb).1; clear hb; omega))
                          have hz724 := hE723.le
                          have hs725 := hG715.size
                          have hO726 := hO714.zero
                          obtain ⟨a727, c728, rfl, hm729, hm730⟩ := hO726.src.form
                          refine st_q (v := .slice a727 xs.length c728) (x_assign rfl) ?_
                          refine st_nil ?_
                          refine kn697 _ _ ?_
                          refine seqK fun Q731 kn732 kr733 ke734 => ?_
                          refine region ?_
                          refine st_q (v := .slice ((some ⟨bx, 0, none⟩)) xs.length cl) (x_move rfl) ?_
                          refine st_c (t_call [.slice ((some ⟨bx, 0, none⟩)) xs.length cl, .func (.func 20) #[] #[]] T.cf30 rfl rfl) (sort30 20 byc T.cf20 cmp20 byc_law (.func (.func 20) #[] #[]) told20 Y _ _ (by rw [hY]; exact hF722.src) (by omega)) ?_
                          rintro _ w735 ⟨v737, rfl, hx736, hO738⟩
                          rw [hY] at hO738
                          refine ⟨_, rfl, ?_⟩
                          have hd739 : ∀ k, Value.ownBlock v737 = some k → w713.heap.size ≤ k ∧ k < w735.heap.size := fun k e => hO738.lt e
                          have hF740 := hF719.ext hx736
                          have hF741 := hF720.ext hx736
                          have hF742 := hF721.ext hx736
                          have hF743 := hF722.ext hx736
                          have hF744 := hO726.ext hx736
                          have hE745 : Below w0.heap.size w0 w735 := hx736.e hE723 (Nat.le_refl _)
                          have hz746 := hE745.le
                          have hs747 := hx736.size
                          have hO748 := hO738.weak (lo' := lo) (by omega)
                          obtain ⟨a749, c750, rfl, hm751, hm752⟩ := hO748.src.form
                          have hcz753 : w0.heap.size ≤ lo := by omega
                          have hcz754 : lo ≤ w343.heap.size := by omega
                          have hcz755 : w343.heap.size ≤ w353.heap.size := by omega
                          have hcz756 : w353.heap.size ≤ w374.heap.size := by omega
                          have hcz757 : w374.heap.size ≤ w735.heap.size := by omega
                          clear hcz664 hcz665 hcz666 hcz667 hcz668 hs703 hz710 hs711 hz724 hs725 hm730 hm729 hz746 hs747 hm752 hm751
                          refine st_q (v := .slice a727 xs.length c728) (x_move rfl) ?_
                          refine st_c (t_call [.slice a727 xs.length c728] T.cf17 rfl rfl) (refsort17 Y _ _ (by rw [hY]; exact hF744.src) (by omega)) ?_
                          rintro _ w758 ⟨v760, rfl, hx759, hO761⟩
                          rw [hY] at hO761
                          refine ⟨_, rfl, ?_⟩
                          have hd762 : ∀ k, Value.ownBlock v760 = some k → w735.heap.size ≤ k ∧ k < w758.heap.size := fun k e => hO761.lt e
                          have hF763 := hF740.ext hx759
                          have hF764 := hF741.ext hx759
                          have hF765 := hF742.ext hx759
                          have hF766 := hF743.ext hx759
                          have hF767 := hF744.ext hx759
                          have hF768 := hO748.ext hx759
                          have hE769 : Below w0.heap.size w0 w758 := hx759.e hE745 (Nat.le_refl _)
                          have hz770 := hE769.le
                          have hs771 := hx759.size
                          have hO772 := hO761.weak (lo' := lo) (by omega)
                          obtain ⟨a773, c774, rfl, hm775, hm776⟩ := hO772.src.form
                          have hcz777 : w0.heap.size ≤ lo := by omega
                          have hcz778 : lo ≤ w343.heap.size := by omega
                          have hcz779 : w343.heap.size ≤ w353.heap.size := by omega
                          have hcz780 : w353.heap.size ≤ w374.heap.size := by omega
                          have hcz781 : w374.heap.size ≤ w758.heap.size := by omega
                          clear hcz753 hcz754 hcz755 hcz756 hcz757 hz770 hs771 hm776 hm775
                          refine st_c (t_call [.slice a749 xs.length c750, .slice a773 xs.length c774] T.cf34 rfl rfl) (same (srt byc Y) (srt byc Y) _ _ _ (by rw [srt_length, hY]; exact hF768.src) (by rw [srt_length, hY]; exact hO772.src)) ?_
                          rintro _ w782 ⟨rfl, hx783⟩
                          refine ⟨_, rfl, ?_⟩
                          have hF784 := hF763.ext hx783
                          have hF785 := hF764.ext hx783
                          have hF786 := hF765.ext hx783
                          have hF787 := hF766.ext hx783
                          have hF788 := hF767.ext hx783
                          have hF789 := hF768.ext hx783
                          have hF790 := hO772.ext hx783
                          have hE791 : Below w0.heap.size w0 w782 := hx783.e hE769 (Nat.le_refl _)
                          have hz792 := hE791.le
                          have hs793 := hx783.size
                          refine st_if (p := (srt byc Y) = (srt byc Y)) (x_move rfl) (fun h794 => ?_) (fun h794 => ?_)
                          ·
                            clear h794
                            refine st_gq 5 144 rfl rfl (by decide) ?_
                            refine st_q (v := .slice a363 xs.length c364) (x_move rfl) ?_
                            refine st_gq 5 144 rfl rfl (by decide) ?_
                            refine st_q (v := .slice a385 ((min 1 xs.length)) c386) (x_move rfl) ?_
                            refine st_gq 5 144 rfl rfl (by decide) ?_
                            refine st_e (e_buildSlice (cs := [.slice a363 xs.length c364, .slice a385 ((min 1 xs.length)) c386]) (e := 29) (fun _ => by kernel_rfl) ?_)
                            intro w795 hA796
                            have hx797 := hA796.ext
                            have hs798 := hA796.size
                            have hB799 : Blk w795.heap w782.heap.size [.slice a363 xs.length c364, .slice a385 ((min 1 xs.length)) c386] 29 := hA796.new
                            have hF800 := hF784.ext hx797
                            have hF801 := hF785.ext hx797
                            have hF802 := hF786.ext hx797
                            have hF803 := hF787.ext hx797
                            have hF804 := hF788.ext hx797
                            have hF805 := hF789.ext hx797
                            have hF806 := hF790.ext hx797
                            have hE807 : Below w0.heap.size w0 w795 := hx797.e hE791 (Nat.le_refl _)
                            have hz808 := hE807.le
                            have hs809 := hx797.size
                            refine st_gq 5 144 rfl rfl (by decide) ?_
                            refine st_c (t_call [.slice ((some ⟨w782.heap.size, 0, none⟩)) 2 2] T.cf36 rfl rfl) (apart_2 lo (v0 := (a363, xs.length, c364)) (v1 := (a385, (min 1 xs.length), c386)) xs ((xs.take 1)) w782.heap.size _ (by omega) hB799 hF801 hF802 (by show xs.length ≤ _; omega) (by show (min 1 xs.length) ≤ _; omega) hd357 hd378 (by constructor <;> omega)) ?_
                            rintro _ w810 ⟨rfl, hb811⟩
                            refine ⟨_, rfl, ?_⟩
                            have hF812 := OB.belowLo hF800 hb811 (by omega)
                            have hE813 : Below w0.heap.size w0 w810 := hE807.trans (hb811.mono (by omega))
                            have hz814 := hE813.le
                            have hs815 := hb811.size
                            have hcz816 : w0.heap.size ≤ lo := by omega
                            have hcz817 : lo ≤ w810.heap.size := by omega
                            clear hcz777 hcz778 hcz779 hcz780 hcz781 hz792 hs793 hs798 hz808 hs809 hz814 hs815
                            refine st_q (v := .bool true) (x_pickT rfl rfl) ?_
                            refine st_q (v := .bool true) (x_move rfl) ?_
                            refine st_gq 11 150 rfl rfl (by decide) ?_
                            refine st_c (t_call [] T.cf16 rfl rfl) (works16 _) ?_
                            rintro _ w818 ⟨rfl, hx819⟩
                            refine ⟨_, rfl, ?_⟩
                            have hF820 := hF812.ext hx819
                            have hE821 : Below w0.heap.size w0 w818 := hx819.e hE813 (Nat.le_refl _)
                            have hz822 := hE821.le
                            have hs823 := hx819.size
                            refine st_q (v := .bool true) (x_pickT rfl rfl) ?_
                            refine st_q (v := .bool true) (x_assign rfl) ?_
                            refine st_nil ?_
                            refine kn732 _ _ ?_
                            refine ret ?_
                            refine leave1 (P := Try.prog) (fn := Try.f6) (t := 2) (v := .bool true) rfl rfl ?_
                            exact ⟨rfl, hE821⟩
                          ·
                            exact absurd h794 (not_not_intro rfl)

end Go.Proofs.Ytgfolockecjlnaa
