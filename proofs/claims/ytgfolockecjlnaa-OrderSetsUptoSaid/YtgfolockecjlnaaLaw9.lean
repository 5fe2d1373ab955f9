import Derived.Test.YtgfolockecjlnaaSets
namespace Go.Proofs.Ytgfolockecjlnaa
open Go.RowKit Go.Eng Go.OrdPure Go.HeapPure
theorem T.cf35 : CF Try.prog 35 := fun _ _ => by kernel_rfl
theorem T.cf39 : CF Try.prog 39 := fun _ _ => by kernel_rfl
theorem T.cf40 : CF Try.prog 40 := fun _ _ => by kernel_rfl
theorem T.cf41 : CF Try.prog 41 := fun _ _ => by kernel_rfl
theorem T.cf42 : CF Try.prog 42 := fun _ _ => by kernel_rfl
theorem T.cf43 : CF Try.prog 43 := fun _ _ => by kernel_rfl
theorem T.cf36 : CF Try.prog 36 := fun _ _ => by kernel_rfl

set_option maxHeartbeats 4000000 in
theorem ordersets9 (xs ys : List (Int × Int)) (vl vr : Value) (w0 : World) (hl : Src w0.heap vl xs.length 2 (flat enT xs)) (hr : Src w0.heap vr ys.length 2 (flat enT ys)) (hn : xs.length + ys.length ≤ 1048576) : Calls Try.prog 9 #[vl, vr] w0 fun e w' => e = .returned (.bool true) ∧ Ext w0 w' := by
  have hE0 : Below w0.heap.size w0 w0 := Below.refl _ _
  have hz0 := hE0.le
  obtain ⟨a, ca, rfl, hca, hca1⟩ := hl.form
  obtain ⟨b, cb, rfl, hcb, hcb1⟩ := hr.form
  obtain ⟨A, hA'⟩ : ∃ A, A = ddL byc (srt byc xs) := ⟨_, rfl⟩
  obtain ⟨B, hB'⟩ : ∃ B, B = ddL byc (srt byc ys) := ⟨_, rfl⟩
  have hA : SR A := hA' ▸ (ddL_SR _ (srt_rise byc_law xs)).1
  have hB : SR B := hB' ▸ (ddL_SR _ (srt_rise byc_law ys)).1
  have hAl : A.length ≤ xs.length := by rw [hA']; exact Nat.le_trans (ddL_len _) (by rw [srt_length]; exact Nat.le_refl _)
  have hBl : B.length ≤ ys.length := by rw [hB']; exact Nat.le_trans (ddL_len _) (by rw [srt_length]; exact Nat.le_refl _)
  have hUM := wk_len A B
  have hDl := minL_len A B
  have hback : wk true true true (wk true false false A B) (wk false false true A B) = A := by rw [wk_minus hA hB, wk_meet hA hB, wk_back hA hB]
  have hU2 := wk_union hA hB
  have hM2 := wk_meet hA hB
  have hD2 := wk_minus hA hB
  rw [← hD2] at hDl
  obtain ⟨U, hU⟩ : ∃ U, U = wk true true true A B := ⟨_, rfl⟩
  obtain ⟨M, hM⟩ : ∃ M, M = wk false false true A B := ⟨_, rfl⟩
  obtain ⟨D, hD⟩ : ∃ D, D = wk true false false A B := ⟨_, rfl⟩
  rw [← hU, ← hM] at hUM
  rw [← hU] at hU2
  rw [← hM] at hM2
  rw [← hD] at hD2 hDl
  rw [← hD, ← hM] at hback
  refine enter Try.func9 rfl 126 Try.ntmps9 rfl ?_
  refine seqK fun Q1 kn2 kr3 ke4 => ?_
  refine region ?_
  refine st_q (v := .bool false) (x_assign rfl) ?_
  refine st_nil ?_
  refine kn2 _ _ ?_
  refine seqK fun Q5 kn6 kr7 ke8 => ?_
  refine region ?_
  refine st_q (v := .slice a xs.length ca) (x_move rfl) ?_
  refine st_c (t_call [.slice a xs.length ca] T.cf35 rfl rfl) (refset35 xs _ _ (hl.below hE0) (by omega)) ?_
  rintro _ w9 ⟨v11, rfl, hx10, hO12⟩
  rw [← hA'] at hO12
  refine ⟨_, rfl, ?_⟩
  have hds1 : ∀ k, Value.ownBlock v11 = some k → k < w9.heap.size := fun k e => (hO12.lt e).2
  have hE13 : Below w0.heap.size w0 w9 := hx10.e hE0 (Nat.le_refl _)
  have hz14 := hE13.le
  have hs15 := hx10.size
  have hO16 := hO12.weak (lo' := w0.heap.size) (by omega)
  obtain ⟨a17, c18, rfl, hm19, hm20⟩ := hO16.src.form
  have hcz21 : w0.heap.size ≤ w9.heap.size := by omega
  clear hz14 hs15 hm20 hm19
  refine st_q (v := .slice a17 A.length c18) (x_assign rfl) ?_
  refine st_nil ?_
  refine kn6 _ _ ?_
  refine seqK fun Q22 kn23 kr24 ke25 => ?_
  refine region ?_
  refine st_q (v := .slice b ys.length cb) (x_move rfl) ?_
  refine st_c (t_call [.slice b ys.length cb] T.cf35 rfl rfl) (refset35 ys _ _ (hr.below hE13) (by omega)) ?_
  rintro _ w26 ⟨v28, rfl, hx27, hO29⟩
  rw [← hB'] at hO29
  refine ⟨_, rfl, ?_⟩
  have hds2 : ∀ k, Value.ownBlock v28 = some k → k < w26.heap.size := fun k e => (hO29.lt e).2
  have hF30 := hO16.ext hx27
  have hE31 : Below w0.heap.size w0 w26 := hx27.e hE13 (Nat.le_refl _)
  have hz32 := hE31.le
  have hs33 := hx27.size
  have hO34 := hO29.weak (lo' := w0.heap.size) (by omega)
  obtain ⟨a35, c36, rfl, hm37, hm38⟩ := hO34.src.form
  have hcz39 : w0.heap.size ≤ w9.heap.size := by omega
  have hcz40 : w9.heap.size ≤ w26.heap.size := by omega
  clear hcz21 hz32 hs33 hm38 hm37
  refine st_q (v := .slice a35 B.length c36) (x_assign rfl) ?_
  refine st_nil ?_
  refine kn23 _ _ ?_
  refine seqK fun Q41 kn42 kr43 ke44 => ?_
  refine region ?_
  refine st_q (v := .slice a17 A.length c18) (x_move rfl) ?_
  refine st_c (t_call [.slice a17 A.length c18] T.cf18 rfl rfl) (lend18 A _ _ hF30.src (by omega)) ?_
  rintro _ w45 ⟨la1, cl1, rfl, hx46, hcl1, hO47, hcly1⟩
  obtain ⟨bx1, cx1, hvx1, _, hOx1⟩ := hO47.ob (fun e => by have := (Value.slice.inj e).2.1; omega)
  obtain ⟨hla1, _, hcx1⟩ := Value.slice.inj hvx1
  subst hla1
  rw [← hcx1] at hOx1
  clear hvx1 hcx1
  refine ⟨_, rfl, ?_⟩
  have hF48 := hF30.ext hx46
  have hF49 := hO34.ext hx46
  have hE50 : Below w0.heap.size w0 w45 := hx46.e hE31 (Nat.le_refl _)
  have hz51 := hE50.le
  have hs52 := hx46.size
  have hOy1 := hOx1.weak (lo' := w0.heap.size) (by omega)
  have hl53 := hOy1.lo
  have hl54 := hOy1.lt
  have hcz55 : w0.heap.size ≤ w9.heap.size := by omega
  have hcz56 : w9.heap.size ≤ w26.heap.size := by omega
  have hcz57 : w26.heap.size ≤ w45.heap.size := by omega
  clear hcz39 hcz40 hz51 hs52
  refine st_q (v := .slice ((some ⟨bx1, 0, none⟩)) A.length cl1) (x_assign rfl) ?_
  refine st_nil ?_
  refine kn42 _ _ ?_
  refine seqK fun Q58 kn59 kr60 ke61 => ?_
  refine region ?_
  refine st_q (v := .slice a35 B.length c36) (x_move rfl) ?_
  refine st_c (t_call [.slice a35 B.length c36] T.cf18 rfl rfl) (lend18 B _ _ hF49.src (by omega)) ?_
  rintro _ w62 ⟨la2, cl2, rfl, hx63, hcl2, hO64, hcly2⟩
  obtain ⟨bx2, cx2, hvx2, _, hOx2⟩ := hO64.ob (fun e => by have := (Value.slice.inj e).2.1; omega)
  obtain ⟨hla2, _, hcx2⟩ := Value.slice.inj hvx2
  subst hla2
  rw [← hcx2] at hOx2
  clear hvx2 hcx2
  refine ⟨_, rfl, ?_⟩
  have hF65 := hF48.ext hx63
  have hF66 := hF49.ext hx63
  have hF67 := hOy1.ext hx63
  have hE68 : Below w0.heap.size w0 w62 := hx63.e hE50 (Nat.le_refl _)
  have hz69 := hE68.le
  have hs70 := hx63.size
  have hOy2 := hOx2.weak (lo' := w0.heap.size) (by omega)
  have hl71 := hOy2.lo
  have hl72 := hOy2.lt
  obtain ⟨lo, hlo, hlo2⟩ : ∃ lo, lo = w62.heap.size ∧ w0.heap.size ≤ lo := ⟨_, rfl, by omega⟩
  have hbx1 : bx1 < lo := by omega
  have hbx2 : bx2 < lo := by omega
  have hcz73 : w0.heap.size ≤ w9.heap.size := by omega
  have hcz74 : w9.heap.size ≤ w26.heap.size := by omega
  have hcz75 : w26.heap.size ≤ w45.heap.size := by omega
  have hcz76 : w45.heap.size ≤ lo := by omega
  have hcz77 : lo ≤ w62.heap.size := by omega
  clear hl53 hl54 hcz55 hcz56 hcz57 hz69 hs70 hl71 hl72
  refine st_q (v := .slice ((some ⟨bx2, 0, none⟩)) B.length cl2) (x_assign rfl) ?_
  refine st_nil ?_
  refine kn59 _ _ ?_
  refine seqK fun Q78 kn79 kr80 ke81 => ?_
  refine region ?_
  refine st_q (v := .slice ((some ⟨bx1, 0, none⟩)) A.length cl1) (x_move rfl) ?_
  refine st_q (v := .slice ((some ⟨bx2, 0, none⟩)) B.length cl2) (x_move rfl) ?_
  refine st_c (t_call [.slice ((some ⟨bx1, 0, none⟩)) A.length cl1, .slice ((some ⟨bx2, 0, none⟩)) B.length cl2, .func (.func 20) #[] #[]] T.cf39 rfl rfl) (union39 A B _ _ _ (OB.srcN (Y := A) hF67 (by omega)) (OB.srcN (Y := B) hOy2 (by omega)) (by omega)) ?_
  rintro _ w82 ⟨v84, rfl, hx83, hO85⟩
  rw [← hU] at hO85
  refine ⟨_, rfl, ?_⟩
  have hd86 : ∀ k, Value.ownBlock v84 = some k → w62.heap.size ≤ k ∧ k < w82.heap.size := fun k e => hO85.lt e
  have hF87 := hF65.ext hx83
  have hF88 := hF66.ext hx83
  have hF89 := hF67.ext hx83
  have hF90 := hOy2.ext hx83
  have hE91 : Below w0.heap.size w0 w82 := hx83.e hE68 (Nat.le_refl _)
  have hz92 := hE91.le
  have hs93 := hx83.size
  have hO94 := hO85.weak (lo' := lo) (by omega)
  obtain ⟨a95, c96, rfl, hm97, hm98⟩ := hO94.src.form
  have hcz99 : w0.heap.size ≤ w9.heap.size := by omega
  have hcz100 : w9.heap.size ≤ w26.heap.size := by omega
  have hcz101 : w26.heap.size ≤ w45.heap.size := by omega
  have hcz102 : w45.heap.size ≤ lo := by omega
  have hcz103 : lo ≤ w62.heap.size := by omega
  have hcz104 : w62.heap.size ≤ w82.heap.size := by omega
  clear hcz73 hcz74 hcz75 hcz76 hcz77 hz92 hs93 hm98 hm97
  refine st_q (v := .slice a95 U.length c96) (x_assign rfl) ?_
  refine st_nil ?_
  refine kn79 _ _ ?_
  refine seqK fun Q105 kn106 kr107 ke108 => ?_
  refine region ?_
  refine st_q (v := .slice ((some ⟨bx1, 0, none⟩)) A.length cl1) (x_move rfl) ?_
  refine st_q (v := .slice ((some ⟨bx2, 0, none⟩)) B.length cl2) (x_move rfl) ?_
  refine st_c (t_call [.slice ((some ⟨bx1, 0, none⟩)) A.length cl1, .slice ((some ⟨bx2, 0, none⟩)) B.length cl2, .func (.func 20) #[] #[]] T.cf40 rfl rfl) (meet40 A B _ _ _ (OB.srcN (Y := A) hF89 (by omega)) (OB.srcN (Y := B) hF90 (by omega)) (by omega)) ?_
  rintro _ w109 ⟨v111, rfl, hx110, hO112⟩
  rw [← hM] at hO112
  refine ⟨_, rfl, ?_⟩
  have hd113 : ∀ k, Value.ownBlock v111 = some k → w82.heap.size ≤ k ∧ k < w109.heap.size := fun k e => hO112.lt e
  have hF114 := hF87.ext hx110
  have hF115 := hF88.ext hx110
  have hF116 := hF89.ext hx110
  have hF117 := hF90.ext hx110
  have hF118 := hO94.ext hx110
  have hE119 : Below w0.heap.size w0 w109 := hx110.e hE91 (Nat.le_refl _)
  have hz120 := hE119.le
  have hs121 := hx110.size
  have hO122 := hO112.weak (lo' := lo) (by omega)
  obtain ⟨a123, c124, rfl, hm125, hm126⟩ := hO122.src.form
  have hcz127 : w0.heap.size ≤ w9.heap.size := by omega
  have hcz128 : w9.heap.size ≤ w26.heap.size := by omega
  have hcz129 : w26.heap.size ≤ w45.heap.size := by omega
  have hcz130 : w45.heap.size ≤ lo := by omega
  have hcz131 : lo ≤ w62.heap.size := by omega
  have hcz132 : w62.heap.size ≤ w82.heap.size := by omega
  have hcz133 : w82.heap.size ≤ w109.heap.size := by omega
  clear hcz99 hcz100 hcz101 hcz102 hcz103 hcz104 hz120 hs121 hm126 hm125
  refine st_q (v := .slice a123 M.length c124) (x_assign rfl) ?_
  refine st_nil ?_
  refine kn106 _ _ ?_
  refine seqK fun Q134 kn135 kr136 ke137 => ?_
  refine region ?_
  refine st_q (v := .slice ((some ⟨bx1, 0, none⟩)) A.length cl1) (x_move rfl) ?_
  refine st_q (v := .slice ((some ⟨bx2, 0, none⟩)) B.length cl2) (x_move rfl) ?_
  refine st_c (t_call [.slice ((some ⟨bx1, 0, none⟩)) A.length cl1, .slice ((some ⟨bx2, 0, none⟩)) B.length cl2, .func (.func 20) #[] #[]] T.cf41 rfl rfl) (minus41 A B _ _ _ (OB.srcN (Y := A) hF116 (by omega)) (OB.srcN (Y := B) hF117 (by omega)) (by omega)) ?_
  rintro _ w138 ⟨v140, rfl, hx139, hO141⟩
  rw [← hD] at hO141
  refine ⟨_, rfl, ?_⟩
  have hd142 : ∀ k, Value.ownBlock v140 = some k → w109.heap.size ≤ k ∧ k < w138.heap.size := fun k e => hO141.lt e
  have hF143 := hF114.ext hx139
  have hF144 := hF115.ext hx139
  have hF145 := hF116.ext hx139
  have hF146 := hF117.ext hx139
  have hF147 := hF118.ext hx139
  have hF148 := hO122.ext hx139
  have hE149 : Below w0.heap.size w0 w138 := hx139.e hE119 (Nat.le_refl _)
  have hz150 := hE149.le
  have hs151 := hx139.size
  have hO152 := hO141.weak (lo' := lo) (by omega)
  obtain ⟨a153, c154, rfl, hm155, hm156⟩ := hO152.src.form
  have hcz157 : w0.heap.size ≤ w9.heap.size := by omega
  have hcz158 : w9.heap.size ≤ w26.heap.size := by omega
  have hcz159 : w26.heap.size ≤ w45.heap.size := by omega
  have hcz160 : w45.heap.size ≤ lo := by omega
  have hcz161 : lo ≤ w62.heap.size := by omega
  have hcz162 : w62.heap.size ≤ w82.heap.size := by omega
  have hcz163 : w82.heap.size ≤ w109.heap.size := by omega
  have hcz164 : w109.heap.size ≤ w138.heap.size := by omega
  clear hcz127 hcz128 hcz129 hcz130 hcz131 hcz132 hcz133 hz150 hs151 hm156 hm155
  refine st_q (v := .slice a153 D.length c154) (x_assign rfl) ?_
  refine st_nil ?_
  refine kn135 _ _ ?_
  refine seqK fun Q165 kn166 kr167 ke168 => ?_
  refine region ?_
  refine st_q (v := .slice ((some ⟨bx1, 0, none⟩)) A.length cl1) (x_move rfl) ?_
  refine st_q (v := .slice ((some ⟨bx2, 0, none⟩)) B.length cl2) (x_move rfl) ?_
  refine st_c (t_call [.slice ((some ⟨bx1, 0, none⟩)) A.length cl1, .slice ((some ⟨bx2, 0, none⟩)) B.length cl2, .func (.func 20) #[] #[]] T.cf39 rfl rfl) (union39 A B _ _ _ (OB.srcN (Y := A) hF145 (by omega)) (OB.srcN (Y := B) hF146 (by omega)) (by omega)) ?_
  rintro _ w169 ⟨v171, rfl, hx170, hO172⟩
  rw [← hU] at hO172
  refine ⟨_, rfl, ?_⟩
  have hd173 : ∀ k, Value.ownBlock v171 = some k → w138.heap.size ≤ k ∧ k < w169.heap.size := fun k e => hO172.lt e
  have hF174 := hF143.ext hx170
  have hF175 := hF144.ext hx170
  have hF176 := hF145.ext hx170
  have hF177 := hF146.ext hx170
  have hF178 := hF147.ext hx170
  have hF179 := hF148.ext hx170
  have hF180 := hO152.ext hx170
  have hE181 : Below w0.heap.size w0 w169 := hx170.e hE149 (Nat.le_refl _)
  have hz182 := hE181.le
  have hs183 := hx170.size
  have hO184 := hO172.weak (lo' := lo) (by omega)
  obtain ⟨a185, c186, rfl, hm187, hm188⟩ := hO184.src.form
  have hcz189 : w0.heap.size ≤ w9.heap.size := by omega
  have hcz190 : w9.heap.size ≤ w26.heap.size := by omega
  have hcz191 : w26.heap.size ≤ w45.heap.size := by omega
  have hcz192 : w45.heap.size ≤ lo := by omega
  have hcz193 : lo ≤ w62.heap.size := by omega
  have hcz194 : w62.heap.size ≤ w82.heap.size := by omega
  have hcz195 : w82.heap.size ≤ w109.heap.size := by omega
  have hcz196 : w109.heap.size ≤ w138.heap.size := by omega
  have hcz197 : w138.heap.size ≤ w169.heap.size := by omega
  clear hcz157 hcz158 hcz159 hcz160 hcz161 hcz162 hcz163 hcz164 hz182 hs183 hm188 hm187
  refine st_q (v := .slice a185 U.length c186) (x_assign rfl) ?_
  refine st_nil ?_
  refine kn166 _ _ ?_
  refine seqK fun Q198 kn199 kr200 ke201 => ?_
  refine seqK fun Q202 kn203 kr204 ke205 => ?_
  refine region ?_
  refine st_q (v := .slice a95 U.length c96) (x_move rfl) ?_
  refine st_q (v := .slice a17 A.length c18) (x_move rfl) ?_
  refine st_q (v := .slice a35 B.length c36) (x_move rfl) ?_
  refine st_c (t_call [.slice a17 A.length c18, .slice a35 B.length c36] T.cf42 rfl rfl) (refunion42 A B _ _ _ hF174.src hF175.src (by omega)) ?_
  rintro _ w206 ⟨v208, rfl, hx207, hO209⟩
  rw [← hU2] at hO209
  refine ⟨_, rfl, ?_⟩
  have hd210 : ∀ k, Value.ownBlock v208 = some k → w169.heap.size ≤ k ∧ k < w206.heap.size := fun k e => hO209.lt e
  have hF211 := hF174.ext hx207
  have hF212 := hF175.ext hx207
  have hF213 := hF176.ext hx207
  have hF214 := hF177.ext hx207
  have hF215 := hF178.ext hx207
  have hF216 := hF179.ext hx207
  have hF217 := hF180.ext hx207
  have hF218 := hO184.ext hx207
  have hE219 : Below w0.heap.size w0 w206 := hx207.e hE181 (Nat.le_refl _)
  have hz220 := hE219.le
  have hs221 := hx207.size
  have hO222 := hO209.weak (lo' := lo) (by omega)
  obtain ⟨a223, c224, rfl, hm225, hm226⟩ := hO222.src.form
  have hcz227 : w0.heap.size ≤ w9.heap.size := by omega
  have hcz228 : w9.heap.size ≤ w26.heap.size := by omega
  have hcz229 : w26.heap.size ≤ w45.heap.size := by omega
  have hcz230 : w45.heap.size ≤ lo := by omega
  have hcz231 : lo ≤ w62.heap.size := by omega
  have hcz232 : w62.heap.size ≤ w82.heap.size := by omega
  have hcz233 : w82.heap.size ≤ w109.heap.size := by omega
  have hcz234 : w109.heap.size ≤ w138.heap.size := by omega
  have hcz235 : w138.heap.size ≤ w169.heap.size := by omega
  have hcz236 : w169.heap.size ≤ w206.heap.size := by omega
  clear hcz189 hcz190 hcz191 hcz192 hcz193 hcz194 hcz195 hcz196 hcz197 hz220 hs221 hm226 hm225
  refine st_c (t_call [.slice a95 U.length c96, .slice a223 U.length c224] T.cf34 rfl rfl) (same U U _ _ _ hF215.src hO222.src) ?_
  rintro _ w237 ⟨rfl, hx238⟩
  refine ⟨_, rfl, ?_⟩
  have hF239 := hF211.ext hx238
  have hF240 := hF212.ext hx238
  have hF241 := hF213.ext hx238
  have hF242 := hF214.ext hx238
  have hF243 := hF215.ext hx238
  have hF244 := hF216.ext hx238
  have hF245 := hF217.ext hx238
  have hF246 := hF218.ext hx238
  have hF247 := hO222.ext hx238
  have hE248 : Below w0.heap.size w0 w237 := hx238.e hE219 (Nat.le_refl _)
  have hz249 := hE248.le
  have hs250 := hx238.size
  refine st_q (v := .bool (decide (¬ (U = U)))) (x_notP rfl) ?_
  refine st_if (p := ¬ (U = U)) (x_move rfl) (fun h251 => ?_) (fun h251 => ?_)
  ·
    exact absurd h251 (not_not_intro rfl)
  ·
    clear h251
    refine st_gq 6 39 rfl rfl (by decide) ?_
    refine st_q (v := .slice a123 M.length c124) (x_move rfl) ?_
    refine st_gq 6 39 rfl rfl (by decide) ?_
    refine st_q (v := .slice a17 A.length c18) (x_move rfl) ?_
    refine st_gq 6 39 rfl rfl (by decide) ?_
    refine st_q (v := .slice a35 B.length c36) (x_move rfl) ?_
    refine st_gq 6 39 rfl rfl (by decide) ?_
    refine st_c (t_call [.slice a17 A.length c18, .slice a35 B.length c36] T.cf43 rfl rfl) (refmeetL43 A B _ _ _ hF239.src hF240.src (by omega)) ?_
    rintro _ w252 ⟨v254, rfl, hx253, hO255⟩
    rw [← hM2] at hO255
    refine ⟨_, rfl, ?_⟩
    have hd256 : ∀ k, Value.ownBlock v254 = some k → w237.heap.size ≤ k ∧ k < w252.heap.size := fun k e => hO255.lt e
    have hF257 := hF239.ext hx253
    have hF258 := hF240.ext hx253
    have hF259 := hF241.ext hx253
    have hF260 := hF242.ext hx253
    have hF261 := hF243.ext hx253
    have hF262 := hF244.ext hx253
    have hF263 := hF245.ext hx253
    have hF264 := hF246.ext hx253
    have hF265 := hF247.ext hx253
    have hE266 : Below w0.heap.size w0 w252 := hx253.e hE248 (Nat.le_refl _)
    have hz267 := hE266.le
    have hs268 := hx253.size
    have hO269 := hO255.weak (lo' := lo) (by omega)
    obtain ⟨a270, c271, rfl, hm272, hm273⟩ := hO269.src.form
    have hcz274 : w0.heap.size ≤ w9.heap.size := by omega
    have hcz275 : w9.heap.size ≤ w26.heap.size := by omega
    have hcz276 : w26.heap.size ≤ w45.heap.size := by omega
    have hcz277 : w45.heap.size ≤ lo := by omega
    have hcz278 : lo ≤ w62.heap.size := by omega
    have hcz279 : w62.heap.size ≤ w82.heap.size := by omega
    have hcz280 : w82.heap.size ≤ w109.heap.size := by omega
    have hcz281 : w109.heap.size ≤ w138.heap.size := by omega
    have hcz282 : w138.heap.size ≤ w169.heap.size := by omega
    have hcz283 : w169.heap.size ≤ w252.heap.size := by omega
    clear hcz227 hcz228 hcz229 hcz230 hcz231 hcz232 hcz233 hcz234 hcz235 hcz236 hz249 hs250 hz267 hs268 hm273 hm272
    refine st_gq 6 39 rfl rfl (by decide) ?_
    refine st_c (t_call [.slice a123 M.length c124, .slice a270 M.length c271] T.cf34 rfl rfl) (same M M _ _ _ hF262.src hO269.src) ?_
    rintro _ w284 ⟨rfl, hx285⟩
    refine ⟨_, rfl, ?_⟩
    have hF286 := hF257.ext hx285
    have hF287 := hF258.ext hx285
    have hF288 := hF259.ext hx285
    have hF289 := hF260.ext hx285
    have hF290 := hF261.ext hx285
    have hF291 := hF262.ext hx285
    have hF292 := hF263.ext hx285
    have hF293 := hF264.ext hx285
    have hF294 := hF265.ext hx285
    have hF295 := hO269.ext hx285
    have hE296 : Below w0.heap.size w0 w284 := hx285.e hE266 (Nat.le_refl _)
    have hz297 := hE296.le
    have hs298 := hx285.size
    refine st_gq 6 39 rfl rfl (by decide) ?_
    refine st_q (v := .bool (decide (¬ (M = M)))) (x_notP rfl) ?_
    refine st_q (v := .bool (decide (¬ (M = M)))) (x_pickF rfl rfl) ?_
    refine st_if (p := ¬ (M = M)) (x_move rfl) (fun h299 => ?_) (fun h299 => ?_)
    ·
      exact absurd h299 (not_not_intro rfl)
    ·
      clear h299
      refine st_gq 14 47 rfl rfl (by decide) ?_
      refine st_q (v := .slice a153 D.length c154) (x_move rfl) ?_
      refine st_gq 14 47 rfl rfl (by decide) ?_
      refine st_q (v := .slice a17 A.length c18) (x_move rfl) ?_
      refine st_gq 14 47 rfl rfl (by decide) ?_
      refine st_q (v := .slice a35 B.length c36) (x_move rfl) ?_
      refine st_gq 14 47 rfl rfl (by decide) ?_
      refine st_c (t_call [.slice a17 A.length c18, .slice a35 B.length c36] T.cf44 rfl rfl) (refminL44 A B _ _ _ hF286.src hF287.src (by omega)) ?_
      rintro _ w300 ⟨v302, rfl, hx301, hO303⟩
      rw [← hD2] at hO303
      refine ⟨_, rfl, ?_⟩
      have hd304 : ∀ k, Value.ownBlock v302 = some k → w284.heap.size ≤ k ∧ k < w300.heap.size := fun k e => hO303.lt e
      have hF305 := hF286.ext hx301
      have hF306 := hF287.ext hx301
      have hF307 := hF288.ext hx301
      have hF308 := hF289.ext hx301
      have hF309 := hF290.ext hx301
      have hF310 := hF291.ext hx301
      have hF311 := hF292.ext hx301
      have hF312 := hF293.ext hx301
      have hF313 := hF294.ext hx301
      have hF314 := hF295.ext hx301
      have hE315 : Below w0.heap.size w0 w300 := hx301.e hE296 (Nat.le_refl _)
      have hz316 := hE315.le
      have hs317 := hx301.size
      have hO318 := hO303.weak (lo' := lo) (by omega)
      obtain ⟨a319, c320, rfl, hm321, hm322⟩ := hO318.src.form
      have hcz323 : w0.heap.size ≤ w9.heap.size := by omega
      have hcz324 : w9.heap.size ≤ w26.heap.size := by omega
      have hcz325 : w26.heap.size ≤ w45.heap.size := by omega
      have hcz326 : w45.heap.size ≤ lo := by omega
      have hcz327 : lo ≤ w62.heap.size := by omega
      have hcz328 : w62.heap.size ≤ w82.heap.size := by omega
      have hcz329 : w82.heap.size ≤ w109.heap.size := by omega
      have hcz330 : w109.heap.size ≤ w138.heap.size := by omega
      have hcz331 : w138.heap.size ≤ w169.heap.size := by omega
      have hcz332 : w169.heap.size ≤ w300.heap.size := by omega
      clear hcz274 hcz275 hcz276 hcz277 hcz278 hcz279 hcz280 hcz281 hcz282 hcz283 hz297 hs298 hz316 hs317 hm322 hm321
      refine st_gq 14 47 rfl rfl (by decide) ?_
      refine st_c (t_call [.slice a153 D.length c154, .slice a319 D.length c320] T.cf34 rfl rfl) (same D D _ _ _ hF311.src hO318.src) ?_
      rintro _ w333 ⟨rfl, hx334⟩
      refine ⟨_, rfl, ?_⟩
      have hF335 := hF305.ext hx334
      have hF336 := hF306.ext hx334
      have hF337 := hF307.ext hx334
      have hF338 := hF308.ext hx334
      have hF339 := hF309.ext hx334
      have hF340 := hF310.ext hx334
      have hF341 := hF311.ext hx334
      have hF342 := hF312.ext hx334
      have hF343 := hF313.ext hx334
      have hF344 := hF314.ext hx334
      have hF345 := hO318.ext hx334
      have hE346 : Below w0.heap.size w0 w333 := hx334.e hE315 (Nat.le_refl _)
      have hz347 := hE346.le
      have hs348 := hx334.size
      refine st_gq 14 47 rfl rfl (by decide) ?_
      refine st_q (v := .bool (decide (¬ (D = D)))) (x_notP rfl) ?_
      refine st_q (v := .bool (decide (¬ (D = D)))) (x_pickF rfl rfl) ?_
      refine st_if (p := ¬ (D = D)) (x_move rfl) (fun h349 => ?_) (fun h349 => ?_)
      ·
        exact absurd h349 (not_not_intro rfl)
      ·
        clear h349
        refine st_gq 22 55 rfl rfl (by decide) ?_
        refine st_q (v := .slice a185 U.length c186) (x_move rfl) ?_
        refine st_gq 22 55 rfl rfl (by decide) ?_
        refine st_q (v := .slice a95 U.length c96) (x_move rfl) ?_
        refine st_gq 22 55 rfl rfl (by decide) ?_
        refine st_c (t_call [.slice a185 U.length c186, .slice a95 U.length c96] T.cf34 rfl rfl) (same U U _ _ _ hF342.src hF339.src) ?_
        rintro _ w350 ⟨rfl, hx351⟩
        refine ⟨_, rfl, ?_⟩
        have hF352 := hF335.ext hx351
        have hF353 := hF336.ext hx351
        have hF354 := hF337.ext hx351
        have hF355 := hF338.ext hx351
        have hF356 := hF339.ext hx351
        have hF357 := hF340.ext hx351
        have hF358 := hF341.ext hx351
        have hF359 := hF342.ext hx351
        have hF360 := hF343.ext hx351
        have hF361 := hF344.ext hx351
        have hF362 := hF345.ext hx351
        have hE363 : Below w0.heap.size w0 w350 := hx351.e hE346 (Nat.le_refl _)
        have hz364 := hE363.le
        have hs365 := hx351.size
        refine st_gq 22 55 rfl rfl (by decide) ?_
        refine st_q (v := .bool (decide (¬ (U = U)))) (x_notP rfl) ?_
        refine st_q (v := .bool (decide (¬ (U = U)))) (x_pickF rfl rfl) ?_
        refine st_if (p := ¬ (U = U)) (x_move rfl) (fun h366 => ?_) (fun h366 => ?_)
        ·
          exact absurd h366 (not_not_intro rfl)
        ·
          clear h366
          refine st_gq 28 61 rfl rfl (by decide) ?_
          refine st_q (v := .slice ((some ⟨bx1, 0, none⟩)) A.length cl1) (x_move rfl) ?_
          refine st_gq 28 61 rfl rfl (by decide) ?_
          refine st_q (v := .slice a17 A.length c18) (x_move rfl) ?_
          refine st_gq 28 61 rfl rfl (by decide) ?_
          refine st_c (t_call [.slice ((some ⟨bx1, 0, none⟩)) A.length cl1, .slice a17 A.length c18] T.cf22 rfl rfl) (kept22 A _ _ _ _ (OB.srcA hF354 (by omega) (by simp)) hF352.src (by omega)) ?_
          rintro _ w367 ⟨rfl, hx368⟩
          refine ⟨_, rfl, ?_⟩
          have hF369 := hF352.ext hx368
          have hF370 := hF353.ext hx368
          have hF371 := hF354.ext hx368
          have hF372 := hF355.ext hx368
          have hF373 := hF356.ext hx368
          have hF374 := hF357.ext hx368
          have hF375 := hF358.ext hx368
          have hF376 := hF359.ext hx368
          have hF377 := hF360.ext hx368
          have hF378 := hF361.ext hx368
          have hF379 := hF362.ext hx368
          have hE380 : Below w0.heap.size w0 w367 := hx368.e hE363 (Nat.le_refl _)
          have hz381 := hE380.le
          have hs382 := hx368.size
          refine st_gq 28 61 rfl rfl (by decide) ?_
          refine st_q (v := .bool false) (x_notB (b := true) rfl) ?_
          refine st_q (v := .bool false) (x_pickF rfl rfl) ?_
          refine st_q (v := .bool false) (x_move rfl) ?_
          refine st_gq 34 67 rfl rfl (by decide) ?_
          refine st_q (v := .slice ((some ⟨bx2, 0, none⟩)) B.length cl2) (x_move rfl) ?_
          refine st_gq 34 67 rfl rfl (by decide) ?_
          refine st_q (v := .slice a35 B.length c36) (x_move rfl) ?_
          refine st_gq 34 67 rfl rfl (by decide) ?_
          refine st_c (t_call [.slice ((some ⟨bx2, 0, none⟩)) B.length cl2, .slice a35 B.length c36] T.cf22 rfl rfl) (kept22 B _ _ _ _ (OB.srcA hF372 (by omega) (by simp)) hF370.src (by omega)) ?_
          rintro _ w383 ⟨rfl, hx384⟩
          refine ⟨_, rfl, ?_⟩
          have hF385 := hF369.ext hx384
          have hF386 := hF370.ext hx384
          have hF387 := hF371.ext hx384
          have hF388 := hF372.ext hx384
          have hF389 := hF373.ext hx384
          have hF390 := hF374.ext hx384
          have hF391 := hF375.ext hx384
          have hF392 := hF376.ext hx384
          have hF393 := hF377.ext hx384
          have hF394 := hF378.ext hx384
          have hF395 := hF379.ext hx384
          have hE396 : Below w0.heap.size w0 w383 := hx384.e hE380 (Nat.le_refl _)
          have hz397 := hE396.le
          have hs398 := hx384.size
          refine st_gq 34 67 rfl rfl (by decide) ?_
          refine st_q (v := .bool false) (x_notB (b := true) rfl) ?_
          refine st_q (v := .bool false) (x_pickF rfl rfl) ?_
          refine st_nil ?_
          refine kn203 _ _ ?_
          refine cndF rfl ?_
          refine skip ?_
          refine kn199 _ _ ?_
          refine seqK fun Q399 kn400 kr401 ke402 => ?_
          refine seqK fun Q403 kn404 kr405 ke406 => ?_
          refine region ?_
          refine st_q (v := .slice a153 D.length c154) (x_move rfl) ?_
          refine st_q (v := .slice a123 M.length c124) (x_move rfl) ?_
          refine st_c (t_call [.slice a153 D.length c154, .slice a123 M.length c124, .func (.func 20) #[] #[]] T.cf39 rfl rfl) (union39 D M _ _ _ hF391.src hF390.src (by omega)) ?_
          rintro _ w407 ⟨v409, rfl, hx408, hO410⟩
          rw [hback] at hO410
          refine ⟨_, rfl, ?_⟩
          have hd411 : ∀ k, Value.ownBlock v409 = some k → w383.heap.size ≤ k ∧ k < w407.heap.size := fun k e => hO410.lt e
          have hF412 := hF385.ext hx408
          have hF413 := hF386.ext hx408
          have hF414 := hF387.ext hx408
          have hF415 := hF388.ext hx408
          have hF416 := hF389.ext hx408
          have hF417 := hF390.ext hx408
          have hF418 := hF391.ext hx408
          have hF419 := hF392.ext hx408
          have hF420 := hF393.ext hx408
          have hF421 := hF394.ext hx408
          have hF422 := hF395.ext hx408
          have hE423 : Below w0.heap.size w0 w407 := hx408.e hE396 (Nat.le_refl _)
          have hz424 := hE423.le
          have hs425 := hx408.size
          have hO426 := hO410.weak (lo' := lo) (by omega)
          obtain ⟨a427, c428, rfl, hm429, hm430⟩ := hO426.src.form
          have hcz431 : w0.heap.size ≤ w9.heap.size := by omega
          have hcz432 : w9.heap.size ≤ w26.heap.size := by omega
          have hcz433 : w26.heap.size ≤ w45.heap.size := by omega
          have hcz434 : w45.heap.size ≤ lo := by omega
          have hcz435 : lo ≤ w62.heap.size := by omega
          have hcz436 : w62.heap.size ≤ w82.heap.size := by omega
          have hcz437 : w82.heap.size ≤ w109.heap.size := by omega
          have hcz438 : w109.heap.size ≤ w138.heap.size := by omega
          have hcz439 : w138.heap.size ≤ w169.heap.size := by omega
          have hcz440 : w169.heap.size ≤ w407.heap.size := by omega
          clear hcz323 hcz324 hcz325 hcz326 hcz327 hcz328 hcz329 hcz330 hcz331 hcz332 hz347 hs348 hz364 hs365 hz381 hs382 hz397 hs398 hz424 hs425 hm430 hm429
          refine st_q (v := .slice a17 A.length c18) (x_move rfl) ?_
          refine st_c (t_call [.slice a427 A.length c428, .slice a17 A.length c18] T.cf34 rfl rfl) (same A A _ _ _ hO426.src hF412.src) ?_
          rintro _ w441 ⟨rfl, hx442⟩
          refine ⟨_, rfl, ?_⟩
          have hF443 := hF412.ext hx442
          have hF444 := hF413.ext hx442
          have hF445 := hF414.ext hx442
          have hF446 := hF415.ext hx442
          have hF447 := hF416.ext hx442
          have hF448 := hF417.ext hx442
          have hF449 := hF418.ext hx442
          have hF450 := hF419.ext hx442
          have hF451 := hF420.ext hx442
          have hF452 := hF421.ext hx442
          have hF453 := hF422.ext hx442
          have hF454 := hO426.ext hx442
          have hE455 : Below w0.heap.size w0 w441 := hx442.e hE423 (Nat.le_refl _)
          have hz456 := hE455.le
          have hs457 := hx442.size
          refine st_q (v := .bool (decide (¬ (A = A)))) (x_notP rfl) ?_
          refine st_if (p := ¬ (A = A)) (x_move rfl) (fun h458 => ?_) (fun h458 => ?_)
          ·
            exact absurd h458 (not_not_intro rfl)
          ·
            clear h458
            refine st_gq 6 79 rfl rfl (by decide) ?_
            refine st_q (v := .slice a17 A.length c18) (x_move rfl) ?_
            refine st_gq 6 79 rfl rfl (by decide) ?_
            refine st_q (v := .slice a17 A.length c18) (x_move rfl) ?_
            refine st_gq 6 79 rfl rfl (by decide) ?_
            refine st_c (t_call [.slice a17 A.length c18, .slice a17 A.length c18, .func (.func 20) #[] #[]] T.cf41 rfl rfl) (minus41 A A _ _ _ hF443.src hF443.src (by omega)) ?_
            rintro _ w459 ⟨v461, rfl, hx460, hO462⟩
            rw [wk_self hA] at hO462
            refine ⟨_, rfl, ?_⟩
            have hd463 : ∀ k, Value.ownBlock v461 = some k → w441.heap.size ≤ k ∧ k < w459.heap.size := fun k e => hO462.lt e
            have hF464 := hF443.ext hx460
            have hF465 := hF444.ext hx460
            have hF466 := hF445.ext hx460
            have hF467 := hF446.ext hx460
            have hF468 := hF447.ext hx460
            have hF469 := hF448.ext hx460
            have hF470 := hF449.ext hx460
            have hF471 := hF450.ext hx460
            have hF472 := hF451.ext hx460
            have hF473 := hF452.ext hx460
            have hF474 := hF453.ext hx460
            have hF475 := hF454.ext hx460
            have hE476 : Below w0.heap.size w0 w459 := hx460.e hE455 (Nat.le_refl _)
            have hz477 := hE476.le
            have hs478 := hx460.size
            have hO479 := hO462.weak (lo' := lo) (by omega)
            obtain ⟨a480, c481, rfl, hm482, hm483⟩ := hO479.src.form
            have hcz484 : w0.heap.size ≤ w9.heap.size := by omega
            have hcz485 : w9.heap.size ≤ w26.heap.size := by omega
            have hcz486 : w26.heap.size ≤ w45.heap.size := by omega
            have hcz487 : w45.heap.size ≤ lo := by omega
            have hcz488 : lo ≤ w62.heap.size := by omega
            have hcz489 : w62.heap.size ≤ w82.heap.size := by omega
            have hcz490 : w82.heap.size ≤ w109.heap.size := by omega
            have hcz491 : w109.heap.size ≤ w138.heap.size := by omega
            have hcz492 : w138.heap.size ≤ w169.heap.size := by omega
            have hcz493 : w169.heap.size ≤ w459.heap.size := by omega
            clear hcz431 hcz432 hcz433 hcz434 hcz435 hcz436 hcz437 hcz438 hcz439 hcz440 hz456 hs457 hz477 hs478 hm483 hm482
            refine st_gq 6 79 rfl rfl (by decide) ?_
            refine st_q (v := .int .i64 ((([] : List (Int × Int)).length : Nat) : Int)) (x_lenSl rfl Try.underlying29 rfl) ?_
            refine st_gq 6 79 rfl rfl (by decide) ?_
            refine st_q (v := .bool (decide ((([] : List (Int × Int)).length) ≠ 0))) (x_neqN rfl rfl) ?_
            refine st_q (v := .bool (decide ((([] : List (Int × Int)).length) ≠ 0))) (x_pickF rfl rfl) ?_
            refine st_if (p := (([] : List (Int × Int)).length) ≠ 0) (x_move rfl) (fun h494 => ?_) (fun h494 => ?_)
            ·
              exact absurd h494 (not_not_intro rfl)
            ·
              clear h494
              refine st_gq 13 86 rfl rfl (by decide) ?_
              refine st_q (v := .slice a17 A.length c18) (x_move rfl) ?_
              refine st_gq 13 86 rfl rfl (by decide) ?_
              refine st_q (v := .slice a17 A.length c18) (x_move rfl) ?_
              refine st_gq 13 86 rfl rfl (by decide) ?_
              refine st_c (t_call [.slice a17 A.length c18, .slice a17 A.length c18, .func (.func 20) #[] #[]] T.cf40 rfl rfl) (meet40 A A _ _ _ hF464.src hF464.src (by omega)) ?_
              rintro _ w495 ⟨v497, rfl, hx496, hO498⟩
              rw [wk_same hA] at hO498
              refine ⟨_, rfl, ?_⟩
              have hd499 : ∀ k, Value.ownBlock v497 = some k → w459.heap.size ≤ k ∧ k < w495.heap.size := fun k e => hO498.lt e
              have hF500 := hF464.ext hx496
              have hF501 := hF465.ext hx496
              have hF502 := hF466.ext hx496
              have hF503 := hF467.ext hx496
              have hF504 := hF468.ext hx496
              have hF505 := hF469.ext hx496
              have hF506 := hF470.ext hx496
              have hF507 := hF471.ext hx496
              have hF508 := hF472.ext hx496
              have hF509 := hF473.ext hx496
              have hF510 := hF474.ext hx496
              have hF511 := hF475.ext hx496
              have hF512 := hO479.ext hx496
              have hE513 : Below w0.heap.size w0 w495 := hx496.e hE476 (Nat.le_refl _)
              have hz514 := hE513.le
              have hs515 := hx496.size
              have hO516 := hO498.weak (lo' := lo) (by omega)
              obtain ⟨a517, c518, rfl, hm519, hm520⟩ := hO516.src.form
              have hcz521 : w0.heap.size ≤ w9.heap.size := by omega
              have hcz522 : w9.heap.size ≤ w26.heap.size := by omega
              have hcz523 : w26.heap.size ≤ w45.heap.size := by omega
              have hcz524 : w45.heap.size ≤ lo := by omega
              have hcz525 : lo ≤ w62.heap.size := by omega
              have hcz526 : w62.heap.size ≤ w82.heap.size := by omega
              have hcz527 : w82.heap.size ≤ w109.heap.size := by omega
              have hcz528 : w109.heap.size ≤ w138.heap.size := by omega
              have hcz529 : w138.heap.size ≤ w169.heap.size := by omega
              have hcz530 : w169.heap.size ≤ w495.heap.size := by omega
              clear hcz484 hcz485 hcz486 hcz487 hcz488 hcz489 hcz490 hcz491 hcz492 hcz493 hz514 hs515 hm520 hm519
              refine st_gq 13 86 rfl rfl (by decide) ?_
              refine st_q (v := .slice a17 A.length c18) (x_move rfl) ?_
              refine st_gq 13 86 rfl rfl (by decide) ?_
              refine st_c (t_call [.slice a517 A.length c518, .slice a17 A.length c18] T.cf34 rfl rfl) (same A A _ _ _ hO516.src hF500.src) ?_
              rintro _ w531 ⟨rfl, hx532⟩
              refine ⟨_, rfl, ?_⟩
              have hF533 := hF500.ext hx532
              have hF534 := hF501.ext hx532
              have hF535 := hF502.ext hx532
              have hF536 := hF503.ext hx532
              have hF537 := hF504.ext hx532
              have hF538 := hF505.ext hx532
              have hF539 := hF506.ext hx532
              have hF540 := hF507.ext hx532
              have hF541 := hF508.ext hx532
              have hF542 := hF509.ext hx532
              have hF543 := hF510.ext hx532
              have hF544 := hF511.ext hx532
              have hF545 := hF512.ext hx532
              have hF546 := hO516.ext hx532
              have hE547 : Below w0.heap.size w0 w531 := hx532.e hE513 (Nat.le_refl _)
              have hz548 := hE547.le
              have hs549 := hx532.size
              refine st_gq 13 86 rfl rfl (by decide) ?_
              refine st_q (v := .bool (decide (¬ (A = A)))) (x_notP rfl) ?_
              refine st_q (v := .bool (decide (¬ (A = A)))) (x_pickF rfl rfl) ?_
              refine st_if (p := ¬ (A = A)) (x_move rfl) (fun h550 => ?_) (fun h550 => ?_)
              ·
                exact absurd h550 (not_not_intro rfl)
              ·
                clear h550
                refine st_gq 21 94 rfl rfl (by decide) ?_
                refine st_q (v := .slice a95 U.length c96) (x_move rfl) ?_
                refine st_gq 21 94 rfl rfl (by decide) ?_
                refine st_q (v := .int .i64 ((U.length : Nat) : Int)) (x_lenSl rfl Try.underlying29 rfl) ?_
                refine st_gq 21 94 rfl rfl (by decide) ?_
                refine st_q (v := .slice a17 A.length c18) (x_move rfl) ?_
                refine st_gq 21 94 rfl rfl (by decide) ?_
                refine st_q (v := .int .i64 ((A.length : Nat) : Int)) (x_lenSl rfl Try.underlying29 rfl) ?_
                refine st_gq 21 94 rfl rfl (by decide) ?_
                refine st_q (v := .slice a35 B.length c36) (x_move rfl) ?_
                refine st_gq 21 94 rfl rfl (by decide) ?_
                refine st_q (v := .int .i64 ((B.length : Nat) : Int)) (x_lenSl rfl Try.underlying29 rfl) ?_
                refine st_gq 21 94 rfl rfl (by decide) ?_
                refine st_q (v := .int .i64 (((A.length + B.length) : Nat) : Int)) (x_addN rfl rfl (by omega)) ?_
                refine st_gq 21 94 rfl rfl (by decide) ?_
                refine st_q (v := .slice a123 M.length c124) (x_move rfl) ?_
                refine st_gq 21 94 rfl rfl (by decide) ?_
                refine st_q (v := .int .i64 ((M.length : Nat) : Int)) (x_lenSl rfl Try.underlying29 rfl) ?_
                refine st_gq 21 94 rfl rfl (by decide) ?_
                refine st_q (v := .int .i64 ((((A.length + B.length) - M.length) : Nat) : Int)) (x_subN rfl rfl (by omega) (by omega)) ?_
                refine st_gq 21 94 rfl rfl (by decide) ?_
                refine st_q (v := .bool (decide (U.length ≠ (((A.length + B.length) - M.length))))) (x_neqN rfl rfl) ?_
                refine st_q (v := .bool (decide (U.length ≠ (((A.length + B.length) - M.length))))) (x_pickF rfl rfl) ?_
                refine st_nil ?_
                refine kn404 _ _ ?_
                refine cnd (p := U.length ≠ (((A.length + B.length) - M.length))) rfl (fun h551 => ?_) (fun h551 => ?_)
                ·
                  exact absurd h551 (not_not_intro (by omega))
                ·
                  refine skip ?_
                  refine kn400 _ _ ?_
                  refine seqK fun Q552 kn553 kr554 ke555 => ?_
                  refine region ?_
                  refine st_q (v := .slice a95 U.length c96) (x_move rfl) ?_
                  refine st_q (v := .slice a123 M.length c124) (x_move rfl) ?_
                  refine st_q (v := .slice a153 D.length c154) (x_move rfl) ?_
                  refine st_q (v := .slice a185 U.length c186) (x_move rfl) ?_
                  refine st_e (e_buildSlice (cs := [.slice a95 U.length c96, .slice a123 M.length c124, .slice a153 D.length c154, .slice a185 U.length c186]) (e := 29) (fun _ => by kernel_rfl) ?_)
                  intro w556 hA557
                  have hx558 := hA557.ext
                  have hs559 := hA557.size
                  have hB560 : Blk w556.heap w531.heap.size [.slice a95 U.length c96, .slice a123 M.length c124, .slice a153 D.length c154, .slice a185 U.length c186] 29 := hA557.new
                  have hF561 := hF533.ext hx558
                  have hF562 := hF534.ext hx558
                  have hF563 := hF535.ext hx558
                  have hF564 := hF536.ext hx558
                  have hF565 := hF537.ext hx558
                  have hF566 := hF538.ext hx558
                  have hF567 := hF539.ext hx558
                  have hF568 := hF540.ext hx558
                  have hF569 := hF541.ext hx558
                  have hF570 := hF542.ext hx558
                  have hF571 := hF543.ext hx558
                  have hF572 := hF544.ext hx558
                  have hF573 := hF545.ext hx558
                  have hF574 := hF546.ext hx558
                  have hE575 : Below w0.heap.size w0 w556 := hx558.e hE547 (Nat.le_refl _)
                  have hz576 := hE575.le
                  have hs577 := hx558.size
                  refine st_c (t_call [.slice ((some ⟨w531.heap.size, 0, none⟩)) 4 4] T.cf36 rfl rfl) (apart_4 lo (v0 := (a95, U.length, c96)) (v1 := (a123, M.length, c124)) (v2 := (a153, D.length, c154)) (v3 := (a185, U.length, c186)) U M D U w531.heap.size _ (by omega) hB560 hF565 hF566 hF567 hF568 (by show U.length ≤ _; omega) (by show M.length ≤ _; omega) (by show D.length ≤ _; omega) (by show U.length ≤ _; omega) hd86 hd113 hd142 hd173 (by constructor <;> omega) (by constructor <;> omega) (by constructor <;> omega)) ?_
                  rintro _ w578 ⟨rfl, hb579⟩
                  refine ⟨_, rfl, ?_⟩
                  have hF580 := hF561.belowLo hb579 (fun b h => by have := hds1 b h; omega)
                  have hF581 := hF562.belowLo hb579 (fun b h => by have := hds2 b h; omega)
                  have hF582 := OB.belowLo hF563 hb579 (by omega)
                  have hF583 := OB.belowLo hF564 hb579 (by omega)
                  have hE584 : Below w0.heap.size w0 w578 := hE575.trans (hb579.mono (by omega))
                  have hz585 := hE584.le
                  have hs586 := hb579.size
                  have hcz587 : w0.heap.size ≤ lo := by omega
                  have hcz588 : lo ≤ w578.heap.size := by omega
                  clear hcz521 hcz522 hcz523 hcz524 hcz525 hcz526 hcz527 hcz528 hcz529 hcz530 hz548 hs549 hs559 hz576 hs577 hz585 hs586
                  refine st_q (v := .bool true) (x_move rfl) ?_
                  refine st_gq 6 113 rfl rfl (by decide) ?_
                  refine st_q (v := .slice ((some ⟨bx1, 0, none⟩)) A.length cl1) (x_move rfl) ?_
                  refine st_gq 6 113 rfl rfl (by decide) ?_
                  refine st_q (v := .slice a17 A.length c18) (x_move rfl) ?_
                  refine st_gq 6 113 rfl rfl (by decide) ?_
                  refine st_c (t_call [.slice ((some ⟨bx1, 0, none⟩)) A.length cl1, .slice a17 A.length c18] T.cf22 rfl rfl) (kept22 A _ _ _ _ (OB.srcA hF582 (by omega) (by simp)) hF580.src (by omega)) ?_
                  rintro _ w589 ⟨rfl, hx590⟩
                  refine ⟨_, rfl, ?_⟩
                  have hF591 := hF580.ext hx590
                  have hF592 := hF581.ext hx590
                  have hF593 := hF582.ext hx590
                  have hF594 := hF583.ext hx590
                  have hE595 : Below w0.heap.size w0 w589 := hx590.e hE584 (Nat.le_refl _)
                  have hz596 := hE595.le
                  have hs597 := hx590.size
                  refine st_q (v := .bool true) (x_pickT rfl rfl) ?_
                  refine st_q (v := .bool true) (x_move rfl) ?_
                  refine st_gq 11 118 rfl rfl (by decide) ?_
                  refine st_q (v := .slice ((some ⟨bx2, 0, none⟩)) B.length cl2) (x_move rfl) ?_
                  refine st_gq 11 118 rfl rfl (by decide) ?_
                  refine st_q (v := .slice a35 B.length c36) (x_move rfl) ?_
                  refine st_gq 11 118 rfl rfl (by decide) ?_
                  refine st_c (t_call [.slice ((some ⟨bx2, 0, none⟩)) B.length cl2, .slice a35 B.length c36] T.cf22 rfl rfl) (kept22 B _ _ _ _ (OB.srcA hF594 (by omega) (by simp)) hF592.src (by omega)) ?_
                  rintro _ w598 ⟨rfl, hx599⟩
                  refine ⟨_, rfl, ?_⟩
                  have hF600 := hF591.ext hx599
                  have hF601 := hF592.ext hx599
                  have hF602 := hF593.ext hx599
                  have hF603 := hF594.ext hx599
                  have hE604 : Below w0.heap.size w0 w598 := hx599.e hE595 (Nat.le_refl _)
                  have hz605 := hE604.le
                  have hs606 := hx599.size
                  refine st_q (v := .bool true) (x_pickT rfl rfl) ?_
                  refine st_q (v := .bool true) (x_move rfl) ?_
                  refine st_gq 16 123 rfl rfl (by decide) ?_
                  refine st_c (t_call [] T.cf16 rfl rfl) (works16 _) ?_
                  rintro _ w607 ⟨rfl, hx608⟩
                  refine ⟨_, rfl, ?_⟩
                  have hF609 := hF600.ext hx608
                  have hF610 := hF601.ext hx608
                  have hF611 := hF602.ext hx608
                  have hF612 := hF603.ext hx608
                  have hE613 : Below w0.heap.size w0 w607 := hx608.e hE604 (Nat.le_refl _)
                  have hz614 := hE613.le
                  have hs615 := hx608.size
                  refine st_q (v := .bool true) (x_pickT rfl rfl) ?_
                  refine st_q (v := .bool true) (x_assign rfl) ?_
                  refine st_nil ?_
                  refine kn553 _ _ ?_
                  refine ret ?_
                  refine leave1 (P := Try.prog) (fn := Try.f9) (t := 4) (v := .bool true) rfl rfl ?_
                  exact ⟨rfl, hE613⟩

end Go.Proofs.Ytgfolockecjlnaa
