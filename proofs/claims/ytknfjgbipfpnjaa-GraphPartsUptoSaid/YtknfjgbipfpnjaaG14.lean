import Derived.Test.YtknfjgbipfpnjaaG13
import Derived.Test.YtknfjgbipfpnjaaHeap
namespace Go.Proofs.Ytknfjgbipfpnjaa
open Go.RowKit Go.Eng Go.OrdPure
open Go.Knot Go.HeapPure
theorem T.fa84_0 : FA Try.prog 84 0 0 := fun _ _ => by kernel_rfl
theorem T.na69 : NA Try.prog 69 := fun _ => by kernel_rfl
theorem T.fa84_1 : FA Try.prog 84 1 1 := fun _ _ => by kernel_rfl
theorem T.na82 : NA Try.prog 82 := fun _ => by kernel_rfl
theorem T.sl82 : SL Try.prog 82 86 2 16 (.agg #[.int .i64 ((0 : Nat) : Int), .int .i64 ((0 : Nat) : Int)]) := sl_mk Try.underlying82 (by kernel_rfl) rfl (by decide)
theorem T.fa86_0 : FA Try.prog 86 0 0 := fun _ _ => by kernel_rfl
theorem T.cf50 : CF Try.prog 50 := fun _ _ => by kernel_rfl
theorem T.cf38 : CF Try.prog 38 := fun _ _ => by kernel_rfl
theorem T.fa86_1 : FA Try.prog 86 1 1 := fun _ _ => by kernel_rfl
theorem T.fa84_2 : FA Try.prog 84 2 2 := fun _ _ => by kernel_rfl
theorem T.sz82 : SZ Try.prog 82 1 := fun _ => by kernel_rfl
theorem T.cf51 : CF Try.prog 51 := fun _ _ => by kernel_rfl
theorem T.ag86 : AG Try.prog 86 2 := fun _ => ⟨by kernel_rfl, by kernel_rfl⟩
theorem T.sz86 : SZ Try.prog 86 2 := fun _ => by kernel_rfl
theorem T.cf52 : CF Try.prog 52 := fun _ _ => by kernel_rfl

structure Cmpr (J : World → Prop) (cap : Value) (m : Nat) (c : Nat → Nat → Int) : Prop where
  ext : ∀ w w', J w → Ext w w' → J w'
  gk : ∀ w w' row K, J w → w.grownBy w' row → RowK w.heap row K → (K = 87 ∨ K = 89) → J w'
  call : ∀ (x y : Nat) w, x < m → y < m → J w → Calls Try.prog 38 #[.int .i64 ((x : Nat) : Int), .int .i64 ((y : Nat) : Int), cap] w fun e w' => e = .returned (.int .i64 (c x y)) ∧ Ext w w'
theorem hem_perm {es es2 : List (Nat × Nat)} {m : Nat} (h : ∀ e ∈ es, e.1 < m) (hp : es2.Perm es) : ∀ i, i < es2.length → (el es2 i).1 < m := fun i hi => h _ (hp.mem_iff.1 (by rw [el_eq hi]; exact List.getElem_mem _))
theorem hem_all {es : List (Nat × Nat)} {m : Nat} (h : ∀ i, i < es.length → (el es i).1 < m) : ∀ e ∈ es, e.1 < m := fun e he => by
  obtain ⟨i, hi, rfl⟩ := List.getElem_of_mem he
  rw [← el_eq hi]; exact h i hi
theorem hem_push {es es2 : List (Nat × Nat)} {m z nx : Nat} (h : ∀ i, i < es.length → (el es i).1 < m) (hz : z < m) (hp : es2.Perm (es ++ [(z, nx)])) : ∀ i, i < es2.length → (el es2 i).1 < m :=
  hem_perm (fun e he => by
    rcases List.mem_append.1 he with he | he
    · exact hem_all h e he
    · rw [List.mem_singleton] at he; subst he; exact hz) hp
theorem hem_pop {es es2 : List (Nat × Nat)} {m : Nat} (h : ∀ i, i < es.length → (el es i).1 < m) (_hz : 0 < es.length) (hp : es.Perm (el es 0 :: es2)) : ∀ i, i < es2.length → (el es2 i).1 < m := fun i hi =>
  hem_all h _ (hp.mem_iff.2 (List.mem_cons_of_mem _ (by rw [el_eq hi]; exact List.getElem_mem _)))
set_option maxHeartbeats 4000000 in
theorem told50c (pb : Nat) (w0 : World)  : Calls Try.prog 50 #[(.func (.func 38) #[] #[.pointer (some ⟨pb, 0, none⟩)])] w0 fun e w' => e = .returned (.func (.func 38) #[] #[.pointer (some ⟨pb, 0, none⟩)]) ∧ w0 = w' := by
  have hE0 : Below w0.heap.size w0 w0 := Below.refl _ _
  have hz0 := hE0.le
  refine enter Try.func50 rfl 6 Try.ntmps50 rfl ?_
  refine seqK fun Q1 kn2 kr3 ke4 => ?_
  refine region ?_
  refine st_q (v := .nilFunc) (x_assign rfl) ?_
  refine st_nil ?_
  refine kn2 _ _ ?_
  refine seqK fun Q5 kn6 kr7 ke8 => ?_
  refine seqK fun Q9 kn10 kr11 ke12 => ?_
  refine region ?_
  refine st_q (v := .func (.func 38) #[] #[.pointer (some ⟨pb, 0, none⟩)]) (x_move rfl) ?_
  refine st_q (v := .bool false) (x_eqlFnil Try.underlying69 rfl rfl) ?_
  refine st_nil ?_
  refine kn10 _ _ ?_
  refine cndF rfl ?_
  refine skip ?_
  refine kn6 _ _ ?_
  refine seqK fun Q13 kn14 kr15 ke16 => ?_
  refine region ?_
  refine st_q (v := .func (.func 38) #[] #[.pointer (some ⟨pb, 0, none⟩)]) (x_move rfl) ?_
  refine st_q (v := .func (.func 38) #[] #[.pointer (some ⟨pb, 0, none⟩)]) (x_assign rfl) ?_
  refine st_nil ?_
  refine kn14 _ _ ?_
  refine ret ?_
  refine leave1 (P := Try.prog) (fn := Try.f50) (t := 2) (v := .func (.func 38) #[] #[.pointer (some ⟨pb, 0, none⟩)]) rfl rfl ?_
  exact ⟨rfl, rfl⟩

set_option maxHeartbeats 4000000 in
theorem ahead51 (J : World → Prop) (m : Nat) (c : Nat → Nat → Int) (pb : Nat) (hc : Cmpr J (.pointer (some ⟨pb, 0, none⟩)) m c) (hL : Lawful c) (lo : Nat) (b nx : Nat) (v : Value) (es : List (Nat × Nat)) (i k : Nat) (w0 : World) (hC : J w0) (hH : HeapR w0.heap lo 84 86 2 (Go.Eng.enE enN) b (.func (.func 38) #[] #[.pointer (some ⟨pb, 0, none⟩)]) v es nx) (hem : ∀ i, i < es.length → (el es i).1 < m) (hi : i < es.length) (hk : k < es.length) : Calls Try.prog 51 #[.pointer (some ⟨b, 0, none⟩), .int .i64 ((i : Nat) : Int), .int .i64 ((k : Nat) : Int)] w0 fun e w' => e = .returned (.bool (decide (ah c (el es i) (el es k)))) ∧ Ext w0 w' := by
  have hE0 : Below w0.heap.size w0 w0 := Below.refl _ _
  have hz0 := hE0.le
  obtain ⟨hge, hB, hO, hne⟩ := hH
  obtain ⟨a, ca, rfl, hca, hca1⟩ := hO.src.form
  have hbl := hB.lt
  have hvl : ∀ k, Value.ownBlock (.slice a es.length ca) = some k → lo ≤ k ∧ k < w0.heap.size := fun k hk => hO.lt hk
  refine enter Try.func51 rfl 55 Try.ntmps51 rfl ?_
  refine seqK fun Q1 kn2 kr3 ke4 => ?_
  refine region ?_
  refine st_q (v := .bool false) (x_assign rfl) ?_
  refine st_nil ?_
  refine kn2 _ _ ?_
  refine seqK fun Q5 kn6 kr7 ke8 => ?_
  refine regionD1 [3, 8, 12, 16, 20] [0, 1, 2, 3, 5, 6, 7, 8, 9, 10, 11, 12, 13, 14, 15, 16, 17, 18, 19, 20, 22] (.one 0 (.one 1 (.one 2 (.one 3 (.one 5 (.one 6 (.one 7 (.one 8 (.one 9 (.one 10 (.one 11 (.one 12 (.one 13 (.one 14 (.one 15 (.one 16 (.one 17 (.one 18 (.one 19 (.one 20 (.one 4 (.one 21 (.one 22 .done))))))))))))))))))))))) (by kernel_rfl) (by kernel_rfl) ?_
  intro w9 hx10 hs11
  have hB12 := hB.ext hx10
  have hF13 := hc.ext _ _ hC hx10
  have hF14 := hO.ext hx10
  have hE15 : Below w0.heap.size w0 w9 := hx10.e hE0 (Nat.le_refl _)
  have hz16 := hE15.le
  have hs17 := hx10.size
  have hS18 : Ext w9 w9 := Below.refl _ _
  refine d_q (v := .pointer (some ⟨b, 0, none⟩)) rfl rfl (fun _ => x_move rfl) ?_
  refine d_q (v := .pointer (some ⟨b, 0, none⟩)) rfl rfl (fun _ => x_nilCheck rfl) ?_
  refine d_q (v := .pointer (some ⟨b, 0, none⟩)) rfl rfl (fun _ => x_field (o := 0) T.fa84_0 rfl) ?_
  refine d_l (v := .func (.func 38) #[] #[.pointer (some ⟨pb, 0, none⟩)]) rfl rfl rfl (fun v20 hw19 => x_load1 T.na69 rfl ((hB12.one 0 rfl).ext hw19)) ?_
  refine d_q (v := .pointer (some ⟨b, 0, none⟩)) rfl rfl (fun _ => x_move rfl) ?_
  refine d_q (v := .pointer (some ⟨b, 0, none⟩)) rfl rfl (fun _ => x_nilCheck rfl) ?_
  refine d_q (v := .pointer (some ⟨b, 1, none⟩)) rfl rfl (fun _ => x_field (o := 0) T.fa84_1 rfl) ?_
  refine d_l (v := .slice a es.length ca) rfl rfl rfl (fun v22 hw21 => x_load1 T.na82 rfl ((hB12.one 1 rfl).ext hw21)) ?_
  refine d_q (v := .int .i64 ((i : Nat) : Int)) rfl rfl (fun _ => x_move rfl) ?_
  obtain ⟨b23, o24, ha25, hc26⟩ := hF14.src.at (by omega)
  refine d_q (v := .pointer (some ⟨b23, o24 + i * 2, none⟩)) rfl rfl (fun _ => x_index' T.sl82 rfl ha25 rfl (by omega)) ?_
  refine d_q (v := .pointer (some ⟨b23, o24 + i * 2, none⟩)) rfl rfl (fun _ => x_field (o := o24 + i * 2) T.fa86_0 rfl) ?_
  refine d_l (v := .int .i64 (((el es i).1 : Nat) : Int)) rfl rfl rfl (fun v28 hw27 => x_load1 T.na3 rfl (((hc26.elem (Go.Eng.enE_len enN_len) (i := i) (by omega)).fld 0 rfl).ext hw27)) ?_
  refine d_q (v := .pointer (some ⟨b, 0, none⟩)) rfl rfl (fun _ => x_move rfl) ?_
  refine d_q (v := .pointer (some ⟨b, 0, none⟩)) rfl rfl (fun _ => x_nilCheck rfl) ?_
  refine d_q (v := .pointer (some ⟨b, 1, none⟩)) rfl rfl (fun _ => x_field (o := 0) T.fa84_1 rfl) ?_
  refine d_l (v := .slice a es.length ca) rfl rfl rfl (fun v30 hw29 => x_load1 T.na82 rfl ((hB12.one 1 rfl).ext hw29)) ?_
  refine d_q (v := .int .i64 ((k : Nat) : Int)) rfl rfl (fun _ => x_move rfl) ?_
  obtain ⟨b31, o32, ha33, hc34⟩ := hF14.src.at (by omega)
  refine d_q (v := .pointer (some ⟨b31, o32 + k * 2, none⟩)) rfl rfl (fun _ => x_index' T.sl82 rfl ha33 rfl (by omega)) ?_
  refine d_q (v := .pointer (some ⟨b31, o32 + k * 2, none⟩)) rfl rfl (fun _ => x_field (o := o32 + k * 2) T.fa86_0 rfl) ?_
  refine d_l (v := .int .i64 (((el es k).1 : Nat) : Int)) rfl rfl rfl (fun v36 hw35 => x_load1 T.na3 rfl (((hc34.elem (Go.Eng.enE_len enN_len) (i := k) (by omega)).fld 0 rfl).ext hw35)) ?_
  refine d_e (by decide) (d_c' rfl rfl (t_call [.func (.func 38) #[] #[.pointer (some ⟨pb, 0, none⟩)]] T.cf50 rfl rfl) (told50c pb _) ?_)
  rintro _ _ ⟨rfl, rfl⟩
  refine ⟨_, rfl, ?_⟩
  have hS37 := hS18
  refine ⟨fun _ => hS37, ?_⟩
  refine d_e (by decide) (d_c' rfl rfl (t_call [.int .i64 (((el es i).1 : Nat) : Int), .int .i64 (((el es k).1 : Nat) : Int), .pointer (some ⟨pb, 0, none⟩)] T.cf38 rfl rfl) (hc.call (el es i).1 (el es k).1 _ (hem i (by omega)) (hem k (by omega)) hF13) ?_)
  rintro _ w38 ⟨rfl, hx39⟩
  refine ⟨_, rfl, ?_⟩
  have hB40 := hB12.ext hx39
  have hF41 := hc.ext _ _ hF13 hx39
  have hF42 := hF14.ext hx39
  have hF43 := hc26.ext hx39
  have hF44 := hc34.ext hx39
  have hE45 : Below w0.heap.size w0 w38 := hx39.e hE15 (Nat.le_refl _)
  have hz46 := hE45.le
  have hs47 := hx39.size
  have hS48 := hS37.trans (hx39.mono hS37.size)
  refine ⟨fun _ => hS48, ?_⟩
  refine d_q (v := .int .i64 ((c (el es i).1 (el es k).1))) rfl rfl (fun _ => x_assign rfl) ?_
  refine d_done ?_
  refine kn6 _ _ ?_
  refine seqK fun Q49 kn50 kr51 ke52 => ?_
  refine regionD1 [9, 13, 17, 21] [0, 1, 2, 3, 4, 5, 6, 7, 8, 9, 10, 11, 12, 13, 14, 15, 16, 17, 18, 19, 20, 21, 22, 23, 24, 25] (.one 0 (.one 1 (.one 2 (.one 3 (.one 4 (.one 5 (.one 6 (.one 7 (.one 8 (.one 9 (.one 10 (.one 11 (.one 12 (.one 13 (.one 14 (.one 15 (.one 16 (.one 17 (.one 18 (.one 19 (.one 20 (.one 21 (.one 22 (.one 23 (.one 24 (.one 25 .done)))))))))))))))))))))))))) (by kernel_rfl) (by kernel_rfl) ?_
  intro w53 hx54 hs55
  have hB56 := hB40.ext hx54
  have hF57 := hc.ext _ _ hF41 hx54
  have hF58 := hF42.ext hx54
  have hF59 := hF43.ext hx54
  have hF60 := hF44.ext hx54
  have hE61 : Below w0.heap.size w0 w53 := hx54.e hE45 (Nat.le_refl _)
  have hz62 := hE61.le
  have hs63 := hx54.size
  have hS64 : Ext w53 w53 := Below.refl _ _
  refine d_q (v := .int .i64 ((c (el es i).1 (el es k).1))) rfl rfl (fun _ => x_move rfl) ?_
  refine d_q (v := .bool (decide (((c (el es i).1 (el es k).1)) < 0))) rfl rfl (fun _ => x_lss rfl rfl) ?_
  refine d_if rfl rfl (p := ((c (el es i).1 (el es k).1)) < 0) (fun _ => x_move rfl) (fun h65 => ?_) (fun h65 => ?_)
  ·
    refine d_gn (j := 2) (t := 32) rfl rfl rfl rfl (by decide) rfl ?_
    refine d_gn (j := 2) (t := 32) rfl rfl rfl rfl (by decide) rfl ?_
    refine d_gn (j := 2) (t := 32) rfl rfl rfl rfl (by decide) rfl ?_
    refine d_gu (j := 5) (t := 35) rfl rfl rfl rfl (by decide) ?_
    refine d_gu (j := 5) (t := 35) rfl rfl rfl rfl (by decide) ?_
    refine d_gu (j := 5) (t := 35) rfl rfl rfl rfl (by decide) ?_
    refine d_gu (j := 5) (t := 35) rfl rfl rfl rfl (by decide) ?_
    refine d_gu (j := 5) (t := 35) rfl rfl rfl rfl (by decide) ?_
    refine d_gu (j := 5) (t := 35) rfl rfl rfl rfl (by decide) ?_
    refine d_gu (j := 5) (t := 35) rfl rfl rfl rfl (by decide) ?_
    refine d_gu (j := 5) (t := 35) rfl rfl rfl rfl (by decide) ?_
    refine d_gu (j := 5) (t := 35) rfl rfl rfl rfl (by decide) ?_
    refine d_gu (j := 5) (t := 35) rfl rfl rfl rfl (by decide) ?_
    refine d_gu (j := 5) (t := 35) rfl rfl rfl rfl (by decide) ?_
    refine d_gu (j := 5) (t := 35) rfl rfl rfl rfl (by decide) ?_
    refine d_gu (j := 5) (t := 35) rfl rfl rfl rfl (by decide) ?_
    refine d_gu (j := 5) (t := 35) rfl rfl rfl rfl (by decide) ?_
    refine d_gu (j := 5) (t := 35) rfl rfl rfl rfl (by decide) ?_
    refine d_gu (j := 5) (t := 35) rfl rfl rfl rfl (by decide) ?_
    refine d_gu (j := 5) (t := 35) rfl rfl rfl rfl (by decide) ?_
    refine d_gn (j := 2) (t := 32) rfl rfl rfl rfl (by decide) rfl ?_
    refine d_q (v := .bool true) rfl rfl (fun _ => x_pickT rfl rfl) ?_
    refine d_q (v := .bool true) rfl rfl (fun _ => x_assign rfl) ?_
    refine d_done ?_
    refine kn50 _ _ ?_
    refine ret ?_
    refine leave1 (P := Try.prog) (fn := Try.f51) (t := 6) (v := .bool true) rfl rfl ?_
    first | exact ⟨by rw [ah_t (by assumption)], hE61⟩ | exact ⟨by rw [ah_n (by assumption) (by assumption)], hE61⟩ | exact ⟨by rw [ah_f (by assumption) (by assumption)], hE61⟩
  ·
    refine d_gq (v := .int .i64 ((c (el es i).1 (el es k).1))) (j := 2) (t := 32) rfl rfl rfl rfl (by decide) (fun _ => x_move rfl) ?_
    refine d_gq (v := .bool (decide (((c (el es i).1 (el es k).1)) = 0))) (j := 2) (t := 32) rfl rfl rfl rfl (by decide) (fun _ => x_eql rfl rfl) ?_
    refine d_gif (j := 2) (t := 32) rfl rfl rfl rfl (by decide) (p := ((c (el es i).1 (el es k).1)) = 0) (fun _ => x_move rfl) (fun h66 => ?_) (fun h66 => ?_)
    ·
      refine d_gq (v := .pointer (some ⟨b, 0, none⟩)) (j := 5) (t := 35) rfl rfl rfl rfl (by decide) (fun _ => x_move rfl) ?_
      refine d_gq (v := .pointer (some ⟨b, 0, none⟩)) (j := 5) (t := 35) rfl rfl rfl rfl (by decide) (fun _ => x_nilCheck rfl) ?_
      refine d_gq (v := .pointer (some ⟨b, 1, none⟩)) (j := 5) (t := 35) rfl rfl rfl rfl (by decide) (fun _ => x_field (o := 0) T.fa84_1 rfl) ?_
      refine d_gl (v := .slice a es.length ca) (j := 5) (t := 35) rfl rfl rfl rfl rfl (by decide) (fun v68 hw67 => x_load1 T.na82 rfl ((hB56.one 1 rfl).ext hw67)) ?_
      refine d_gq (v := .int .i64 ((i : Nat) : Int)) (j := 5) (t := 35) rfl rfl rfl rfl (by decide) (fun _ => x_move rfl) ?_
      obtain ⟨b69, o70, ha71, hc72⟩ := hF58.src.at (by omega)
      refine d_gq (v := .pointer (some ⟨b69, o70 + i * 2, none⟩)) (j := 5) (t := 35) rfl rfl rfl rfl (by decide) (fun _ => x_index' T.sl82 rfl ha71 rfl (by omega)) ?_
      refine d_gq (v := .pointer (some ⟨b69, o70 + i * 2 + 1, none⟩)) (j := 5) (t := 35) rfl rfl rfl rfl (by decide) (fun _ => x_field (o := o70 + i * 2) T.fa86_1 rfl) ?_
      refine d_gl (v := .int .i64 (((el es i).2 : Nat) : Int)) (j := 5) (t := 35) rfl rfl rfl rfl rfl (by decide) (fun v74 hw73 => x_load1 T.na3 rfl (((hc72.elem (Go.Eng.enE_len enN_len) (i := i) (by omega)).fld 1 rfl).ext hw73)) ?_
      refine d_gq (v := .pointer (some ⟨b, 0, none⟩)) (j := 5) (t := 35) rfl rfl rfl rfl (by decide) (fun _ => x_move rfl) ?_
      refine d_gq (v := .pointer (some ⟨b, 0, none⟩)) (j := 5) (t := 35) rfl rfl rfl rfl (by decide) (fun _ => x_nilCheck rfl) ?_
      refine d_gq (v := .pointer (some ⟨b, 1, none⟩)) (j := 5) (t := 35) rfl rfl rfl rfl (by decide) (fun _ => x_field (o := 0) T.fa84_1 rfl) ?_
      refine d_gl (v := .slice a es.length ca) (j := 5) (t := 35) rfl rfl rfl rfl rfl (by decide) (fun v76 hw75 => x_load1 T.na82 rfl ((hB56.one 1 rfl).ext hw75)) ?_
      refine d_gq (v := .int .i64 ((k : Nat) : Int)) (j := 5) (t := 35) rfl rfl rfl rfl (by decide) (fun _ => x_move rfl) ?_
      obtain ⟨b77, o78, ha79, hc80⟩ := hF58.src.at (by omega)
      refine d_gq (v := .pointer (some ⟨b77, o78 + k * 2, none⟩)) (j := 5) (t := 35) rfl rfl rfl rfl (by decide) (fun _ => x_index' T.sl82 rfl ha79 rfl (by omega)) ?_
      refine d_gq (v := .pointer (some ⟨b77, o78 + k * 2 + 1, none⟩)) (j := 5) (t := 35) rfl rfl rfl rfl (by decide) (fun _ => x_field (o := o78 + k * 2) T.fa86_1 rfl) ?_
      refine d_gl (v := .int .i64 (((el es k).2 : Nat) : Int)) (j := 5) (t := 35) rfl rfl rfl rfl rfl (by decide) (fun v82 hw81 => x_load1 T.na3 rfl (((hc80.elem (Go.Eng.enE_len enN_len) (i := k) (by omega)).fld 1 rfl).ext hw81)) ?_
      refine d_gq (v := .bool (decide (((el es i).2) < ((el es k).2)))) (j := 5) (t := 35) rfl rfl rfl rfl (by decide) (fun _ => x_lssN rfl rfl) ?_
      refine d_gq (v := .bool (decide (((el es i).2) < ((el es k).2)))) (j := 2) (t := 32) rfl rfl rfl rfl (by decide) (fun _ => x_pickT rfl rfl) ?_
      refine d_q (v := .bool (decide (((el es i).2) < ((el es k).2)))) rfl rfl (fun _ => x_pickF rfl rfl) ?_
      refine d_q (v := .bool (decide (((el es i).2) < ((el es k).2)))) rfl rfl (fun _ => x_assign rfl) ?_
      refine d_done ?_
      refine kn50 _ _ ?_
      refine ret ?_
      refine leave1 (P := Try.prog) (fn := Try.f51) (t := 6) (v := .bool (decide (((el es i).2) < ((el es k).2)))) rfl rfl ?_
      first | exact ⟨by rw [ah_t (by assumption)], hE61⟩ | exact ⟨by rw [ah_n (by assumption) (by assumption)], hE61⟩ | exact ⟨by rw [ah_f (by assumption) (by assumption)], hE61⟩
    ·
      refine d_gn (j := 5) (t := 35) rfl rfl rfl rfl (by decide) rfl ?_
      refine d_gn (j := 5) (t := 35) rfl rfl rfl rfl (by decide) rfl ?_
      refine d_gn (j := 5) (t := 35) rfl rfl rfl rfl (by decide) rfl ?_
      refine d_gn (j := 5) (t := 35) rfl rfl rfl rfl (by decide) rfl ?_
      refine d_gn (j := 5) (t := 35) rfl rfl rfl rfl (by decide) rfl ?_
      refine d_gn (j := 5) (t := 35) rfl rfl rfl rfl (by decide) rfl ?_
      refine d_gn (j := 5) (t := 35) rfl rfl rfl rfl (by decide) rfl ?_
      refine d_gn (j := 5) (t := 35) rfl rfl rfl rfl (by decide) rfl ?_
      refine d_gn (j := 5) (t := 35) rfl rfl rfl rfl (by decide) rfl ?_
      refine d_gn (j := 5) (t := 35) rfl rfl rfl rfl (by decide) rfl ?_
      refine d_gn (j := 5) (t := 35) rfl rfl rfl rfl (by decide) rfl ?_
      refine d_gn (j := 5) (t := 35) rfl rfl rfl rfl (by decide) rfl ?_
      refine d_gn (j := 5) (t := 35) rfl rfl rfl rfl (by decide) rfl ?_
      refine d_gn (j := 5) (t := 35) rfl rfl rfl rfl (by decide) rfl ?_
      refine d_gn (j := 5) (t := 35) rfl rfl rfl rfl (by decide) rfl ?_
      refine d_gn (j := 5) (t := 35) rfl rfl rfl rfl (by decide) rfl ?_
      refine d_gn (j := 5) (t := 35) rfl rfl rfl rfl (by decide) rfl ?_
      refine d_gq (v := .bool false) (j := 2) (t := 32) rfl rfl rfl rfl (by decide) (fun _ => x_pickF rfl rfl) ?_
      refine d_q (v := .bool false) rfl rfl (fun _ => x_pickF rfl rfl) ?_
      refine d_q (v := .bool false) rfl rfl (fun _ => x_assign rfl) ?_
      refine d_done ?_
      refine kn50 _ _ ?_
      refine ret ?_
      refine leave1 (P := Try.prog) (fn := Try.f51) (t := 6) (v := .bool false) rfl rfl ?_
      first | exact ⟨by rw [ah_t (by assumption)], hE61⟩ | exact ⟨by rw [ah_n (by assumption) (by assumption)], hE61⟩ | exact ⟨by rw [ah_f (by assumption) (by assumption)], hE61⟩

set_option maxHeartbeats 4000000 in
theorem peek52_0 (J : World → Prop) (m : Nat) (c : Nat → Nat → Int) (pb : Nat) (hc : Cmpr J (.pointer (some ⟨pb, 0, none⟩)) m c) (hL : Lawful c) (lo : Nat) (b nx : Nat) (v : Value) (es : List (Nat × Nat)) (w0 : World) (hC : J w0) (hH : HeapR w0.heap lo 84 86 2 (Go.Eng.enE enN) b (.func (.func 38) #[] #[.pointer (some ⟨pb, 0, none⟩)]) v es nx) (hz : es.length = 0) : Calls Try.prog 52 #[.pointer (some ⟨b, 0, none⟩)] w0 fun e w' => e = .returned (.tuple #[.int .i64 ((0 : Nat) : Int), .bool false]) ∧ Ext w0 w' := by
  have hE0 : Below w0.heap.size w0 w0 := Below.refl _ _
  have hz0 := hE0.le
  obtain ⟨hge, hB, hO, hne⟩ := hH
  obtain ⟨a, ca, rfl, hca, hca1⟩ := hO.src.form
  have hbl := hB.lt
  have hvl : ∀ k, Value.ownBlock (.slice a es.length ca) = some k → lo ≤ k ∧ k < w0.heap.size := fun k hk => hO.lt hk
  refine enter Try.func52 rfl 23 Try.ntmps52 rfl ?_
  refine seqK fun Q1 kn2 kr3 ke4 => ?_
  refine region ?_
  refine st_q (v := .int .i64 ((0 : Nat) : Int)) (x_assign rfl) ?_
  refine st_q (v := .bool false) (x_assign rfl) ?_
  refine st_nil ?_
  refine kn2 _ _ ?_
  refine seqK fun Q5 kn6 kr7 ke8 => ?_
  refine seqK fun Q9 kn10 kr11 ke12 => ?_
  refine region ?_
  refine st_q (v := .pointer (some ⟨b, 0, none⟩)) (x_move rfl) ?_
  refine st_q (v := .bool false) (x_eqlPnil (p := some ⟨b, 0, none⟩) Try.underlying66 rfl rfl) ?_
  refine st_q (v := .bool false) (x_move rfl) ?_
  refine st_gq 2 7 rfl rfl (by decide) ?_
  refine st_q (v := .pointer (some ⟨b, 0, none⟩)) (x_move rfl) ?_
  refine st_gq 2 7 rfl rfl (by decide) ?_
  refine st_q (v := .pointer (some ⟨b, 0, none⟩)) (x_nilCheck rfl) ?_
  refine st_gq 2 7 rfl rfl (by decide) ?_
  refine st_q (v := .pointer (some ⟨b, 1, none⟩)) (x_field (o := 0) T.fa84_1 rfl) ?_
  refine st_gq 2 7 rfl rfl (by decide) ?_
  refine st_q (v := .slice a es.length ca) (x_load1 T.na82 rfl (hB.one 1 rfl)) ?_
  refine st_gq 2 7 rfl rfl (by decide) ?_
  refine st_q (v := .int .i64 ((es.length : Nat) : Int)) (x_lenSl rfl Try.underlying82 rfl) ?_
  refine st_gq 2 7 rfl rfl (by decide) ?_
  refine st_q (v := .bool (decide (es.length = 0))) (x_eqlN rfl rfl) ?_
  refine st_q (v := .bool (decide (es.length = 0))) (x_pickF rfl rfl) ?_
  refine st_nil ?_
  refine kn10 _ _ ?_
  refine cnd (p := es.length = 0) rfl (fun h13 => ?_) (fun h13 => ?_)
  ·
    refine seqK fun Q14 kn15 kr16 ke17 => ?_
    refine region ?_
    refine st_q (v := .int .i64 ((0 : Nat) : Int)) (x_assign rfl) ?_
    refine st_nil ?_
    refine kn15 _ _ ?_
    refine seqK fun Q18 kn19 kr20 ke21 => ?_
    refine region ?_
    refine st_q (v := .int .i64 ((0 : Nat) : Int)) (x_move rfl) ?_
    refine st_q (v := .int .i64 ((0 : Nat) : Int)) (x_assign rfl) ?_
    refine st_q (v := .bool false) (x_assign rfl) ?_
    refine st_nil ?_
    refine kn19 _ _ ?_
    refine ret ?_
    refine kr7 _ _ ?_
    refine leave2 (P := Try.prog) (fn := Try.f52) (t := 2) (u := 3) (v := .int .i64 ((0 : Nat) : Int)) (v' := .bool false) rfl rfl rfl ?_
    exact ⟨rfl, hE0⟩
  ·
    exact absurd h13 (by omega)

set_option maxHeartbeats 4000000 in
theorem peek52_1 (J : World → Prop) (m : Nat) (c : Nat → Nat → Int) (pb : Nat) (hc : Cmpr J (.pointer (some ⟨pb, 0, none⟩)) m c) (hL : Lawful c) (lo : Nat) (b nx : Nat) (v : Value) (es : List (Nat × Nat)) (w0 : World) (hC : J w0) (hH : HeapR w0.heap lo 84 86 2 (Go.Eng.enE enN) b (.func (.func 38) #[] #[.pointer (some ⟨pb, 0, none⟩)]) v es nx) (hz : 0 < es.length) : Calls Try.prog 52 #[.pointer (some ⟨b, 0, none⟩)] w0 fun e w' => e = .returned (.tuple #[.int .i64 (((el es 0).1 : Nat) : Int), .bool true]) ∧ Ext w0 w' := by
  have hE0 : Below w0.heap.size w0 w0 := Below.refl _ _
  have hz0 := hE0.le
  obtain ⟨hge, hB, hO, hne⟩ := hH
  obtain ⟨a, ca, rfl, hca, hca1⟩ := hO.src.form
  have hbl := hB.lt
  have hvl : ∀ k, Value.ownBlock (.slice a es.length ca) = some k → lo ≤ k ∧ k < w0.heap.size := fun k hk => hO.lt hk
  refine enter Try.func52 rfl 23 Try.ntmps52 rfl ?_
  refine seqK fun Q1 kn2 kr3 ke4 => ?_
  refine region ?_
  refine st_q (v := .int .i64 ((0 : Nat) : Int)) (x_assign rfl) ?_
  refine st_q (v := .bool false) (x_assign rfl) ?_
  refine st_nil ?_
  refine kn2 _ _ ?_
  refine seqK fun Q5 kn6 kr7 ke8 => ?_
  refine seqK fun Q9 kn10 kr11 ke12 => ?_
  refine region ?_
  refine st_q (v := .pointer (some ⟨b, 0, none⟩)) (x_move rfl) ?_
  refine st_q (v := .bool false) (x_eqlPnil (p := some ⟨b, 0, none⟩) Try.underlying66 rfl rfl) ?_
  refine st_q (v := .bool false) (x_move rfl) ?_
  refine st_gq 2 7 rfl rfl (by decide) ?_
  refine st_q (v := .pointer (some ⟨b, 0, none⟩)) (x_move rfl) ?_
  refine st_gq 2 7 rfl rfl (by decide) ?_
  refine st_q (v := .pointer (some ⟨b, 0, none⟩)) (x_nilCheck rfl) ?_
  refine st_gq 2 7 rfl rfl (by decide) ?_
  refine st_q (v := .pointer (some ⟨b, 1, none⟩)) (x_field (o := 0) T.fa84_1 rfl) ?_
  refine st_gq 2 7 rfl rfl (by decide) ?_
  refine st_q (v := .slice a es.length ca) (x_load1 T.na82 rfl (hB.one 1 rfl)) ?_
  refine st_gq 2 7 rfl rfl (by decide) ?_
  refine st_q (v := .int .i64 ((es.length : Nat) : Int)) (x_lenSl rfl Try.underlying82 rfl) ?_
  refine st_gq 2 7 rfl rfl (by decide) ?_
  refine st_q (v := .bool (decide (es.length = 0))) (x_eqlN rfl rfl) ?_
  refine st_q (v := .bool (decide (es.length = 0))) (x_pickF rfl rfl) ?_
  refine st_nil ?_
  refine kn10 _ _ ?_
  refine cnd (p := es.length = 0) rfl (fun h13 => ?_) (fun h13 => ?_)
  ·
    exact absurd h13 (by omega)
  ·
    refine skip ?_
    refine kn6 _ _ ?_
    refine seqK fun Q14 kn15 kr16 ke17 => ?_
    refine region ?_
    refine st_q (v := .pointer (some ⟨b, 0, none⟩)) (x_move rfl) ?_
    refine st_q (v := .pointer (some ⟨b, 0, none⟩)) (x_nilCheck rfl) ?_
    refine st_q (v := .pointer (some ⟨b, 1, none⟩)) (x_field (o := 0) T.fa84_1 rfl) ?_
    refine st_q (v := .slice a es.length ca) (x_load1 T.na82 rfl (hB.one 1 rfl)) ?_
    obtain ⟨b18, o19, ha20, hc21⟩ := hO.src.at (by omega)
    refine st_q (v := .pointer (some ⟨b18, o19 + 0 * 2, none⟩)) (x_index' T.sl82 rfl ha20 rfl (by omega)) ?_
    refine st_q (v := .pointer (some ⟨b18, o19 + 0 * 2, none⟩)) (x_field (o := o19 + 0 * 2) T.fa86_0 rfl) ?_
    refine st_q (v := .int .i64 (((el es 0).1 : Nat) : Int)) (x_load1 T.na3 rfl ((hc21.elem (Go.Eng.enE_len enN_len) (i := 0) (by omega)).fld 0 rfl)) ?_
    refine st_q (v := .int .i64 (((el es 0).1 : Nat) : Int)) (x_assign rfl) ?_
    refine st_q (v := .bool true) (x_assign rfl) ?_
    refine st_nil ?_
    refine kn15 _ _ ?_
    refine ret ?_
    refine leave2 (P := Try.prog) (fn := Try.f52) (t := 2) (u := 3) (v := .int .i64 (((el es 0).1 : Nat) : Int)) (v' := .bool true) rfl rfl rfl ?_
    exact ⟨rfl, hE0⟩

set_option maxHeartbeats 4000000 in
theorem push40 (J : World → Prop) (m : Nat) (c : Nat → Nat → Int) (pb : Nat) (hc : Cmpr J (.pointer (some ⟨pb, 0, none⟩)) m c) (hL : Lawful c) (lo : Nat) (b nx : Nat) (v : Value) (es : List (Nat × Nat)) (z : Nat) (w0 : World) (hC : J w0) (hH : HeapR w0.heap lo 84 86 2 (Go.Eng.enE enN) b (.func (.func 38) #[] #[.pointer (some ⟨pb, 0, none⟩)]) v es nx) (hem : ∀ i, i < es.length → (el es i).1 < m) (hz : z < m) (hlen : es.length ≤ 4398046511104) (hnx : nx ≤ 4611686018427387904) (hhp : HP (ah c) es) : Calls Try.prog 40 #[.pointer (some ⟨b, 0, none⟩), .int .i64 ((z : Nat) : Int)] w0 fun e w' => e = .returned (.tuple #[]) ∧ ∃ v' es', Mod (fun k => k = b ∨ v.ownBlock = some k) w0 w' ∧ HeapR w'.heap lo 84 86 2 (Go.Eng.enE enN) b (.func (.func 38) #[] #[.pointer (some ⟨pb, 0, none⟩)]) v' es' (nx + 1) ∧ HP (ah c) es' ∧ es'.Perm (es ++ [(z, nx)]) ∧ (v'.ownBlock = v.ownBlock ∨ ∀ k, v'.ownBlock = some k → w0.heap.size ≤ k) := by
  have hE0 : Mod (fun k => k = b ∨ v.ownBlock = some k) w0 w0 := Mod.refl _ _
  have hz0 := hE0.le
  obtain ⟨hge, hB, hO, hne⟩ := hH
  obtain ⟨a, ca, rfl, hca, hca1⟩ := hO.src.form
  have hbl := hB.lt
  have hvl : ∀ k, Value.ownBlock (.slice a es.length ca) = some k → lo ≤ k ∧ k < w0.heap.size := fun k hk => hO.lt hk
  refine enter Try.func40 rfl 78 Try.ntmps40 rfl ?_
  refine seqK fun Q1 kn2 kr3 ke4 => ?_
  refine seqK fun Q5 kn6 kr7 ke8 => ?_
  refine region ?_
  refine st_q (v := .pointer (some ⟨b, 0, none⟩)) (x_move rfl) ?_
  refine st_q (v := .bool false) (x_eqlPnil (p := some ⟨b, 0, none⟩) Try.underlying66 rfl rfl) ?_
  refine st_nil ?_
  refine kn6 _ _ ?_
  refine cndF rfl ?_
  refine skip ?_
  refine kn2 _ _ ?_
  refine seqK fun Q9 kn10 kr11 ke12 => ?_
  refine regionD1 [4, 9] [0, 1, 2, 3, 4, 5, 6, 7, 8, 9, 10, 13, 14] (.one 0 (.one 1 (.one 2 (.one 3 (.one 4 (.one 5 (.one 6 (.one 7 (.one 8 (.one 9 (.one 10 (.one 11 (.one 12 (.one 13 (.one 14 (.one 15 .done)))))))))))))))) (by kernel_rfl) (by kernel_rfl) ?_
  intro w13 hx14 hs15
  have hB16 := hB.ext hx14
  have hF17 := hc.ext _ _ hC hx14
  have hF18 := hO.ext hx14
  have hE19 : Mod (fun k => k = b ∨ Value.ownBlock (.slice a es.length ca) = some k) w0 w13 := hE0.ext hx14
  have hz20 := hE19.le
  have hs21 := hx14.size
  have hS22 : Ext w13 w13 := Below.refl _ _
  refine d_q (v := .pointer (some ⟨b, 0, none⟩)) rfl rfl (fun _ => x_move rfl) ?_
  refine d_q (v := .pointer (some ⟨b, 0, none⟩)) rfl rfl (fun _ => x_move rfl) ?_
  refine d_q (v := .pointer (some ⟨b, 0, none⟩)) rfl rfl (fun _ => x_nilCheck rfl) ?_
  refine d_q (v := .pointer (some ⟨b, 1, none⟩)) rfl rfl (fun _ => x_field (o := 0) T.fa84_1 rfl) ?_
  refine d_l (v := .slice a es.length ca) rfl rfl rfl (fun v24 hw23 => x_load1 T.na82 rfl ((hB16.one 1 rfl).ext hw23)) ?_
  refine d_q (v := .int .i64 ((z : Nat) : Int)) rfl rfl (fun _ => x_move rfl) ?_
  refine d_q (v := .pointer (some ⟨b, 0, none⟩)) rfl rfl (fun _ => x_move rfl) ?_
  refine d_q (v := .pointer (some ⟨b, 0, none⟩)) rfl rfl (fun _ => x_nilCheck rfl) ?_
  refine d_q (v := .pointer (some ⟨b, 2, none⟩)) rfl rfl (fun _ => x_field (o := 0) T.fa84_2 rfl) ?_
  refine d_l (v := .int .i64 ((nx : Nat) : Int)) rfl rfl rfl (fun v26 hw25 => x_load1 T.na3 rfl ((hB16.one 2 rfl).ext hw25)) ?_
  refine d_q (v := .agg #[.int .i64 ((z : Nat) : Int), .int .i64 ((nx : Nat) : Int)]) rfl rfl (fun _ => x_build (fun _ => by kernel_rfl)) ?_
  refine d_e (by decide) (d_e' rfl rfl (e_buildSlice (cs := [.int .i64 ((z : Nat) : Int), .int .i64 ((nx : Nat) : Int)]) (e := 86) (fun _ => by kernel_rfl) ?_))
  intro w27 hA28
  have hx29 := hA28.ext
  have hs30 := hA28.size
  have hB31 : Blk w27.heap w13.heap.size [.int .i64 ((z : Nat) : Int), .int .i64 ((nx : Nat) : Int)] 86 := hA28.new
  have hB32 := hB16.ext hx29
  have hF33 := hc.ext _ _ hF17 hx29
  have hF34 := hF18.ext hx29
  have hE35 : Mod (fun k => k = b ∨ Value.ownBlock (.slice a es.length ca) = some k) w0 w27 := hE19.ext hx29
  have hz36 := hE35.le
  have hs37 := hx29.size
  have hS38 := hS22.trans (hx29.mono hS22.size)
  refine ⟨fun _ => hS38, ?_⟩
  refine d_e (by decide) (d_e' rfl rfl (e_appendX T.sl82 rfl rfl hF34 (hB31.src1 (k := 2) (m := 1) rfl (by omega)) (ones (by rfl)) (by omega) (by decide) (by omega) ?_))
  intro v39 w40 hO41 hG42 hN43 hW44
  have hB45 := hB32.grown hG42 (fun e => by first | exact hne e | (have := hvl _ e; omega))
  have hF46 := hc.gk _ _ _ _ hF33 (hG42) (hF34.rowk) (by decide)
  have hE47 : Mod (fun k => k = b ∨ Value.ownBlock (.slice a es.length ca) = some k) w0 w40 := hE35.grown hG42 (fun b hb => .inl (.inr hb))
  have hz48 := hE47.le
  refine ⟨need_no (by kernel_rfl), ?_⟩
  obtain ⟨b1, c1, rfl, hm1, hO1⟩ := (show Own w40.heap lo 86 2 v39 (es.length + 1) (flat (Go.Eng.enE enN) (es ++ [(z, nx)])) from hO41.snoc).ob (hN43 (by omega))
  have hbS : (Value.slice (some ⟨b1, 0, none⟩) (es.length + 1) c1).ownBlock = Value.ownBlock (.slice a es.length ca) ∨ w0.heap.size ≤ b1 := hW44.imp (fun e => e) (fun e => by have := e.2 b1 rfl; omega)
  have hb1 : b1 ≠ b := fun e => by subst e; rcases hbS with h | h; exact hne h.symm; omega
  have hbS2 : (b1 = b ∨ Value.ownBlock (.slice a es.length ca) = some b1) ∨ w0.heap.size ≤ b1 := hbS.imp (fun e => .inr e.symm) (fun e => e)
  have hl49 := hO1.lo
  have hl50 := hO1.lt
  refine d_q (v := .pointer (some ⟨b, 0, none⟩)) rfl rfl (fun _ => x_nilCheck rfl) ?_
  refine d_q (v := .pointer (some ⟨b, 1, none⟩)) rfl rfl (fun _ => x_field (o := 0) T.fa84_1 rfl) ?_
  refine d_e (by decide) (d_s' rfl rfl (e_st (v := .slice ((some ⟨b1, 0, none⟩)) ((es.length + 1)) c1) T.sz82 rfl rfl hB45 (by simp [Value.cells]) (by rfl) ?_))
  intro w51 hP52
  have hB53 : Blk w51.heap b [.func (.func 38) #[] #[.pointer (some ⟨pb, 0, none⟩)], .slice ((some ⟨b1, 0, none⟩)) ((es.length + 1)) c1, .int .i64 ((nx : Nat) : Int)] 84 := hP52.new
  have hs54 := hP52.size
  have hF55 := hc.gk _ _ _ _ hF46 (hP52.grownBy) (hB45.rowk) (by decide)
  have hF56 := hO1.gk (hP52.grownBy) (hB45.rowk) (by decide)
  have hE57 : Mod (fun k => k = b ∨ Value.ownBlock (.slice a es.length ca) = some k) w0 w51 := hE47.pt hP52 (.inl (.inl rfl))
  have hz58 := hE57.le
  refine ⟨need_no (by kernel_rfl), ?_⟩
  refine d_done ?_
  refine kn10 _ _ ?_
  refine seqK fun Q59 kn60 kr61 ke62 => ?_
  refine region ?_
  refine st_q (v := .pointer (some ⟨b, 0, none⟩)) (x_move rfl) ?_
  refine st_q (v := .pointer (some ⟨b, 0, none⟩)) (x_nilCheck rfl) ?_
  refine st_q (v := .pointer (some ⟨b, 2, none⟩)) (x_field (o := 0) T.fa84_2 rfl) ?_
  refine st_q (v := .int .i64 ((nx : Nat) : Int)) (x_load1 T.na3 rfl (hB53.one 2 rfl)) ?_
  refine st_q (v := .int .i64 (((nx + 1) : Nat) : Int)) (x_addN rfl rfl (by omega)) ?_
  refine st_q (v := .pointer (some ⟨b, 0, none⟩)) (x_nilCheck rfl) ?_
  refine st_q (v := .pointer (some ⟨b, 2, none⟩)) (x_field (o := 0) T.fa84_2 rfl) ?_
  refine st_s (e_st (v := .int .i64 (((nx + 1) : Nat) : Int)) T.sz3 rfl rfl hB53 (by simp [Value.cells]) (by rfl) ?_)
  intro w63 hP64
  have hB65 : Blk w63.heap b [.func (.func 38) #[] #[.pointer (some ⟨pb, 0, none⟩)], .slice ((some ⟨b1, 0, none⟩)) ((es.length + 1)) c1, .int .i64 (((nx + 1) : Nat) : Int)] 84 := hP64.new
  have hs66 := hP64.size
  have hF67 := hc.gk _ _ _ _ hF55 (hP64.grownBy) (hB53.rowk) (by decide)
  have hF68 := hF56.gk (hP64.grownBy) (hB53.rowk) (by decide)
  have hE69 : Mod (fun k => k = b ∨ Value.ownBlock (.slice a es.length ca) = some k) w0 w63 := hE57.pt hP64 (.inl (.inl rfl))
  have hz70 := hE69.le
  refine st_nil ?_
  refine kn60 _ _ ?_
  refine seqK fun Q71 kn72 kr73 ke74 => ?_
  refine region ?_
  refine st_q (v := .pointer (some ⟨b, 0, none⟩)) (x_move rfl) ?_
  refine st_q (v := .pointer (some ⟨b, 0, none⟩)) (x_nilCheck rfl) ?_
  refine st_q (v := .pointer (some ⟨b, 1, none⟩)) (x_field (o := 0) T.fa84_1 rfl) ?_
  refine st_q (v := .slice ((some ⟨b1, 0, none⟩)) ((es.length + 1)) c1) (x_load1 T.na82 rfl (hB65.one 1 rfl)) ?_
  refine st_q (v := .int .i64 (((es.length + 1) : Nat) : Int)) (x_lenSl rfl Try.underlying82 rfl) ?_
  refine st_q (v := .int .i64 ((((es.length + 1) - 1) : Nat) : Int)) (x_subN rfl rfl (by omega) (by omega)) ?_
  refine st_q (v := .int .i64 ((((es.length + 1) - 1) : Nat) : Int)) (x_assign rfl) ?_
  refine st_nil ?_
  refine kn72 _ _ ?_
  refine blockK fun Q75 kn76 kr77 kx78 kb79 => ?_
  refine loopK (α := Nat × (List (Nat × Nat))) (fun x => [(0, .pointer (some ⟨b, 0, none⟩)), (4, .int .i64 ((x.1 : Nat) : Int))]) (fun x w80 => Mod (fun k => k = b ∨ Value.ownBlock (.slice a es.length ca) = some k) w0 w80 ∧ J w80 ∧ Blk w80.heap b [(.func (.func 38) #[] #[.pointer (some ⟨pb, 0, none⟩)]), .slice ((some ⟨b1, 0, none⟩)) ((es.length + 1)) c1, .int .i64 (((nx + 1) : Nat) : Int)] 84 ∧ OB w80.heap lo 86 2 b1 c1 (flat (Go.Eng.enE enN) x.2) ∧ x.2.length = es.length + 1 ∧ UpI (ah c) x.2 x.1 ∧ x.2.Perm (es ++ [(z, nx)])) (fun x => x.1) ((es.length + 1 - 1), (es ++ [(z, nx)])) ⟨rfl, rfl, trivial⟩ ?_ ?_
  ·
    refine ⟨hE69, ?_⟩
    try dsimp only
    exact ⟨hF67, hB65, hF68, by simp, by rw [Nat.add_sub_cancel]; exact up_start hhp _, List.Perm.refl _⟩
  ·
    rintro τ81 ⟨i, es2⟩ w82 ⟨hx83, ⟨hC1, hB1, hO2, hLL, hU, hP⟩⟩
    try dsimp only at hC1 hB1 hO2 hLL hU hP
    have hz84 := hx83.le
    intro Q85 kn86 kr87 ke88
    have hl89 := hO2.lo
    have hl90 := hO2.lt
    have hi0 := hU.1
    have hem2 := hem_push hem hz hP
    refine seqK fun Q91 kn92 kr93 ke94 => ?_
    refine seqK fun Q95 kn96 kr97 ke98 => ?_
    refine region ?_
    refine st_q (v := .int .i64 ((i : Nat) : Int)) (x_move rfl) ?_
    refine st_q (v := .bool (decide (0 < i))) (x_gtrN rfl rfl) ?_
    refine st_if (p := 0 < i) (x_move rfl) (fun h99 => ?_) (fun h99 => ?_)
    ·
      refine st_gq 2 37 rfl rfl (by decide) ?_
      refine st_q (v := .pointer (some ⟨b, 0, none⟩)) (x_move rfl) ?_
      refine st_gq 2 37 rfl rfl (by decide) ?_
      refine st_q (v := .int .i64 ((i : Nat) : Int)) (x_move rfl) ?_
      refine st_gq 2 37 rfl rfl (by decide) ?_
      refine st_q (v := .int .i64 ((i : Nat) : Int)) (x_move rfl) ?_
      refine st_gq 2 37 rfl rfl (by decide) ?_
      refine st_q (v := .int .i64 (((i - 1) : Nat) : Int)) (x_subN rfl rfl (by omega) (by omega)) ?_
      refine st_gq 2 37 rfl rfl (by decide) ?_
      refine st_q (v := .int .i64 ((((i - 1) / 2) : Nat) : Int)) (x_quoN rfl rfl (by omega) (by omega)) ?_
      refine st_gq 2 37 rfl rfl (by decide) ?_
      have hH102 := HeapR.of_ob (Go.Eng.enE_len enN_len) hge hB1 hO2 hm1 hLL hb1
      refine st_c (t_call [.pointer (some ⟨b, 0, none⟩), .int .i64 ((i : Nat) : Int), .int .i64 ((((i - 1) / 2) : Nat) : Int)] T.cf51 rfl rfl) (ahead51 J m c pb hc hL lo b (nx + 1) _ es2 i ((i - 1) / 2) _ hC1 hH102 hem2 (by omega) (by omega)) ?_
      rintro _ w100 ⟨rfl, hx101⟩
      refine ⟨_, rfl, ?_⟩
      have hB103 := hB1.ext hx101
      have hF104 := hc.ext _ _ hC1 hx101
      have hF105 := hO2.ext hx101
      have hE106 : Mod (fun k => k = b ∨ Value.ownBlock (.slice a es.length ca) = some k) w0 w100 := hx83.ext hx101
      have hz107 := hE106.le
      have hs108 := hx101.size
      refine st_q (v := .bool (decide (ah c (el es2 i) (el es2 ((i - 1) / 2))))) (x_pickT rfl rfl) ?_
      refine st_nil ?_
      refine kn96 _ _ ?_
      refine cnd (p := ah c (el es2 i) (el es2 ((i - 1) / 2))) rfl (fun h109 => ?_) (fun h109 => ?_)
      ·
        refine skip ?_
        refine kn92 _ _ ?_
        refine seqK fun Q110 kn111 kr112 ke113 => ?_
        refine blockK fun Q114 kn115 kr116 kx117 kb118 => ?_
        refine regionD1 [3, 8, 15, 20, 24, 27] [0, 1, 2, 3, 4, 5, 6, 7, 8, 9, 10, 11, 12, 13, 14, 15, 16, 17, 18, 19, 20, 21, 22, 23, 24, 25, 26, 27, 28, 30] (.one 0 (.one 1 (.one 2 (.one 3 (.one 4 (.one 5 (.one 6 (.one 7 (.one 8 (.one 9 (.one 10 (.one 11 (.one 12 (.one 13 (.one 14 (.one 15 (.one 16 (.one 17 (.one 18 (.one 19 (.one 20 (.one 21 (.one 22 (.one 23 (.one 24 (.one 25 (.one 26 (.one 27 (.one 28 (.one 29 (.one 30 (.one 31 .done)))))))))))))))))))))))))))))))) (by kernel_rfl) (by kernel_rfl) ?_
        intro w119 hx120 hs121
        have hB122 := hB103.ext hx120
        have hF123 := hc.ext _ _ hF104 hx120
        have hF124 := hF105.ext hx120
        have hE125 : Mod (fun k => k = b ∨ Value.ownBlock (.slice a es.length ca) = some k) w0 w119 := hE106.ext hx120
        have hz126 := hE125.le
        have hs127 := hx120.size
        have hS128 : Ext w119 w119 := Below.refl _ _
        refine d_q (v := .pointer (some ⟨b, 0, none⟩)) rfl rfl (fun _ => x_move rfl) ?_
        refine d_q (v := .pointer (some ⟨b, 0, none⟩)) rfl rfl (fun _ => x_nilCheck rfl) ?_
        refine d_q (v := .pointer (some ⟨b, 1, none⟩)) rfl rfl (fun _ => x_field (o := 0) T.fa84_1 rfl) ?_
        refine d_l (v := .slice ((some ⟨b1, 0, none⟩)) ((es.length + 1)) c1) rfl rfl rfl (fun v130 hw129 => x_load1 T.na82 rfl ((hB122.one 1 rfl).ext hw129)) ?_
        refine d_q (v := .int .i64 ((i : Nat) : Int)) rfl rfl (fun _ => x_move rfl) ?_
        refine d_q (v := .pointer (some ⟨b, 0, none⟩)) rfl rfl (fun _ => x_move rfl) ?_
        refine d_q (v := .pointer (some ⟨b, 0, none⟩)) rfl rfl (fun _ => x_nilCheck rfl) ?_
        refine d_q (v := .pointer (some ⟨b, 1, none⟩)) rfl rfl (fun _ => x_field (o := 0) T.fa84_1 rfl) ?_
        refine d_l (v := .slice ((some ⟨b1, 0, none⟩)) ((es.length + 1)) c1) rfl rfl rfl (fun v132 hw131 => x_load1 T.na82 rfl ((hB122.one 1 rfl).ext hw131)) ?_
        refine d_q (v := .int .i64 ((i : Nat) : Int)) rfl rfl (fun _ => x_move rfl) ?_
        refine d_q (v := .int .i64 (((i - 1) : Nat) : Int)) rfl rfl (fun _ => x_subN rfl rfl (by omega) (by omega)) ?_
        refine d_q (v := .int .i64 ((((i - 1) / 2) : Nat) : Int)) rfl rfl (fun _ => x_quoN rfl rfl (by omega) (by omega)) ?_
        refine d_q (v := .pointer (some ⟨b, 0, none⟩)) rfl rfl (fun _ => x_move rfl) ?_
        refine d_q (v := .pointer (some ⟨b, 0, none⟩)) rfl rfl (fun _ => x_nilCheck rfl) ?_
        refine d_q (v := .pointer (some ⟨b, 1, none⟩)) rfl rfl (fun _ => x_field (o := 0) T.fa84_1 rfl) ?_
        refine d_l (v := .slice ((some ⟨b1, 0, none⟩)) ((es.length + 1)) c1) rfl rfl rfl (fun v134 hw133 => x_load1 T.na82 rfl ((hB122.one 1 rfl).ext hw133)) ?_
        refine d_q (v := .int .i64 ((i : Nat) : Int)) rfl rfl (fun _ => x_move rfl) ?_
        refine d_q (v := .int .i64 (((i - 1) : Nat) : Int)) rfl rfl (fun _ => x_subN rfl rfl (by omega) (by omega)) ?_
        refine d_q (v := .int .i64 ((((i - 1) / 2) : Nat) : Int)) rfl rfl (fun _ => x_quoN rfl rfl (by omega) (by omega)) ?_
        refine d_q (v := .pointer (some ⟨b1, 0 + (((i - 1) / 2)) * 2, none⟩)) rfl rfl (fun _ => x_index T.sl82 rfl rfl (by omega)) ?_
        refine d_l (v := .agg #[.int .i64 (((el es2 (((i - 1) / 2))).1 : Nat) : Int), .int .i64 (((el es2 (((i - 1) / 2))).2 : Nat) : Int)]) rfl rfl rfl (fun v136 hw135 => x_loadA [.int .i64 (((el es2 (((i - 1) / 2))).1 : Nat) : Int), .int .i64 (((el es2 (((i - 1) / 2))).2 : Nat) : Int)] T.ag86 rfl ((hF124.cells.elem (Go.Eng.enE_len enN_len) (i := ((i - 1) / 2)) (by omega)).ext hw135)) ?_
        refine d_q (v := .pointer (some ⟨b, 0, none⟩)) rfl rfl (fun _ => x_move rfl) ?_
        refine d_q (v := .pointer (some ⟨b, 0, none⟩)) rfl rfl (fun _ => x_nilCheck rfl) ?_
        refine d_q (v := .pointer (some ⟨b, 1, none⟩)) rfl rfl (fun _ => x_field (o := 0) T.fa84_1 rfl) ?_
        refine d_l (v := .slice ((some ⟨b1, 0, none⟩)) ((es.length + 1)) c1) rfl rfl rfl (fun v138 hw137 => x_load1 T.na82 rfl ((hB122.one 1 rfl).ext hw137)) ?_
        refine d_q (v := .int .i64 ((i : Nat) : Int)) rfl rfl (fun _ => x_move rfl) ?_
        refine d_q (v := .pointer (some ⟨b1, 0 + i * 2, none⟩)) rfl rfl (fun _ => x_index T.sl82 rfl rfl (by omega)) ?_
        refine d_l (v := .agg #[.int .i64 (((el es2 i).1 : Nat) : Int), .int .i64 (((el es2 i).2 : Nat) : Int)]) rfl rfl rfl (fun v140 hw139 => x_loadA [.int .i64 (((el es2 i).1 : Nat) : Int), .int .i64 (((el es2 i).2 : Nat) : Int)] T.ag86 rfl ((hF124.cells.elem (Go.Eng.enE_len enN_len) (i := i) (by omega)).ext hw139)) ?_
        refine d_q (v := .pointer (some ⟨b1, 0 + i * 2, none⟩)) rfl rfl (fun _ => x_index T.sl82 rfl rfl (by omega)) ?_
        refine d_e (by decide) (d_s' rfl rfl (e_stO (v := .agg #[.int .i64 (((el es2 (((i - 1) / 2))).1 : Nat) : Int), .int .i64 (((el es2 (((i - 1) / 2))).2 : Nat) : Int)]) (u := (el es2 (((i - 1) / 2)))) (Go.Eng.enE_len enN_len) T.sz86 rfl rfl rfl hF124 (by first | omega | (rw [List.length_set]; omega)) (by rfl) ?_))
        intro w141 _ hP142 hB143
        have hs144 := hP142.size
        have hB145 := hB122.gk (hP142.grownBy) (hF124.rowk) (by decide)
        have hF146 := hc.gk _ _ _ _ hF123 (hP142.grownBy) (hF124.rowk) (by decide)
        have hE147 : Mod (fun k => k = b ∨ Value.ownBlock (.slice a es.length ca) = some k) w0 w141 := hE125.pt hP142 (hbS2)
        have hz148 := hE147.le
        refine ⟨need_no (by kernel_rfl), ?_⟩
        refine d_q (v := .pointer (some ⟨b1, 0 + (((i - 1) / 2)) * 2, none⟩)) rfl rfl (fun _ => x_index T.sl82 rfl rfl (by omega)) ?_
        refine d_e (by decide) (d_s' rfl rfl (e_stO (v := .agg #[.int .i64 (((el es2 i).1 : Nat) : Int), .int .i64 (((el es2 i).2 : Nat) : Int)]) (u := (el es2 i)) (Go.Eng.enE_len enN_len) T.sz86 rfl rfl rfl hB143 (by first | omega | (rw [List.length_set]; omega)) (by rfl) ?_))
        intro w149 _ hP150 hB151
        have hs152 := hP150.size
        have hB153 := hB145.gk (hP150.grownBy) (hB143.rowk) (by decide)
        have hF154 := hc.gk _ _ _ _ hF146 (hP150.grownBy) (hB143.rowk) (by decide)
        have hE155 : Mod (fun k => k = b ∨ Value.ownBlock (.slice a es.length ca) = some k) w0 w149 := hE147.pt hP150 (hbS2)
        have hz156 := hE155.le
        refine ⟨need_no (by kernel_rfl), ?_⟩
        refine d_done ?_
        refine kn115 _ _ ?_
        refine kn111 _ _ ?_
        refine region ?_
        refine st_q (v := .int .i64 ((i : Nat) : Int)) (x_move rfl) ?_
        refine st_q (v := .int .i64 (((i - 1) : Nat) : Int)) (x_subN rfl rfl (by omega) (by omega)) ?_
        refine st_q (v := .int .i64 ((((i - 1) / 2) : Nat) : Int)) (x_quoN rfl rfl (by omega) (by omega)) ?_
        refine st_q (v := .int .i64 ((((i - 1) / 2) : Nat) : Int)) (x_assign rfl) ?_
        refine st_nil ?_
        refine kn86 _ (((i - 1) / 2), (swap es2 i ((i - 1) / 2))) _ ⟨rfl, rfl, trivial⟩ ⟨hE155, ?_⟩ ?_
        ·
          try dsimp only
          exact ⟨hF154, hB153, hB151, by rw [swap_length]; exact hLL, up_step (ah_swo hL) hU (by omega) (by assumption), (swap_perm (by omega) (by omega)).trans hP⟩
        ·
          (try dsimp only); omega
      ·
        refine exit ?_
        refine ke94 _ _ _ ?_
        refine ke88 _ _ _ ?_
        refine kb79 _ _ ?_
        refine leave0' (P := Try.prog) (fn := Try.f40) rfl ?_
        have hH157 := HeapR.of_ob (Go.Eng.enE_len enN_len) hge hB103 hF105 hm1 hLL hb1
        exact ⟨rfl, _, _, hE106, hH157, up_done hU (by first | exact .inl (by omega) | exact .inr (by assumption)), hP, hbS.imp (fun e => e) (fun e k hk => by simp [Value.ownBlock] at hk; omega)⟩
    ·
      refine st_gn 2 37 rfl rfl (by decide) rfl ?_
      refine st_gn 2 37 rfl rfl (by decide) rfl ?_
      refine st_gn 2 37 rfl rfl (by decide) rfl ?_
      refine st_gn 2 37 rfl rfl (by decide) rfl ?_
      refine st_gn 2 37 rfl rfl (by decide) rfl ?_
      refine st_gn 2 37 rfl rfl (by decide) rfl ?_
      refine st_q (v := .bool false) (x_pickF rfl rfl) ?_
      refine st_nil ?_
      refine kn96 _ _ ?_
      refine cndF rfl ?_
      refine exit ?_
      refine ke94 _ _ _ ?_
      refine ke88 _ _ _ ?_
      refine kb79 _ _ ?_
      refine leave0' (P := Try.prog) (fn := Try.f40) rfl ?_
      have hH158 := HeapR.of_ob (Go.Eng.enE_len enN_len) hge hB1 hO2 hm1 hLL hb1
      exact ⟨rfl, _, _, hx83, hH158, up_done hU (by first | exact .inl (by omega) | exact .inr (by assumption)), hP, hbS.imp (fun e => e) (fun e k hk => by simp [Value.ownBlock] at hk; omega)⟩

set_option maxHeartbeats 4000000 in
theorem pop41 (J : World → Prop) (m : Nat) (c : Nat → Nat → Int) (pb : Nat) (hc : Cmpr J (.pointer (some ⟨pb, 0, none⟩)) m c) (hL : Lawful c) (lo : Nat) (b nx : Nat) (v : Value) (es : List (Nat × Nat)) (w0 : World) (hC : J w0) (hH : HeapR w0.heap lo 84 86 2 (Go.Eng.enE enN) b (.func (.func 38) #[] #[.pointer (some ⟨pb, 0, none⟩)]) v es nx) (hem : ∀ i, i < es.length → (el es i).1 < m) (hz : 0 < es.length) (hlen : es.length ≤ 4398046511105) (hhp : HP (ah c) es) : Calls Try.prog 41 #[.pointer (some ⟨b, 0, none⟩)] w0 fun e w' => e = .returned (.tuple #[.int .i64 (((el es 0).1 : Nat) : Int), .bool true]) ∧ ∃ v' es', Mod (fun k => k = b ∨ v.ownBlock = some k) w0 w' ∧ HeapR w'.heap lo 84 86 2 (Go.Eng.enE enN) b (.func (.func 38) #[] #[.pointer (some ⟨pb, 0, none⟩)]) v' es' nx ∧ HP (ah c) es' ∧ es.Perm (el es 0 :: es') ∧ v'.ownBlock = v.ownBlock := by
  have hE0 : Mod (fun k => k = b ∨ v.ownBlock = some k) w0 w0 := Mod.refl _ _
  have hz0 := hE0.le
  obtain ⟨hge, hB, hO, hne⟩ := hH
  obtain ⟨b1, c1, rfl, hm1, hO1⟩ := hO.ob (fun e => by subst e; have := hO.src.capl; omega)
  have hbl := hB.lt
  have hb1 : b1 ≠ b := fun e => hne (congrArg some e)
  have hbl1 := hO1.lt
  have hl1 := hO1.lo
  have hl2 := hO1.lt
  refine enter Try.func41 rfl 104 Try.ntmps41 rfl ?_
  refine seqK fun Q3 kn4 kr5 ke6 => ?_
  refine region ?_
  refine st_q (v := .int .i64 ((0 : Nat) : Int)) (x_assign rfl) ?_
  refine st_q (v := .bool false) (x_assign rfl) ?_
  refine st_nil ?_
  refine kn4 _ _ ?_
  refine seqK fun Q7 kn8 kr9 ke10 => ?_
  refine region ?_
  refine st_q (v := .pointer (some ⟨b, 0, none⟩)) (x_move rfl) ?_
  have hH13 := HeapR.of_ob (Go.Eng.enE_len enN_len) hge hB hO1 (m := es.length) hm1 rfl hb1
  refine st_c (t_call [.pointer (some ⟨b, 0, none⟩)] T.cf52 rfl rfl) (peek52_1 J m c pb hc hL lo b nx _ es _ hC hH13 (by omega)) ?_
  rintro _ w11 ⟨rfl, hx12⟩
  refine ⟨_, rfl, ?_⟩
  have hB14 := hB.ext hx12
  have hF15 := hc.ext _ _ hC hx12
  have hF16 := hO1.ext hx12
  have hE17 : Mod (fun k => k = b ∨ Value.ownBlock (.slice (some ⟨b1, 0, none⟩) es.length c1) = some k) w0 w11 := hE0.ext hx12
  have hz18 := hE17.le
  have hs19 := hx12.size
  refine st_q (v := .tuple #[.int .i64 (((el es 0).1 : Nat) : Int), .bool true]) (x_move rfl) ?_
  refine st_q (v := .int .i64 (((el es 0).1 : Nat) : Int)) (x_extract rfl rfl) ?_
  refine st_q (v := .bool true) (x_extract rfl rfl) ?_
  refine st_q (v := .int .i64 (((el es 0).1 : Nat) : Int)) (x_assign rfl) ?_
  refine st_q (v := .bool true) (x_assign rfl) ?_
  refine st_nil ?_
  refine kn8 _ _ ?_
  refine seqK fun Q20 kn21 kr22 ke23 => ?_
  refine seqK fun Q24 kn25 kr26 ke27 => ?_
  refine region ?_
  refine st_q (v := .bool true) (x_move rfl) ?_
  refine st_q (v := .bool false) (x_notB (b := true) rfl) ?_
  refine st_nil ?_
  refine kn25 _ _ ?_
  refine cndF rfl ?_
  refine skip ?_
  refine kn21 _ _ ?_
  refine seqK fun Q28 kn29 kr30 ke31 => ?_
  refine region ?_
  refine st_q (v := .pointer (some ⟨b, 0, none⟩)) (x_move rfl) ?_
  refine st_q (v := .pointer (some ⟨b, 0, none⟩)) (x_nilCheck rfl) ?_
  refine st_q (v := .pointer (some ⟨b, 1, none⟩)) (x_field (o := 0) T.fa84_1 rfl) ?_
  refine st_q (v := .slice ((some ⟨b1, 0, none⟩)) es.length c1) (x_load1 T.na82 rfl (hB14.one 1 rfl)) ?_
  refine st_q (v := .int .i64 ((es.length : Nat) : Int)) (x_lenSl rfl Try.underlying82 rfl) ?_
  refine st_q (v := .int .i64 (((es.length - 1) : Nat) : Int)) (x_subN rfl rfl (by omega) (by omega)) ?_
  refine st_q (v := .int .i64 (((es.length - 1) : Nat) : Int)) (x_assign rfl) ?_
  refine st_nil ?_
  refine kn29 _ _ ?_
  refine seqK fun Q32 kn33 kr34 ke35 => ?_
  refine regionD1 [3, 7, 10] [0, 1, 2, 3, 4, 5, 6, 7, 8, 9, 10, 11] (.one 0 (.one 1 (.one 2 (.one 3 (.one 4 (.one 5 (.one 6 (.one 7 (.one 8 (.one 9 (.one 10 (.one 11 (.one 12 .done))))))))))))) (by kernel_rfl) (by kernel_rfl) ?_
  intro w36 hx37 hs38
  have hB39 := hB14.ext hx37
  have hF40 := hc.ext _ _ hF15 hx37
  have hF41 := hF16.ext hx37
  have hE42 : Mod (fun k => k = b ∨ Value.ownBlock (.slice (some ⟨b1, 0, none⟩) es.length c1) = some k) w0 w36 := hE17.ext hx37
  have hz43 := hE42.le
  have hs44 := hx37.size
  have hS45 : Ext w36 w36 := Below.refl _ _
  refine d_q (v := .pointer (some ⟨b, 0, none⟩)) rfl rfl (fun _ => x_move rfl) ?_
  refine d_q (v := .pointer (some ⟨b, 0, none⟩)) rfl rfl (fun _ => x_nilCheck rfl) ?_
  refine d_q (v := .pointer (some ⟨b, 1, none⟩)) rfl rfl (fun _ => x_field (o := 0) T.fa84_1 rfl) ?_
  refine d_l (v := .slice ((some ⟨b1, 0, none⟩)) es.length c1) rfl rfl rfl (fun v47 hw46 => x_load1 T.na82 rfl ((hB39.one 1 rfl).ext hw46)) ?_
  refine d_q (v := .pointer (some ⟨b, 0, none⟩)) rfl rfl (fun _ => x_move rfl) ?_
  refine d_q (v := .pointer (some ⟨b, 0, none⟩)) rfl rfl (fun _ => x_nilCheck rfl) ?_
  refine d_q (v := .pointer (some ⟨b, 1, none⟩)) rfl rfl (fun _ => x_field (o := 0) T.fa84_1 rfl) ?_
  refine d_l (v := .slice ((some ⟨b1, 0, none⟩)) es.length c1) rfl rfl rfl (fun v49 hw48 => x_load1 T.na82 rfl ((hB39.one 1 rfl).ext hw48)) ?_
  refine d_q (v := .int .i64 (((es.length - 1) : Nat) : Int)) rfl rfl (fun _ => x_move rfl) ?_
  refine d_q (v := .pointer (some ⟨b1, 0 + ((es.length - 1)) * 2, none⟩)) rfl rfl (fun _ => x_index T.sl82 rfl rfl (by omega)) ?_
  refine d_l (v := .agg #[.int .i64 (((el es ((es.length - 1))).1 : Nat) : Int), .int .i64 (((el es ((es.length - 1))).2 : Nat) : Int)]) rfl rfl rfl (fun v51 hw50 => x_loadA [.int .i64 (((el es ((es.length - 1))).1 : Nat) : Int), .int .i64 (((el es ((es.length - 1))).2 : Nat) : Int)] T.ag86 rfl ((hF41.cells.elem (Go.Eng.enE_len enN_len) (i := (es.length - 1)) (by omega)).ext hw50)) ?_
  refine d_q (v := .pointer (some ⟨b1, 0 + 0 * 2, none⟩)) rfl rfl (fun _ => x_index T.sl82 rfl rfl (by omega)) ?_
  refine d_e (by decide) (d_s' rfl rfl (e_stO (v := .agg #[.int .i64 (((el es ((es.length - 1))).1 : Nat) : Int), .int .i64 (((el es ((es.length - 1))).2 : Nat) : Int)]) (u := (el es ((es.length - 1)))) (Go.Eng.enE_len enN_len) T.sz86 rfl rfl rfl hF41 (by first | omega | (rw [List.length_set]; omega)) (by rfl) ?_))
  intro w52 _ hP53 hB54
  have hs55 := hP53.size
  have hB56 := hB39.gk (hP53.grownBy) (hF41.rowk) (by decide)
  have hF57 := hc.gk _ _ _ _ hF40 (hP53.grownBy) (hF41.rowk) (by decide)
  have hE58 : Mod (fun k => k = b ∨ Value.ownBlock (.slice (some ⟨b1, 0, none⟩) es.length c1) = some k) w0 w52 := hE42.pt hP53 (.inl (.inr rfl))
  have hz59 := hE58.le
  refine ⟨need_no (by kernel_rfl), ?_⟩
  refine d_done ?_
  refine kn33 _ _ ?_
  refine seqK fun Q60 kn61 kr62 ke63 => ?_
  refine region ?_
  refine st_q (v := .pointer (some ⟨b, 0, none⟩)) (x_move rfl) ?_
  refine st_q (v := .pointer (some ⟨b, 0, none⟩)) (x_nilCheck rfl) ?_
  refine st_q (v := .pointer (some ⟨b, 1, none⟩)) (x_field (o := 0) T.fa84_1 rfl) ?_
  refine st_q (v := .slice ((some ⟨b1, 0, none⟩)) es.length c1) (x_load1 T.na82 rfl (hB56.one 1 rfl)) ?_
  refine st_q (v := .int .i64 (((es.length - 1) : Nat) : Int)) (x_move rfl) ?_
  refine st_q (v := .agg #[.int .i64 ((0 : Nat) : Int), .int .i64 ((0 : Nat) : Int)]) (x_build (fun _ => by kernel_rfl)) ?_
  refine st_q (v := .pointer (some ⟨b1, 0 + ((es.length - 1)) * 2, none⟩)) (x_index T.sl82 rfl rfl (by omega)) ?_
  refine st_s (e_stO (v := .agg #[.int .i64 ((0 : Nat) : Int), .int .i64 ((0 : Nat) : Int)]) (u := (0, 0)) (Go.Eng.enE_len enN_len) T.sz86 rfl rfl rfl hB54 (by first | omega | (rw [List.length_set]; omega)) (by rfl) ?_)
  intro w64 _ hP65 hB66
  have hs67 := hP65.size
  have hB68 := hB56.gk (hP65.grownBy) (hB54.rowk) (by decide)
  have hF69 := hc.gk _ _ _ _ hF57 (hP65.grownBy) (hB54.rowk) (by decide)
  have hE70 : Mod (fun k => k = b ∨ Value.ownBlock (.slice (some ⟨b1, 0, none⟩) es.length c1) = some k) w0 w64 := hE58.pt hP65 (.inl (.inr rfl))
  have hz71 := hE70.le
  refine st_nil ?_
  refine kn61 _ _ ?_
  refine seqK fun Q72 kn73 kr74 ke75 => ?_
  refine region ?_
  refine st_q (v := .pointer (some ⟨b, 0, none⟩)) (x_move rfl) ?_
  refine st_q (v := .pointer (some ⟨b, 0, none⟩)) (x_move rfl) ?_
  refine st_q (v := .pointer (some ⟨b, 0, none⟩)) (x_nilCheck rfl) ?_
  refine st_q (v := .pointer (some ⟨b, 1, none⟩)) (x_field (o := 0) T.fa84_1 rfl) ?_
  refine st_q (v := .slice ((some ⟨b1, 0, none⟩)) es.length c1) (x_load1 T.na82 rfl (hB68.one 1 rfl)) ?_
  refine st_q (v := .int .i64 (((es.length - 1) : Nat) : Int)) (x_move rfl) ?_
  refine st_q (v := .slice ((some ⟨b1, 0, none⟩)) ((es.length - 1)) c1) (x_sliceHi T.sl82 rfl rfl (by omega)) ?_
  refine st_q (v := .pointer (some ⟨b, 0, none⟩)) (x_nilCheck rfl) ?_
  refine st_q (v := .pointer (some ⟨b, 1, none⟩)) (x_field (o := 0) T.fa84_1 rfl) ?_
  refine st_s (e_st (v := .slice ((some ⟨b1, 0, none⟩)) ((es.length - 1)) c1) T.sz82 rfl rfl hB68 (by simp [Value.cells]) (by rfl) ?_)
  intro w76 hP77
  have hB78 : Blk w76.heap b [.func (.func 38) #[] #[.pointer (some ⟨pb, 0, none⟩)], .slice ((some ⟨b1, 0, none⟩)) ((es.length - 1)) c1, .int .i64 ((nx : Nat) : Int)] 84 := hP77.new
  have hs79 := hP77.size
  have hF80 := hc.gk _ _ _ _ hF69 (hP77.grownBy) (hB68.rowk) (by decide)
  have hF81 := hB66.gk (hP77.grownBy) (hB68.rowk) (by decide)
  have hE82 : Mod (fun k => k = b ∨ Value.ownBlock (.slice (some ⟨b1, 0, none⟩) es.length c1) = some k) w0 w76 := hE70.pt hP77 (.inl (.inl rfl))
  have hz83 := hE82.le
  refine st_nil ?_
  refine kn73 _ _ ?_
  refine seqK fun Q84 kn85 kr86 ke87 => ?_
  refine region ?_
  refine st_q (v := .int .i64 ((0 : Nat) : Int)) (x_assign rfl) ?_
  refine st_nil ?_
  refine kn85 _ _ ?_
  refine blockK fun Q88 kn89 kr90 kx91 kb92 => ?_
  refine loopK (α := Nat × (List (Nat × Nat))) (fun x => [(0, .pointer (some ⟨b, 0, none⟩)), (4, .int .i64 (((el es 0).1 : Nat) : Int)), (6, .int .i64 (((es.length - 1) : Nat) : Int)), (7, .int .i64 ((x.1 : Nat) : Int))]) (fun x w93 => Mod (fun k => k = b ∨ Value.ownBlock (.slice (some ⟨b1, 0, none⟩) es.length c1) = some k) w0 w93 ∧ J w93 ∧ Blk w93.heap b [(.func (.func 38) #[] #[.pointer (some ⟨pb, 0, none⟩)]), .slice ((some ⟨b1, 0, none⟩)) ((es.length - 1)) c1, .int .i64 ((nx : Nat) : Int)] 84 ∧ OB w93.heap lo 86 2 b1 c1 (flat (Go.Eng.enE enN) x.2) ∧ x.2.length = es.length - 1 ∧ x.1 ≤ es.length ∧ DownI (ah c) x.2 x.1 ∧ es.Perm (el es 0 :: x.2)) (fun x => es.length - x.1) (0, ((es.set 0 (el es (es.length - 1))).take (es.length - 1))) ⟨rfl, rfl, rfl, rfl, trivial⟩ ?_ ?_
  ·
    refine ⟨hE82, ?_⟩
    try dsimp only
    have hT := hF81.take (es.length - 1)
    rw [take_set_le _ (Nat.le_refl _)] at hT
    exact ⟨hF80, hB78, hT, by rw [List.length_take, List.length_set]; omega, Nat.zero_le _, down_start hhp (by omega), pop_perm (by omega)⟩
  ·
    rintro τ94 ⟨i, es2⟩ w95 ⟨hx96, ⟨hC1, hB1, hO2, hLL, hi, hD, hP⟩⟩
    try dsimp only at hC1 hB1 hO2 hLL hi hD hP
    have hz97 := hx96.le
    intro Q98 kn99 kr100 ke101
    have hl102 := hO2.lo
    have hl103 := hO2.lt
    have hem2 := hem_pop hem hz hP
    refine blockK fun Q104 kn105 kr106 kx107 kb108 => ?_
    refine seqK fun Q109 kn110 kr111 ke112 => ?_
    refine region ?_
    refine st_q (v := .int .i64 ((i : Nat) : Int)) (x_move rfl) ?_
    refine st_q (v := .int .i64 (((2 * i) : Nat) : Int)) (x_mulN rfl rfl (by omega)) ?_
    refine st_q (v := .int .i64 ((((2 * i) + 1) : Nat) : Int)) (x_addN rfl rfl (by omega)) ?_
    refine st_q (v := .int .i64 ((((2 * i) + 1) : Nat) : Int)) (x_assign rfl) ?_
    refine st_nil ?_
    refine kn110 _ _ ?_
    refine seqK fun Q113 kn114 kr115 ke116 => ?_
    refine seqK fun Q117 kn118 kr119 ke120 => ?_
    refine region ?_
    refine st_q (v := .int .i64 ((((2 * i) + 1) : Nat) : Int)) (x_move rfl) ?_
    refine st_q (v := .int .i64 (((es.length - 1) : Nat) : Int)) (x_move rfl) ?_
    refine st_q (v := .bool (decide (((es.length - 1)) ≤ (((2 * i) + 1))))) (x_geqN rfl rfl) ?_
    refine st_nil ?_
    refine kn118 _ _ ?_
    refine cnd (p := ((es.length - 1)) ≤ (((2 * i) + 1))) rfl (fun h121 => ?_) (fun h121 => ?_)
    ·
      refine seqK fun Q122 kn123 kr124 ke125 => ?_
      refine region ?_
      refine st_q (v := .int .i64 (((el es 0).1 : Nat) : Int)) (x_move rfl) ?_
      refine st_q (v := .int .i64 (((el es 0).1 : Nat) : Int)) (x_assign rfl) ?_
      refine st_q (v := .bool true) (x_assign rfl) ?_
      refine st_nil ?_
      refine kn123 _ _ ?_
      refine ret ?_
      refine kr115 _ _ ?_
      refine kr106 _ _ ?_
      refine kr100 _ _ ?_
      refine kr90 _ _ ?_
      refine leave2 (P := Try.prog) (fn := Try.f41) (t := 2) (u := 3) (v := .int .i64 (((el es 0).1 : Nat) : Int)) (v' := .bool true) rfl rfl rfl ?_
      have hH126 := HeapR.of_ob (Go.Eng.enE_len enN_len) hge hB1 hO2 (m := (es.length - 1)) (by omega) hLL hb1
      exact ⟨rfl, _, _, hx96, hH126, (by first | exact down_done hD (fun j h0 hj he => by omega) | exact down_stop (ah_swo hL) hD (by first | exact down_min_r (ah_swo hL) rfl (by assumption) | exact down_min_l (ah_swo hL) rfl (by first | exact .inr (by omega) | exact .inl (by assumption))) (by assumption)), hP, rfl⟩
    ·
      refine skip ?_
      refine kn114 _ _ ?_
      refine seqK fun Q127 kn128 kr129 ke130 => ?_
      refine seqK fun Q131 kn132 kr133 ke134 => ?_
      refine region ?_
      refine st_q (v := .int .i64 ((((2 * i) + 1) : Nat) : Int)) (x_move rfl) ?_
      refine st_q (v := .int .i64 (((((2 * i) + 1) + 1) : Nat) : Int)) (x_addN rfl rfl (by omega)) ?_
      refine st_q (v := .int .i64 (((es.length - 1) : Nat) : Int)) (x_move rfl) ?_
      refine st_q (v := .bool (decide (((((2 * i) + 1) + 1)) < ((es.length - 1))))) (x_lssN rfl rfl) ?_
      refine st_if (p := ((((2 * i) + 1) + 1)) < ((es.length - 1))) (x_move rfl) (fun h135 => ?_) (fun h135 => ?_)
      ·
        refine st_gq 4 62 rfl rfl (by decide) ?_
        refine st_q (v := .pointer (some ⟨b, 0, none⟩)) (x_move rfl) ?_
        refine st_gq 4 62 rfl rfl (by decide) ?_
        refine st_q (v := .int .i64 ((((2 * i) + 1) : Nat) : Int)) (x_move rfl) ?_
        refine st_gq 4 62 rfl rfl (by decide) ?_
        refine st_q (v := .int .i64 (((((2 * i) + 1) + 1) : Nat) : Int)) (x_addN rfl rfl (by omega)) ?_
        refine st_gq 4 62 rfl rfl (by decide) ?_
        refine st_q (v := .int .i64 ((((2 * i) + 1) : Nat) : Int)) (x_move rfl) ?_
        refine st_gq 4 62 rfl rfl (by decide) ?_
        have hH138 := HeapR.of_ob (Go.Eng.enE_len enN_len) hge hB1 hO2 (m := (es.length - 1)) (by omega) hLL hb1
        refine st_c (t_call [.pointer (some ⟨b, 0, none⟩), .int .i64 (((((2 * i) + 1) + 1) : Nat) : Int), .int .i64 ((((2 * i) + 1) : Nat) : Int)] T.cf51 rfl rfl) (ahead51 J m c pb hc hL lo b nx _ es2 ((((2 * i) + 1) + 1)) (((2 * i) + 1)) _ hC1 hH138 hem2 (by omega) (by omega)) ?_
        rintro _ w136 ⟨rfl, hx137⟩
        refine ⟨_, rfl, ?_⟩
        have hB139 := hB1.ext hx137
        have hF140 := hc.ext _ _ hC1 hx137
        have hF141 := hO2.ext hx137
        have hE142 : Mod (fun k => k = b ∨ Value.ownBlock (.slice (some ⟨b1, 0, none⟩) es.length c1) = some k) w0 w136 := hx96.ext hx137
        have hz143 := hE142.le
        have hs144 := hx137.size
        refine st_q (v := .bool (decide (ah c (el es2 ((((2 * i) + 1) + 1))) (el es2 (((2 * i) + 1)))))) (x_pickT rfl rfl) ?_
        refine st_nil ?_
        refine kn132 _ _ ?_
        refine cnd (p := ah c (el es2 ((((2 * i) + 1) + 1))) (el es2 (((2 * i) + 1)))) rfl (fun h145 => ?_) (fun h145 => ?_)
        ·
          refine region ?_
          refine st_q (v := .int .i64 ((((2 * i) + 1) : Nat) : Int)) (x_move rfl) ?_
          refine st_q (v := .int .i64 (((((2 * i) + 1) + 1) : Nat) : Int)) (x_addN rfl rfl (by omega)) ?_
          refine st_q (v := .int .i64 (((((2 * i) + 1) + 1) : Nat) : Int)) (x_assign rfl) ?_
          refine st_nil ?_
          refine kn128 _ _ ?_
          refine seqK fun Q146 kn147 kr148 ke149 => ?_
          refine seqK fun Q150 kn151 kr152 ke153 => ?_
          refine region ?_
          refine st_q (v := .pointer (some ⟨b, 0, none⟩)) (x_move rfl) ?_
          refine st_q (v := .int .i64 (((((2 * i) + 1) + 1) : Nat) : Int)) (x_move rfl) ?_
          refine st_q (v := .int .i64 ((i : Nat) : Int)) (x_move rfl) ?_
          have hH156 := HeapR.of_ob (Go.Eng.enE_len enN_len) hge hB139 hF141 (m := (es.length - 1)) (by omega) hLL hb1
          refine st_c (t_call [.pointer (some ⟨b, 0, none⟩), .int .i64 (((((2 * i) + 1) + 1) : Nat) : Int), .int .i64 ((i : Nat) : Int)] T.cf51 rfl rfl) (ahead51 J m c pb hc hL lo b nx _ es2 ((((2 * i) + 1) + 1)) i _ hF140 hH156 hem2 (by omega) (by omega)) ?_
          rintro _ w154 ⟨rfl, hx155⟩
          refine ⟨_, rfl, ?_⟩
          have hB157 := hB139.ext hx155
          have hF158 := hc.ext _ _ hF140 hx155
          have hF159 := hF141.ext hx155
          have hE160 : Mod (fun k => k = b ∨ Value.ownBlock (.slice (some ⟨b1, 0, none⟩) es.length c1) = some k) w0 w154 := hE142.ext hx155
          have hz161 := hE160.le
          have hs162 := hx155.size
          refine st_q (v := .bool (decide (¬ (ah c (el es2 ((((2 * i) + 1) + 1))) (el es2 i))))) (x_notP rfl) ?_
          refine st_nil ?_
          refine kn151 _ _ ?_
          refine cnd (p := ¬ (ah c (el es2 ((((2 * i) + 1) + 1))) (el es2 i))) rfl (fun h163 => ?_) (fun h163 => ?_)
          ·
            refine seqK fun Q164 kn165 kr166 ke167 => ?_
            refine region ?_
            refine st_q (v := .int .i64 (((el es 0).1 : Nat) : Int)) (x_move rfl) ?_
            refine st_q (v := .int .i64 (((el es 0).1 : Nat) : Int)) (x_assign rfl) ?_
            refine st_q (v := .bool true) (x_assign rfl) ?_
            refine st_nil ?_
            refine kn165 _ _ ?_
            refine ret ?_
            refine kr148 _ _ ?_
            refine kr106 _ _ ?_
            refine kr100 _ _ ?_
            refine kr90 _ _ ?_
            refine leave2 (P := Try.prog) (fn := Try.f41) (t := 2) (u := 3) (v := .int .i64 (((el es 0).1 : Nat) : Int)) (v' := .bool true) rfl rfl rfl ?_
            have hH168 := HeapR.of_ob (Go.Eng.enE_len enN_len) hge hB157 hF159 (m := (es.length - 1)) (by omega) hLL hb1
            exact ⟨rfl, _, _, hE160, hH168, (by first | exact down_done hD (fun j h0 hj he => by omega) | exact down_stop (ah_swo hL) hD (by first | exact down_min_r (ah_swo hL) rfl (by assumption) | exact down_min_l (ah_swo hL) rfl (by first | exact .inr (by omega) | exact .inl (by assumption))) (by assumption)), hP, rfl⟩
          ·
            refine skip ?_
            refine kn147 _ _ ?_
            refine seqK fun Q169 kn170 kr171 ke172 => ?_
            refine regionD1 [3, 8, 13, 16, 20, 23] [0, 1, 2, 3, 4, 5, 6, 7, 8, 9, 10, 11, 12, 13, 14, 15, 16, 17, 18, 19, 20, 21, 22, 23, 24, 26] (.one 0 (.one 1 (.one 2 (.one 3 (.one 4 (.one 5 (.one 6 (.one 7 (.one 8 (.one 9 (.one 10 (.one 11 (.one 12 (.one 13 (.one 14 (.one 15 (.one 16 (.one 17 (.one 18 (.one 19 (.one 20 (.one 21 (.one 22 (.one 23 (.one 24 (.one 25 (.one 26 (.one 27 .done)))))))))))))))))))))))))))) (by kernel_rfl) (by kernel_rfl) ?_
            intro w173 hx174 hs175
            have hB176 := hB157.ext hx174
            have hF177 := hc.ext _ _ hF158 hx174
            have hF178 := hF159.ext hx174
            have hE179 : Mod (fun k => k = b ∨ Value.ownBlock (.slice (some ⟨b1, 0, none⟩) es.length c1) = some k) w0 w173 := hE160.ext hx174
            have hz180 := hE179.le
            have hs181 := hx174.size
            have hS182 : Ext w173 w173 := Below.refl _ _
            refine d_q (v := .pointer (some ⟨b, 0, none⟩)) rfl rfl (fun _ => x_move rfl) ?_
            refine d_q (v := .pointer (some ⟨b, 0, none⟩)) rfl rfl (fun _ => x_nilCheck rfl) ?_
            refine d_q (v := .pointer (some ⟨b, 1, none⟩)) rfl rfl (fun _ => x_field (o := 0) T.fa84_1 rfl) ?_
            refine d_l (v := .slice ((some ⟨b1, 0, none⟩)) ((es.length - 1)) c1) rfl rfl rfl (fun v184 hw183 => x_load1 T.na82 rfl ((hB176.one 1 rfl).ext hw183)) ?_
            refine d_q (v := .int .i64 ((i : Nat) : Int)) rfl rfl (fun _ => x_move rfl) ?_
            refine d_q (v := .pointer (some ⟨b, 0, none⟩)) rfl rfl (fun _ => x_move rfl) ?_
            refine d_q (v := .pointer (some ⟨b, 0, none⟩)) rfl rfl (fun _ => x_nilCheck rfl) ?_
            refine d_q (v := .pointer (some ⟨b, 1, none⟩)) rfl rfl (fun _ => x_field (o := 0) T.fa84_1 rfl) ?_
            refine d_l (v := .slice ((some ⟨b1, 0, none⟩)) ((es.length - 1)) c1) rfl rfl rfl (fun v186 hw185 => x_load1 T.na82 rfl ((hB176.one 1 rfl).ext hw185)) ?_
            refine d_q (v := .int .i64 (((((2 * i) + 1) + 1) : Nat) : Int)) rfl rfl (fun _ => x_move rfl) ?_
            refine d_q (v := .pointer (some ⟨b, 0, none⟩)) rfl rfl (fun _ => x_move rfl) ?_
            refine d_q (v := .pointer (some ⟨b, 0, none⟩)) rfl rfl (fun _ => x_nilCheck rfl) ?_
            refine d_q (v := .pointer (some ⟨b, 1, none⟩)) rfl rfl (fun _ => x_field (o := 0) T.fa84_1 rfl) ?_
            refine d_l (v := .slice ((some ⟨b1, 0, none⟩)) ((es.length - 1)) c1) rfl rfl rfl (fun v188 hw187 => x_load1 T.na82 rfl ((hB176.one 1 rfl).ext hw187)) ?_
            refine d_q (v := .int .i64 (((((2 * i) + 1) + 1) : Nat) : Int)) rfl rfl (fun _ => x_move rfl) ?_
            refine d_q (v := .pointer (some ⟨b1, 0 + ((((2 * i) + 1) + 1)) * 2, none⟩)) rfl rfl (fun _ => x_index T.sl82 rfl rfl (by omega)) ?_
            refine d_l (v := .agg #[.int .i64 (((el es2 ((((2 * i) + 1) + 1))).1 : Nat) : Int), .int .i64 (((el es2 ((((2 * i) + 1) + 1))).2 : Nat) : Int)]) rfl rfl rfl (fun v190 hw189 => x_loadA [.int .i64 (((el es2 ((((2 * i) + 1) + 1))).1 : Nat) : Int), .int .i64 (((el es2 ((((2 * i) + 1) + 1))).2 : Nat) : Int)] T.ag86 rfl ((hF178.cells.elem (Go.Eng.enE_len enN_len) (i := (((2 * i) + 1) + 1)) (by omega)).ext hw189)) ?_
            refine d_q (v := .pointer (some ⟨b, 0, none⟩)) rfl rfl (fun _ => x_move rfl) ?_
            refine d_q (v := .pointer (some ⟨b, 0, none⟩)) rfl rfl (fun _ => x_nilCheck rfl) ?_
            refine d_q (v := .pointer (some ⟨b, 1, none⟩)) rfl rfl (fun _ => x_field (o := 0) T.fa84_1 rfl) ?_
            refine d_l (v := .slice ((some ⟨b1, 0, none⟩)) ((es.length - 1)) c1) rfl rfl rfl (fun v192 hw191 => x_load1 T.na82 rfl ((hB176.one 1 rfl).ext hw191)) ?_
            refine d_q (v := .int .i64 ((i : Nat) : Int)) rfl rfl (fun _ => x_move rfl) ?_
            refine d_q (v := .pointer (some ⟨b1, 0 + i * 2, none⟩)) rfl rfl (fun _ => x_index T.sl82 rfl rfl (by omega)) ?_
            refine d_l (v := .agg #[.int .i64 (((el es2 i).1 : Nat) : Int), .int .i64 (((el es2 i).2 : Nat) : Int)]) rfl rfl rfl (fun v194 hw193 => x_loadA [.int .i64 (((el es2 i).1 : Nat) : Int), .int .i64 (((el es2 i).2 : Nat) : Int)] T.ag86 rfl ((hF178.cells.elem (Go.Eng.enE_len enN_len) (i := i) (by omega)).ext hw193)) ?_
            refine d_q (v := .pointer (some ⟨b1, 0 + i * 2, none⟩)) rfl rfl (fun _ => x_index T.sl82 rfl rfl (by omega)) ?_
            refine d_e (by decide) (d_s' rfl rfl (e_stO (v := .agg #[.int .i64 (((el es2 ((((2 * i) + 1) + 1))).1 : Nat) : Int), .int .i64 (((el es2 ((((2 * i) + 1) + 1))).2 : Nat) : Int)]) (u := (el es2 ((((2 * i) + 1) + 1)))) (Go.Eng.enE_len enN_len) T.sz86 rfl rfl rfl hF178 (by first | omega | (rw [List.length_set]; omega)) (by rfl) ?_))
            intro w195 _ hP196 hB197
            have hs198 := hP196.size
            have hB199 := hB176.gk (hP196.grownBy) (hF178.rowk) (by decide)
            have hF200 := hc.gk _ _ _ _ hF177 (hP196.grownBy) (hF178.rowk) (by decide)
            have hE201 : Mod (fun k => k = b ∨ Value.ownBlock (.slice (some ⟨b1, 0, none⟩) es.length c1) = some k) w0 w195 := hE179.pt hP196 (.inl (.inr rfl))
            have hz202 := hE201.le
            refine ⟨need_no (by kernel_rfl), ?_⟩
            refine d_q (v := .pointer (some ⟨b1, 0 + ((((2 * i) + 1) + 1)) * 2, none⟩)) rfl rfl (fun _ => x_index T.sl82 rfl rfl (by omega)) ?_
            refine d_e (by decide) (d_s' rfl rfl (e_stO (v := .agg #[.int .i64 (((el es2 i).1 : Nat) : Int), .int .i64 (((el es2 i).2 : Nat) : Int)]) (u := (el es2 i)) (Go.Eng.enE_len enN_len) T.sz86 rfl rfl rfl hB197 (by first | omega | (rw [List.length_set]; omega)) (by rfl) ?_))
            intro w203 _ hP204 hB205
            have hs206 := hP204.size
            have hB207 := hB199.gk (hP204.grownBy) (hB197.rowk) (by decide)
            have hF208 := hc.gk _ _ _ _ hF200 (hP204.grownBy) (hB197.rowk) (by decide)
            have hE209 : Mod (fun k => k = b ∨ Value.ownBlock (.slice (some ⟨b1, 0, none⟩) es.length c1) = some k) w0 w203 := hE201.pt hP204 (.inl (.inr rfl))
            have hz210 := hE209.le
            refine ⟨need_no (by kernel_rfl), ?_⟩
            refine d_done ?_
            refine kn170 _ _ ?_
            refine region ?_
            refine st_q (v := .int .i64 (((((2 * i) + 1) + 1) : Nat) : Int)) (x_move rfl) ?_
            refine st_q (v := .int .i64 (((((2 * i) + 1) + 1) : Nat) : Int)) (x_assign rfl) ?_
            refine st_nil ?_
            refine kn105 _ _ ?_
            refine kn99 _ ((((2 * i) + 1) + 1), (swap es2 i ((((2 * i) + 1) + 1)))) _ ⟨rfl, rfl, rfl, rfl, trivial⟩ ⟨hE209, ?_⟩ ?_
            ·
              try dsimp only
              exact ⟨hF208, hB207, hB205, by rw [swap_length]; exact hLL, by omega, down_step (ah_swo hL) hD (by omega) (by omega) (by omega) (Decidable.of_not_not (by assumption)) (by first | exact down_min_r (ah_swo hL) rfl (by assumption) | exact down_min_l (ah_swo hL) rfl (by first | exact .inr (by omega) | exact .inl (by assumption))), hP.trans (List.Perm.cons _ (swap_perm (by omega) (by omega)).symm)⟩
            ·
              (try dsimp only); omega
        ·
          refine skip ?_
          refine kn128 _ _ ?_
          refine seqK fun Q211 kn212 kr213 ke214 => ?_
          refine seqK fun Q215 kn216 kr217 ke218 => ?_
          refine region ?_
          refine st_q (v := .pointer (some ⟨b, 0, none⟩)) (x_move rfl) ?_
          refine st_q (v := .int .i64 ((((2 * i) + 1) : Nat) : Int)) (x_move rfl) ?_
          refine st_q (v := .int .i64 ((i : Nat) : Int)) (x_move rfl) ?_
          have hH221 := HeapR.of_ob (Go.Eng.enE_len enN_len) hge hB139 hF141 (m := (es.length - 1)) (by omega) hLL hb1
          refine st_c (t_call [.pointer (some ⟨b, 0, none⟩), .int .i64 ((((2 * i) + 1) : Nat) : Int), .int .i64 ((i : Nat) : Int)] T.cf51 rfl rfl) (ahead51 J m c pb hc hL lo b nx _ es2 (((2 * i) + 1)) i _ hF140 hH221 hem2 (by omega) (by omega)) ?_
          rintro _ w219 ⟨rfl, hx220⟩
          refine ⟨_, rfl, ?_⟩
          have hB222 := hB139.ext hx220
          have hF223 := hc.ext _ _ hF140 hx220
          have hF224 := hF141.ext hx220
          have hE225 : Mod (fun k => k = b ∨ Value.ownBlock (.slice (some ⟨b1, 0, none⟩) es.length c1) = some k) w0 w219 := hE142.ext hx220
          have hz226 := hE225.le
          have hs227 := hx220.size
          refine st_q (v := .bool (decide (¬ (ah c (el es2 (((2 * i) + 1))) (el es2 i))))) (x_notP rfl) ?_
          refine st_nil ?_
          refine kn216 _ _ ?_
          refine cnd (p := ¬ (ah c (el es2 (((2 * i) + 1))) (el es2 i))) rfl (fun h228 => ?_) (fun h228 => ?_)
          ·
            refine seqK fun Q229 kn230 kr231 ke232 => ?_
            refine region ?_
            refine st_q (v := .int .i64 (((el es 0).1 : Nat) : Int)) (x_move rfl) ?_
            refine st_q (v := .int .i64 (((el es 0).1 : Nat) : Int)) (x_assign rfl) ?_
            refine st_q (v := .bool true) (x_assign rfl) ?_
            refine st_nil ?_
            refine kn230 _ _ ?_
            refine ret ?_
            refine kr213 _ _ ?_
            refine kr106 _ _ ?_
            refine kr100 _ _ ?_
            refine kr90 _ _ ?_
            refine leave2 (P := Try.prog) (fn := Try.f41) (t := 2) (u := 3) (v := .int .i64 (((el es 0).1 : Nat) : Int)) (v' := .bool true) rfl rfl rfl ?_
            have hH233 := HeapR.of_ob (Go.Eng.enE_len enN_len) hge hB222 hF224 (m := (es.length - 1)) (by omega) hLL hb1
            exact ⟨rfl, _, _, hE225, hH233, (by first | exact down_done hD (fun j h0 hj he => by omega) | exact down_stop (ah_swo hL) hD (by first | exact down_min_r (ah_swo hL) rfl (by assumption) | exact down_min_l (ah_swo hL) rfl (by first | exact .inr (by omega) | exact .inl (by assumption))) (by assumption)), hP, rfl⟩
          ·
            refine skip ?_
            refine kn212 _ _ ?_
            refine seqK fun Q234 kn235 kr236 ke237 => ?_
            refine regionD1 [3, 8, 13, 16, 20, 23] [0, 1, 2, 3, 4, 5, 6, 7, 8, 9, 10, 11, 12, 13, 14, 15, 16, 17, 18, 19, 20, 21, 22, 23, 24, 26] (.one 0 (.one 1 (.one 2 (.one 3 (.one 4 (.one 5 (.one 6 (.one 7 (.one 8 (.one 9 (.one 10 (.one 11 (.one 12 (.one 13 (.one 14 (.one 15 (.one 16 (.one 17 (.one 18 (.one 19 (.one 20 (.one 21 (.one 22 (.one 23 (.one 24 (.one 25 (.one 26 (.one 27 .done)))))))))))))))))))))))))))) (by kernel_rfl) (by kernel_rfl) ?_
            intro w238 hx239 hs240
            have hB241 := hB222.ext hx239
            have hF242 := hc.ext _ _ hF223 hx239
            have hF243 := hF224.ext hx239
            have hE244 : Mod (fun k => k = b ∨ Value.ownBlock (.slice (some ⟨b1, 0, none⟩) es.length c1) = some k) w0 w238 := hE225.ext hx239
            have hz245 := hE244.le
            have hs246 := hx239.size
            have hS247 : Ext w238 w238 := Below.refl _ _
            refine d_q (v := .pointer (some ⟨b, 0, none⟩)) rfl rfl (fun _ => x_move rfl) ?_
            refine d_q (v := .pointer (some ⟨b, 0, none⟩)) rfl rfl (fun _ => x_nilCheck rfl) ?_
            refine d_q (v := .pointer (some ⟨b, 1, none⟩)) rfl rfl (fun _ => x_field (o := 0) T.fa84_1 rfl) ?_
            refine d_l (v := .slice ((some ⟨b1, 0, none⟩)) ((es.length - 1)) c1) rfl rfl rfl (fun v249 hw248 => x_load1 T.na82 rfl ((hB241.one 1 rfl).ext hw248)) ?_
            refine d_q (v := .int .i64 ((i : Nat) : Int)) rfl rfl (fun _ => x_move rfl) ?_
            refine d_q (v := .pointer (some ⟨b, 0, none⟩)) rfl rfl (fun _ => x_move rfl) ?_
            refine d_q (v := .pointer (some ⟨b, 0, none⟩)) rfl rfl (fun _ => x_nilCheck rfl) ?_
            refine d_q (v := .pointer (some ⟨b, 1, none⟩)) rfl rfl (fun _ => x_field (o := 0) T.fa84_1 rfl) ?_
            refine d_l (v := .slice ((some ⟨b1, 0, none⟩)) ((es.length - 1)) c1) rfl rfl rfl (fun v251 hw250 => x_load1 T.na82 rfl ((hB241.one 1 rfl).ext hw250)) ?_
            refine d_q (v := .int .i64 ((((2 * i) + 1) : Nat) : Int)) rfl rfl (fun _ => x_move rfl) ?_
            refine d_q (v := .pointer (some ⟨b, 0, none⟩)) rfl rfl (fun _ => x_move rfl) ?_
            refine d_q (v := .pointer (some ⟨b, 0, none⟩)) rfl rfl (fun _ => x_nilCheck rfl) ?_
            refine d_q (v := .pointer (some ⟨b, 1, none⟩)) rfl rfl (fun _ => x_field (o := 0) T.fa84_1 rfl) ?_
            refine d_l (v := .slice ((some ⟨b1, 0, none⟩)) ((es.length - 1)) c1) rfl rfl rfl (fun v253 hw252 => x_load1 T.na82 rfl ((hB241.one 1 rfl).ext hw252)) ?_
            refine d_q (v := .int .i64 ((((2 * i) + 1) : Nat) : Int)) rfl rfl (fun _ => x_move rfl) ?_
            refine d_q (v := .pointer (some ⟨b1, 0 + (((2 * i) + 1)) * 2, none⟩)) rfl rfl (fun _ => x_index T.sl82 rfl rfl (by omega)) ?_
            refine d_l (v := .agg #[.int .i64 (((el es2 (((2 * i) + 1))).1 : Nat) : Int), .int .i64 (((el es2 (((2 * i) + 1))).2 : Nat) : Int)]) rfl rfl rfl (fun v255 hw254 => x_loadA [.int .i64 (((el es2 (((2 * i) + 1))).1 : Nat) : Int), .int .i64 (((el es2 (((2 * i) + 1))).2 : Nat) : Int)] T.ag86 rfl ((hF243.cells.elem (Go.Eng.enE_len enN_len) (i := ((2 * i) + 1)) (by omega)).ext hw254)) ?_
            refine d_q (v := .pointer (some ⟨b, 0, none⟩)) rfl rfl (fun _ => x_move rfl) ?_
            refine d_q (v := .pointer (some ⟨b, 0, none⟩)) rfl rfl (fun _ => x_nilCheck rfl) ?_
            refine d_q (v := .pointer (some ⟨b, 1, none⟩)) rfl rfl (fun _ => x_field (o := 0) T.fa84_1 rfl) ?_
            refine d_l (v := .slice ((some ⟨b1, 0, none⟩)) ((es.length - 1)) c1) rfl rfl rfl (fun v257 hw256 => x_load1 T.na82 rfl ((hB241.one 1 rfl).ext hw256)) ?_
            refine d_q (v := .int .i64 ((i : Nat) : Int)) rfl rfl (fun _ => x_move rfl) ?_
            refine d_q (v := .pointer (some ⟨b1, 0 + i * 2, none⟩)) rfl rfl (fun _ => x_index T.sl82 rfl rfl (by omega)) ?_
            refine d_l (v := .agg #[.int .i64 (((el es2 i).1 : Nat) : Int), .int .i64 (((el es2 i).2 : Nat) : Int)]) rfl rfl rfl (fun v259 hw258 => x_loadA [.int .i64 (((el es2 i).1 : Nat) : Int), .int .i64 (((el es2 i).2 : Nat) : Int)] T.ag86 rfl ((hF243.cells.elem (Go.Eng.enE_len enN_len) (i := i) (by omega)).ext hw258)) ?_
            refine d_q (v := .pointer (some ⟨b1, 0 + i * 2, none⟩)) rfl rfl (fun _ => x_index T.sl82 rfl rfl (by omega)) ?_
            refine d_e (by decide) (d_s' rfl rfl (e_stO (v := .agg #[.int .i64 (((el es2 (((2 * i) + 1))).1 : Nat) : Int), .int .i64 (((el es2 (((2 * i) + 1))).2 : Nat) : Int)]) (u := (el es2 (((2 * i) + 1)))) (Go.Eng.enE_len enN_len) T.sz86 rfl rfl rfl hF243 (by first | omega | (rw [List.length_set]; omega)) (by rfl) ?_))
            intro w260 _ hP261 hB262
            have hs263 := hP261.size
            have hB264 := hB241.gk (hP261.grownBy) (hF243.rowk) (by decide)
            have hF265 := hc.gk _ _ _ _ hF242 (hP261.grownBy) (hF243.rowk) (by decide)
            have hE266 : Mod (fun k => k = b ∨ Value.ownBlock (.slice (some ⟨b1, 0, none⟩) es.length c1) = some k) w0 w260 := hE244.pt hP261 (.inl (.inr rfl))
            have hz267 := hE266.le
            refine ⟨need_no (by kernel_rfl), ?_⟩
            refine d_q (v := .pointer (some ⟨b1, 0 + (((2 * i) + 1)) * 2, none⟩)) rfl rfl (fun _ => x_index T.sl82 rfl rfl (by omega)) ?_
            refine d_e (by decide) (d_s' rfl rfl (e_stO (v := .agg #[.int .i64 (((el es2 i).1 : Nat) : Int), .int .i64 (((el es2 i).2 : Nat) : Int)]) (u := (el es2 i)) (Go.Eng.enE_len enN_len) T.sz86 rfl rfl rfl hB262 (by first | omega | (rw [List.length_set]; omega)) (by rfl) ?_))
            intro w268 _ hP269 hB270
            have hs271 := hP269.size
            have hB272 := hB264.gk (hP269.grownBy) (hB262.rowk) (by decide)
            have hF273 := hc.gk _ _ _ _ hF265 (hP269.grownBy) (hB262.rowk) (by decide)
            have hE274 : Mod (fun k => k = b ∨ Value.ownBlock (.slice (some ⟨b1, 0, none⟩) es.length c1) = some k) w0 w268 := hE266.pt hP269 (.inl (.inr rfl))
            have hz275 := hE274.le
            refine ⟨need_no (by kernel_rfl), ?_⟩
            refine d_done ?_
            refine kn235 _ _ ?_
            refine region ?_
            refine st_q (v := .int .i64 ((((2 * i) + 1) : Nat) : Int)) (x_move rfl) ?_
            refine st_q (v := .int .i64 ((((2 * i) + 1) : Nat) : Int)) (x_assign rfl) ?_
            refine st_nil ?_
            refine kn105 _ _ ?_
            refine kn99 _ (((2 * i) + 1), (swap es2 i (((2 * i) + 1)))) _ ⟨rfl, rfl, rfl, rfl, trivial⟩ ⟨hE274, ?_⟩ ?_
            ·
              try dsimp only
              exact ⟨hF273, hB272, hB270, by rw [swap_length]; exact hLL, by omega, down_step (ah_swo hL) hD (by omega) (by omega) (by omega) (Decidable.of_not_not (by assumption)) (by first | exact down_min_r (ah_swo hL) rfl (by assumption) | exact down_min_l (ah_swo hL) rfl (by first | exact .inr (by omega) | exact .inl (by assumption))), hP.trans (List.Perm.cons _ (swap_perm (by omega) (by omega)).symm)⟩
            ·
              (try dsimp only); omega
      ·
        refine st_gn 4 62 rfl rfl (by decide) rfl ?_
        refine st_gn 4 62 rfl rfl (by decide) rfl ?_
        refine st_gn 4 62 rfl rfl (by decide) rfl ?_
        refine st_gn 4 62 rfl rfl (by decide) rfl ?_
        refine st_gn 4 62 rfl rfl (by decide) rfl ?_
        refine st_q (v := .bool false) (x_pickF rfl rfl) ?_
        refine st_nil ?_
        refine kn132 _ _ ?_
        refine cndF rfl ?_
        refine skip ?_
        refine kn128 _ _ ?_
        refine seqK fun Q276 kn277 kr278 ke279 => ?_
        refine seqK fun Q280 kn281 kr282 ke283 => ?_
        refine region ?_
        refine st_q (v := .pointer (some ⟨b, 0, none⟩)) (x_move rfl) ?_
        refine st_q (v := .int .i64 ((((2 * i) + 1) : Nat) : Int)) (x_move rfl) ?_
        refine st_q (v := .int .i64 ((i : Nat) : Int)) (x_move rfl) ?_
        have hH286 := HeapR.of_ob (Go.Eng.enE_len enN_len) hge hB1 hO2 (m := (es.length - 1)) (by omega) hLL hb1
        refine st_c (t_call [.pointer (some ⟨b, 0, none⟩), .int .i64 ((((2 * i) + 1) : Nat) : Int), .int .i64 ((i : Nat) : Int)] T.cf51 rfl rfl) (ahead51 J m c pb hc hL lo b nx _ es2 (((2 * i) + 1)) i _ hC1 hH286 hem2 (by omega) (by omega)) ?_
        rintro _ w284 ⟨rfl, hx285⟩
        refine ⟨_, rfl, ?_⟩
        have hB287 := hB1.ext hx285
        have hF288 := hc.ext _ _ hC1 hx285
        have hF289 := hO2.ext hx285
        have hE290 : Mod (fun k => k = b ∨ Value.ownBlock (.slice (some ⟨b1, 0, none⟩) es.length c1) = some k) w0 w284 := hx96.ext hx285
        have hz291 := hE290.le
        have hs292 := hx285.size
        refine st_q (v := .bool (decide (¬ (ah c (el es2 (((2 * i) + 1))) (el es2 i))))) (x_notP rfl) ?_
        refine st_nil ?_
        refine kn281 _ _ ?_
        refine cnd (p := ¬ (ah c (el es2 (((2 * i) + 1))) (el es2 i))) rfl (fun h293 => ?_) (fun h293 => ?_)
        ·
          refine seqK fun Q294 kn295 kr296 ke297 => ?_
          refine region ?_
          refine st_q (v := .int .i64 (((el es 0).1 : Nat) : Int)) (x_move rfl) ?_
          refine st_q (v := .int .i64 (((el es 0).1 : Nat) : Int)) (x_assign rfl) ?_
          refine st_q (v := .bool true) (x_assign rfl) ?_
          refine st_nil ?_
          refine kn295 _ _ ?_
          refine ret ?_
          refine kr278 _ _ ?_
          refine kr106 _ _ ?_
          refine kr100 _ _ ?_
          refine kr90 _ _ ?_
          refine leave2 (P := Try.prog) (fn := Try.f41) (t := 2) (u := 3) (v := .int .i64 (((el es 0).1 : Nat) : Int)) (v' := .bool true) rfl rfl rfl ?_
          have hH298 := HeapR.of_ob (Go.Eng.enE_len enN_len) hge hB287 hF289 (m := (es.length - 1)) (by omega) hLL hb1
          exact ⟨rfl, _, _, hE290, hH298, (by first | exact down_done hD (fun j h0 hj he => by omega) | exact down_stop (ah_swo hL) hD (by first | exact down_min_r (ah_swo hL) rfl (by assumption) | exact down_min_l (ah_swo hL) rfl (by first | exact .inr (by omega) | exact .inl (by assumption))) (by assumption)), hP, rfl⟩
        ·
          refine skip ?_
          refine kn277 _ _ ?_
          refine seqK fun Q299 kn300 kr301 ke302 => ?_
          refine regionD1 [3, 8, 13, 16, 20, 23] [0, 1, 2, 3, 4, 5, 6, 7, 8, 9, 10, 11, 12, 13, 14, 15, 16, 17, 18, 19, 20, 21, 22, 23, 24, 26] (.one 0 (.one 1 (.one 2 (.one 3 (.one 4 (.one 5 (.one 6 (.one 7 (.one 8 (.one 9 (.one 10 (.one 11 (.one 12 (.one 13 (.one 14 (.one 15 (.one 16 (.one 17 (.one 18 (.one 19 (.one 20 (.one 21 (.one 22 (.one 23 (.one 24 (.one 25 (.one 26 (.one 27 .done)))))))))))))))))))))))))))) (by kernel_rfl) (by kernel_rfl) ?_
          intro w303 hx304 hs305
          have hB306 := hB287.ext hx304
          have hF307 := hc.ext _ _ hF288 hx304
          have hF308 := hF289.ext hx304
          have hE309 : Mod (fun k => k = b ∨ Value.ownBlock (.slice (some ⟨b1, 0, none⟩) es.length c1) = some k) w0 w303 := hE290.ext hx304
          have hz310 := hE309.le
          have hs311 := hx304.size
          have hS312 : Ext w303 w303 := Below.refl _ _
          refine d_q (v := .pointer (some ⟨b, 0, none⟩)) rfl rfl (fun _ => x_move rfl) ?_
          refine d_q (v := .pointer (some ⟨b, 0, none⟩)) rfl rfl (fun _ => x_nilCheck rfl) ?_
          refine d_q (v := .pointer (some ⟨b, 1, none⟩)) rfl rfl (fun _ => x_field (o := 0) T.fa84_1 rfl) ?_
          refine d_l (v := .slice ((some ⟨b1, 0, none⟩)) ((es.length - 1)) c1) rfl rfl rfl (fun v314 hw313 => x_load1 T.na82 rfl ((hB306.one 1 rfl).ext hw313)) ?_
          refine d_q (v := .int .i64 ((i : Nat) : Int)) rfl rfl (fun _ => x_move rfl) ?_
          refine d_q (v := .pointer (some ⟨b, 0, none⟩)) rfl rfl (fun _ => x_move rfl) ?_
          refine d_q (v := .pointer (some ⟨b, 0, none⟩)) rfl rfl (fun _ => x_nilCheck rfl) ?_
          refine d_q (v := .pointer (some ⟨b, 1, none⟩)) rfl rfl (fun _ => x_field (o := 0) T.fa84_1 rfl) ?_
          refine d_l (v := .slice ((some ⟨b1, 0, none⟩)) ((es.length - 1)) c1) rfl rfl rfl (fun v316 hw315 => x_load1 T.na82 rfl ((hB306.one 1 rfl).ext hw315)) ?_
          refine d_q (v := .int .i64 ((((2 * i) + 1) : Nat) : Int)) rfl rfl (fun _ => x_move rfl) ?_
          refine d_q (v := .pointer (some ⟨b, 0, none⟩)) rfl rfl (fun _ => x_move rfl) ?_
          refine d_q (v := .pointer (some ⟨b, 0, none⟩)) rfl rfl (fun _ => x_nilCheck rfl) ?_
          refine d_q (v := .pointer (some ⟨b, 1, none⟩)) rfl rfl (fun _ => x_field (o := 0) T.fa84_1 rfl) ?_
          refine d_l (v := .slice ((some ⟨b1, 0, none⟩)) ((es.length - 1)) c1) rfl rfl rfl (fun v318 hw317 => x_load1 T.na82 rfl ((hB306.one 1 rfl).ext hw317)) ?_
          refine d_q (v := .int .i64 ((((2 * i) + 1) : Nat) : Int)) rfl rfl (fun _ => x_move rfl) ?_
          refine d_q (v := .pointer (some ⟨b1, 0 + (((2 * i) + 1)) * 2, none⟩)) rfl rfl (fun _ => x_index T.sl82 rfl rfl (by omega)) ?_
          refine d_l (v := .agg #[.int .i64 (((el es2 (((2 * i) + 1))).1 : Nat) : Int), .int .i64 (((el es2 (((2 * i) + 1))).2 : Nat) : Int)]) rfl rfl rfl (fun v320 hw319 => x_loadA [.int .i64 (((el es2 (((2 * i) + 1))).1 : Nat) : Int), .int .i64 (((el es2 (((2 * i) + 1))).2 : Nat) : Int)] T.ag86 rfl ((hF308.cells.elem (Go.Eng.enE_len enN_len) (i := ((2 * i) + 1)) (by omega)).ext hw319)) ?_
          refine d_q (v := .pointer (some ⟨b, 0, none⟩)) rfl rfl (fun _ => x_move rfl) ?_
          refine d_q (v := .pointer (some ⟨b, 0, none⟩)) rfl rfl (fun _ => x_nilCheck rfl) ?_
          refine d_q (v := .pointer (some ⟨b, 1, none⟩)) rfl rfl (fun _ => x_field (o := 0) T.fa84_1 rfl) ?_
          refine d_l (v := .slice ((some ⟨b1, 0, none⟩)) ((es.length - 1)) c1) rfl rfl rfl (fun v322 hw321 => x_load1 T.na82 rfl ((hB306.one 1 rfl).ext hw321)) ?_
          refine d_q (v := .int .i64 ((i : Nat) : Int)) rfl rfl (fun _ => x_move rfl) ?_
          refine d_q (v := .pointer (some ⟨b1, 0 + i * 2, none⟩)) rfl rfl (fun _ => x_index T.sl82 rfl rfl (by omega)) ?_
          refine d_l (v := .agg #[.int .i64 (((el es2 i).1 : Nat) : Int), .int .i64 (((el es2 i).2 : Nat) : Int)]) rfl rfl rfl (fun v324 hw323 => x_loadA [.int .i64 (((el es2 i).1 : Nat) : Int), .int .i64 (((el es2 i).2 : Nat) : Int)] T.ag86 rfl ((hF308.cells.elem (Go.Eng.enE_len enN_len) (i := i) (by omega)).ext hw323)) ?_
          refine d_q (v := .pointer (some ⟨b1, 0 + i * 2, none⟩)) rfl rfl (fun _ => x_index T.sl82 rfl rfl (by omega)) ?_
          refine d_e (by decide) (d_s' rfl rfl (e_stO (v := .agg #[.int .i64 (((el es2 (((2 * i) + 1))).1 : Nat) : Int), .int .i64 (((el es2 (((2 * i) + 1))).2 : Nat) : Int)]) (u := (el es2 (((2 * i) + 1)))) (Go.Eng.enE_len enN_len) T.sz86 rfl rfl rfl hF308 (by first | omega | (rw [List.length_set]; omega)) (by rfl) ?_))
          intro w325 _ hP326 hB327
          have hs328 := hP326.size
          have hB329 := hB306.gk (hP326.grownBy) (hF308.rowk) (by decide)
          have hF330 := hc.gk _ _ _ _ hF307 (hP326.grownBy) (hF308.rowk) (by decide)
          have hE331 : Mod (fun k => k = b ∨ Value.ownBlock (.slice (some ⟨b1, 0, none⟩) es.length c1) = some k) w0 w325 := hE309.pt hP326 (.inl (.inr rfl))
          have hz332 := hE331.le
          refine ⟨need_no (by kernel_rfl), ?_⟩
          refine d_q (v := .pointer (some ⟨b1, 0 + (((2 * i) + 1)) * 2, none⟩)) rfl rfl (fun _ => x_index T.sl82 rfl rfl (by omega)) ?_
          refine d_e (by decide) (d_s' rfl rfl (e_stO (v := .agg #[.int .i64 (((el es2 i).1 : Nat) : Int), .int .i64 (((el es2 i).2 : Nat) : Int)]) (u := (el es2 i)) (Go.Eng.enE_len enN_len) T.sz86 rfl rfl rfl hB327 (by first | omega | (rw [List.length_set]; omega)) (by rfl) ?_))
          intro w333 _ hP334 hB335
          have hs336 := hP334.size
          have hB337 := hB329.gk (hP334.grownBy) (hB327.rowk) (by decide)
          have hF338 := hc.gk _ _ _ _ hF330 (hP334.grownBy) (hB327.rowk) (by decide)
          have hE339 : Mod (fun k => k = b ∨ Value.ownBlock (.slice (some ⟨b1, 0, none⟩) es.length c1) = some k) w0 w333 := hE331.pt hP334 (.inl (.inr rfl))
          have hz340 := hE339.le
          refine ⟨need_no (by kernel_rfl), ?_⟩
          refine d_done ?_
          refine kn300 _ _ ?_
          refine region ?_
          refine st_q (v := .int .i64 ((((2 * i) + 1) : Nat) : Int)) (x_move rfl) ?_
          refine st_q (v := .int .i64 ((((2 * i) + 1) : Nat) : Int)) (x_assign rfl) ?_
          refine st_nil ?_
          refine kn105 _ _ ?_
          refine kn99 _ (((2 * i) + 1), (swap es2 i (((2 * i) + 1)))) _ ⟨rfl, rfl, rfl, rfl, trivial⟩ ⟨hE339, ?_⟩ ?_
          ·
            try dsimp only
            exact ⟨hF338, hB337, hB335, by rw [swap_length]; exact hLL, by omega, down_step (ah_swo hL) hD (by omega) (by omega) (by omega) (Decidable.of_not_not (by assumption)) (by first | exact down_min_r (ah_swo hL) rfl (by assumption) | exact down_min_l (ah_swo hL) rfl (by first | exact .inr (by omega) | exact .inl (by assumption))), hP.trans (List.Perm.cons _ (swap_perm (by omega) (by omega)).symm)⟩
          ·
            (try dsimp only); omega

set_option maxHeartbeats 4000000 in
theorem pop41_0 (J : World → Prop) (m : Nat) (c : Nat → Nat → Int) (pb : Nat) (hc : Cmpr J (.pointer (some ⟨pb, 0, none⟩)) m c) (hL : Lawful c) (lo : Nat) (b nx : Nat) (v : Value) (es : List (Nat × Nat)) (w0 : World) (hC : J w0) (hH : HeapR w0.heap lo 84 86 2 (Go.Eng.enE enN) b (.func (.func 38) #[] #[.pointer (some ⟨pb, 0, none⟩)]) v es nx) (hz : es.length = 0) : Calls Try.prog 41 #[.pointer (some ⟨b, 0, none⟩)] w0 fun e w' => e = .returned (.tuple #[.int .i64 ((0 : Nat) : Int), .bool false]) ∧ Ext w0 w' := by
  have hE0 : Below w0.heap.size w0 w0 := Below.refl _ _
  have hz0 := hE0.le
  obtain ⟨hge, hB, hO, hne⟩ := hH
  obtain ⟨a, ca, rfl, hca, hca1⟩ := hO.src.form
  have hbl := hB.lt
  have hvl : ∀ k, Value.ownBlock (.slice a es.length ca) = some k → lo ≤ k ∧ k < w0.heap.size := fun k hk => hO.lt hk
  refine enter Try.func41 rfl 104 Try.ntmps41 rfl ?_
  refine seqK fun Q1 kn2 kr3 ke4 => ?_
  refine region ?_
  refine st_q (v := .int .i64 ((0 : Nat) : Int)) (x_assign rfl) ?_
  refine st_q (v := .bool false) (x_assign rfl) ?_
  refine st_nil ?_
  refine kn2 _ _ ?_
  refine seqK fun Q5 kn6 kr7 ke8 => ?_
  refine region ?_
  refine st_q (v := .pointer (some ⟨b, 0, none⟩)) (x_move rfl) ?_
  refine st_c (t_call [.pointer (some ⟨b, 0, none⟩)] T.cf52 rfl rfl) (peek52_0 J m c pb hc hL lo b nx _ es _ hC ⟨hge, hB, hO, hne⟩ hz) ?_
  rintro _ w9 ⟨rfl, hx10⟩
  refine ⟨_, rfl, ?_⟩
  have hB11 := hB.ext hx10
  have hF12 := hc.ext _ _ hC hx10
  have hF13 := hO.ext hx10
  have hE14 : Below w0.heap.size w0 w9 := hx10.e hE0 (Nat.le_refl _)
  have hz15 := hE14.le
  have hs16 := hx10.size
  refine st_q (v := .tuple #[.int .i64 ((0 : Nat) : Int), .bool false]) (x_move rfl) ?_
  refine st_q (v := .int .i64 ((0 : Nat) : Int)) (x_extract rfl rfl) ?_
  refine st_q (v := .bool false) (x_extract rfl rfl) ?_
  refine st_q (v := .int .i64 ((0 : Nat) : Int)) (x_assign rfl) ?_
  refine st_q (v := .bool false) (x_assign rfl) ?_
  refine st_nil ?_
  refine kn6 _ _ ?_
  refine seqK fun Q17 kn18 kr19 ke20 => ?_
  refine seqK fun Q21 kn22 kr23 ke24 => ?_
  refine region ?_
  refine st_q (v := .bool false) (x_move rfl) ?_
  refine st_q (v := .bool true) (x_notB (b := false) rfl) ?_
  refine st_nil ?_
  refine kn22 _ _ ?_
  refine cndT rfl ?_
  refine seqK fun Q25 kn26 kr27 ke28 => ?_
  refine region ?_
  refine st_q (v := .int .i64 ((0 : Nat) : Int)) (x_move rfl) ?_
  refine st_q (v := .int .i64 ((0 : Nat) : Int)) (x_assign rfl) ?_
  refine st_q (v := .bool false) (x_assign rfl) ?_
  refine st_nil ?_
  refine kn26 _ _ ?_
  refine ret ?_
  refine kr19 _ _ ?_
  refine leave2 (P := Try.prog) (fn := Try.f41) (t := 2) (u := 3) (v := .int .i64 ((0 : Nat) : Int)) (v' := .bool false) rfl rfl rfl ?_
  exact ⟨rfl, hE14⟩

set_option maxHeartbeats 4000000 in
theorem new37 (pb : Nat) (w0 : World)  : Calls Try.prog 37 #[(.func (.func 38) #[] #[.pointer (some ⟨pb, 0, none⟩)])] w0 fun e w' => ∃ b, e = .returned (.pointer (some ⟨b, 0, none⟩)) ∧ Ext w0 w' ∧ HeapR w'.heap w0.heap.size 84 86 2 (Go.Eng.enE enN) b (.func (.func 38) #[] #[.pointer (some ⟨pb, 0, none⟩)]) (.slice none 0 0) (([] : List (Nat × Nat))) 0 ∧ w0.heap.size ≤ b := by
  have hE0 : Below w0.heap.size w0 w0 := Below.refl _ _
  have hz0 := hE0.le
  refine enter Try.func37 rfl 7 Try.ntmps37 rfl ?_
  refine seqK fun Q1 kn2 kr3 ke4 => ?_
  refine region ?_
  refine st_q (v := .pointer none) (x_assign rfl) ?_
  refine st_nil ?_
  refine kn2 _ _ ?_
  refine seqK fun Q5 kn6 kr7 ke8 => ?_
  refine region ?_
  refine st_q (v := .func (.func 38) #[] #[.pointer (some ⟨pb, 0, none⟩)]) (x_move rfl) ?_
  refine st_c (t_call [.func (.func 38) #[] #[.pointer (some ⟨pb, 0, none⟩)]] T.cf50 rfl rfl) (told50c pb _) ?_
  rintro _ _ ⟨rfl, rfl⟩
  refine ⟨_, rfl, ?_⟩
  refine st_q (v := .agg #[.func (.func 38) #[] #[.pointer (some ⟨pb, 0, none⟩)], .slice none 0 0, .int .i64 ((0 : Nat) : Int)]) (x_build (fun _ => by kernel_rfl)) ?_
  refine st_e (e_box (v := .agg #[.func (.func 38) #[] #[.pointer (some ⟨pb, 0, none⟩)], .slice none 0 0, .int .i64 ((0 : Nat) : Int)]) rfl ?_)
  intro w9 hA10
  have hx11 := hA10.ext
  have hs12 := hA10.size
  have hB13 : Blk w9.heap w0.heap.size [.func (.func 38) #[] #[.pointer (some ⟨pb, 0, none⟩)], .slice none 0 0, .int .i64 ((0 : Nat) : Int)] 84 := hA10.new
  have hE14 : Below w0.heap.size w0 w9 := hx11.e hE0 (Nat.le_refl _)
  have hz15 := hE14.le
  have hs16 := hx11.size
  refine st_q (v := .pointer (some ⟨w0.heap.size, 0, none⟩)) (x_assign rfl) ?_
  refine st_nil ?_
  refine kn6 _ _ ?_
  refine ret ?_
  refine leave1 (P := Try.prog) (fn := Try.f37) (t := 2) (v := .pointer (some ⟨w0.heap.size, 0, none⟩)) rfl rfl ?_
  exact ⟨_, rfl, hE14, ⟨by omega, hB13, Own.nil _ _ _ _, by simp [Value.ownBlock]⟩, by omega⟩

end Go.Proofs.Ytknfjgbipfpnjaa
