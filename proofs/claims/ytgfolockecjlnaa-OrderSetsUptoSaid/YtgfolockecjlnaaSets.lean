import Derived.Test.YtgfolockecjlnaaSets0
import Derived.Test.YtgfolockecjlnaaPairs
namespace Go.Proofs.Ytgfolockecjlnaa
open Go.RowKit Go.Eng Go.OrdPure Go.HeapPure
theorem T.sz29 : SZ Try.prog 29 1 := fun _ => by kernel_rfl
theorem T.zv29 : ZV Try.prog 29 (.slice none 0 0) := fun _ => by kernel_rfl
theorem T.cf73 : CF Try.prog 73 := fun _ _ => by kernel_rfl
theorem T.cf64 : CF Try.prog 64 := fun _ _ => by kernel_rfl
theorem T.cf44 : CF Try.prog 44 := fun _ _ => by kernel_rfl

theorem ite_len (b : Bool) (z : Int × Int) : (if b then [z] else []).length ≤ 1 := by cases b <;> simp
theorem byc_gt {a b : Int × Int} : 0 < byc a b ↔ b.1 < a.1 := by unfold byc; split <;> (try split) <;> omega
theorem minL_step {A B : List (Int × Int)} {i : Nat} (hi : i < A.length) : minL (A.take (i + 1)) B = minL (A.take i) B ++ (if hasB B (el A i) = true then [] else [el A i]) := by
  rw [take_succ_el hi, minL, List.filter_append]
  cases h : hasB B (el A i) <;> simp [minL, h]
theorem meetL_step {A B : List (Int × Int)} {i : Nat} (hi : i < A.length) : meetL (A.take (i + 1)) B = meetL (A.take i) B ++ (if hasB B (el A i) = true then [el A i] else []) := by
  rw [take_succ_el hi, meetL, List.filter_append]
  cases h : hasB B (el A i) <;> simp [meetL, h]
theorem minL_len (A B : List (Int × Int)) : (minL A B).length ≤ A.length := List.length_filter_le _ _
theorem meetL_len (A B : List (Int × Int)) : (meetL A B).length ≤ A.length := List.length_filter_le _ _
set_option maxHeartbeats 4000000 in
theorem clo73_true (lo pc : Nat) (au : Option Addr) (cu : Nat) (L : List (Int × Int)) (z : Int × Int) (w0 : World) (hB : Blk w0.heap pc [.slice au L.length cu] 29) (hO : Own w0.heap lo 31 2 (.slice au L.length cu) L.length (flat enT L)) (hn : L.length ≤ 8796093021952) (hlo : lo ≤ w0.heap.size) : Calls Try.prog 73 #[.agg (enT z).toArray, .bool true, .pointer (some ⟨pc, 0, none⟩)] w0 fun e w' => e = .returned (.tuple #[]) ∧ ∃ a' c', Blk w'.heap pc [.slice a' (L ++ (if true = true then [z] else [])).length c'] 29 ∧ Own w'.heap lo 31 2 (.slice a' (L ++ (if true = true then [z] else [])).length c') (L ++ (if true = true then [z] else [])).length (flat enT (L ++ (if true = true then [z] else []))) ∧ Mod (fun k => k = pc ∨ Value.ownBlock (.slice au L.length cu) = some k) w0 w' := by
  have hE0 : Mod (fun k => k = pc ∨ Value.ownBlock (.slice au L.length cu) = some k) w0 w0 := Mod.refl _ _
  have hz0 := hE0.le
  have hpc := hB.lt
  have hne := hB.neO hO (by decide)
  obtain ⟨_, hcu, hcu1⟩ := hO.src.capl
  refine enter Try.func73 rfl 10 Try.ntmps73 rfl ?_
  refine seqK fun Q1 kn2 kr3 ke4 => ?_
  refine region ?_
  refine st_e (e_box (v := .agg #[.int .i64 z.1, .int .i64 z.2]) rfl ?_)
  intro w5 hA6
  have hx7 := hA6.ext
  have hs8 := hA6.size
  have hB9 : Blk w5.heap w0.heap.size [.int .i64 z.1, .int .i64 z.2] 31 := hA6.new
  have hB10 := hB.ext hx7
  have hF11 := hO.ext hx7
  have hE12 : Mod (fun k => k = pc ∨ Value.ownBlock (.slice au L.length cu) = some k) w0 w5 := hE0.ext hx7
  have hz13 := hE12.le
  have hs14 := hx7.size
  refine st_nil ?_
  refine kn2 _ _ ?_
  refine seqK fun Q15 kn16 kr17 ke18 => ?_
  refine region ?_
  refine st_q (v := .bool true) (x_move rfl) ?_
  refine st_nil ?_
  refine kn16 _ _ ?_
  refine cndT rfl ?_
  refine region ?_
  refine st_q (v := .slice au L.length cu) (x_load1 T.na29 rfl (hB10.one 0 rfl)) ?_
  refine st_q (v := .agg #[.int .i64 z.1, .int .i64 z.2]) (x_loadA [.int .i64 z.1, .int .i64 z.2] T.ag31 rfl (hB9.cells 0 [.int .i64 z.1, .int .i64 z.2] (cells_at rfl))) ?_
  refine st_e (e_buildSlice (cs := [.int .i64 z.1, .int .i64 z.2]) (e := 31) (fun _ => by kernel_rfl) ?_)
  intro w19 hA20
  have hx21 := hA20.ext
  have hs22 := hA20.size
  have hB23 : Blk w19.heap w5.heap.size [.int .i64 z.1, .int .i64 z.2] 31 := hA20.new
  have hB24 := hB10.ext hx21
  have hB25 := hB9.ext hx21
  have hF26 := hF11.ext hx21
  have hE27 : Mod (fun k => k = pc ∨ Value.ownBlock (.slice au L.length cu) = some k) w0 w19 := hE12.ext hx21
  have hz28 := hE27.le
  have hs29 := hx21.size
  refine st_e (e_appendX T.sl29 rfl rfl hF26 (hB23.src1 (k := 2) (m := 1) rfl (by omega)) (ones (by rfl)) (by omega) (by decide) (by omega) ?_)
  intro v30 w31 hO32 hG33 hN34 hW35
  have hB36 := hB24.grown hG33 (fun e => by first | exact hne e | (have := (hF26.lt e).1; clear e; omega) | (have := (hO.lt e).2; clear e; omega))
  have hB37 := hB25.grown hG33 (fun e => by first | exact hne e | (have := (hF26.lt e).1; clear e; omega) | (have := (hO.lt e).2; clear e; omega))
  have hE38 : Mod (fun k => k = pc ∨ Value.ownBlock (.slice au L.length cu) = some k) w0 w31 := hE27.grown hG33 (fun b hb => .inl (.inr hb))
  have hz39 := hE38.le
  have hs40 := hG33.size
  have hO41 := Own.snoc (enc := enT) (u := z) hO32
  obtain ⟨a42, c43, rfl, hm44, hm45⟩ := hO41.src.form
  refine st_s (e_st (v := .slice a42 ((L.length + 1)) c43) T.sz29 rfl rfl hB36 (by simp [Value.cells]) (by rfl) ?_)
  intro w46 hP47
  have hB48 : Blk w46.heap pc [.slice a42 ((L.length + 1)) c43] 29 := hP47.new
  have hs49 := hP47.size
  have hB50 := hB37.pt hP47 (by omega)
  have hF51 := hO41.pt hP47 (by first | exact hB36.neO hO41 (by decide) | (simp [Value.ownBlock]; omega))
  have hE52 : Mod (fun k => k = pc ∨ Value.ownBlock (.slice au L.length cu) = some k) w0 w46 := hE38.pt hP47 (.inl (.inl rfl))
  have hz53 := hE52.le
  refine st_nil ?_
  refine leave0' (P := Try.prog) (fn := Try.f73) rfl ?_
  exact ⟨rfl, _, _, (by rw [if_pos rfl, List.length_append]; exact hB48), (by rw [if_pos rfl, List.length_append]; exact hF51), hE52⟩

set_option maxHeartbeats 4000000 in
theorem clo73_false (lo pc : Nat) (au : Option Addr) (cu : Nat) (L : List (Int × Int)) (z : Int × Int) (w0 : World) (hB : Blk w0.heap pc [.slice au L.length cu] 29) (hO : Own w0.heap lo 31 2 (.slice au L.length cu) L.length (flat enT L)) (hn : L.length ≤ 8796093021952) (hlo : lo ≤ w0.heap.size) : Calls Try.prog 73 #[.agg (enT z).toArray, .bool false, .pointer (some ⟨pc, 0, none⟩)] w0 fun e w' => e = .returned (.tuple #[]) ∧ ∃ a' c', Blk w'.heap pc [.slice a' (L ++ (if false = true then [z] else [])).length c'] 29 ∧ Own w'.heap lo 31 2 (.slice a' (L ++ (if false = true then [z] else [])).length c') (L ++ (if false = true then [z] else [])).length (flat enT (L ++ (if false = true then [z] else []))) ∧ Mod (fun k => k = pc ∨ Value.ownBlock (.slice au L.length cu) = some k) w0 w' := by
  have hE0 : Mod (fun k => k = pc ∨ Value.ownBlock (.slice au L.length cu) = some k) w0 w0 := Mod.refl _ _
  have hz0 := hE0.le
  have hpc := hB.lt
  have hne := hB.neO hO (by decide)
  obtain ⟨_, hcu, hcu1⟩ := hO.src.capl
  refine enter Try.func73 rfl 10 Try.ntmps73 rfl ?_
  refine seqK fun Q1 kn2 kr3 ke4 => ?_
  refine region ?_
  refine st_e (e_box (v := .agg #[.int .i64 z.1, .int .i64 z.2]) rfl ?_)
  intro w5 hA6
  have hx7 := hA6.ext
  have hs8 := hA6.size
  have hB9 : Blk w5.heap w0.heap.size [.int .i64 z.1, .int .i64 z.2] 31 := hA6.new
  have hB10 := hB.ext hx7
  have hF11 := hO.ext hx7
  have hE12 : Mod (fun k => k = pc ∨ Value.ownBlock (.slice au L.length cu) = some k) w0 w5 := hE0.ext hx7
  have hz13 := hE12.le
  have hs14 := hx7.size
  refine st_nil ?_
  refine kn2 _ _ ?_
  refine seqK fun Q15 kn16 kr17 ke18 => ?_
  refine region ?_
  refine st_q (v := .bool false) (x_move rfl) ?_
  refine st_nil ?_
  refine kn16 _ _ ?_
  refine cndF rfl ?_
  refine skip ?_
  refine leave0' (P := Try.prog) (fn := Try.f73) rfl ?_
  exact ⟨rfl, _, _, by simpa using hB10, by simpa using hF11, hE12⟩

theorem clo73 (lo pc : Nat) (au : Option Addr) (cu : Nat) (L : List (Int × Int)) (z : Int × Int) (b : Bool) (w0 : World) (hB : Blk w0.heap pc [.slice au L.length cu] 29) (hO : Own w0.heap lo 31 2 (.slice au L.length cu) L.length (flat enT L)) (hn : L.length ≤ 8796093021952) (hlo : lo ≤ w0.heap.size) : Calls Try.prog 73 #[.agg (enT z).toArray, .bool b, .pointer (some ⟨pc, 0, none⟩)] w0 fun e w' => e = .returned (.tuple #[]) ∧ ∃ a' c', Blk w'.heap pc [.slice a' (L ++ (if b = true then [z] else [])).length c'] 29 ∧ Own w'.heap lo 31 2 (.slice a' (L ++ (if b = true then [z] else [])).length c') (L ++ (if b = true then [z] else [])).length (flat enT (L ++ (if b = true then [z] else []))) ∧ Mod (fun k => k = pc ∨ Value.ownBlock (.slice au L.length cu) = some k) w0 w' := by
  cases b
  · exact clo73_false lo pc au cu L z w0 hB hO hn hlo
  · exact clo73_true lo pc au cu L z w0 hB hO hn hlo
set_option maxHeartbeats 4000000 in
theorem walk64 (l r bo : Bool) (A B : List (Int × Int)) (va vb : Value) (w0 : World) (ha : Src w0.heap va A.length 2 (flat enT A)) (hb : Src w0.heap vb B.length 2 (flat enT B)) (hn : A.length + B.length ≤ 4398046511104) : Calls Try.prog 64 #[va, vb, (.func (.func 20) #[] #[]), .bool l, .bool r, .bool bo] w0 fun e w' => ∃ v, e = .returned v ∧ Ext w0 w' ∧ Own w'.heap w0.heap.size 31 2 v (wk l r bo A B).length (flat enT (wk l r bo A B)) := by
  have hE0 : Below w0.heap.size w0 w0 := Below.refl _ _
  have hz0 := hE0.le
  obtain ⟨a, ca, rfl, hca, hca1⟩ := ha.form
  obtain ⟨b, cb, rfl, hcb, hcb1⟩ := hb.form
  refine enter Try.func64 rfl 76 Try.ntmps64 rfl ?_
  refine seqK fun Q1 kn2 kr3 ke4 => ?_
  refine region ?_
  refine st_q (v := .slice none 0 0) (x_assign rfl) ?_
  refine st_nil ?_
  refine kn2 _ _ ?_
  refine seqK fun Q5 kn6 kr7 ke8 => ?_
  refine region ?_
  refine st_q (v := (.func (.func 20) #[] #[])) (x_move rfl) ?_
  refine st_c (t_call [(.func (.func 20) #[] #[])] T.cf53 rfl rfl) (told20 _) ?_
  rintro _ _ ⟨rfl, rfl⟩
  refine ⟨_, rfl, ?_⟩
  refine st_q (v := .func (.func 20) #[] #[]) (x_assign rfl) ?_
  refine st_nil ?_
  refine kn6 _ _ ?_
  refine seqK fun Q9 kn10 kr11 ke12 => ?_
  refine region ?_
  refine st_e (e_alloc T.zv29 ?_)
  intro w13 hA14
  have hx15 := hA14.ext
  have hs16 := hA14.size
  have hB17 : Blk w13.heap w0.heap.size [.slice none 0 0] 29 := hA14.new
  have hE18 : Below w0.heap.size w0 w13 := hx15.e hE0 (Nat.le_refl _)
  have hz19 := hE18.le
  have hs20 := hx15.size
  refine st_nil ?_
  refine kn10 _ _ ?_
  refine seqK fun Q21 kn22 kr23 ke24 => ?_
  refine region ?_
  refine st_q (v := .func (.func 73) #[] #[.pointer (some ⟨w0.heap.size, 0, none⟩)]) (x_mkFunc (fun _ => by kernel_rfl)) ?_
  refine st_q (v := .func (.func 73) #[] #[.pointer (some ⟨w0.heap.size, 0, none⟩)]) (x_assign rfl) ?_
  refine st_nil ?_
  refine kn22 _ _ ?_
  refine seqK fun Q25 kn26 kr27 ke28 => ?_
  refine blockK fun Q29 kn30 kr31 kx32 kb33 => ?_
  refine loopK (α := (List (Int × Int)) × (List (Int × Int)) × Value × Value × (List (Int × Int)) × Value) (fun x => [(0, x.2.2.1), (1, x.2.2.2.1), (2, .func (.func 20) #[] #[]), (3, .bool l), (4, .bool r), (5, .bool bo), (13, .pointer (some ⟨w0.heap.size, 0, none⟩)), (14, .func (.func 73) #[] #[.pointer (some ⟨w0.heap.size, 0, none⟩)])]) (fun x w34 => Below w0.heap.size w0 w34 ∧ Src w0.heap x.2.2.1 x.1.length 2 (flat enT x.1) ∧ Src w0.heap x.2.2.2.1 x.2.1.length 2 (flat enT x.2.1) ∧ x.2.2.2.2.1 ++ wk l r bo x.1 x.2.1 = wk l r bo A B ∧ x.2.2.2.2.1.length + x.1.length + x.2.1.length ≤ A.length + B.length ∧ w0.heap.size < w34.heap.size ∧ Blk w34.heap (w0.heap.size) [x.2.2.2.2.2] 29 ∧ Own w34.heap w0.heap.size 31 2 x.2.2.2.2.2 x.2.2.2.2.1.length (flat enT x.2.2.2.2.1)) (fun x => x.1.length + x.2.1.length) (A, B, .slice a A.length ca, .slice b B.length cb, [], .slice none 0 0) ⟨rfl, rfl, rfl, rfl, rfl, rfl, rfl, rfl, trivial⟩ ?_ ?_
  ·
    refine ⟨hE18, ?_⟩
    try dsimp only
    exact ⟨ha, hb, rfl, by simp, by omega, hB17, Own.nil _ _ _ _⟩
  ·
    rintro τ35 ⟨X, Y, va, vb, acc, vo⟩ w36 ⟨hx37, ⟨hX, hY, hW, hlen, hpc, hB, hO⟩⟩
    try dsimp only at hX hY hW hlen hpc hB hO
    have hz38 := hx37.le
    intro Q39 kn40 kr41 ke42
    obtain ⟨aX, cX, rfl, hcX, hcX1⟩ := hX.form
    obtain ⟨aY, cY, rfl, hcY, hcY1⟩ := hY.form
    obtain ⟨aO, cO, rfl, hcO, hcO1⟩ := hO.src.form
    refine seqK fun Q43 kn44 kr45 ke46 => ?_
    refine seqK fun Q47 kn48 kr49 ke50 => ?_
    refine region ?_
    refine st_q (v := .slice aX X.length cX) (x_move rfl) ?_
    refine st_q (v := .int .i64 ((X.length : Nat) : Int)) (x_lenSl rfl Try.underlying29 rfl) ?_
    refine st_q (v := .bool (decide (0 < X.length))) (x_gtrN rfl rfl) ?_
    refine st_if (p := 0 < X.length) (x_move rfl) (fun h51 => ?_) (fun h51 => ?_)
    ·
      refine st_gn 3 22 rfl rfl (by decide) rfl ?_
      refine st_gn 3 22 rfl rfl (by decide) rfl ?_
      refine st_gn 3 22 rfl rfl (by decide) rfl ?_
      refine st_q (v := .bool true) (x_pickT rfl rfl) ?_
      refine st_nil ?_
      refine kn48 _ _ ?_
      refine cndT rfl ?_
      refine skip ?_
      refine kn44 _ _ ?_
      refine blockK fun Q52 kn53 kr54 kx55 kb56 => ?_
      refine seqK fun Q57 kn58 kr59 ke60 => ?_
      refine region ?_
      refine st_q (v := .int .i64 ((0 : Nat) : Int)) (x_assign rfl) ?_
      refine st_nil ?_
      refine kn58 _ _ ?_
      refine seqK fun Q61 kn62 kr63 ke64 => ?_
      refine blockK fun Q65 kn66 kr67 kx68 kb69 => ?_
      refine seqK fun Q70 kn71 kr72 ke73 => ?_
      refine region ?_
      refine st_q (v := .slice aY Y.length cY) (x_move rfl) ?_
      refine st_q (v := .int .i64 ((Y.length : Nat) : Int)) (x_lenSl rfl Try.underlying29 rfl) ?_
      refine st_q (v := .bool (decide (Y.length = 0))) (x_eqlN rfl rfl) ?_
      refine st_q (v := .bool (decide (Y.length = 0))) (x_assign rfl) ?_
      refine st_nil ?_
      refine kn71 _ _ ?_
      refine cnd (p := Y.length = 0) rfl (fun h74 => ?_) (fun h74 => ?_)
      ·
        refine region ?_
        refine st_q (v := .int .i64 (-1)) (x_assign rfl) ?_
        refine st_nil ?_
        refine kn66 _ _ ?_
        refine kn62 _ _ ?_
        refine blockK fun Q75 kn76 kr77 kx78 kb79 => ?_
        refine seqK fun Q80 kn81 kr82 ke83 => ?_
        refine region ?_
        refine st_q (v := .int .i64 (-1)) (x_move rfl) ?_
        refine st_q (v := .bool (decide ((-1) < 0))) (x_lss rfl rfl) ?_
        refine st_q (v := .bool (decide ((-1) < 0))) (x_assign rfl) ?_
        refine st_nil ?_
        refine kn81 _ _ ?_
        refine cnd (p := (-1) < 0) rfl (fun h84 => ?_) (fun h84 => ?_)
        ·
          refine seqK fun Q85 kn86 kr87 ke88 => ?_
          refine region ?_
          refine st_q (v := .func (.func 73) #[] #[.pointer (some ⟨w0.heap.size, 0, none⟩)]) (x_move rfl) ?_
          refine st_q (v := .slice aX X.length cX) (x_move rfl) ?_
          obtain ⟨b89, o90, ha91, hc92⟩ := hX.at (by omega)
          refine st_q (v := .pointer (some ⟨b89, o90 + 0 * 2, none⟩)) (x_index' T.sl29 rfl ha91 rfl (by omega)) ?_
          refine st_q (v := .agg #[.int .i64 ((el X 0).1), .int .i64 ((el X 0).2)]) (x_loadA [.int .i64 ((el X 0).1), .int .i64 ((el X 0).2)] T.ag31 rfl ((hc92.below hx37).elem enT_len (i := 0) (by omega))) ?_
          refine st_q (v := .bool l) (x_move rfl) ?_
          refine st_c (t_call [.agg #[.int .i64 ((el X 0).1), .int .i64 ((el X 0).2)], .bool l, .pointer (some ⟨w0.heap.size, 0, none⟩)] T.cf73 rfl rfl) (clo73 w0.heap.size (w0.heap.size) aO cO acc (el X 0) l _ hB hO (by omega) (by omega)) ?_
          rintro _ w93 ⟨rfl, a1, c1, hB1, hO1, hM94⟩
          refine ⟨_, rfl, ?_⟩
          have hE95 : Below w0.heap.size w0 w93 := Below.mod' hx37 hM94 (fun i hi => hi.elim (fun e => by omega) (fun e => (hO.lt e).1)) (Nat.le_refl _)
          have hz96 := hE95.le
          have hs97 := hM94.size
          refine st_nil ?_
          refine kn86 _ _ ?_
          refine region ?_
          refine st_q (v := .slice aX X.length cX) (x_move rfl) ?_
          refine st_q (v := .slice ((if cX = 1 then aX else aX.map (·.add (1 * 2)))) ((X.length - 1)) ((cX - 1))) (x_sliceLo T.sl29 rfl rfl (by omega)) ?_
          refine st_q (v := .slice ((if cX = 1 then aX else aX.map (·.add (1 * 2)))) ((X.length - 1)) ((cX - 1))) (x_assign rfl) ?_
          refine st_nil ?_
          refine kn76 _ _ ?_
          refine kn53 _ _ ?_
          refine kn40 _ ((X.drop 1), Y, .slice ((if cX = 1 then aX else aX.map (·.add (1 * 2)))) ((X.length - 1)) ((cX - 1)), .slice aY Y.length cY, (acc ++ (if l = true then [el X 0] else [])), .slice a1 ((acc ++ (if l = true then [el X 0] else [])).length) c1) _ ⟨rfl, rfl, rfl, rfl, rfl, rfl, rfl, rfl, trivial⟩ ⟨hE95, ?_⟩ ?_
          ·
            try dsimp only
            have hil := ite_len l (el X 0)
            exact ⟨Src.tail hX (by omega), hY, by rw [List.append_assoc, ← wk_left (by omega) (by first | exact .inl (by omega) | exact .inr (byc_lt.1 (by assumption)))]; exact hW, by simp only [List.length_append, List.length_drop]; omega, by omega, hB1, hO1⟩
          ·
            (try dsimp only); simp only [List.length_drop]; omega
        ·
          refine seqK fun Q98 kn99 kr100 ke101 => ?_
          refine region ?_
          refine st_q (v := .int .i64 (-1)) (x_move rfl) ?_
          refine st_q (v := .bool (decide (0 < (-1)))) (x_gtr rfl rfl) ?_
          refine st_q (v := .bool (decide (0 < (-1)))) (x_assign rfl) ?_
          refine st_nil ?_
          refine kn99 _ _ ?_
          refine cnd (p := 0 < (-1)) rfl (fun h102 => ?_) (fun h102 => ?_)
          ·
            refine seqK fun Q103 kn104 kr105 ke106 => ?_
            refine region ?_
            refine st_q (v := .func (.func 73) #[] #[.pointer (some ⟨w0.heap.size, 0, none⟩)]) (x_move rfl) ?_
            refine st_q (v := .slice aY Y.length cY) (x_move rfl) ?_
            obtain ⟨b107, o108, ha109, hc110⟩ := hY.at (by omega)
            refine st_q (v := .pointer (some ⟨b107, o108 + 0 * 2, none⟩)) (x_index' T.sl29 rfl ha109 rfl (by omega)) ?_
            refine st_q (v := .agg #[.int .i64 ((el Y 0).1), .int .i64 ((el Y 0).2)]) (x_loadA [.int .i64 ((el Y 0).1), .int .i64 ((el Y 0).2)] T.ag31 rfl ((hc110.below hx37).elem enT_len (i := 0) (by omega))) ?_
            refine st_q (v := .bool r) (x_move rfl) ?_
            refine st_c (t_call [.agg #[.int .i64 ((el Y 0).1), .int .i64 ((el Y 0).2)], .bool r, .pointer (some ⟨w0.heap.size, 0, none⟩)] T.cf73 rfl rfl) (clo73 w0.heap.size (w0.heap.size) aO cO acc (el Y 0) r _ hB hO (by omega) (by omega)) ?_
            rintro _ w111 ⟨rfl, a1, c1, hB1, hO1, hM112⟩
            refine ⟨_, rfl, ?_⟩
            have hE113 : Below w0.heap.size w0 w111 := Below.mod' hx37 hM112 (fun i hi => hi.elim (fun e => by omega) (fun e => (hO.lt e).1)) (Nat.le_refl _)
            have hz114 := hE113.le
            have hs115 := hM112.size
            refine st_nil ?_
            refine kn104 _ _ ?_
            refine region ?_
            refine st_q (v := .slice aY Y.length cY) (x_move rfl) ?_
            refine st_q (v := .slice ((if cY = 1 then aY else aY.map (·.add (1 * 2)))) ((Y.length - 1)) ((cY - 1))) (x_sliceLo T.sl29 rfl rfl (by omega)) ?_
            refine st_q (v := .slice ((if cY = 1 then aY else aY.map (·.add (1 * 2)))) ((Y.length - 1)) ((cY - 1))) (x_assign rfl) ?_
            refine st_nil ?_
            refine kn76 _ _ ?_
            refine kn53 _ _ ?_
            refine kn40 _ (X, (Y.drop 1), .slice aX X.length cX, .slice ((if cY = 1 then aY else aY.map (·.add (1 * 2)))) ((Y.length - 1)) ((cY - 1)), (acc ++ (if r = true then [el Y 0] else [])), .slice a1 ((acc ++ (if r = true then [el Y 0] else [])).length) c1) _ ⟨rfl, rfl, rfl, rfl, rfl, rfl, rfl, rfl, trivial⟩ ⟨hE113, ?_⟩ ?_
            ·
              try dsimp only
              have hil := ite_len r (el Y 0)
              exact ⟨hX, Src.tail hY (by omega), by rw [List.append_assoc, ← wk_right (by omega) (by first | exact .inl (by omega) | exact .inr (byc_gt.1 (by assumption)))]; exact hW, by simp only [List.length_append, List.length_drop]; omega, by omega, hB1, hO1⟩
            ·
              (try dsimp only); simp only [List.length_drop]; omega
          ·
            refine seqK fun Q116 kn117 kr118 ke119 => ?_
            refine region ?_
            refine st_q (v := .func (.func 73) #[] #[.pointer (some ⟨w0.heap.size, 0, none⟩)]) (x_move rfl) ?_
            refine st_q (v := .slice aX X.length cX) (x_move rfl) ?_
            obtain ⟨b120, o121, ha122, hc123⟩ := hX.at (by omega)
            refine st_q (v := .pointer (some ⟨b120, o121 + 0 * 2, none⟩)) (x_index' T.sl29 rfl ha122 rfl (by omega)) ?_
            refine st_q (v := .agg #[.int .i64 ((el X 0).1), .int .i64 ((el X 0).2)]) (x_loadA [.int .i64 ((el X 0).1), .int .i64 ((el X 0).2)] T.ag31 rfl ((hc123.below hx37).elem enT_len (i := 0) (by omega))) ?_
            refine st_q (v := .bool bo) (x_move rfl) ?_
            refine st_c (t_call [.agg #[.int .i64 ((el X 0).1), .int .i64 ((el X 0).2)], .bool bo, .pointer (some ⟨w0.heap.size, 0, none⟩)] T.cf73 rfl rfl) (clo73 w0.heap.size (w0.heap.size) aO cO acc (el X 0) bo _ hB hO (by omega) (by omega)) ?_
            rintro _ w124 ⟨rfl, a1, c1, hB1, hO1, hM125⟩
            refine ⟨_, rfl, ?_⟩
            have hE126 : Below w0.heap.size w0 w124 := Below.mod' hx37 hM125 (fun i hi => hi.elim (fun e => by omega) (fun e => (hO.lt e).1)) (Nat.le_refl _)
            have hz127 := hE126.le
            have hs128 := hM125.size
            refine st_nil ?_
            refine kn117 _ _ ?_
            refine regionD1 [] [0, 1, 2, 3, 4, 5] (.one 0 (.one 1 (.one 2 (.one 3 (.one 4 (.one 5 .done)))))) (by kernel_rfl) (by kernel_rfl) ?_
            intro w129 hx130 hs131
            have hB132 := hB1.ext hx130
            have hF133 := hO1.ext hx130
            have hE134 : Below w0.heap.size w0 w129 := hx130.e hE126 (Nat.le_refl _)
            have hz135 := hE134.le
            have hs136 := hx130.size
            have hS137 : Ext w129 w129 := Below.refl _ _
            refine d_q (v := .slice aX X.length cX) rfl rfl (fun _ => x_move rfl) ?_
            refine d_q (v := .slice ((if cX = 1 then aX else aX.map (·.add (1 * 2)))) ((X.length - 1)) ((cX - 1))) rfl rfl (fun _ => x_sliceLo T.sl29 rfl rfl (by omega)) ?_
            refine d_q (v := .slice aY Y.length cY) rfl rfl (fun _ => x_move rfl) ?_
            refine d_q (v := .slice ((if cY = 1 then aY else aY.map (·.add (1 * 2)))) ((Y.length - 1)) ((cY - 1))) rfl rfl (fun _ => x_sliceLo T.sl29 rfl rfl (by omega)) ?_
            refine d_q (v := .slice ((if cX = 1 then aX else aX.map (·.add (1 * 2)))) ((X.length - 1)) ((cX - 1))) rfl rfl (fun _ => x_assign rfl) ?_
            refine d_q (v := .slice ((if cY = 1 then aY else aY.map (·.add (1 * 2)))) ((Y.length - 1)) ((cY - 1))) rfl rfl (fun _ => x_assign rfl) ?_
            refine d_done ?_
            refine kn76 _ _ ?_
            refine kn53 _ _ ?_
            refine kn40 _ ((X.drop 1), (Y.drop 1), .slice ((if cX = 1 then aX else aX.map (·.add (1 * 2)))) ((X.length - 1)) ((cX - 1)), .slice ((if cY = 1 then aY else aY.map (·.add (1 * 2)))) ((Y.length - 1)) ((cY - 1)), (acc ++ (if bo = true then [el X 0] else [])), .slice a1 ((acc ++ (if bo = true then [el X 0] else [])).length) c1) _ ⟨rfl, rfl, rfl, rfl, rfl, rfl, rfl, rfl, trivial⟩ ⟨hE134, ?_⟩ ?_
            ·
              try dsimp only
              have hil := ite_len bo (el X 0)
              exact ⟨Src.tail hX (by omega), Src.tail hY (by omega), by rw [List.append_assoc, ← wk_both (by omega) (by omega) (byc_zero.1 (by omega))]; exact hW, by simp only [List.length_append, List.length_drop]; omega, by omega, hB132, hF133⟩
            ·
              (try dsimp only); simp only [List.length_drop]; omega
      ·
        refine seqK fun Q138 kn139 kr140 ke141 => ?_
        refine region ?_
        refine st_q (v := .slice aX X.length cX) (x_move rfl) ?_
        refine st_q (v := .int .i64 ((X.length : Nat) : Int)) (x_lenSl rfl Try.underlying29 rfl) ?_
        refine st_q (v := .bool (decide (X.length = 0))) (x_eqlN rfl rfl) ?_
        refine st_q (v := .bool (decide (X.length = 0))) (x_assign rfl) ?_
        refine st_nil ?_
        refine kn139 _ _ ?_
        refine cnd (p := X.length = 0) rfl (fun h142 => ?_) (fun h142 => ?_)
        ·
          refine region ?_
          refine st_q (v := .int .i64 ((1 : Nat) : Int)) (x_assign rfl) ?_
          refine st_nil ?_
          refine kn66 _ _ ?_
          refine kn62 _ _ ?_
          refine blockK fun Q143 kn144 kr145 kx146 kb147 => ?_
          refine seqK fun Q148 kn149 kr150 ke151 => ?_
          refine region ?_
          refine st_q (v := .int .i64 ((1 : Nat) : Int)) (x_move rfl) ?_
          refine st_q (v := .bool (decide (1 < 0))) (x_lssN rfl rfl) ?_
          refine st_q (v := .bool (decide (1 < 0))) (x_assign rfl) ?_
          refine st_nil ?_
          refine kn149 _ _ ?_
          refine cnd (p := 1 < 0) rfl (fun h152 => ?_) (fun h152 => ?_)
          ·
            exact absurd h152 (by decide)
          ·
            refine seqK fun Q153 kn154 kr155 ke156 => ?_
            refine region ?_
            refine st_q (v := .int .i64 ((1 : Nat) : Int)) (x_move rfl) ?_
            refine st_q (v := .bool (decide (0 < 1))) (x_gtrN rfl rfl) ?_
            refine st_q (v := .bool (decide (0 < 1))) (x_assign rfl) ?_
            refine st_nil ?_
            refine kn154 _ _ ?_
            refine cnd (p := 0 < 1) rfl (fun h157 => ?_) (fun h157 => ?_)
            ·
              refine seqK fun Q158 kn159 kr160 ke161 => ?_
              refine region ?_
              refine st_q (v := .func (.func 73) #[] #[.pointer (some ⟨w0.heap.size, 0, none⟩)]) (x_move rfl) ?_
              refine st_q (v := .slice aY Y.length cY) (x_move rfl) ?_
              obtain ⟨b162, o163, ha164, hc165⟩ := hY.at (by omega)
              refine st_q (v := .pointer (some ⟨b162, o163 + 0 * 2, none⟩)) (x_index' T.sl29 rfl ha164 rfl (by omega)) ?_
              refine st_q (v := .agg #[.int .i64 ((el Y 0).1), .int .i64 ((el Y 0).2)]) (x_loadA [.int .i64 ((el Y 0).1), .int .i64 ((el Y 0).2)] T.ag31 rfl ((hc165.below hx37).elem enT_len (i := 0) (by omega))) ?_
              refine st_q (v := .bool r) (x_move rfl) ?_
              refine st_c (t_call [.agg #[.int .i64 ((el Y 0).1), .int .i64 ((el Y 0).2)], .bool r, .pointer (some ⟨w0.heap.size, 0, none⟩)] T.cf73 rfl rfl) (clo73 w0.heap.size (w0.heap.size) aO cO acc (el Y 0) r _ hB hO (by omega) (by omega)) ?_
              rintro _ w166 ⟨rfl, a1, c1, hB1, hO1, hM167⟩
              refine ⟨_, rfl, ?_⟩
              have hE168 : Below w0.heap.size w0 w166 := Below.mod' hx37 hM167 (fun i hi => hi.elim (fun e => by omega) (fun e => (hO.lt e).1)) (Nat.le_refl _)
              have hz169 := hE168.le
              have hs170 := hM167.size
              refine st_nil ?_
              refine kn159 _ _ ?_
              refine region ?_
              refine st_q (v := .slice aY Y.length cY) (x_move rfl) ?_
              refine st_q (v := .slice ((if cY = 1 then aY else aY.map (·.add (1 * 2)))) ((Y.length - 1)) ((cY - 1))) (x_sliceLo T.sl29 rfl rfl (by omega)) ?_
              refine st_q (v := .slice ((if cY = 1 then aY else aY.map (·.add (1 * 2)))) ((Y.length - 1)) ((cY - 1))) (x_assign rfl) ?_
              refine st_nil ?_
              refine kn144 _ _ ?_
              refine kn53 _ _ ?_
              refine kn40 _ (X, (Y.drop 1), .slice aX X.length cX, .slice ((if cY = 1 then aY else aY.map (·.add (1 * 2)))) ((Y.length - 1)) ((cY - 1)), (acc ++ (if r = true then [el Y 0] else [])), .slice a1 ((acc ++ (if r = true then [el Y 0] else [])).length) c1) _ ⟨rfl, rfl, rfl, rfl, rfl, rfl, rfl, rfl, trivial⟩ ⟨hE168, ?_⟩ ?_
              ·
                try dsimp only
                have hil := ite_len r (el Y 0)
                exact ⟨hX, Src.tail hY (by omega), by rw [List.append_assoc, ← wk_right (by omega) (by first | exact .inl (by omega) | exact .inr (byc_gt.1 (by assumption)))]; exact hW, by simp only [List.length_append, List.length_drop]; omega, by omega, hB1, hO1⟩
              ·
                (try dsimp only); simp only [List.length_drop]; omega
            ·
              exact absurd h157 (not_not_intro (by decide))
        ·
          refine regionD1 [3, 6] [0, 1, 2, 3, 4, 5, 6, 8] (.one 0 (.one 1 (.one 2 (.one 3 (.one 4 (.one 5 (.one 6 (.one 7 (.one 8 .done))))))))) (by kernel_rfl) (by kernel_rfl) ?_
          intro w171 hx172 hs173
          have hB174 := hB.ext hx172
          have hF175 := hO.ext hx172
          have hE176 : Below w0.heap.size w0 w171 := hx172.e hx37 (Nat.le_refl _)
          have hz177 := hE176.le
          have hs178 := hx172.size
          have hS179 : Ext w171 w171 := Below.refl _ _
          refine d_q (v := .func (.func 20) #[] #[]) rfl rfl (fun _ => x_move rfl) ?_
          refine d_q (v := .slice aX X.length cX) rfl rfl (fun _ => x_move rfl) ?_
          obtain ⟨b180, o181, ha182, hc183⟩ := hX.at (by omega)
          refine d_q (v := .pointer (some ⟨b180, o181 + 0 * 2, none⟩)) rfl rfl (fun _ => x_index' T.sl29 rfl ha182 rfl (by omega)) ?_
          refine d_l (v := .agg #[.int .i64 ((el X 0).1), .int .i64 ((el X 0).2)]) rfl rfl rfl (fun v185 hw184 => x_loadA [.int .i64 ((el X 0).1), .int .i64 ((el X 0).2)] T.ag31 rfl (((hc183.below hE176).elem enT_len (i := 0) (by omega)).ext hw184)) ?_
          refine d_q (v := .slice aY Y.length cY) rfl rfl (fun _ => x_move rfl) ?_
          obtain ⟨b186, o187, ha188, hc189⟩ := hY.at (by omega)
          refine d_q (v := .pointer (some ⟨b186, o187 + 0 * 2, none⟩)) rfl rfl (fun _ => x_index' T.sl29 rfl ha188 rfl (by omega)) ?_
          refine d_l (v := .agg #[.int .i64 ((el Y 0).1), .int .i64 ((el Y 0).2)]) rfl rfl rfl (fun v191 hw190 => x_loadA [.int .i64 ((el Y 0).1), .int .i64 ((el Y 0).2)] T.ag31 rfl (((hc189.below hE176).elem enT_len (i := 0) (by omega)).ext hw190)) ?_
          refine d_e (by decide) (d_c' rfl rfl (t_call [.agg #[.int .i64 ((el X 0).1), .int .i64 ((el X 0).2)], .agg #[.int .i64 ((el Y 0).1), .int .i64 ((el Y 0).2)]] T.cf20 rfl rfl) (by20 (el X 0) (el Y 0) _) ?_)
          rintro _ w192 ⟨rfl, hx193⟩
          refine ⟨_, rfl, ?_⟩
          have hB194 := hB174.ext hx193
          have hF195 := hF175.ext hx193
          have hE196 : Below w0.heap.size w0 w192 := hx193.e hE176 (Nat.le_refl _)
          have hz197 := hE196.le
          have hs198 := hx193.size
          have hS199 := hS179.trans (hx193.mono hS179.size)
          refine ⟨fun _ => hS199, ?_⟩
          refine d_q (v := .int .i64 (byc (el X 0) (el Y 0))) rfl rfl (fun _ => x_assign rfl) ?_
          refine d_done ?_
          refine kn66 _ _ ?_
          refine kn62 _ _ ?_
          refine blockK fun Q200 kn201 kr202 kx203 kb204 => ?_
          refine seqK fun Q205 kn206 kr207 ke208 => ?_
          refine region ?_
          refine st_q (v := .int .i64 (byc (el X 0) (el Y 0))) (x_move rfl) ?_
          refine st_q (v := .bool (decide ((byc (el X 0) (el Y 0)) < 0))) (x_lss rfl rfl) ?_
          refine st_q (v := .bool (decide ((byc (el X 0) (el Y 0)) < 0))) (x_assign rfl) ?_
          refine st_nil ?_
          refine kn206 _ _ ?_
          refine cnd (p := (byc (el X 0) (el Y 0)) < 0) rfl (fun h209 => ?_) (fun h209 => ?_)
          ·
            refine seqK fun Q210 kn211 kr212 ke213 => ?_
            refine region ?_
            refine st_q (v := .func (.func 73) #[] #[.pointer (some ⟨w0.heap.size, 0, none⟩)]) (x_move rfl) ?_
            refine st_q (v := .slice aX X.length cX) (x_move rfl) ?_
            refine st_q (v := .pointer (some ⟨b180, o181 + 0 * 2, none⟩)) (x_index' T.sl29 rfl ha182 rfl (by omega)) ?_
            refine st_q (v := .agg #[.int .i64 ((el X 0).1), .int .i64 ((el X 0).2)]) (x_loadA [.int .i64 ((el X 0).1), .int .i64 ((el X 0).2)] T.ag31 rfl ((hc183.below hE196).elem enT_len (i := 0) (by omega))) ?_
            refine st_q (v := .bool l) (x_move rfl) ?_
            refine st_c (t_call [.agg #[.int .i64 ((el X 0).1), .int .i64 ((el X 0).2)], .bool l, .pointer (some ⟨w0.heap.size, 0, none⟩)] T.cf73 rfl rfl) (clo73 w0.heap.size (w0.heap.size) aO cO acc (el X 0) l _ hB194 hF195 (by omega) (by omega)) ?_
            rintro _ w214 ⟨rfl, a1, c1, hB1, hO1, hM215⟩
            refine ⟨_, rfl, ?_⟩
            have hE216 : Below w0.heap.size w0 w214 := Below.mod' hE196 hM215 (fun i hi => hi.elim (fun e => by omega) (fun e => (hF195.lt e).1)) (Nat.le_refl _)
            have hz217 := hE216.le
            have hs218 := hM215.size
            refine st_nil ?_
            refine kn211 _ _ ?_
            refine region ?_
            refine st_q (v := .slice aX X.length cX) (x_move rfl) ?_
            refine st_q (v := .slice ((if cX = 1 then aX else aX.map (·.add (1 * 2)))) ((X.length - 1)) ((cX - 1))) (x_sliceLo T.sl29 rfl rfl (by omega)) ?_
            refine st_q (v := .slice ((if cX = 1 then aX else aX.map (·.add (1 * 2)))) ((X.length - 1)) ((cX - 1))) (x_assign rfl) ?_
            refine st_nil ?_
            refine kn201 _ _ ?_
            refine kn53 _ _ ?_
            refine kn40 _ ((X.drop 1), Y, .slice ((if cX = 1 then aX else aX.map (·.add (1 * 2)))) ((X.length - 1)) ((cX - 1)), .slice aY Y.length cY, (acc ++ (if l = true then [el X 0] else [])), .slice a1 ((acc ++ (if l = true then [el X 0] else [])).length) c1) _ ⟨rfl, rfl, rfl, rfl, rfl, rfl, rfl, rfl, trivial⟩ ⟨hE216, ?_⟩ ?_
            ·
              try dsimp only
              have hil := ite_len l (el X 0)
              exact ⟨Src.tail hX (by omega), hY, by rw [List.append_assoc, ← wk_left (by omega) (by first | exact .inl (by omega) | exact .inr (byc_lt.1 (by assumption)))]; exact hW, by simp only [List.length_append, List.length_drop]; omega, by omega, hB1, hO1⟩
            ·
              (try dsimp only); simp only [List.length_drop]; omega
          ·
            refine seqK fun Q219 kn220 kr221 ke222 => ?_
            refine region ?_
            refine st_q (v := .int .i64 (byc (el X 0) (el Y 0))) (x_move rfl) ?_
            refine st_q (v := .bool (decide (0 < (byc (el X 0) (el Y 0))))) (x_gtr rfl rfl) ?_
            refine st_q (v := .bool (decide (0 < (byc (el X 0) (el Y 0))))) (x_assign rfl) ?_
            refine st_nil ?_
            refine kn220 _ _ ?_
            refine cnd (p := 0 < (byc (el X 0) (el Y 0))) rfl (fun h223 => ?_) (fun h223 => ?_)
            ·
              refine seqK fun Q224 kn225 kr226 ke227 => ?_
              refine region ?_
              refine st_q (v := .func (.func 73) #[] #[.pointer (some ⟨w0.heap.size, 0, none⟩)]) (x_move rfl) ?_
              refine st_q (v := .slice aY Y.length cY) (x_move rfl) ?_
              refine st_q (v := .pointer (some ⟨b186, o187 + 0 * 2, none⟩)) (x_index' T.sl29 rfl ha188 rfl (by omega)) ?_
              refine st_q (v := .agg #[.int .i64 ((el Y 0).1), .int .i64 ((el Y 0).2)]) (x_loadA [.int .i64 ((el Y 0).1), .int .i64 ((el Y 0).2)] T.ag31 rfl ((hc189.below hE196).elem enT_len (i := 0) (by omega))) ?_
              refine st_q (v := .bool r) (x_move rfl) ?_
              refine st_c (t_call [.agg #[.int .i64 ((el Y 0).1), .int .i64 ((el Y 0).2)], .bool r, .pointer (some ⟨w0.heap.size, 0, none⟩)] T.cf73 rfl rfl) (clo73 w0.heap.size (w0.heap.size) aO cO acc (el Y 0) r _ hB194 hF195 (by omega) (by omega)) ?_
              rintro _ w228 ⟨rfl, a1, c1, hB1, hO1, hM229⟩
              refine ⟨_, rfl, ?_⟩
              have hE230 : Below w0.heap.size w0 w228 := Below.mod' hE196 hM229 (fun i hi => hi.elim (fun e => by omega) (fun e => (hF195.lt e).1)) (Nat.le_refl _)
              have hz231 := hE230.le
              have hs232 := hM229.size
              refine st_nil ?_
              refine kn225 _ _ ?_
              refine region ?_
              refine st_q (v := .slice aY Y.length cY) (x_move rfl) ?_
              refine st_q (v := .slice ((if cY = 1 then aY else aY.map (·.add (1 * 2)))) ((Y.length - 1)) ((cY - 1))) (x_sliceLo T.sl29 rfl rfl (by omega)) ?_
              refine st_q (v := .slice ((if cY = 1 then aY else aY.map (·.add (1 * 2)))) ((Y.length - 1)) ((cY - 1))) (x_assign rfl) ?_
              refine st_nil ?_
              refine kn201 _ _ ?_
              refine kn53 _ _ ?_
              refine kn40 _ (X, (Y.drop 1), .slice aX X.length cX, .slice ((if cY = 1 then aY else aY.map (·.add (1 * 2)))) ((Y.length - 1)) ((cY - 1)), (acc ++ (if r = true then [el Y 0] else [])), .slice a1 ((acc ++ (if r = true then [el Y 0] else [])).length) c1) _ ⟨rfl, rfl, rfl, rfl, rfl, rfl, rfl, rfl, trivial⟩ ⟨hE230, ?_⟩ ?_
              ·
                try dsimp only
                have hil := ite_len r (el Y 0)
                exact ⟨hX, Src.tail hY (by omega), by rw [List.append_assoc, ← wk_right (by omega) (by first | exact .inl (by omega) | exact .inr (byc_gt.1 (by assumption)))]; exact hW, by simp only [List.length_append, List.length_drop]; omega, by omega, hB1, hO1⟩
              ·
                (try dsimp only); simp only [List.length_drop]; omega
            ·
              refine seqK fun Q233 kn234 kr235 ke236 => ?_
              refine region ?_
              refine st_q (v := .func (.func 73) #[] #[.pointer (some ⟨w0.heap.size, 0, none⟩)]) (x_move rfl) ?_
              refine st_q (v := .slice aX X.length cX) (x_move rfl) ?_
              refine st_q (v := .pointer (some ⟨b180, o181 + 0 * 2, none⟩)) (x_index' T.sl29 rfl ha182 rfl (by omega)) ?_
              refine st_q (v := .agg #[.int .i64 ((el X 0).1), .int .i64 ((el X 0).2)]) (x_loadA [.int .i64 ((el X 0).1), .int .i64 ((el X 0).2)] T.ag31 rfl ((hc183.below hE196).elem enT_len (i := 0) (by omega))) ?_
              refine st_q (v := .bool bo) (x_move rfl) ?_
              refine st_c (t_call [.agg #[.int .i64 ((el X 0).1), .int .i64 ((el X 0).2)], .bool bo, .pointer (some ⟨w0.heap.size, 0, none⟩)] T.cf73 rfl rfl) (clo73 w0.heap.size (w0.heap.size) aO cO acc (el X 0) bo _ hB194 hF195 (by omega) (by omega)) ?_
              rintro _ w237 ⟨rfl, a1, c1, hB1, hO1, hM238⟩
              refine ⟨_, rfl, ?_⟩
              have hE239 : Below w0.heap.size w0 w237 := Below.mod' hE196 hM238 (fun i hi => hi.elim (fun e => by omega) (fun e => (hF195.lt e).1)) (Nat.le_refl _)
              have hz240 := hE239.le
              have hs241 := hM238.size
              refine st_nil ?_
              refine kn234 _ _ ?_
              refine regionD1 [] [0, 1, 2, 3, 4, 5] (.one 0 (.one 1 (.one 2 (.one 3 (.one 4 (.one 5 .done)))))) (by kernel_rfl) (by kernel_rfl) ?_
              intro w242 hx243 hs244
              have hB245 := hB1.ext hx243
              have hF246 := hO1.ext hx243
              have hE247 : Below w0.heap.size w0 w242 := hx243.e hE239 (Nat.le_refl _)
              have hz248 := hE247.le
              have hs249 := hx243.size
              have hS250 : Ext w242 w242 := Below.refl _ _
              refine d_q (v := .slice aX X.length cX) rfl rfl (fun _ => x_move rfl) ?_
              refine d_q (v := .slice ((if cX = 1 then aX else aX.map (·.add (1 * 2)))) ((X.length - 1)) ((cX - 1))) rfl rfl (fun _ => x_sliceLo T.sl29 rfl rfl (by omega)) ?_
              refine d_q (v := .slice aY Y.length cY) rfl rfl (fun _ => x_move rfl) ?_
              refine d_q (v := .slice ((if cY = 1 then aY else aY.map (·.add (1 * 2)))) ((Y.length - 1)) ((cY - 1))) rfl rfl (fun _ => x_sliceLo T.sl29 rfl rfl (by omega)) ?_
              refine d_q (v := .slice ((if cX = 1 then aX else aX.map (·.add (1 * 2)))) ((X.length - 1)) ((cX - 1))) rfl rfl (fun _ => x_assign rfl) ?_
              refine d_q (v := .slice ((if cY = 1 then aY else aY.map (·.add (1 * 2)))) ((Y.length - 1)) ((cY - 1))) rfl rfl (fun _ => x_assign rfl) ?_
              refine d_done ?_
              refine kn201 _ _ ?_
              refine kn53 _ _ ?_
              refine kn40 _ ((X.drop 1), (Y.drop 1), .slice ((if cX = 1 then aX else aX.map (·.add (1 * 2)))) ((X.length - 1)) ((cX - 1)), .slice ((if cY = 1 then aY else aY.map (·.add (1 * 2)))) ((Y.length - 1)) ((cY - 1)), (acc ++ (if bo = true then [el X 0] else [])), .slice a1 ((acc ++ (if bo = true then [el X 0] else [])).length) c1) _ ⟨rfl, rfl, rfl, rfl, rfl, rfl, rfl, rfl, trivial⟩ ⟨hE247, ?_⟩ ?_
              ·
                try dsimp only
                have hil := ite_len bo (el X 0)
                exact ⟨Src.tail hX (by omega), Src.tail hY (by omega), by rw [List.append_assoc, ← wk_both (by omega) (by omega) (byc_zero.1 (by omega))]; exact hW, by simp only [List.length_append, List.length_drop]; omega, by omega, hB245, hF246⟩
              ·
                (try dsimp only); simp only [List.length_drop]; omega
    ·
      refine st_gq 3 22 rfl rfl (by decide) ?_
      refine st_q (v := .slice aY Y.length cY) (x_move rfl) ?_
      refine st_gq 3 22 rfl rfl (by decide) ?_
      refine st_q (v := .int .i64 ((Y.length : Nat) : Int)) (x_lenSl rfl Try.underlying29 rfl) ?_
      refine st_gq 3 22 rfl rfl (by decide) ?_
      refine st_q (v := .bool (decide (0 < Y.length))) (x_gtrN rfl rfl) ?_
      refine st_q (v := .bool (decide (0 < Y.length))) (x_pickF rfl rfl) ?_
      refine st_nil ?_
      refine kn48 _ _ ?_
      refine cnd (p := 0 < Y.length) rfl (fun h251 => ?_) (fun h251 => ?_)
      ·
        refine skip ?_
        refine kn44 _ _ ?_
        refine blockK fun Q252 kn253 kr254 kx255 kb256 => ?_
        refine seqK fun Q257 kn258 kr259 ke260 => ?_
        refine region ?_
        refine st_q (v := .int .i64 ((0 : Nat) : Int)) (x_assign rfl) ?_
        refine st_nil ?_
        refine kn258 _ _ ?_
        refine seqK fun Q261 kn262 kr263 ke264 => ?_
        refine blockK fun Q265 kn266 kr267 kx268 kb269 => ?_
        refine seqK fun Q270 kn271 kr272 ke273 => ?_
        refine region ?_
        refine st_q (v := .slice aY Y.length cY) (x_move rfl) ?_
        refine st_q (v := .int .i64 ((Y.length : Nat) : Int)) (x_lenSl rfl Try.underlying29 rfl) ?_
        refine st_q (v := .bool (decide (Y.length = 0))) (x_eqlN rfl rfl) ?_
        refine st_q (v := .bool (decide (Y.length = 0))) (x_assign rfl) ?_
        refine st_nil ?_
        refine kn271 _ _ ?_
        refine cnd (p := Y.length = 0) rfl (fun h274 => ?_) (fun h274 => ?_)
        ·
          refine region ?_
          refine st_q (v := .int .i64 (-1)) (x_assign rfl) ?_
          refine st_nil ?_
          refine kn266 _ _ ?_
          refine kn262 _ _ ?_
          refine blockK fun Q275 kn276 kr277 kx278 kb279 => ?_
          refine seqK fun Q280 kn281 kr282 ke283 => ?_
          refine region ?_
          refine st_q (v := .int .i64 (-1)) (x_move rfl) ?_
          refine st_q (v := .bool (decide ((-1) < 0))) (x_lss rfl rfl) ?_
          refine st_q (v := .bool (decide ((-1) < 0))) (x_assign rfl) ?_
          refine st_nil ?_
          refine kn281 _ _ ?_
          refine cnd (p := (-1) < 0) rfl (fun h284 => ?_) (fun h284 => ?_)
          ·
            refine seqK fun Q285 kn286 kr287 ke288 => ?_
            refine region ?_
            refine st_q (v := .func (.func 73) #[] #[.pointer (some ⟨w0.heap.size, 0, none⟩)]) (x_move rfl) ?_
            refine st_q (v := .slice aX X.length cX) (x_move rfl) ?_
            obtain ⟨b289, o290, ha291, hc292⟩ := hX.at (by omega)
            refine st_q (v := .pointer (some ⟨b289, o290 + 0 * 2, none⟩)) (x_index' T.sl29 rfl ha291 rfl (by omega)) ?_
            refine st_q (v := .agg #[.int .i64 ((el X 0).1), .int .i64 ((el X 0).2)]) (x_loadA [.int .i64 ((el X 0).1), .int .i64 ((el X 0).2)] T.ag31 rfl ((hc292.below hx37).elem enT_len (i := 0) (by omega))) ?_
            refine st_q (v := .bool l) (x_move rfl) ?_
            refine st_c (t_call [.agg #[.int .i64 ((el X 0).1), .int .i64 ((el X 0).2)], .bool l, .pointer (some ⟨w0.heap.size, 0, none⟩)] T.cf73 rfl rfl) (clo73 w0.heap.size (w0.heap.size) aO cO acc (el X 0) l _ hB hO (by omega) (by omega)) ?_
            rintro _ w293 ⟨rfl, a1, c1, hB1, hO1, hM294⟩
            refine ⟨_, rfl, ?_⟩
            have hE295 : Below w0.heap.size w0 w293 := Below.mod' hx37 hM294 (fun i hi => hi.elim (fun e => by omega) (fun e => (hO.lt e).1)) (Nat.le_refl _)
            have hz296 := hE295.le
            have hs297 := hM294.size
            refine st_nil ?_
            refine kn286 _ _ ?_
            refine region ?_
            refine st_q (v := .slice aX X.length cX) (x_move rfl) ?_
            refine st_q (v := .slice ((if cX = 1 then aX else aX.map (·.add (1 * 2)))) ((X.length - 1)) ((cX - 1))) (x_sliceLo T.sl29 rfl rfl (by omega)) ?_
            refine st_q (v := .slice ((if cX = 1 then aX else aX.map (·.add (1 * 2)))) ((X.length - 1)) ((cX - 1))) (x_assign rfl) ?_
            refine st_nil ?_
            refine kn276 _ _ ?_
            refine kn253 _ _ ?_
            refine kn40 _ ((X.drop 1), Y, .slice ((if cX = 1 then aX else aX.map (·.add (1 * 2)))) ((X.length - 1)) ((cX - 1)), .slice aY Y.length cY, (acc ++ (if l = true then [el X 0] else [])), .slice a1 ((acc ++ (if l = true then [el X 0] else [])).length) c1) _ ⟨rfl, rfl, rfl, rfl, rfl, rfl, rfl, rfl, trivial⟩ ⟨hE295, ?_⟩ ?_
            ·
              try dsimp only
              have hil := ite_len l (el X 0)
              exact ⟨Src.tail hX (by omega), hY, by rw [List.append_assoc, ← wk_left (by omega) (by first | exact .inl (by omega) | exact .inr (byc_lt.1 (by assumption)))]; exact hW, by simp only [List.length_append, List.length_drop]; omega, by omega, hB1, hO1⟩
            ·
              (try dsimp only); simp only [List.length_drop]; omega
          ·
            refine seqK fun Q298 kn299 kr300 ke301 => ?_
            refine region ?_
            refine st_q (v := .int .i64 (-1)) (x_move rfl) ?_
            refine st_q (v := .bool (decide (0 < (-1)))) (x_gtr rfl rfl) ?_
            refine st_q (v := .bool (decide (0 < (-1)))) (x_assign rfl) ?_
            refine st_nil ?_
            refine kn299 _ _ ?_
            refine cnd (p := 0 < (-1)) rfl (fun h302 => ?_) (fun h302 => ?_)
            ·
              refine seqK fun Q303 kn304 kr305 ke306 => ?_
              refine region ?_
              refine st_q (v := .func (.func 73) #[] #[.pointer (some ⟨w0.heap.size, 0, none⟩)]) (x_move rfl) ?_
              refine st_q (v := .slice aY Y.length cY) (x_move rfl) ?_
              obtain ⟨b307, o308, ha309, hc310⟩ := hY.at (by omega)
              refine st_q (v := .pointer (some ⟨b307, o308 + 0 * 2, none⟩)) (x_index' T.sl29 rfl ha309 rfl (by omega)) ?_
              refine st_q (v := .agg #[.int .i64 ((el Y 0).1), .int .i64 ((el Y 0).2)]) (x_loadA [.int .i64 ((el Y 0).1), .int .i64 ((el Y 0).2)] T.ag31 rfl ((hc310.below hx37).elem enT_len (i := 0) (by omega))) ?_
              refine st_q (v := .bool r) (x_move rfl) ?_
              refine st_c (t_call [.agg #[.int .i64 ((el Y 0).1), .int .i64 ((el Y 0).2)], .bool r, .pointer (some ⟨w0.heap.size, 0, none⟩)] T.cf73 rfl rfl) (clo73 w0.heap.size (w0.heap.size) aO cO acc (el Y 0) r _ hB hO (by omega) (by omega)) ?_
              rintro _ w311 ⟨rfl, a1, c1, hB1, hO1, hM312⟩
              refine ⟨_, rfl, ?_⟩
              have hE313 : Below w0.heap.size w0 w311 := Below.mod' hx37 hM312 (fun i hi => hi.elim (fun e => by omega) (fun e => (hO.lt e).1)) (Nat.le_refl _)
              have hz314 := hE313.le
              have hs315 := hM312.size
              refine st_nil ?_
              refine kn304 _ _ ?_
              refine region ?_
              refine st_q (v := .slice aY Y.length cY) (x_move rfl) ?_
              refine st_q (v := .slice ((if cY = 1 then aY else aY.map (·.add (1 * 2)))) ((Y.length - 1)) ((cY - 1))) (x_sliceLo T.sl29 rfl rfl (by omega)) ?_
              refine st_q (v := .slice ((if cY = 1 then aY else aY.map (·.add (1 * 2)))) ((Y.length - 1)) ((cY - 1))) (x_assign rfl) ?_
              refine st_nil ?_
              refine kn276 _ _ ?_
              refine kn253 _ _ ?_
              refine kn40 _ (X, (Y.drop 1), .slice aX X.length cX, .slice ((if cY = 1 then aY else aY.map (·.add (1 * 2)))) ((Y.length - 1)) ((cY - 1)), (acc ++ (if r = true then [el Y 0] else [])), .slice a1 ((acc ++ (if r = true then [el Y 0] else [])).length) c1) _ ⟨rfl, rfl, rfl, rfl, rfl, rfl, rfl, rfl, trivial⟩ ⟨hE313, ?_⟩ ?_
              ·
                try dsimp only
                have hil := ite_len r (el Y 0)
                exact ⟨hX, Src.tail hY (by omega), by rw [List.append_assoc, ← wk_right (by omega) (by first | exact .inl (by omega) | exact .inr (byc_gt.1 (by assumption)))]; exact hW, by simp only [List.length_append, List.length_drop]; omega, by omega, hB1, hO1⟩
              ·
                (try dsimp only); simp only [List.length_drop]; omega
            ·
              refine seqK fun Q316 kn317 kr318 ke319 => ?_
              refine region ?_
              refine st_q (v := .func (.func 73) #[] #[.pointer (some ⟨w0.heap.size, 0, none⟩)]) (x_move rfl) ?_
              refine st_q (v := .slice aX X.length cX) (x_move rfl) ?_
              obtain ⟨b320, o321, ha322, hc323⟩ := hX.at (by omega)
              refine st_q (v := .pointer (some ⟨b320, o321 + 0 * 2, none⟩)) (x_index' T.sl29 rfl ha322 rfl (by omega)) ?_
              refine st_q (v := .agg #[.int .i64 ((el X 0).1), .int .i64 ((el X 0).2)]) (x_loadA [.int .i64 ((el X 0).1), .int .i64 ((el X 0).2)] T.ag31 rfl ((hc323.below hx37).elem enT_len (i := 0) (by omega))) ?_
              refine st_q (v := .bool bo) (x_move rfl) ?_
              refine st_c (t_call [.agg #[.int .i64 ((el X 0).1), .int .i64 ((el X 0).2)], .bool bo, .pointer (some ⟨w0.heap.size, 0, none⟩)] T.cf73 rfl rfl) (clo73 w0.heap.size (w0.heap.size) aO cO acc (el X 0) bo _ hB hO (by omega) (by omega)) ?_
              rintro _ w324 ⟨rfl, a1, c1, hB1, hO1, hM325⟩
              refine ⟨_, rfl, ?_⟩
              have hE326 : Below w0.heap.size w0 w324 := Below.mod' hx37 hM325 (fun i hi => hi.elim (fun e => by omega) (fun e => (hO.lt e).1)) (Nat.le_refl _)
              have hz327 := hE326.le
              have hs328 := hM325.size
              refine st_nil ?_
              refine kn317 _ _ ?_
              refine regionD1 [] [0, 1, 2, 3, 4, 5] (.one 0 (.one 1 (.one 2 (.one 3 (.one 4 (.one 5 .done)))))) (by kernel_rfl) (by kernel_rfl) ?_
              intro w329 hx330 hs331
              have hB332 := hB1.ext hx330
              have hF333 := hO1.ext hx330
              have hE334 : Below w0.heap.size w0 w329 := hx330.e hE326 (Nat.le_refl _)
              have hz335 := hE334.le
              have hs336 := hx330.size
              have hS337 : Ext w329 w329 := Below.refl _ _
              refine d_q (v := .slice aX X.length cX) rfl rfl (fun _ => x_move rfl) ?_
              refine d_q (v := .slice ((if cX = 1 then aX else aX.map (·.add (1 * 2)))) ((X.length - 1)) ((cX - 1))) rfl rfl (fun _ => x_sliceLo T.sl29 rfl rfl (by omega)) ?_
              refine d_q (v := .slice aY Y.length cY) rfl rfl (fun _ => x_move rfl) ?_
              refine d_q (v := .slice ((if cY = 1 then aY else aY.map (·.add (1 * 2)))) ((Y.length - 1)) ((cY - 1))) rfl rfl (fun _ => x_sliceLo T.sl29 rfl rfl (by omega)) ?_
              refine d_q (v := .slice ((if cX = 1 then aX else aX.map (·.add (1 * 2)))) ((X.length - 1)) ((cX - 1))) rfl rfl (fun _ => x_assign rfl) ?_
              refine d_q (v := .slice ((if cY = 1 then aY else aY.map (·.add (1 * 2)))) ((Y.length - 1)) ((cY - 1))) rfl rfl (fun _ => x_assign rfl) ?_
              refine d_done ?_
              refine kn276 _ _ ?_
              refine kn253 _ _ ?_
              refine kn40 _ ((X.drop 1), (Y.drop 1), .slice ((if cX = 1 then aX else aX.map (·.add (1 * 2)))) ((X.length - 1)) ((cX - 1)), .slice ((if cY = 1 then aY else aY.map (·.add (1 * 2)))) ((Y.length - 1)) ((cY - 1)), (acc ++ (if bo = true then [el X 0] else [])), .slice a1 ((acc ++ (if bo = true then [el X 0] else [])).length) c1) _ ⟨rfl, rfl, rfl, rfl, rfl, rfl, rfl, rfl, trivial⟩ ⟨hE334, ?_⟩ ?_
              ·
                try dsimp only
                have hil := ite_len bo (el X 0)
                exact ⟨Src.tail hX (by omega), Src.tail hY (by omega), by rw [List.append_assoc, ← wk_both (by omega) (by omega) (byc_zero.1 (by omega))]; exact hW, by simp only [List.length_append, List.length_drop]; omega, by omega, hB332, hF333⟩
              ·
                (try dsimp only); simp only [List.length_drop]; omega
        ·
          refine seqK fun Q338 kn339 kr340 ke341 => ?_
          refine region ?_
          refine st_q (v := .slice aX X.length cX) (x_move rfl) ?_
          refine st_q (v := .int .i64 ((X.length : Nat) : Int)) (x_lenSl rfl Try.underlying29 rfl) ?_
          refine st_q (v := .bool (decide (X.length = 0))) (x_eqlN rfl rfl) ?_
          refine st_q (v := .bool (decide (X.length = 0))) (x_assign rfl) ?_
          refine st_nil ?_
          refine kn339 _ _ ?_
          refine cnd (p := X.length = 0) rfl (fun h342 => ?_) (fun h342 => ?_)
          ·
            refine region ?_
            refine st_q (v := .int .i64 ((1 : Nat) : Int)) (x_assign rfl) ?_
            refine st_nil ?_
            refine kn266 _ _ ?_
            refine kn262 _ _ ?_
            refine blockK fun Q343 kn344 kr345 kx346 kb347 => ?_
            refine seqK fun Q348 kn349 kr350 ke351 => ?_
            refine region ?_
            refine st_q (v := .int .i64 ((1 : Nat) : Int)) (x_move rfl) ?_
            refine st_q (v := .bool (decide (1 < 0))) (x_lssN rfl rfl) ?_
            refine st_q (v := .bool (decide (1 < 0))) (x_assign rfl) ?_
            refine st_nil ?_
            refine kn349 _ _ ?_
            refine cnd (p := 1 < 0) rfl (fun h352 => ?_) (fun h352 => ?_)
            ·
              exact absurd h352 (by decide)
            ·
              refine seqK fun Q353 kn354 kr355 ke356 => ?_
              refine region ?_
              refine st_q (v := .int .i64 ((1 : Nat) : Int)) (x_move rfl) ?_
              refine st_q (v := .bool (decide (0 < 1))) (x_gtrN rfl rfl) ?_
              refine st_q (v := .bool (decide (0 < 1))) (x_assign rfl) ?_
              refine st_nil ?_
              refine kn354 _ _ ?_
              refine cnd (p := 0 < 1) rfl (fun h357 => ?_) (fun h357 => ?_)
              ·
                refine seqK fun Q358 kn359 kr360 ke361 => ?_
                refine region ?_
                refine st_q (v := .func (.func 73) #[] #[.pointer (some ⟨w0.heap.size, 0, none⟩)]) (x_move rfl) ?_
                refine st_q (v := .slice aY Y.length cY) (x_move rfl) ?_
                obtain ⟨b362, o363, ha364, hc365⟩ := hY.at (by omega)
                refine st_q (v := .pointer (some ⟨b362, o363 + 0 * 2, none⟩)) (x_index' T.sl29 rfl ha364 rfl (by omega)) ?_
                refine st_q (v := .agg #[.int .i64 ((el Y 0).1), .int .i64 ((el Y 0).2)]) (x_loadA [.int .i64 ((el Y 0).1), .int .i64 ((el Y 0).2)] T.ag31 rfl ((hc365.below hx37).elem enT_len (i := 0) (by omega))) ?_
                refine st_q (v := .bool r) (x_move rfl) ?_
                refine st_c (t_call [.agg #[.int .i64 ((el Y 0).1), .int .i64 ((el Y 0).2)], .bool r, .pointer (some ⟨w0.heap.size, 0, none⟩)] T.cf73 rfl rfl) (clo73 w0.heap.size (w0.heap.size) aO cO acc (el Y 0) r _ hB hO (by omega) (by omega)) ?_
                rintro _ w366 ⟨rfl, a1, c1, hB1, hO1, hM367⟩
                refine ⟨_, rfl, ?_⟩
                have hE368 : Below w0.heap.size w0 w366 := Below.mod' hx37 hM367 (fun i hi => hi.elim (fun e => by omega) (fun e => (hO.lt e).1)) (Nat.le_refl _)
                have hz369 := hE368.le
                have hs370 := hM367.size
                refine st_nil ?_
                refine kn359 _ _ ?_
                refine region ?_
                refine st_q (v := .slice aY Y.length cY) (x_move rfl) ?_
                refine st_q (v := .slice ((if cY = 1 then aY else aY.map (·.add (1 * 2)))) ((Y.length - 1)) ((cY - 1))) (x_sliceLo T.sl29 rfl rfl (by omega)) ?_
                refine st_q (v := .slice ((if cY = 1 then aY else aY.map (·.add (1 * 2)))) ((Y.length - 1)) ((cY - 1))) (x_assign rfl) ?_
                refine st_nil ?_
                refine kn344 _ _ ?_
                refine kn253 _ _ ?_
                refine kn40 _ (X, (Y.drop 1), .slice aX X.length cX, .slice ((if cY = 1 then aY else aY.map (·.add (1 * 2)))) ((Y.length - 1)) ((cY - 1)), (acc ++ (if r = true then [el Y 0] else [])), .slice a1 ((acc ++ (if r = true then [el Y 0] else [])).length) c1) _ ⟨rfl, rfl, rfl, rfl, rfl, rfl, rfl, rfl, trivial⟩ ⟨hE368, ?_⟩ ?_
                ·
                  try dsimp only
                  have hil := ite_len r (el Y 0)
                  exact ⟨hX, Src.tail hY (by omega), by rw [List.append_assoc, ← wk_right (by omega) (by first | exact .inl (by omega) | exact .inr (byc_gt.1 (by assumption)))]; exact hW, by simp only [List.length_append, List.length_drop]; omega, by omega, hB1, hO1⟩
                ·
                  (try dsimp only); simp only [List.length_drop]; omega
              ·
                exact absurd h357 (not_not_intro (by decide))
          ·
            refine regionD1 [3, 6] [0, 1, 2, 3, 4, 5, 6, 8] (.one 0 (.one 1 (.one 2 (.one 3 (.one 4 (.one 5 (.one 6 (.one 7 (.one 8 .done))))))))) (by kernel_rfl) (by kernel_rfl) ?_
            intro w371 hx372 hs373
            have hB374 := hB.ext hx372
            have hF375 := hO.ext hx372
            have hE376 : Below w0.heap.size w0 w371 := hx372.e hx37 (Nat.le_refl _)
            have hz377 := hE376.le
            have hs378 := hx372.size
            have hS379 : Ext w371 w371 := Below.refl _ _
            refine d_q (v := .func (.func 20) #[] #[]) rfl rfl (fun _ => x_move rfl) ?_
            refine d_q (v := .slice aX X.length cX) rfl rfl (fun _ => x_move rfl) ?_
            obtain ⟨b380, o381, ha382, hc383⟩ := hX.at (by omega)
            refine d_q (v := .pointer (some ⟨b380, o381 + 0 * 2, none⟩)) rfl rfl (fun _ => x_index' T.sl29 rfl ha382 rfl (by omega)) ?_
            refine d_l (v := .agg #[.int .i64 ((el X 0).1), .int .i64 ((el X 0).2)]) rfl rfl rfl (fun v385 hw384 => x_loadA [.int .i64 ((el X 0).1), .int .i64 ((el X 0).2)] T.ag31 rfl (((hc383.below hE376).elem enT_len (i := 0) (by omega)).ext hw384)) ?_
            refine d_q (v := .slice aY Y.length cY) rfl rfl (fun _ => x_move rfl) ?_
            obtain ⟨b386, o387, ha388, hc389⟩ := hY.at (by omega)
            refine d_q (v := .pointer (some ⟨b386, o387 + 0 * 2, none⟩)) rfl rfl (fun _ => x_index' T.sl29 rfl ha388 rfl (by omega)) ?_
            refine d_l (v := .agg #[.int .i64 ((el Y 0).1), .int .i64 ((el Y 0).2)]) rfl rfl rfl (fun v391 hw390 => x_loadA [.int .i64 ((el Y 0).1), .int .i64 ((el Y 0).2)] T.ag31 rfl (((hc389.below hE376).elem enT_len (i := 0) (by omega)).ext hw390)) ?_
            refine d_e (by decide) (d_c' rfl rfl (t_call [.agg #[.int .i64 ((el X 0).1), .int .i64 ((el X 0).2)], .agg #[.int .i64 ((el Y 0).1), .int .i64 ((el Y 0).2)]] T.cf20 rfl rfl) (by20 (el X 0) (el Y 0) _) ?_)
            rintro _ w392 ⟨rfl, hx393⟩
            refine ⟨_, rfl, ?_⟩
            have hB394 := hB374.ext hx393
            have hF395 := hF375.ext hx393
            have hE396 : Below w0.heap.size w0 w392 := hx393.e hE376 (Nat.le_refl _)
            have hz397 := hE396.le
            have hs398 := hx393.size
            have hS399 := hS379.trans (hx393.mono hS379.size)
            refine ⟨fun _ => hS399, ?_⟩
            refine d_q (v := .int .i64 (byc (el X 0) (el Y 0))) rfl rfl (fun _ => x_assign rfl) ?_
            refine d_done ?_
            refine kn266 _ _ ?_
            refine kn262 _ _ ?_
            refine blockK fun Q400 kn401 kr402 kx403 kb404 => ?_
            refine seqK fun Q405 kn406 kr407 ke408 => ?_
            refine region ?_
            refine st_q (v := .int .i64 (byc (el X 0) (el Y 0))) (x_move rfl) ?_
            refine st_q (v := .bool (decide ((byc (el X 0) (el Y 0)) < 0))) (x_lss rfl rfl) ?_
            refine st_q (v := .bool (decide ((byc (el X 0) (el Y 0)) < 0))) (x_assign rfl) ?_
            refine st_nil ?_
            refine kn406 _ _ ?_
            refine cnd (p := (byc (el X 0) (el Y 0)) < 0) rfl (fun h409 => ?_) (fun h409 => ?_)
            ·
              refine seqK fun Q410 kn411 kr412 ke413 => ?_
              refine region ?_
              refine st_q (v := .func (.func 73) #[] #[.pointer (some ⟨w0.heap.size, 0, none⟩)]) (x_move rfl) ?_
              refine st_q (v := .slice aX X.length cX) (x_move rfl) ?_
              refine st_q (v := .pointer (some ⟨b380, o381 + 0 * 2, none⟩)) (x_index' T.sl29 rfl ha382 rfl (by omega)) ?_
              refine st_q (v := .agg #[.int .i64 ((el X 0).1), .int .i64 ((el X 0).2)]) (x_loadA [.int .i64 ((el X 0).1), .int .i64 ((el X 0).2)] T.ag31 rfl ((hc383.below hE396).elem enT_len (i := 0) (by omega))) ?_
              refine st_q (v := .bool l) (x_move rfl) ?_
              refine st_c (t_call [.agg #[.int .i64 ((el X 0).1), .int .i64 ((el X 0).2)], .bool l, .pointer (some ⟨w0.heap.size, 0, none⟩)] T.cf73 rfl rfl) (clo73 w0.heap.size (w0.heap.size) aO cO acc (el X 0) l _ hB394 hF395 (by omega) (by omega)) ?_
              rintro _ w414 ⟨rfl, a1, c1, hB1, hO1, hM415⟩
              refine ⟨_, rfl, ?_⟩
              have hE416 : Below w0.heap.size w0 w414 := Below.mod' hE396 hM415 (fun i hi => hi.elim (fun e => by omega) (fun e => (hF395.lt e).1)) (Nat.le_refl _)
              have hz417 := hE416.le
              have hs418 := hM415.size
              refine st_nil ?_
              refine kn411 _ _ ?_
              refine region ?_
              refine st_q (v := .slice aX X.length cX) (x_move rfl) ?_
              refine st_q (v := .slice ((if cX = 1 then aX else aX.map (·.add (1 * 2)))) ((X.length - 1)) ((cX - 1))) (x_sliceLo T.sl29 rfl rfl (by omega)) ?_
              refine st_q (v := .slice ((if cX = 1 then aX else aX.map (·.add (1 * 2)))) ((X.length - 1)) ((cX - 1))) (x_assign rfl) ?_
              refine st_nil ?_
              refine kn401 _ _ ?_
              refine kn253 _ _ ?_
              refine kn40 _ ((X.drop 1), Y, .slice ((if cX = 1 then aX else aX.map (·.add (1 * 2)))) ((X.length - 1)) ((cX - 1)), .slice aY Y.length cY, (acc ++ (if l = true then [el X 0] else [])), .slice a1 ((acc ++ (if l = true then [el X 0] else [])).length) c1) _ ⟨rfl, rfl, rfl, rfl, rfl, rfl, rfl, rfl, trivial⟩ ⟨hE416, ?_⟩ ?_
              ·
                try dsimp only
                have hil := ite_len l (el X 0)
                exact ⟨Src.tail hX (by omega), hY, by rw [List.append_assoc, ← wk_left (by omega) (by first | exact .inl (by omega) | exact .inr (byc_lt.1 (by assumption)))]; exact hW, by simp only [List.length_append, List.length_drop]; omega, by omega, hB1, hO1⟩
              ·
                (try dsimp only); simp only [List.length_drop]; omega
            ·
              refine seqK fun Q419 kn420 kr421 ke422 => ?_
              refine region ?_
              refine st_q (v := .int .i64 (byc (el X 0) (el Y 0))) (x_move rfl) ?_
              refine st_q (v := .bool (decide (0 < (byc (el X 0) (el Y 0))))) (x_gtr rfl rfl) ?_
              refine st_q (v := .bool (decide (0 < (byc (el X 0) (el Y 0))))) (x_assign rfl) ?_
              refine st_nil ?_
              refine kn420 _ _ ?_
              refine cnd (p := 0 < (byc (el X 0) (el Y 0))) rfl (fun h423 => ?_) (fun h423 => ?_)
              ·
                refine seqK fun Q424 kn425 kr426 ke427 => ?_
                refine region ?_
                refine st_q (v := .func (.func 73) #[] #[.pointer (some ⟨w0.heap.size, 0, none⟩)]) (x_move rfl) ?_
                refine st_q (v := .slice aY Y.length cY) (x_move rfl) ?_
                refine st_q (v := .pointer (some ⟨b386, o387 + 0 * 2, none⟩)) (x_index' T.sl29 rfl ha388 rfl (by omega)) ?_
                refine st_q (v := .agg #[.int .i64 ((el Y 0).1), .int .i64 ((el Y 0).2)]) (x_loadA [.int .i64 ((el Y 0).1), .int .i64 ((el Y 0).2)] T.ag31 rfl ((hc389.below hE396).elem enT_len (i := 0) (by omega))) ?_
                refine st_q (v := .bool r) (x_move rfl) ?_
                refine st_c (t_call [.agg #[.int .i64 ((el Y 0).1), .int .i64 ((el Y 0).2)], .bool r, .pointer (some ⟨w0.heap.size, 0, none⟩)] T.cf73 rfl rfl) (clo73 w0.heap.size (w0.heap.size) aO cO acc (el Y 0) r _ hB394 hF395 (by omega) (by omega)) ?_
                rintro _ w428 ⟨rfl, a1, c1, hB1, hO1, hM429⟩
                refine ⟨_, rfl, ?_⟩
                have hE430 : Below w0.heap.size w0 w428 := Below.mod' hE396 hM429 (fun i hi => hi.elim (fun e => by omega) (fun e => (hF395.lt e).1)) (Nat.le_refl _)
                have hz431 := hE430.le
                have hs432 := hM429.size
                refine st_nil ?_
                refine kn425 _ _ ?_
                refine region ?_
                refine st_q (v := .slice aY Y.length cY) (x_move rfl) ?_
                refine st_q (v := .slice ((if cY = 1 then aY else aY.map (·.add (1 * 2)))) ((Y.length - 1)) ((cY - 1))) (x_sliceLo T.sl29 rfl rfl (by omega)) ?_
                refine st_q (v := .slice ((if cY = 1 then aY else aY.map (·.add (1 * 2)))) ((Y.length - 1)) ((cY - 1))) (x_assign rfl) ?_
                refine st_nil ?_
                refine kn401 _ _ ?_
                refine kn253 _ _ ?_
                refine kn40 _ (X, (Y.drop 1), .slice aX X.length cX, .slice ((if cY = 1 then aY else aY.map (·.add (1 * 2)))) ((Y.length - 1)) ((cY - 1)), (acc ++ (if r = true then [el Y 0] else [])), .slice a1 ((acc ++ (if r = true then [el Y 0] else [])).length) c1) _ ⟨rfl, rfl, rfl, rfl, rfl, rfl, rfl, rfl, trivial⟩ ⟨hE430, ?_⟩ ?_
                ·
                  try dsimp only
                  have hil := ite_len r (el Y 0)
                  exact ⟨hX, Src.tail hY (by omega), by rw [List.append_assoc, ← wk_right (by omega) (by first | exact .inl (by omega) | exact .inr (byc_gt.1 (by assumption)))]; exact hW, by simp only [List.length_append, List.length_drop]; omega, by omega, hB1, hO1⟩
                ·
                  (try dsimp only); simp only [List.length_drop]; omega
              ·
                refine seqK fun Q433 kn434 kr435 ke436 => ?_
                refine region ?_
                refine st_q (v := .func (.func 73) #[] #[.pointer (some ⟨w0.heap.size, 0, none⟩)]) (x_move rfl) ?_
                refine st_q (v := .slice aX X.length cX) (x_move rfl) ?_
                refine st_q (v := .pointer (some ⟨b380, o381 + 0 * 2, none⟩)) (x_index' T.sl29 rfl ha382 rfl (by omega)) ?_
                refine st_q (v := .agg #[.int .i64 ((el X 0).1), .int .i64 ((el X 0).2)]) (x_loadA [.int .i64 ((el X 0).1), .int .i64 ((el X 0).2)] T.ag31 rfl ((hc383.below hE396).elem enT_len (i := 0) (by omega))) ?_
                refine st_q (v := .bool bo) (x_move rfl) ?_
                refine st_c (t_call [.agg #[.int .i64 ((el X 0).1), .int .i64 ((el X 0).2)], .bool bo, .pointer (some ⟨w0.heap.size, 0, none⟩)] T.cf73 rfl rfl) (clo73 w0.heap.size (w0.heap.size) aO cO acc (el X 0) bo _ hB394 hF395 (by omega) (by omega)) ?_
                rintro _ w437 ⟨rfl, a1, c1, hB1, hO1, hM438⟩
                refine ⟨_, rfl, ?_⟩
                have hE439 : Below w0.heap.size w0 w437 := Below.mod' hE396 hM438 (fun i hi => hi.elim (fun e => by omega) (fun e => (hF395.lt e).1)) (Nat.le_refl _)
                have hz440 := hE439.le
                have hs441 := hM438.size
                refine st_nil ?_
                refine kn434 _ _ ?_
                refine regionD1 [] [0, 1, 2, 3, 4, 5] (.one 0 (.one 1 (.one 2 (.one 3 (.one 4 (.one 5 .done)))))) (by kernel_rfl) (by kernel_rfl) ?_
                intro w442 hx443 hs444
                have hB445 := hB1.ext hx443
                have hF446 := hO1.ext hx443
                have hE447 : Below w0.heap.size w0 w442 := hx443.e hE439 (Nat.le_refl _)
                have hz448 := hE447.le
                have hs449 := hx443.size
                have hS450 : Ext w442 w442 := Below.refl _ _
                refine d_q (v := .slice aX X.length cX) rfl rfl (fun _ => x_move rfl) ?_
                refine d_q (v := .slice ((if cX = 1 then aX else aX.map (·.add (1 * 2)))) ((X.length - 1)) ((cX - 1))) rfl rfl (fun _ => x_sliceLo T.sl29 rfl rfl (by omega)) ?_
                refine d_q (v := .slice aY Y.length cY) rfl rfl (fun _ => x_move rfl) ?_
                refine d_q (v := .slice ((if cY = 1 then aY else aY.map (·.add (1 * 2)))) ((Y.length - 1)) ((cY - 1))) rfl rfl (fun _ => x_sliceLo T.sl29 rfl rfl (by omega)) ?_
                refine d_q (v := .slice ((if cX = 1 then aX else aX.map (·.add (1 * 2)))) ((X.length - 1)) ((cX - 1))) rfl rfl (fun _ => x_assign rfl) ?_
                refine d_q (v := .slice ((if cY = 1 then aY else aY.map (·.add (1 * 2)))) ((Y.length - 1)) ((cY - 1))) rfl rfl (fun _ => x_assign rfl) ?_
                refine d_done ?_
                refine kn401 _ _ ?_
                refine kn253 _ _ ?_
                refine kn40 _ ((X.drop 1), (Y.drop 1), .slice ((if cX = 1 then aX else aX.map (·.add (1 * 2)))) ((X.length - 1)) ((cX - 1)), .slice ((if cY = 1 then aY else aY.map (·.add (1 * 2)))) ((Y.length - 1)) ((cY - 1)), (acc ++ (if bo = true then [el X 0] else [])), .slice a1 ((acc ++ (if bo = true then [el X 0] else [])).length) c1) _ ⟨rfl, rfl, rfl, rfl, rfl, rfl, rfl, rfl, trivial⟩ ⟨hE447, ?_⟩ ?_
                ·
                  try dsimp only
                  have hil := ite_len bo (el X 0)
                  exact ⟨Src.tail hX (by omega), Src.tail hY (by omega), by rw [List.append_assoc, ← wk_both (by omega) (by omega) (byc_zero.1 (by omega))]; exact hW, by simp only [List.length_append, List.length_drop]; omega, by omega, hB445, hF446⟩
                ·
                  (try dsimp only); simp only [List.length_drop]; omega
      ·
        refine exit ?_
        refine ke46 _ _ _ ?_
        refine ke42 _ _ _ ?_
        refine kb33 _ _ ?_
        refine kn26 _ _ ?_
        refine seqK fun Q451 kn452 kr453 ke454 => ?_
        refine region ?_
        refine st_q (v := .slice aO acc.length cO) (x_load1 T.na29 rfl (hB.one 0 rfl)) ?_
        refine st_q (v := .slice aO acc.length cO) (x_assign rfl) ?_
        refine st_nil ?_
        refine kn452 _ _ ?_
        refine ret ?_
        refine leave1 (P := Try.prog) (fn := Try.f64) (t := 12) (v := .slice aO acc.length cO) rfl rfl ?_
        have e : wk l r bo A B = acc := by rw [← hW, List.eq_nil_of_length_eq_zero (show X.length = 0 by omega), List.eq_nil_of_length_eq_zero (show Y.length = 0 by omega)]; simp [wk]
        rw [e]
        exact ⟨_, rfl, hx37, hO⟩

set_option maxHeartbeats 4000000 in
theorem union39 (A B : List (Int × Int)) (va vb : Value) (w0 : World) (ha : Src w0.heap va A.length 2 (flat enT A)) (hb : Src w0.heap vb B.length 2 (flat enT B)) (hn : A.length + B.length ≤ 4398046511104) : Calls Try.prog 39 #[va, vb, (.func (.func 20) #[] #[])] w0 fun e w' => ∃ v, e = .returned v ∧ Ext w0 w' ∧ Own w'.heap w0.heap.size 31 2 v (wk true true true A B).length (flat enT (wk true true true A B)) := by
  have hE0 : Below w0.heap.size w0 w0 := Below.refl _ _
  have hz0 := hE0.le
  obtain ⟨a, ca, rfl, hca, hca1⟩ := ha.form
  obtain ⟨b, cb, rfl, hcb, hcb1⟩ := hb.form
  refine enter Try.func39 rfl 11 Try.ntmps39 rfl ?_
  refine seqK fun Q1 kn2 kr3 ke4 => ?_
  refine region ?_
  refine st_q (v := .slice none 0 0) (x_assign rfl) ?_
  refine st_nil ?_
  refine kn2 _ _ ?_
  refine seqK fun Q5 kn6 kr7 ke8 => ?_
  refine region ?_
  refine st_q (v := .slice a A.length ca) (x_move rfl) ?_
  refine st_q (v := .slice b B.length cb) (x_move rfl) ?_
  refine st_q (v := (.func (.func 20) #[] #[])) (x_move rfl) ?_
  refine st_c (t_call [.slice a A.length ca, .slice b B.length cb, (.func (.func 20) #[] #[]), .bool true, .bool true, .bool true] T.cf64 rfl rfl) (walk64 true true true A B _ _ _ (ha.below hE0) (hb.below hE0) hn) ?_
  rintro _ w9 ⟨v11, rfl, hx10, hO12⟩
  refine ⟨_, rfl, ?_⟩
  have hE13 : Below w0.heap.size w0 w9 := hx10.e hE0 (Nat.le_refl _)
  have hz14 := hE13.le
  have hs15 := hx10.size
  have hO16 := hO12.weak (lo' := w0.heap.size) (by omega)
  obtain ⟨a17, c18, rfl, hm19, hm20⟩ := hO16.src.form
  refine st_q (v := .slice a17 ((wk true true true A B).length) c18) (x_assign rfl) ?_
  refine st_nil ?_
  refine kn6 _ _ ?_
  refine ret ?_
  refine leave1 (P := Try.prog) (fn := Try.f39) (t := 6) (v := .slice a17 ((wk true true true A B).length) c18) rfl rfl ?_
  exact ⟨_, rfl, hE13, hO16⟩

set_option maxHeartbeats 4000000 in
theorem meet40 (A B : List (Int × Int)) (va vb : Value) (w0 : World) (ha : Src w0.heap va A.length 2 (flat enT A)) (hb : Src w0.heap vb B.length 2 (flat enT B)) (hn : A.length + B.length ≤ 4398046511104) : Calls Try.prog 40 #[va, vb, (.func (.func 20) #[] #[])] w0 fun e w' => ∃ v, e = .returned v ∧ Ext w0 w' ∧ Own w'.heap w0.heap.size 31 2 v (wk false false true A B).length (flat enT (wk false false true A B)) := by
  have hE0 : Below w0.heap.size w0 w0 := Below.refl _ _
  have hz0 := hE0.le
  obtain ⟨a, ca, rfl, hca, hca1⟩ := ha.form
  obtain ⟨b, cb, rfl, hcb, hcb1⟩ := hb.form
  refine enter Try.func40 rfl 11 Try.ntmps40 rfl ?_
  refine seqK fun Q1 kn2 kr3 ke4 => ?_
  refine region ?_
  refine st_q (v := .slice none 0 0) (x_assign rfl) ?_
  refine st_nil ?_
  refine kn2 _ _ ?_
  refine seqK fun Q5 kn6 kr7 ke8 => ?_
  refine region ?_
  refine st_q (v := .slice a A.length ca) (x_move rfl) ?_
  refine st_q (v := .slice b B.length cb) (x_move rfl) ?_
  refine st_q (v := (.func (.func 20) #[] #[])) (x_move rfl) ?_
  refine st_c (t_call [.slice a A.length ca, .slice b B.length cb, (.func (.func 20) #[] #[]), .bool false, .bool false, .bool true] T.cf64 rfl rfl) (walk64 false false true A B _ _ _ (ha.below hE0) (hb.below hE0) hn) ?_
  rintro _ w9 ⟨v11, rfl, hx10, hO12⟩
  refine ⟨_, rfl, ?_⟩
  have hE13 : Below w0.heap.size w0 w9 := hx10.e hE0 (Nat.le_refl _)
  have hz14 := hE13.le
  have hs15 := hx10.size
  have hO16 := hO12.weak (lo' := w0.heap.size) (by omega)
  obtain ⟨a17, c18, rfl, hm19, hm20⟩ := hO16.src.form
  refine st_q (v := .slice a17 ((wk false false true A B).length) c18) (x_assign rfl) ?_
  refine st_nil ?_
  refine kn6 _ _ ?_
  refine ret ?_
  refine leave1 (P := Try.prog) (fn := Try.f40) (t := 6) (v := .slice a17 ((wk false false true A B).length) c18) rfl rfl ?_
  exact ⟨_, rfl, hE13, hO16⟩

set_option maxHeartbeats 4000000 in
theorem minus41 (A B : List (Int × Int)) (va vb : Value) (w0 : World) (ha : Src w0.heap va A.length 2 (flat enT A)) (hb : Src w0.heap vb B.length 2 (flat enT B)) (hn : A.length + B.length ≤ 4398046511104) : Calls Try.prog 41 #[va, vb, (.func (.func 20) #[] #[])] w0 fun e w' => ∃ v, e = .returned v ∧ Ext w0 w' ∧ Own w'.heap w0.heap.size 31 2 v (wk true false false A B).length (flat enT (wk true false false A B)) := by
  have hE0 : Below w0.heap.size w0 w0 := Below.refl _ _
  have hz0 := hE0.le
  obtain ⟨a, ca, rfl, hca, hca1⟩ := ha.form
  obtain ⟨b, cb, rfl, hcb, hcb1⟩ := hb.form
  refine enter Try.func41 rfl 11 Try.ntmps41 rfl ?_
  refine seqK fun Q1 kn2 kr3 ke4 => ?_
  refine region ?_
  refine st_q (v := .slice none 0 0) (x_assign rfl) ?_
  refine st_nil ?_
  refine kn2 _ _ ?_
  refine seqK fun Q5 kn6 kr7 ke8 => ?_
  refine region ?_
  refine st_q (v := .slice a A.length ca) (x_move rfl) ?_
  refine st_q (v := .slice b B.length cb) (x_move rfl) ?_
  refine st_q (v := (.func (.func 20) #[] #[])) (x_move rfl) ?_
  refine st_c (t_call [.slice a A.length ca, .slice b B.length cb, (.func (.func 20) #[] #[]), .bool true, .bool false, .bool false] T.cf64 rfl rfl) (walk64 true false false A B _ _ _ (ha.below hE0) (hb.below hE0) hn) ?_
  rintro _ w9 ⟨v11, rfl, hx10, hO12⟩
  refine ⟨_, rfl, ?_⟩
  have hE13 : Below w0.heap.size w0 w9 := hx10.e hE0 (Nat.le_refl _)
  have hz14 := hE13.le
  have hs15 := hx10.size
  have hO16 := hO12.weak (lo' := w0.heap.size) (by omega)
  obtain ⟨a17, c18, rfl, hm19, hm20⟩ := hO16.src.form
  refine st_q (v := .slice a17 ((wk true false false A B).length) c18) (x_assign rfl) ?_
  refine st_nil ?_
  refine kn6 _ _ ?_
  refine ret ?_
  refine leave1 (P := Try.prog) (fn := Try.f41) (t := 6) (v := .slice a17 ((wk true false false A B).length) c18) rfl rfl ?_
  exact ⟨_, rfl, hE13, hO16⟩

set_option maxHeartbeats 4000000 in
theorem refminL44 (A B : List (Int × Int)) (va vb : Value) (w0 : World) (ha : Src w0.heap va A.length 2 (flat enT A)) (hb : Src w0.heap vb B.length 2 (flat enT B)) (hn : A.length + B.length ≤ 4398046511104) : Calls Try.prog 44 #[va, vb] w0 fun e w' => ∃ v, e = .returned v ∧ Ext w0 w' ∧ Own w'.heap w0.heap.size 31 2 v (minL A B).length (flat enT (minL A B)) := by
  have hE0 : Below w0.heap.size w0 w0 := Below.refl _ _
  have hz0 := hE0.le
  obtain ⟨a, ca, rfl, hca, hca1⟩ := ha.form
  obtain ⟨b, cb, rfl, hcb, hcb1⟩ := hb.form
  refine enter Try.func44 rfl 28 Try.ntmps44 rfl ?_
  refine seqK fun Q1 kn2 kr3 ke4 => ?_
  refine region ?_
  refine st_q (v := .slice none 0 0) (x_assign rfl) ?_
  refine st_nil ?_
  refine kn2 _ _ ?_
  refine seqK fun Q5 kn6 kr7 ke8 => ?_
  refine region ?_
  refine st_q (v := .slice none 0 0) (x_assign rfl) ?_
  refine st_nil ?_
  refine kn6 _ _ ?_
  refine seqK fun Q9 kn10 kr11 ke12 => ?_
  refine seqK fun Q13 kn14 kr15 ke16 => ?_
  refine region ?_
  refine st_q (v := .int .i64 ((0 : Nat) : Int)) (x_assign rfl) ?_
  refine st_nil ?_
  refine kn14 _ _ ?_
  refine blockK fun Q17 kn18 kr19 kx20 kb21 => ?_
  refine loopK (α := Nat × Value) (fun x => [(0, .slice a A.length ca), (1, .slice b B.length cb), (5, x.2), (6, .int .i64 ((x.1 : Nat) : Int))]) (fun x w22 => Below w0.heap.size w0 w22 ∧ x.1 ≤ A.length ∧ Own w22.heap w0.heap.size 31 2 x.2 (minL (A.take x.1) B).length (flat enT (minL (A.take x.1) B))) (fun x => A.length - x.1) (0, .slice none 0 0) ⟨rfl, rfl, rfl, rfl, trivial⟩ ?_ ?_
  ·
    refine ⟨hE0, ?_⟩
    try dsimp only
    exact ⟨Nat.zero_le _, Own.nil _ _ _ _⟩
  ·
    rintro τ23 ⟨i, v⟩ w24 ⟨hx25, ⟨hi, hO⟩⟩
    try dsimp only at hi hO
    have hz26 := hx25.le
    intro Q27 kn28 kr29 ke30
    have hm : (minL (A.take i) B).length ≤ i := Nat.le_trans (minL_len _ _) (by rw [List.length_take]; omega)
    obtain ⟨D, hD⟩ : ∃ D, D = minL (A.take i) B := ⟨_, rfl⟩
    rw [← hD] at hO hm
    obtain ⟨aD, cD, rfl, hcD, hcD1⟩ := hO.src.form
    refine seqK fun Q31 kn32 kr33 ke34 => ?_
    refine seqK fun Q35 kn36 kr37 ke38 => ?_
    refine region ?_
    refine st_q (v := .int .i64 ((i : Nat) : Int)) (x_move rfl) ?_
    refine st_q (v := .slice a A.length ca) (x_move rfl) ?_
    refine st_q (v := .int .i64 ((A.length : Nat) : Int)) (x_lenSl rfl Try.underlying29 rfl) ?_
    refine st_q (v := .bool (decide (i < A.length))) (x_lssN rfl rfl) ?_
    refine st_nil ?_
    refine kn36 _ _ ?_
    refine cnd (p := i < A.length) rfl (fun h39 => ?_) (fun h39 => ?_)
    ·
      refine skip ?_
      refine kn32 _ _ ?_
      refine seqK fun Q40 kn41 kr42 ke43 => ?_
      refine blockK fun Q44 kn45 kr46 kx47 kb48 => ?_
      refine seqK fun Q49 kn50 kr51 ke52 => ?_
      refine region ?_
      refine st_q (v := .slice b B.length cb) (x_move rfl) ?_
      refine st_q (v := .slice a A.length ca) (x_move rfl) ?_
      refine st_q (v := .int .i64 ((i : Nat) : Int)) (x_move rfl) ?_
      obtain ⟨b53, o54, ha55, hc56⟩ := ha.at (by omega)
      refine st_q (v := .pointer (some ⟨b53, o54 + i * 2, none⟩)) (x_index' T.sl29 rfl ha55 rfl (by omega)) ?_
      refine st_q (v := .agg #[.int .i64 ((el A i).1), .int .i64 ((el A i).2)]) (x_loadA [.int .i64 ((el A i).1), .int .i64 ((el A i).2)] T.ag31 rfl ((hc56.below hx25).elem enT_len (i := i) (by omega))) ?_
      refine st_c (t_call [.slice b B.length cb, .agg #[.int .i64 ((el A i).1), .int .i64 ((el A i).2)]] T.cf54 rfl rfl) (has54 B (el A i) _ _ (hb.below hx25)) ?_
      rintro _ w57 ⟨he, hx58⟩
      rw [b_dec (hasB B (el A i))] at he
      subst he
      refine ⟨_, rfl, ?_⟩
      have hF59 := hO.ext hx58
      have hE60 : Below w0.heap.size w0 w57 := hx58.e hx25 (Nat.le_refl _)
      have hz61 := hE60.le
      have hs62 := hx58.size
      refine st_q (v := .bool (decide (¬ (hasB B (el A i) = true)))) (x_notP rfl) ?_
      refine st_nil ?_
      refine kn50 _ _ ?_
      refine cnd (p := ¬ (hasB B (el A i) = true)) rfl (fun h63 => ?_) (fun h63 => ?_)
      ·
        refine region ?_
        refine st_q (v := .slice aD D.length cD) (x_move rfl) ?_
        refine st_q (v := .slice a A.length ca) (x_move rfl) ?_
        refine st_q (v := .int .i64 ((i : Nat) : Int)) (x_move rfl) ?_
        refine st_q (v := .pointer (some ⟨b53, o54 + i * 2, none⟩)) (x_index' T.sl29 rfl ha55 rfl (by omega)) ?_
        refine st_q (v := .agg #[.int .i64 ((el A i).1), .int .i64 ((el A i).2)]) (x_loadA [.int .i64 ((el A i).1), .int .i64 ((el A i).2)] T.ag31 rfl ((hc56.below hE60).elem enT_len (i := i) (by omega))) ?_
        refine st_e (e_buildSlice (cs := [.int .i64 ((el A i).1), .int .i64 ((el A i).2)]) (e := 31) (fun _ => by kernel_rfl) ?_)
        intro w64 hA65
        have hx66 := hA65.ext
        have hs67 := hA65.size
        have hB68 : Blk w64.heap w57.heap.size [.int .i64 ((el A i).1), .int .i64 ((el A i).2)] 31 := hA65.new
        have hF69 := hF59.ext hx66
        have hE70 : Below w0.heap.size w0 w64 := hx66.e hE60 (Nat.le_refl _)
        have hz71 := hE70.le
        have hs72 := hx66.size
        refine st_e (e_appendX T.sl29 rfl rfl hF69 (hB68.src1 (k := 2) (m := 1) rfl (by omega)) (ones (by rfl)) (by omega) (by decide) (by omega) ?_)
        intro v73 w74 hO75 hG76 hN77 hW78
        have hE79 : Below w0.heap.size w0 w74 := grown_below hG76 hE70 (Nat.le_refl _) (fun b hb => (by have := (hF69.lt hb).1; clear hb; omega))
        have hz80 := hE79.le
        have hs81 := hG76.size
        have hO82 := Own.snoc (enc := enT) (u := (el A i)) hO75
        obtain ⟨a83, c84, rfl, hm85, hm86⟩ := hO82.src.form
        refine st_q (v := .slice a83 ((D.length + 1)) c84) (x_assign rfl) ?_
        refine st_nil ?_
        refine kn45 _ _ ?_
        refine kn41 _ _ ?_
        refine region ?_
        refine st_q (v := .int .i64 ((i : Nat) : Int)) (x_move rfl) ?_
        refine st_q (v := .int .i64 (((i + 1) : Nat) : Int)) (x_addN rfl rfl (by omega)) ?_
        refine st_q (v := .int .i64 (((i + 1) : Nat) : Int)) (x_assign rfl) ?_
        refine st_nil ?_
        refine kn28 _ ((i + 1), .slice a83 ((D.length + 1)) c84) _ ⟨rfl, rfl, rfl, rfl, trivial⟩ ⟨hE79, ?_⟩ ?_
        ·
          try dsimp only
          have e : minL (A.take (i + 1)) B = (D ++ [(el A i)]) := by rw [minL_step (by omega), ← hD, if_neg (by assumption)]
          exact ⟨by omega, by rw [e]; simpa using hO82⟩
        ·
          (try dsimp only); omega
      ·
        refine skip ?_
        refine kn45 _ _ ?_
        refine kn41 _ _ ?_
        refine region ?_
        refine st_q (v := .int .i64 ((i : Nat) : Int)) (x_move rfl) ?_
        refine st_q (v := .int .i64 (((i + 1) : Nat) : Int)) (x_addN rfl rfl (by omega)) ?_
        refine st_q (v := .int .i64 (((i + 1) : Nat) : Int)) (x_assign rfl) ?_
        refine st_nil ?_
        refine kn28 _ ((i + 1), .slice aD D.length cD) _ ⟨rfl, rfl, rfl, rfl, trivial⟩ ⟨hE60, ?_⟩ ?_
        ·
          try dsimp only
          have e : minL (A.take (i + 1)) B = D := by rw [minL_step (by omega), ← hD, if_pos (Decidable.of_not_not (by assumption))]; simp
          exact ⟨by omega, by rw [e]; exact hF59⟩
        ·
          (try dsimp only); omega
    ·
      refine exit ?_
      refine ke34 _ _ _ ?_
      refine ke30 _ _ _ ?_
      refine kb21 _ _ ?_
      refine kn10 _ _ ?_
      refine seqK fun Q87 kn88 kr89 ke90 => ?_
      refine region ?_
      refine st_q (v := .slice aD D.length cD) (x_move rfl) ?_
      refine st_q (v := .slice aD D.length cD) (x_assign rfl) ?_
      refine st_nil ?_
      refine kn88 _ _ ?_
      refine ret ?_
      refine leave1 (P := Try.prog) (fn := Try.f44) (t := 4) (v := .slice aD D.length cD) rfl rfl ?_
      have e : minL A B = D := by rw [hD, List.take_of_length_le (by omega)]
      rw [e]
      exact ⟨_, rfl, hx25, hO⟩

set_option maxHeartbeats 4000000 in
theorem refmeetL43 (A B : List (Int × Int)) (va vb : Value) (w0 : World) (ha : Src w0.heap va A.length 2 (flat enT A)) (hb : Src w0.heap vb B.length 2 (flat enT B)) (hn : A.length + B.length ≤ 4398046511104) : Calls Try.prog 43 #[va, vb] w0 fun e w' => ∃ v, e = .returned v ∧ Ext w0 w' ∧ Own w'.heap w0.heap.size 31 2 v (meetL A B).length (flat enT (meetL A B)) := by
  have hE0 : Below w0.heap.size w0 w0 := Below.refl _ _
  have hz0 := hE0.le
  obtain ⟨a, ca, rfl, hca, hca1⟩ := ha.form
  obtain ⟨b, cb, rfl, hcb, hcb1⟩ := hb.form
  refine enter Try.func43 rfl 27 Try.ntmps43 rfl ?_
  refine seqK fun Q1 kn2 kr3 ke4 => ?_
  refine region ?_
  refine st_q (v := .slice none 0 0) (x_assign rfl) ?_
  refine st_nil ?_
  refine kn2 _ _ ?_
  refine seqK fun Q5 kn6 kr7 ke8 => ?_
  refine region ?_
  refine st_q (v := .slice none 0 0) (x_assign rfl) ?_
  refine st_nil ?_
  refine kn6 _ _ ?_
  refine seqK fun Q9 kn10 kr11 ke12 => ?_
  refine seqK fun Q13 kn14 kr15 ke16 => ?_
  refine region ?_
  refine st_q (v := .int .i64 ((0 : Nat) : Int)) (x_assign rfl) ?_
  refine st_nil ?_
  refine kn14 _ _ ?_
  refine blockK fun Q17 kn18 kr19 kx20 kb21 => ?_
  refine loopK (α := Nat × Value) (fun x => [(0, .slice a A.length ca), (1, .slice b B.length cb), (5, x.2), (6, .int .i64 ((x.1 : Nat) : Int))]) (fun x w22 => Below w0.heap.size w0 w22 ∧ x.1 ≤ A.length ∧ Own w22.heap w0.heap.size 31 2 x.2 (meetL (A.take x.1) B).length (flat enT (meetL (A.take x.1) B))) (fun x => A.length - x.1) (0, .slice none 0 0) ⟨rfl, rfl, rfl, rfl, trivial⟩ ?_ ?_
  ·
    refine ⟨hE0, ?_⟩
    try dsimp only
    exact ⟨Nat.zero_le _, Own.nil _ _ _ _⟩
  ·
    rintro τ23 ⟨i, v⟩ w24 ⟨hx25, ⟨hi, hO⟩⟩
    try dsimp only at hi hO
    have hz26 := hx25.le
    intro Q27 kn28 kr29 ke30
    have hm : (meetL (A.take i) B).length ≤ i := Nat.le_trans (meetL_len _ _) (by rw [List.length_take]; omega)
    obtain ⟨D, hD⟩ : ∃ D, D = meetL (A.take i) B := ⟨_, rfl⟩
    rw [← hD] at hO hm
    obtain ⟨aD, cD, rfl, hcD, hcD1⟩ := hO.src.form
    refine seqK fun Q31 kn32 kr33 ke34 => ?_
    refine seqK fun Q35 kn36 kr37 ke38 => ?_
    refine region ?_
    refine st_q (v := .int .i64 ((i : Nat) : Int)) (x_move rfl) ?_
    refine st_q (v := .slice a A.length ca) (x_move rfl) ?_
    refine st_q (v := .int .i64 ((A.length : Nat) : Int)) (x_lenSl rfl Try.underlying29 rfl) ?_
    refine st_q (v := .bool (decide (i < A.length))) (x_lssN rfl rfl) ?_
    refine st_nil ?_
    refine kn36 _ _ ?_
    refine cnd (p := i < A.length) rfl (fun h39 => ?_) (fun h39 => ?_)
    ·
      refine skip ?_
      refine kn32 _ _ ?_
      refine seqK fun Q40 kn41 kr42 ke43 => ?_
      refine blockK fun Q44 kn45 kr46 kx47 kb48 => ?_
      refine seqK fun Q49 kn50 kr51 ke52 => ?_
      refine region ?_
      refine st_q (v := .slice b B.length cb) (x_move rfl) ?_
      refine st_q (v := .slice a A.length ca) (x_move rfl) ?_
      refine st_q (v := .int .i64 ((i : Nat) : Int)) (x_move rfl) ?_
      obtain ⟨b53, o54, ha55, hc56⟩ := ha.at (by omega)
      refine st_q (v := .pointer (some ⟨b53, o54 + i * 2, none⟩)) (x_index' T.sl29 rfl ha55 rfl (by omega)) ?_
      refine st_q (v := .agg #[.int .i64 ((el A i).1), .int .i64 ((el A i).2)]) (x_loadA [.int .i64 ((el A i).1), .int .i64 ((el A i).2)] T.ag31 rfl ((hc56.below hx25).elem enT_len (i := i) (by omega))) ?_
      refine st_c (t_call [.slice b B.length cb, .agg #[.int .i64 ((el A i).1), .int .i64 ((el A i).2)]] T.cf54 rfl rfl) (has54 B (el A i) _ _ (hb.below hx25)) ?_
      rintro _ w57 ⟨he, hx58⟩
      rw [b_dec (hasB B (el A i))] at he
      subst he
      refine ⟨_, rfl, ?_⟩
      have hF59 := hO.ext hx58
      have hE60 : Below w0.heap.size w0 w57 := hx58.e hx25 (Nat.le_refl _)
      have hz61 := hE60.le
      have hs62 := hx58.size
      refine st_nil ?_
      refine kn50 _ _ ?_
      refine cnd (p := hasB B (el A i) = true) rfl (fun h63 => ?_) (fun h63 => ?_)
      ·
        refine region ?_
        refine st_q (v := .slice aD D.length cD) (x_move rfl) ?_
        refine st_q (v := .slice a A.length ca) (x_move rfl) ?_
        refine st_q (v := .int .i64 ((i : Nat) : Int)) (x_move rfl) ?_
        refine st_q (v := .pointer (some ⟨b53, o54 + i * 2, none⟩)) (x_index' T.sl29 rfl ha55 rfl (by omega)) ?_
        refine st_q (v := .agg #[.int .i64 ((el A i).1), .int .i64 ((el A i).2)]) (x_loadA [.int .i64 ((el A i).1), .int .i64 ((el A i).2)] T.ag31 rfl ((hc56.below hE60).elem enT_len (i := i) (by omega))) ?_
        refine st_e (e_buildSlice (cs := [.int .i64 ((el A i).1), .int .i64 ((el A i).2)]) (e := 31) (fun _ => by kernel_rfl) ?_)
        intro w64 hA65
        have hx66 := hA65.ext
        have hs67 := hA65.size
        have hB68 : Blk w64.heap w57.heap.size [.int .i64 ((el A i).1), .int .i64 ((el A i).2)] 31 := hA65.new
        have hF69 := hF59.ext hx66
        have hE70 : Below w0.heap.size w0 w64 := hx66.e hE60 (Nat.le_refl _)
        have hz71 := hE70.le
        have hs72 := hx66.size
        refine st_e (e_appendX T.sl29 rfl rfl hF69 (hB68.src1 (k := 2) (m := 1) rfl (by omega)) (ones (by rfl)) (by omega) (by decide) (by omega) ?_)
        intro v73 w74 hO75 hG76 hN77 hW78
        have hE79 : Below w0.heap.size w0 w74 := grown_below hG76 hE70 (Nat.le_refl _) (fun b hb => (by have := (hF69.lt hb).1; clear hb; omega))
        have hz80 := hE79.le
        have hs81 := hG76.size
        have hO82 := Own.snoc (enc := enT) (u := (el A i)) hO75
        obtain ⟨a83, c84, rfl, hm85, hm86⟩ := hO82.src.form
        refine st_q (v := .slice a83 ((D.length + 1)) c84) (x_assign rfl) ?_
        refine st_nil ?_
        refine kn45 _ _ ?_
        refine kn41 _ _ ?_
        refine region ?_
        refine st_q (v := .int .i64 ((i : Nat) : Int)) (x_move rfl) ?_
        refine st_q (v := .int .i64 (((i + 1) : Nat) : Int)) (x_addN rfl rfl (by omega)) ?_
        refine st_q (v := .int .i64 (((i + 1) : Nat) : Int)) (x_assign rfl) ?_
        refine st_nil ?_
        refine kn28 _ ((i + 1), .slice a83 ((D.length + 1)) c84) _ ⟨rfl, rfl, rfl, rfl, trivial⟩ ⟨hE79, ?_⟩ ?_
        ·
          try dsimp only
          have e : meetL (A.take (i + 1)) B = (D ++ [(el A i)]) := by rw [meetL_step (by omega), ← hD, if_pos (by assumption)]
          exact ⟨by omega, by rw [e]; simpa using hO82⟩
        ·
          (try dsimp only); omega
      ·
        refine skip ?_
        refine kn45 _ _ ?_
        refine kn41 _ _ ?_
        refine region ?_
        refine st_q (v := .int .i64 ((i : Nat) : Int)) (x_move rfl) ?_
        refine st_q (v := .int .i64 (((i + 1) : Nat) : Int)) (x_addN rfl rfl (by omega)) ?_
        refine st_q (v := .int .i64 (((i + 1) : Nat) : Int)) (x_assign rfl) ?_
        refine st_nil ?_
        refine kn28 _ ((i + 1), .slice aD D.length cD) _ ⟨rfl, rfl, rfl, rfl, trivial⟩ ⟨hE60, ?_⟩ ?_
        ·
          try dsimp only
          have e : meetL (A.take (i + 1)) B = D := by rw [meetL_step (by omega), ← hD, if_neg (by assumption)]; simp
          exact ⟨by omega, by rw [e]; exact hF59⟩
        ·
          (try dsimp only); omega
    ·
      refine exit ?_
      refine ke34 _ _ _ ?_
      refine ke30 _ _ _ ?_
      refine kb21 _ _ ?_
      refine kn10 _ _ ?_
      refine seqK fun Q87 kn88 kr89 ke90 => ?_
      refine region ?_
      refine st_q (v := .slice aD D.length cD) (x_move rfl) ?_
      refine st_q (v := .slice aD D.length cD) (x_assign rfl) ?_
      refine st_nil ?_
      refine kn88 _ _ ?_
      refine ret ?_
      refine leave1 (P := Try.prog) (fn := Try.f43) (t := 4) (v := .slice aD D.length cD) rfl rfl ?_
      have e : meetL A B = D := by rw [hD, List.take_of_length_le (by omega)]
      rw [e]
      exact ⟨_, rfl, hx25, hO⟩

set_option maxHeartbeats 4000000 in
theorem refunion42 (A B : List (Int × Int)) (va vb : Value) (w0 : World) (ha : Src w0.heap va A.length 2 (flat enT A)) (hb : Src w0.heap vb B.length 2 (flat enT B)) (hn : A.length + B.length ≤ 4398046511104) : Calls Try.prog 42 #[va, vb] w0 fun e w' => ∃ v, e = .returned v ∧ Ext w0 w' ∧ Own w'.heap w0.heap.size 31 2 v (srt byc (A ++ minL B A)).length (flat enT (srt byc (A ++ minL B A))) := by
  have hE0 : Below w0.heap.size w0 w0 := Below.refl _ _
  have hz0 := hE0.le
  obtain ⟨a, ca, rfl, hca, hca1⟩ := ha.form
  obtain ⟨b, cb, rfl, hcb, hcb1⟩ := hb.form
  have hml := minL_len B A
  refine enter Try.func42 rfl 13 Try.ntmps42 rfl ?_
  refine seqK fun Q1 kn2 kr3 ke4 => ?_
  refine region ?_
  refine st_q (v := .slice none 0 0) (x_assign rfl) ?_
  refine st_nil ?_
  refine kn2 _ _ ?_
  refine seqK fun Q5 kn6 kr7 ke8 => ?_
  refine region ?_
  refine st_e (e_buildSlice (cs := []) (e := 31) (fun _ => by kernel_rfl) ?_)
  intro w9 hA10
  have hx11 := hA10.ext
  have hs12 := hA10.size
  have hB13 : Blk w9.heap w0.heap.size [] 31 := hA10.new
  have hE14 : Below w0.heap.size w0 w9 := hx11.e hE0 (Nat.le_refl _)
  have hz15 := hE14.le
  have hs16 := hx11.size
  refine st_q (v := .slice a A.length ca) (x_move rfl) ?_
  have hO22 := hB13.own0 (k := 2) (lo := w0.heap.size) (by omega)
  refine st_e (e_appendX T.sl29 rfl rfl hO22 (ha.below hE14) (ones (by exact flat_ones)) (by omega) (by decide) (by omega) ?_)
  intro v17 w18 hO19 hG20 hN21 hW23
  have hE24 : Below w0.heap.size w0 w18 := grown_below hG20 hE14 (Nat.le_refl _) (fun b hb => (by have := (hO22.lt hb).1; clear hb; omega))
  have hz25 := hE24.le
  have hs26 := hG20.size
  have hO27 := hO19.zero
  obtain ⟨a28, c29, rfl, hm30, hm31⟩ := hO27.src.form
  refine st_q (v := .slice b B.length cb) (x_move rfl) ?_
  refine st_q (v := .slice a A.length ca) (x_move rfl) ?_
  refine st_c (t_call [.slice b B.length cb, .slice a A.length ca] T.cf44 rfl rfl) (refminL44 B A _ _ _ (hb.below hE24) (ha.below hE24) (by omega)) ?_
  rintro _ w32 ⟨v34, rfl, hx33, hO35⟩
  refine ⟨_, rfl, ?_⟩
  have hF36 := hO27.ext hx33
  have hE37 : Below w0.heap.size w0 w32 := hx33.e hE24 (Nat.le_refl _)
  have hz38 := hE37.le
  have hs39 := hx33.size
  have hO40 := hO35.weak (lo' := w0.heap.size) (by omega)
  obtain ⟨a41, c42, rfl, hm43, hm44⟩ := hO40.src.form
  refine st_e (e_appendX T.sl29 rfl rfl hF36 hO40.src (ones (by exact flat_ones)) (by omega) (by decide) (by omega) ?_)
  intro v45 w46 hO47 hG48 hN49 hW50
  have hE52 : Below w0.heap.size w0 w46 := grown_below hG48 hE37 (Nat.le_refl _) (fun b hb => (by have := (hF36.lt hb).1; clear hb; omega))
  have hz53 := hE52.le
  have hs54 := hG48.size
  have hO55 := hO47.app
  obtain ⟨a56, c57, rfl, hm58, hm59⟩ := hO55.src.form
  refine st_c (t_call [.slice a56 ((A.length + (minL B A).length)) c57] T.cf17 rfl rfl) (refsort17 (A ++ minL B A) _ _ (by rw [List.length_append]; exact hO55.src) (by rw [List.length_append]; omega)) ?_
  rintro _ w60 ⟨v62, rfl, hx61, hO63⟩
  refine ⟨_, rfl, ?_⟩
  have hF64 := hO55.ext hx61
  have hE65 : Below w0.heap.size w0 w60 := hx61.e hE52 (Nat.le_refl _)
  have hz66 := hE65.le
  have hs67 := hx61.size
  have hO68 := hO63.weak (lo' := w0.heap.size) (by omega)
  obtain ⟨a69, c70, rfl, hm71, hm72⟩ := hO68.src.form
  refine st_q (v := .slice a69 ((A ++ minL B A).length) c70) (x_assign rfl) ?_
  refine st_nil ?_
  refine kn6 _ _ ?_
  refine ret ?_
  refine leave1 (P := Try.prog) (fn := Try.f42) (t := 4) (v := .slice a69 ((A ++ minL B A).length) c70) rfl rfl ?_
  rw [srt_length]
  exact ⟨_, rfl, hE65, hO68⟩

end Go.Proofs.Ytgfolockecjlnaa
