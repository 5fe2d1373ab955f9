import Derived.Test.YtknfjgbipfpnjaaG1
namespace Go.Proofs.Ytknfjgbipfpnjaa
open Go.RowKit Go.Eng Go.OrdPure
theorem T.cf44 : CF Try.prog 44 := fun _ _ => by kernel_rfl
theorem T.cf49 : CF Try.prog 49 := fun _ _ => by kernel_rfl

def insS (z : ByteArray) : List ByteArray → List ByteArray
  | [] => [z]
  | y :: ys => if Op.bytesLess z.toList y.toList = true then z :: y :: ys else y :: insS z ys
def putL (xs : List ByteArray) (z : ByteArray) : List ByteArray := if inB xs z = true then xs else insS z xs
theorem insS_end {z : ByteArray} : ∀ {l : List ByteArray}, (∀ y ∈ l, ¬ Op.bytesLess z.toList y.toList = true) → insS z l = l ++ [z]
  | [], _ => rfl
  | y :: ys, h => by rw [insS, if_neg (h y (by simp)), insS_end (fun y hy => h y (by simp [hy]))]; rfl
theorem insS_new {z x : ByteArray} (hx : Op.bytesLess z.toList x.toList = true) : ∀ {l : List ByteArray}, (∀ y ∈ l, ¬ Op.bytesLess z.toList y.toList = true) → insS z (l ++ [x]) = l ++ [z] ++ [x]
  | [], _ => by simp [insS, hx]
  | y :: ys, h => by rw [List.cons_append, insS, if_neg (h y (by simp)), insS_new hx (fun y hy => h y (by simp [hy]))]; rfl
theorem insS_done {z x : ByteArray} : ∀ {l : List ByteArray}, (∃ y ∈ l, Op.bytesLess z.toList y.toList = true) → insS z (l ++ [x]) = insS z l ++ [x]
  | [], h => by simp at h
  | y :: ys, h => by
    rw [List.cons_append, insS, insS]
    split
    · rfl
    · rename_i hn
      rw [insS_done (by obtain ⟨u, hu, hl⟩ := h; rcases List.mem_cons.1 hu with rfl | hu; exact absurd hl hn; exact ⟨u, hu, hl⟩)]; rfl
theorem insS_len (z : ByteArray) : ∀ l : List ByteArray, (insS z l).length = l.length + 1
  | [] => rfl
  | y :: ys => by rw [insS]; split <;> simp [insS_len z ys]
def putG (d : Bool) (z : ByteArray) (l : List ByteArray) : List ByteArray := if d = true then insS z l else l
theorem putG_len (d : Bool) (z : ByteArray) (l : List ByteArray) : (putG d z l).length ≤ l.length + 1 := by unfold putG; split <;> simp [insS_len]
theorem mem_take_el {xs : List ByteArray} {i : Nat} {y : ByteArray} (h : y ∈ xs.take i) : ∃ j, j < i ∧ j < xs.length ∧ el xs j = y := by
  obtain ⟨j, hj, rfl⟩ := List.getElem_of_mem h
  rw [List.length_take] at hj
  exact ⟨j, by omega, by omega, by rw [el_eq (by omega), List.getElem_take]⟩
theorem take_mem_el {xs : List ByteArray} {i j : Nat} (h : j < i) (hj : j < xs.length) : el xs j ∈ xs.take i := by
  rw [el_eq hj, List.mem_take_iff_getElem]
  exact ⟨j, by omega, rfl⟩
def Dn (d : Bool) (z : ByteArray) (xs : List ByteArray) (i : Nat) : Prop := d = true ↔ ∃ j, j < i ∧ Op.bytesLess z.toList (el xs j).toList = true
theorem put1 {d : Bool} {z : ByteArray} {xs : List ByteArray} {i : Nat} (hd : Dn d z xs i) (hn : ¬ d = true) (hi : i < xs.length) (hx : Op.bytesLess z.toList (el xs i).toList = true) : putG true z (xs.take (i + 1)) = putG d z (xs.take i) ++ [z] ++ [el xs i] ∧ Dn true z xs (i + 1) := by
  refine ⟨?_, fun _ => ⟨i, by omega, hx⟩, fun _ => rfl⟩
  rw [putG, if_pos rfl, putG, if_neg hn, take_succ_el hi, insS_new hx]
  intro y hy hl
  obtain ⟨j, hj, _, rfl⟩ := mem_take_el hy
  exact hn (hd.2 ⟨j, hj, hl⟩)
theorem put2 {d : Bool} {z : ByteArray} {xs : List ByteArray} {i : Nat} (hd : Dn d z xs i) (hi : i < xs.length) (hx : d = true ∨ ¬ Op.bytesLess z.toList (el xs i).toList = true) : putG d z (xs.take (i + 1)) = putG d z (xs.take i) ++ [el xs i] ∧ Dn d z xs (i + 1) := by
  constructor
  · rw [take_succ_el hi]
    by_cases h : d = true
    · obtain ⟨j, hj, hl⟩ := hd.1 h
      rw [putG, putG, if_pos h, if_pos h, insS_done ⟨el xs j, take_mem_el hj (by omega), hl⟩]
    · rw [putG, putG, if_neg h, if_neg h]
  · constructor
    · intro h
      obtain ⟨j, hj, hl⟩ := hd.1 h
      exact ⟨j, by omega, hl⟩
    · rintro ⟨j, hj, hl⟩
      by_cases e : j = i
      · subst e; exact hx.resolve_right (fun h => h hl)
      · exact hd.2 ⟨j, by omega, hl⟩
theorem put_end {d : Bool} {z : ByteArray} {xs : List ByteArray} (hd : Dn d z xs xs.length) (hn : ¬ d = true) : insS z xs = putG d z xs ++ [z] := by
  rw [putG, if_neg hn, insS_end]
  intro y hy hl
  obtain ⟨j, hj, rfl⟩ := List.getElem_of_mem hy
  exact hn (hd.2 ⟨j, hj, by rw [el_eq hj]; exact hl⟩)
theorem pl_ge {xs : List ByteArray} {z : ByteArray} : 0 ≤ pl xs z ↔ inB xs z = true := by
  unfold pl
  have : xs.findIdx (fun x => decide (x = z)) < xs.length ↔ inB xs z = true := by rw [List.findIdx_lt_length, inB, List.any_eq_true]
  split
  · rename_i h; exact ⟨fun _ => this.1 h, fun _ => by omega⟩
  · rename_i h; exact ⟨fun h' => by omega, fun h' => absurd (this.2 h') h⟩
set_option maxHeartbeats 4000000 in
theorem put49_in (xs : List ByteArray) (z : ByteArray) (vl : Value) (w0 : World) (hl : Src w0.heap vl xs.length 1 (flat enS xs)) (hz : inB xs z = true) : Calls Try.prog 49 #[vl, .string z] w0 fun e w' => e = .returned vl ∧ Ext w0 w' := by
  have hE0 : Below w0.heap.size w0 w0 := Below.refl _ _
  have hz0 := hE0.le
  obtain ⟨a, ca, rfl, hca, hca1⟩ := hl.form
  refine enter Try.func49 rfl 47 Try.ntmps49 rfl ?_
  refine seqK fun Q1 kn2 kr3 ke4 => ?_
  refine region ?_
  refine st_q (v := .slice none 0 0) (x_assign rfl) ?_
  refine st_nil ?_
  refine kn2 _ _ ?_
  refine seqK fun Q5 kn6 kr7 ke8 => ?_
  refine seqK fun Q9 kn10 kr11 ke12 => ?_
  refine region ?_
  refine st_q (v := .slice a xs.length ca) (x_move rfl) ?_
  refine st_q (v := .string z) (x_move rfl) ?_
  refine st_c (t_call [.slice a xs.length ca, .string z] T.cf44 rfl rfl) (place44 xs z _ _ (hl.below hE0)) ?_
  rintro _ w13 ⟨rfl, hx14⟩
  refine ⟨_, rfl, ?_⟩
  have hE15 : Below w0.heap.size w0 w13 := hx14.e hE0 (Nat.le_refl _)
  have hz16 := hE15.le
  have hs17 := hx14.size
  refine st_q (v := .bool (decide (0 ≤ (pl xs z)))) (x_geq rfl rfl) ?_
  refine st_nil ?_
  refine kn10 _ _ ?_
  refine cnd (p := 0 ≤ (pl xs z)) rfl (fun h18 => ?_) (fun h18 => ?_)
  ·
    refine seqK fun Q19 kn20 kr21 ke22 => ?_
    refine region ?_
    refine st_q (v := .slice a xs.length ca) (x_move rfl) ?_
    refine st_q (v := .slice a xs.length ca) (x_assign rfl) ?_
    refine st_nil ?_
    refine kn20 _ _ ?_
    refine ret ?_
    refine kr7 _ _ ?_
    refine leave1 (P := Try.prog) (fn := Try.f49) (t := 4) (v := .slice a xs.length ca) rfl rfl ?_
    exact ⟨rfl, hE15⟩
  ·
    exact absurd h18 (not_not_intro (pl_ge.2 hz))

set_option maxHeartbeats 4000000 in
theorem put49_new (xs : List ByteArray) (z : ByteArray) (vl : Value) (w0 : World) (hl : Src w0.heap vl xs.length 1 (flat enS xs)) (hz : inB xs z = false) (hn : xs.length ≤ 4194304) : Calls Try.prog 49 #[vl, .string z] w0 fun e w' => ∃ v, e = .returned v ∧ Ext w0 w' ∧ Own w'.heap w0.heap.size 9 1 v (putL xs z).length (flat enS (putL xs z)) := by
  have hE0 : Below w0.heap.size w0 w0 := Below.refl _ _
  have hz0 := hE0.le
  obtain ⟨a, ca, rfl, hca, hca1⟩ := hl.form
  refine enter Try.func49 rfl 47 Try.ntmps49 rfl ?_
  refine seqK fun Q1 kn2 kr3 ke4 => ?_
  refine region ?_
  refine st_q (v := .slice none 0 0) (x_assign rfl) ?_
  refine st_nil ?_
  refine kn2 _ _ ?_
  refine seqK fun Q5 kn6 kr7 ke8 => ?_
  refine seqK fun Q9 kn10 kr11 ke12 => ?_
  refine region ?_
  refine st_q (v := .slice a xs.length ca) (x_move rfl) ?_
  refine st_q (v := .string z) (x_move rfl) ?_
  refine st_c (t_call [.slice a xs.length ca, .string z] T.cf44 rfl rfl) (place44 xs z _ _ (hl.below hE0)) ?_
  rintro _ w13 ⟨rfl, hx14⟩
  refine ⟨_, rfl, ?_⟩
  have hE15 : Below w0.heap.size w0 w13 := hx14.e hE0 (Nat.le_refl _)
  have hz16 := hE15.le
  have hs17 := hx14.size
  refine st_q (v := .bool (decide (0 ≤ (pl xs z)))) (x_geq rfl rfl) ?_
  refine st_nil ?_
  refine kn10 _ _ ?_
  refine cnd (p := 0 ≤ (pl xs z)) rfl (fun h18 => ?_) (fun h18 => ?_)
  ·
    exact absurd h18 ((fun h => by rw [pl_ge, hz] at h; simp at h))
  ·
    refine skip ?_
    refine kn6 _ _ ?_
    refine seqK fun Q19 kn20 kr21 ke22 => ?_
    refine region ?_
    refine st_q (v := .slice none 0 0) (x_assign rfl) ?_
    refine st_nil ?_
    refine kn20 _ _ ?_
    refine seqK fun Q23 kn24 kr25 ke26 => ?_
    refine region ?_
    refine st_q (v := .bool false) (x_assign rfl) ?_
    refine st_nil ?_
    refine kn24 _ _ ?_
    refine seqK fun Q27 kn28 kr29 ke30 => ?_
    refine seqK fun Q31 kn32 kr33 ke34 => ?_
    refine region ?_
    refine st_q (v := .int .i64 ((0 : Nat) : Int)) (x_assign rfl) ?_
    refine st_nil ?_
    refine kn32 _ _ ?_
    refine blockK fun Q35 kn36 kr37 kx38 kb39 => ?_
    refine loopK (α := Nat × Bool × Value) (fun x => [(0, .slice a xs.length ca), (1, .string z), (5, x.2.2), (6, .bool (decide (x.2.1 = true))), (7, .int .i64 ((x.1 : Nat) : Int))]) (fun x w40 => Below w0.heap.size w0 w40 ∧ x.1 ≤ xs.length ∧ Dn x.2.1 z xs x.1 ∧ Own w40.heap w0.heap.size 9 1 x.2.2 (putG x.2.1 z (xs.take x.1)).length (flat enS (putG x.2.1 z (xs.take x.1)))) (fun x => xs.length - x.1) (0, false, .slice none 0 0) ⟨rfl, rfl, rfl, rfl, rfl, trivial⟩ ?_ ?_
    ·
      refine ⟨hE15, ?_⟩
      try dsimp only
      exact ⟨Nat.zero_le _, ⟨fun h => by simp at h, fun ⟨j, h, _⟩ => by omega⟩, Own.nil _ _ _ _⟩
    ·
      rintro τ41 ⟨i, d, v⟩ w42 ⟨hx43, ⟨hi, hdn, hO⟩⟩
      try dsimp only at hi hdn hO
      have hz44 := hx43.le
      intro Q45 kn46 kr47 ke48
      have hgl := putG_len d z (xs.take i)
      rw [List.length_take] at hgl
      obtain ⟨D, hD⟩ : ∃ D, D = putG d z (xs.take i) := ⟨_, rfl⟩
      rw [← hD] at hO hgl
      obtain ⟨aD, cD, rfl, hcD, hcD1⟩ := hO.src.form
      refine seqK fun Q49 kn50 kr51 ke52 => ?_
      refine seqK fun Q53 kn54 kr55 ke56 => ?_
      refine region ?_
      refine st_q (v := .int .i64 ((i : Nat) : Int)) (x_move rfl) ?_
      refine st_q (v := .slice a xs.length ca) (x_move rfl) ?_
      refine st_q (v := .int .i64 ((xs.length : Nat) : Int)) (x_lenSl rfl Try.underlying22 rfl) ?_
      refine st_q (v := .bool (decide (i < xs.length))) (x_lssN rfl rfl) ?_
      refine st_nil ?_
      refine kn54 _ _ ?_
      refine cnd (p := i < xs.length) rfl (fun h57 => ?_) (fun h57 => ?_)
      ·
        refine skip ?_
        refine kn50 _ _ ?_
        refine seqK fun Q58 kn59 kr60 ke61 => ?_
        refine blockK fun Q62 kn63 kr64 kx65 kb66 => ?_
        refine seqK fun Q67 kn68 kr69 ke70 => ?_
        refine seqK fun Q71 kn72 kr73 ke74 => ?_
        refine region ?_
        refine st_q (v := .bool (decide (d = true))) (x_move rfl) ?_
        refine st_q (v := .bool (decide (¬ (d = true)))) (x_notP rfl) ?_
        refine st_if (p := ¬ (d = true)) (x_move rfl) (fun h75 => ?_) (fun h75 => ?_)
        ·
          refine st_gq 2 21 rfl rfl (by decide) ?_
          refine st_q (v := .string z) (x_move rfl) ?_
          refine st_gq 2 21 rfl rfl (by decide) ?_
          refine st_q (v := .slice a xs.length ca) (x_move rfl) ?_
          refine st_gq 2 21 rfl rfl (by decide) ?_
          refine st_q (v := .int .i64 ((i : Nat) : Int)) (x_move rfl) ?_
          refine st_gq 2 21 rfl rfl (by decide) ?_
          obtain ⟨b76, o77, ha78, hc79⟩ := hl.at (by omega)
          refine st_q (v := .pointer (some ⟨b76, o77 + i * 1, none⟩)) (x_index' T.sl22 rfl ha78 rfl (by omega)) ?_
          refine st_gq 2 21 rfl rfl (by decide) ?_
          refine st_q (v := .string (el xs i)) (x_load1 T.na9 rfl ((hc79.below hx43).elem enS_len (i := i) (by omega))) ?_
          refine st_gq 2 21 rfl rfl (by decide) ?_
          refine st_q (v := .bool (decide (Op.bytesLess z.toList (el xs i).toList = true))) (x_lssS rfl rfl) ?_
          refine st_q (v := .bool (decide (Op.bytesLess z.toList (el xs i).toList = true))) (x_pickT rfl rfl) ?_
          refine st_nil ?_
          refine kn72 _ _ ?_
          refine cnd (p := Op.bytesLess z.toList (el xs i).toList = true) rfl (fun h80 => ?_) (fun h80 => ?_)
          ·
            refine seqK fun Q81 kn82 kr83 ke84 => ?_
            refine region ?_
            refine st_q (v := .slice aD D.length cD) (x_move rfl) ?_
            refine st_q (v := .string z) (x_move rfl) ?_
            refine st_e (e_buildSlice (cs := [.string z]) (e := 9) (fun _ => by kernel_rfl) ?_)
            intro w85 hA86
            have hx87 := hA86.ext
            have hs88 := hA86.size
            have hB89 : Blk w85.heap w42.heap.size [.string z] 9 := hA86.new
            have hF90 := hO.ext hx87
            have hE91 : Below w0.heap.size w0 w85 := hx87.e hx43 (Nat.le_refl _)
            have hz92 := hE91.le
            have hs93 := hx87.size
            refine st_e (e_appendX T.sl22 rfl rfl hF90 (hB89.src1 (k := 1) (m := 1) rfl (by omega)) (ones (by rfl)) (by omega) (by decide) (by omega) ?_)
            intro v94 w95 hO96 hG97 hN98 hW99
            have hE100 : Below w0.heap.size w0 w95 := grown_below hG97 hE91 (Nat.le_refl _) (fun b hb => (by have := (hF90.lt hb).1; clear hb; omega))
            have hz101 := hE100.le
            have hs102 := hG97.size
            have hO103 := Own.snoc (enc := enS) (u := z) hO96
            obtain ⟨a104, c105, rfl, hm106, hm107⟩ := hO103.src.form
            refine st_q (v := .slice a104 ((D.length + 1)) c105) (x_assign rfl) ?_
            refine st_nil ?_
            refine kn82 _ _ ?_
            refine region ?_
            refine st_q (v := .bool true) (x_assign rfl) ?_
            refine st_nil ?_
            refine kn68 _ _ ?_
            refine region ?_
            refine st_q (v := .slice a104 ((D.length + 1)) c105) (x_move rfl) ?_
            refine st_q (v := .slice a xs.length ca) (x_move rfl) ?_
            refine st_q (v := .int .i64 ((i : Nat) : Int)) (x_move rfl) ?_
            refine st_q (v := .pointer (some ⟨b76, o77 + i * 1, none⟩)) (x_index' T.sl22 rfl ha78 rfl (by omega)) ?_
            refine st_q (v := .string (el xs i)) (x_load1 T.na9 rfl ((hc79.below hE100).elem enS_len (i := i) (by omega))) ?_
            refine st_e (e_buildSlice (cs := [.string (el xs i)]) (e := 9) (fun _ => by kernel_rfl) ?_)
            intro w108 hA109
            have hx110 := hA109.ext
            have hs111 := hA109.size
            have hB112 : Blk w108.heap w95.heap.size [.string (el xs i)] 9 := hA109.new
            have hF113 := hO103.ext hx110
            have hE114 : Below w0.heap.size w0 w108 := hx110.e hE100 (Nat.le_refl _)
            have hz115 := hE114.le
            have hs116 := hx110.size
            refine st_e (e_appendX T.sl22 rfl rfl hF113 (hB112.src1 (k := 1) (m := 1) rfl (by omega)) (ones (by rfl)) (by omega) (by decide) (by omega) ?_)
            intro v117 w118 hO119 hG120 hN121 hW122
            have hE123 : Below w0.heap.size w0 w118 := grown_below hG120 hE114 (Nat.le_refl _) (fun b hb => (by have := (hF113.lt hb).1; clear hb; omega))
            have hz124 := hE123.le
            have hs125 := hG120.size
            have hO126 := Own.snoc (enc := enS) (u := el xs i) hO119
            obtain ⟨a127, c128, rfl, hm129, hm130⟩ := hO126.src.form
            refine st_q (v := .slice a127 (((D.length + 1) + 1)) c128) (x_assign rfl) ?_
            refine st_nil ?_
            refine kn63 _ _ ?_
            refine kn59 _ _ ?_
            refine region ?_
            refine st_q (v := .int .i64 ((i : Nat) : Int)) (x_move rfl) ?_
            refine st_q (v := .int .i64 (((i + 1) : Nat) : Int)) (x_addN rfl rfl (by omega)) ?_
            refine st_q (v := .int .i64 (((i + 1) : Nat) : Int)) (x_assign rfl) ?_
            refine st_nil ?_
            refine kn46 _ ((i + 1), true, .slice a127 (((D.length + 1) + 1)) c128) _ ⟨rfl, rfl, rfl, rfl, rfl, trivial⟩ ⟨hE123, ?_⟩ ?_
            ·
              try dsimp only
              have e := put1 hdn (by assumption) (by omega) (by assumption)
              rw [← hD] at e
              exact ⟨by omega, e.2, by rw [e.1]; simpa using hO126⟩
            ·
              (try dsimp only); omega
          ·
            refine skip ?_
            refine kn68 _ _ ?_
            refine region ?_
            refine st_q (v := .slice aD D.length cD) (x_move rfl) ?_
            refine st_q (v := .slice a xs.length ca) (x_move rfl) ?_
            refine st_q (v := .int .i64 ((i : Nat) : Int)) (x_move rfl) ?_
            refine st_q (v := .pointer (some ⟨b76, o77 + i * 1, none⟩)) (x_index' T.sl22 rfl ha78 rfl (by omega)) ?_
            refine st_q (v := .string (el xs i)) (x_load1 T.na9 rfl ((hc79.below hx43).elem enS_len (i := i) (by omega))) ?_
            refine st_e (e_buildSlice (cs := [.string (el xs i)]) (e := 9) (fun _ => by kernel_rfl) ?_)
            intro w131 hA132
            have hx133 := hA132.ext
            have hs134 := hA132.size
            have hB135 : Blk w131.heap w42.heap.size [.string (el xs i)] 9 := hA132.new
            have hF136 := hO.ext hx133
            have hE137 : Below w0.heap.size w0 w131 := hx133.e hx43 (Nat.le_refl _)
            have hz138 := hE137.le
            have hs139 := hx133.size
            refine st_e (e_appendX T.sl22 rfl rfl hF136 (hB135.src1 (k := 1) (m := 1) rfl (by omega)) (ones (by rfl)) (by omega) (by decide) (by omega) ?_)
            intro v140 w141 hO142 hG143 hN144 hW145
            have hE146 : Below w0.heap.size w0 w141 := grown_below hG143 hE137 (Nat.le_refl _) (fun b hb => (by have := (hF136.lt hb).1; clear hb; omega))
            have hz147 := hE146.le
            have hs148 := hG143.size
            have hO149 := Own.snoc (enc := enS) (u := el xs i) hO142
            obtain ⟨a150, c151, rfl, hm152, hm153⟩ := hO149.src.form
            refine st_q (v := .slice a150 ((D.length + 1)) c151) (x_assign rfl) ?_
            refine st_nil ?_
            refine kn63 _ _ ?_
            refine kn59 _ _ ?_
            refine region ?_
            refine st_q (v := .int .i64 ((i : Nat) : Int)) (x_move rfl) ?_
            refine st_q (v := .int .i64 (((i + 1) : Nat) : Int)) (x_addN rfl rfl (by omega)) ?_
            refine st_q (v := .int .i64 (((i + 1) : Nat) : Int)) (x_assign rfl) ?_
            refine st_nil ?_
            refine kn46 _ ((i + 1), d, .slice a150 ((D.length + 1)) c151) _ ⟨rfl, rfl, rfl, rfl, rfl, trivial⟩ ⟨hE146, ?_⟩ ?_
            ·
              try dsimp only
              have e := put2 (d := d) hdn (by omega) (by first | exact .inl (Decidable.of_not_not (by assumption)) | exact .inr (by assumption) | exact .inl (by assumption))
              rw [← hD] at e
              exact ⟨by omega, e.2, by rw [e.1]; simpa using hO149⟩
            ·
              (try dsimp only); omega
        ·
          refine st_gn 2 21 rfl rfl (by decide) rfl ?_
          refine st_gn 2 21 rfl rfl (by decide) rfl ?_
          refine st_gn 2 21 rfl rfl (by decide) rfl ?_
          refine st_gn 2 21 rfl rfl (by decide) rfl ?_
          refine st_gn 2 21 rfl rfl (by decide) rfl ?_
          refine st_gn 2 21 rfl rfl (by decide) rfl ?_
          refine st_q (v := .bool false) (x_pickF rfl rfl) ?_
          refine st_nil ?_
          refine kn72 _ _ ?_
          refine cndF rfl ?_
          refine skip ?_
          refine kn68 _ _ ?_
          refine region ?_
          refine st_q (v := .slice aD D.length cD) (x_move rfl) ?_
          refine st_q (v := .slice a xs.length ca) (x_move rfl) ?_
          refine st_q (v := .int .i64 ((i : Nat) : Int)) (x_move rfl) ?_
          obtain ⟨b154, o155, ha156, hc157⟩ := hl.at (by omega)
          refine st_q (v := .pointer (some ⟨b154, o155 + i * 1, none⟩)) (x_index' T.sl22 rfl ha156 rfl (by omega)) ?_
          refine st_q (v := .string (el xs i)) (x_load1 T.na9 rfl ((hc157.below hx43).elem enS_len (i := i) (by omega))) ?_
          refine st_e (e_buildSlice (cs := [.string (el xs i)]) (e := 9) (fun _ => by kernel_rfl) ?_)
          intro w158 hA159
          have hx160 := hA159.ext
          have hs161 := hA159.size
          have hB162 : Blk w158.heap w42.heap.size [.string (el xs i)] 9 := hA159.new
          have hF163 := hO.ext hx160
          have hE164 : Below w0.heap.size w0 w158 := hx160.e hx43 (Nat.le_refl _)
          have hz165 := hE164.le
          have hs166 := hx160.size
          refine st_e (e_appendX T.sl22 rfl rfl hF163 (hB162.src1 (k := 1) (m := 1) rfl (by omega)) (ones (by rfl)) (by omega) (by decide) (by omega) ?_)
          intro v167 w168 hO169 hG170 hN171 hW172
          have hE173 : Below w0.heap.size w0 w168 := grown_below hG170 hE164 (Nat.le_refl _) (fun b hb => (by have := (hF163.lt hb).1; clear hb; omega))
          have hz174 := hE173.le
          have hs175 := hG170.size
          have hO176 := Own.snoc (enc := enS) (u := el xs i) hO169
          obtain ⟨a177, c178, rfl, hm179, hm180⟩ := hO176.src.form
          refine st_q (v := .slice a177 ((D.length + 1)) c178) (x_assign rfl) ?_
          refine st_nil ?_
          refine kn63 _ _ ?_
          refine kn59 _ _ ?_
          refine region ?_
          refine st_q (v := .int .i64 ((i : Nat) : Int)) (x_move rfl) ?_
          refine st_q (v := .int .i64 (((i + 1) : Nat) : Int)) (x_addN rfl rfl (by omega)) ?_
          refine st_q (v := .int .i64 (((i + 1) : Nat) : Int)) (x_assign rfl) ?_
          refine st_nil ?_
          refine kn46 _ ((i + 1), d, .slice a177 ((D.length + 1)) c178) _ ⟨rfl, rfl, rfl, rfl, rfl, trivial⟩ ⟨hE173, ?_⟩ ?_
          ·
            try dsimp only
            have e := put2 (d := d) hdn (by omega) (by first | exact .inl (Decidable.of_not_not (by assumption)) | exact .inr (by assumption) | exact .inl (by assumption))
            rw [← hD] at e
            exact ⟨by omega, e.2, by rw [e.1]; simpa using hO176⟩
          ·
            (try dsimp only); omega
      ·
        refine exit ?_
        refine ke52 _ _ _ ?_
        refine ke48 _ _ _ ?_
        refine kb39 _ _ ?_
        refine kn28 _ _ ?_
        refine seqK fun Q181 kn182 kr183 ke184 => ?_
        refine seqK fun Q185 kn186 kr187 ke188 => ?_
        refine region ?_
        refine st_q (v := .bool (decide (d = true))) (x_move rfl) ?_
        refine st_q (v := .bool (decide (¬ (d = true)))) (x_notP rfl) ?_
        refine st_nil ?_
        refine kn186 _ _ ?_
        refine cnd (p := ¬ (d = true)) rfl (fun h189 => ?_) (fun h189 => ?_)
        ·
          refine region ?_
          refine st_q (v := .slice aD D.length cD) (x_move rfl) ?_
          refine st_q (v := .string z) (x_move rfl) ?_
          refine st_e (e_buildSlice (cs := [.string z]) (e := 9) (fun _ => by kernel_rfl) ?_)
          intro w190 hA191
          have hx192 := hA191.ext
          have hs193 := hA191.size
          have hB194 : Blk w190.heap w42.heap.size [.string z] 9 := hA191.new
          have hF195 := hO.ext hx192
          have hE196 : Below w0.heap.size w0 w190 := hx192.e hx43 (Nat.le_refl _)
          have hz197 := hE196.le
          have hs198 := hx192.size
          refine st_e (e_appendX T.sl22 rfl rfl hF195 (hB194.src1 (k := 1) (m := 1) rfl (by omega)) (ones (by rfl)) (by omega) (by decide) (by omega) ?_)
          intro v199 w200 hO201 hG202 hN203 hW204
          have hE205 : Below w0.heap.size w0 w200 := grown_below hG202 hE196 (Nat.le_refl _) (fun b hb => (by have := (hF195.lt hb).1; clear hb; omega))
          have hz206 := hE205.le
          have hs207 := hG202.size
          have hO208 := Own.snoc (enc := enS) (u := z) hO201
          obtain ⟨a209, c210, rfl, hm211, hm212⟩ := hO208.src.form
          refine st_q (v := .slice a209 ((D.length + 1)) c210) (x_assign rfl) ?_
          refine st_nil ?_
          refine kn182 _ _ ?_
          refine seqK fun Q213 kn214 kr215 ke216 => ?_
          refine region ?_
          refine st_q (v := .slice a209 ((D.length + 1)) c210) (x_move rfl) ?_
          refine st_q (v := .slice a209 ((D.length + 1)) c210) (x_assign rfl) ?_
          refine st_nil ?_
          refine kn214 _ _ ?_
          refine ret ?_
          refine leave1 (P := Try.prog) (fn := Try.f49) (t := 4) (v := .slice a209 ((D.length + 1)) c210) rfl rfl ?_
          obtain rfl : i = xs.length := by omega
          rw [List.take_length] at hD
          have e : putL xs z = (D ++ [z]) := by rw [putL, if_neg (by rw [hz]; simp), put_end hdn (by assumption), hD]
          rw [e]
          exact ⟨_, rfl, hE205, by simpa using hO208⟩
        ·
          refine skip ?_
          refine kn182 _ _ ?_
          refine seqK fun Q217 kn218 kr219 ke220 => ?_
          refine region ?_
          refine st_q (v := .slice aD D.length cD) (x_move rfl) ?_
          refine st_q (v := .slice aD D.length cD) (x_assign rfl) ?_
          refine st_nil ?_
          refine kn218 _ _ ?_
          refine ret ?_
          refine leave1 (P := Try.prog) (fn := Try.f49) (t := 4) (v := .slice aD D.length cD) rfl rfl ?_
          obtain rfl : i = xs.length := by omega
          rw [List.take_length] at hD
          have hdt : d = true := Decidable.of_not_not (by assumption)
          have e : putL xs z = D := by rw [putL, if_neg (by rw [hz]; simp), hD, putG, if_pos hdt]
          rw [e]
          exact ⟨_, rfl, hx43, by simpa using hO⟩

theorem put49 (lo : Nat) (xs : List ByteArray) (z : ByteArray) (vl : Value) (w0 : World) (hl : Own w0.heap lo 9 1 vl xs.length (flat enS xs)) (hlo : lo ≤ w0.heap.size) (hn : xs.length ≤ 4194304) : Calls Try.prog 49 #[vl, .string z] w0 fun e w' => ∃ v, e = .returned v ∧ Ext w0 w' ∧ Own w'.heap lo 9 1 v (putL xs z).length (flat enS (putL xs z)) := by
  cases hz : inB xs z
  · exact (put49_new xs z vl w0 hl.src hz hn).mono fun e w' ⟨v, h1, h2, h3⟩ => ⟨v, h1, h2, h3.weak hlo⟩
  · exact (put49_in xs z vl w0 hl.src hz).mono fun e w' ⟨h1, h2⟩ => ⟨vl, h1, h2, by rw [putL, if_pos hz]; exact hl.ext h2⟩
theorem putL_len (xs : List ByteArray) (z : ByteArray) : (putL xs z).length ≤ xs.length + 1 := by unfold putL; split <;> simp [insS_len]
def namesL (ns : List ByteArray) : List ByteArray := ns.foldl putL []
def edgesL (l : List ByteArray) (es : List Edge) : List ByteArray := es.foldl (fun l e => putL (putL l e.1) e.2.1) l
def nodesL (ns : List ByteArray) (es : List Edge) : List ByteArray := edgesL (namesL ns) es
theorem namesL_snoc (ns : List ByteArray) (z : ByteArray) : namesL (ns ++ [z]) = putL (namesL ns) z := by simp [namesL]
theorem edgesL_snoc (l : List ByteArray) (es : List Edge) (e : Edge) : edgesL l (es ++ [e]) = putL (putL (edgesL l es) e.1) e.2.1 := by simp [edgesL]
set_option maxHeartbeats 4000000 in
theorem refnodes31 (ns : List ByteArray) (es : List Edge) (va vb : Value) (w0 : World) (ha : Src w0.heap va ns.length 1 (flat enS ns)) (hb : Src w0.heap vb es.length 3 (flat enE es)) (hn : ns.length + 2 * es.length ≤ 4194000) : Calls Try.prog 31 #[va, vb] w0 fun e w' => ∃ v, e = .returned v ∧ Ext w0 w' ∧ Own w'.heap w0.heap.size 9 1 v (nodesL ns es).length (flat enS (nodesL ns es)) := by
  have hE0 : Below w0.heap.size w0 w0 := Below.refl _ _
  have hz0 := hE0.le
  obtain ⟨a, ca, rfl, hca, hca1⟩ := ha.form
  obtain ⟨b, cb, rfl, hcb, hcb1⟩ := hb.form
  refine enter Try.func31 rfl 41 Try.ntmps31 rfl ?_
  refine seqK fun Q1 kn2 kr3 ke4 => ?_
  refine region ?_
  refine st_q (v := .slice none 0 0) (x_assign rfl) ?_
  refine st_nil ?_
  refine kn2 _ _ ?_
  refine seqK fun Q5 kn6 kr7 ke8 => ?_
  refine region ?_
  refine st_q (v := .slice none 0 0) (x_assign rfl) ?_
  refine st_nil ?_
  refine kn6 _ _ ?_
  refine seqK fun Q9 kn10 kr11 ke12 => ?_
  refine seqK fun Q13 kn14 kr15 ke16 => ?_
  refine region ?_
  refine st_q (v := .int .i64 ((0 : Nat) : Int)) (x_assign rfl) ?_
  refine st_nil ?_
  refine kn14 _ _ ?_
  refine blockK fun Q17 kn18 kr19 kx20 kb21 => ?_
  refine loopK (α := Nat × Value × (List ByteArray)) (fun x => [(0, .slice a ns.length ca), (1, .slice b es.length cb), (5, x.2.1), (6, .int .i64 ((x.1 : Nat) : Int))]) (fun x w22 => Below w0.heap.size w0 w22 ∧ x.1 ≤ ns.length ∧ x.2.2 = namesL (ns.take x.1) ∧ x.2.2.length ≤ x.1 ∧ Own w22.heap w0.heap.size 9 1 x.2.1 x.2.2.length (flat enS x.2.2)) (fun x => ns.length - x.1) (0, .slice none 0 0, []) ⟨rfl, rfl, rfl, rfl, trivial⟩ ?_ ?_
  ·
    refine ⟨hE0, ?_⟩
    try dsimp only
    exact ⟨Nat.zero_le _, rfl, Nat.le_refl _, Own.nil _ _ _ _⟩
  ·
    rintro τ23 ⟨i, v, L⟩ w24 ⟨hx25, ⟨hi, hL, hLl, hO⟩⟩
    try dsimp only at hi hL hLl hO
    have hz26 := hx25.le
    intro Q27 kn28 kr29 ke30
    refine seqK fun Q31 kn32 kr33 ke34 => ?_
    refine seqK fun Q35 kn36 kr37 ke38 => ?_
    refine region ?_
    refine st_q (v := .int .i64 ((i : Nat) : Int)) (x_move rfl) ?_
    refine st_q (v := .slice a ns.length ca) (x_move rfl) ?_
    refine st_q (v := .int .i64 ((ns.length : Nat) : Int)) (x_lenSl rfl Try.underlying22 rfl) ?_
    refine st_q (v := .bool (decide (i < ns.length))) (x_lssN rfl rfl) ?_
    refine st_nil ?_
    refine kn36 _ _ ?_
    refine cnd (p := i < ns.length) rfl (fun h39 => ?_) (fun h39 => ?_)
    ·
      refine skip ?_
      refine kn32 _ _ ?_
      refine seqK fun Q40 kn41 kr42 ke43 => ?_
      refine blockK fun Q44 kn45 kr46 kx47 kb48 => ?_
      refine region ?_
      refine st_q (v := v) (x_move rfl) ?_
      refine st_q (v := .slice a ns.length ca) (x_move rfl) ?_
      refine st_q (v := .int .i64 ((i : Nat) : Int)) (x_move rfl) ?_
      obtain ⟨b49, o50, ha51, hc52⟩ := ha.at (by omega)
      refine st_q (v := .pointer (some ⟨b49, o50 + i * 1, none⟩)) (x_index' T.sl22 rfl ha51 rfl (by omega)) ?_
      refine st_q (v := .string (el ns i)) (x_load1 T.na9 rfl ((hc52.below hx25).elem enS_len (i := i) (by omega))) ?_
      refine st_c (t_call [v, .string (el ns i)] T.cf49 rfl rfl) (put49 w0.heap.size L (el ns i) _ _ hO (by omega) (by omega)) ?_
      rintro _ w53 ⟨v55, rfl, hx54, hO56⟩
      refine ⟨_, rfl, ?_⟩
      have hpl57 := putL_len L (el ns i)
      have hE58 : Below w0.heap.size w0 w53 := hx54.e hx25 (Nat.le_refl _)
      have hz59 := hE58.le
      have hs60 := hx54.size
      refine st_q (v := v55) (x_assign rfl) ?_
      refine st_nil ?_
      refine kn45 _ _ ?_
      refine kn41 _ _ ?_
      refine region ?_
      refine st_q (v := .int .i64 ((i : Nat) : Int)) (x_move rfl) ?_
      refine st_q (v := .int .i64 (((i + 1) : Nat) : Int)) (x_addN rfl rfl (by omega)) ?_
      refine st_q (v := .int .i64 (((i + 1) : Nat) : Int)) (x_assign rfl) ?_
      refine st_nil ?_
      refine kn28 _ ((i + 1), v55, (putL L (el ns i))) _ ⟨rfl, rfl, rfl, rfl, trivial⟩ ⟨hE58, ?_⟩ ?_
      ·
        try dsimp only
        exact ⟨by omega, by rw [take_succ_el (by omega), namesL_snoc, hL], by omega, hO56⟩
      ·
        (try dsimp only); omega
    ·
      refine exit ?_
      refine ke34 _ _ _ ?_
      refine ke30 _ _ _ ?_
      refine kb21 _ _ ?_
      refine kn10 _ _ ?_
      refine seqK fun Q61 kn62 kr63 ke64 => ?_
      refine seqK fun Q65 kn66 kr67 ke68 => ?_
      refine region ?_
      refine st_q (v := .int .i64 ((0 : Nat) : Int)) (x_assign rfl) ?_
      refine st_nil ?_
      refine kn66 _ _ ?_
      refine blockK fun Q69 kn70 kr71 kx72 kb73 => ?_
      refine loopK (α := Nat × Value × (List ByteArray)) (fun x => [(1, .slice b es.length cb), (5, x.2.1), (7, .int .i64 ((x.1 : Nat) : Int))]) (fun x w74 => Below w0.heap.size w0 w74 ∧ x.1 ≤ es.length ∧ x.2.2 = edgesL (namesL ns) (es.take x.1) ∧ x.2.2.length ≤ ns.length + 2 * x.1 ∧ Own w74.heap w0.heap.size 9 1 x.2.1 x.2.2.length (flat enS x.2.2)) (fun x => es.length - x.1) (0, v, L) ⟨rfl, rfl, rfl, trivial⟩ ?_ ?_
      ·
        refine ⟨hx25, ?_⟩
        try dsimp only
        exact ⟨Nat.zero_le _, by rw [hL, List.take_of_length_le (by omega)]; rfl, by omega, hO⟩
      ·
        rintro τ75 ⟨k, v, L⟩ w76 ⟨hx77, ⟨hk, hL, hLl, hO⟩⟩
        try dsimp only at hk hL hLl hO
        have hz78 := hx77.le
        intro Q79 kn80 kr81 ke82
        refine seqK fun Q83 kn84 kr85 ke86 => ?_
        refine seqK fun Q87 kn88 kr89 ke90 => ?_
        refine region ?_
        refine st_q (v := .int .i64 ((k : Nat) : Int)) (x_move rfl) ?_
        refine st_q (v := .slice b es.length cb) (x_move rfl) ?_
        refine st_q (v := .int .i64 ((es.length : Nat) : Int)) (x_lenSl rfl Try.underlying23 rfl) ?_
        refine st_q (v := .bool (decide (k < es.length))) (x_lssN rfl rfl) ?_
        refine st_nil ?_
        refine kn88 _ _ ?_
        refine cnd (p := k < es.length) rfl (fun h91 => ?_) (fun h91 => ?_)
        ·
          refine skip ?_
          refine kn84 _ _ ?_
          refine seqK fun Q92 kn93 kr94 ke95 => ?_
          refine blockK fun Q96 kn97 kr98 kx99 kb100 => ?_
          refine seqK fun Q101 kn102 kr103 ke104 => ?_
          refine region ?_
          refine st_q (v := v) (x_move rfl) ?_
          refine st_q (v := .slice b es.length cb) (x_move rfl) ?_
          refine st_q (v := .int .i64 ((k : Nat) : Int)) (x_move rfl) ?_
          obtain ⟨b105, o106, ha107, hc108⟩ := hb.at (by omega)
          refine st_q (v := .pointer (some ⟨b105, o106 + k * 3, none⟩)) (x_index' T.sl23 rfl ha107 rfl (by omega)) ?_
          refine st_q (v := .pointer (some ⟨b105, o106 + k * 3, none⟩)) (x_field (o := o106 + k * 3) T.fa47_0 rfl) ?_
          refine st_q (v := .string ((el es k).1)) (x_load1 T.na9 rfl (((hc108.below hx77).elem enE_len (i := k) (by omega)).fld 0 rfl)) ?_
          refine st_c (t_call [v, .string ((el es k).1)] T.cf49 rfl rfl) (put49 w0.heap.size L (el es k).1 _ _ hO (by omega) (by omega)) ?_
          rintro _ w109 ⟨v111, rfl, hx110, hO112⟩
          refine ⟨_, rfl, ?_⟩
          have hpl113 := putL_len L (el es k).1
          have hE114 : Below w0.heap.size w0 w109 := hx110.e hx77 (Nat.le_refl _)
          have hz115 := hE114.le
          have hs116 := hx110.size
          refine st_q (v := v111) (x_assign rfl) ?_
          refine st_nil ?_
          refine kn102 _ _ ?_
          refine region ?_
          refine st_q (v := v111) (x_move rfl) ?_
          refine st_q (v := .slice b es.length cb) (x_move rfl) ?_
          refine st_q (v := .int .i64 ((k : Nat) : Int)) (x_move rfl) ?_
          refine st_q (v := .pointer (some ⟨b105, o106 + k * 3, none⟩)) (x_index' T.sl23 rfl ha107 rfl (by omega)) ?_
          refine st_q (v := .pointer (some ⟨b105, o106 + k * 3 + 1, none⟩)) (x_field (o := o106 + k * 3) T.fa47_1 rfl) ?_
          refine st_q (v := .string ((el es k).2.1)) (x_load1 T.na9 rfl (((hc108.below hE114).elem enE_len (i := k) (by omega)).fld 1 rfl)) ?_
          refine st_c (t_call [v111, .string ((el es k).2.1)] T.cf49 rfl rfl) (put49 w0.heap.size ((putL L (el es k).1)) (el es k).2.1 _ _ hO112 (by omega) (by omega)) ?_
          rintro _ w117 ⟨v119, rfl, hx118, hO120⟩
          refine ⟨_, rfl, ?_⟩
          have hpl121 := putL_len ((putL L (el es k).1)) (el es k).2.1
          have hE122 : Below w0.heap.size w0 w117 := hx118.e hE114 (Nat.le_refl _)
          have hz123 := hE122.le
          have hs124 := hx118.size
          refine st_q (v := v119) (x_assign rfl) ?_
          refine st_nil ?_
          refine kn97 _ _ ?_
          refine kn93 _ _ ?_
          refine region ?_
          refine st_q (v := .int .i64 ((k : Nat) : Int)) (x_move rfl) ?_
          refine st_q (v := .int .i64 (((k + 1) : Nat) : Int)) (x_addN rfl rfl (by omega)) ?_
          refine st_q (v := .int .i64 (((k + 1) : Nat) : Int)) (x_assign rfl) ?_
          refine st_nil ?_
          refine kn80 _ ((k + 1), v119, (putL (putL L (el es k).1) (el es k).2.1)) _ ⟨rfl, rfl, rfl, trivial⟩ ⟨hE122, ?_⟩ ?_
          ·
            try dsimp only
            exact ⟨by omega, by rw [take_succ_el (by omega), edgesL_snoc, hL], by omega, hO120⟩
          ·
            (try dsimp only); omega
        ·
          refine exit ?_
          refine ke86 _ _ _ ?_
          refine ke82 _ _ _ ?_
          refine kb73 _ _ ?_
          refine kn62 _ _ ?_
          refine seqK fun Q125 kn126 kr127 ke128 => ?_
          refine region ?_
          refine st_q (v := v) (x_move rfl) ?_
          refine st_q (v := v) (x_assign rfl) ?_
          refine st_nil ?_
          refine kn126 _ _ ?_
          refine ret ?_
          refine leave1 (P := Try.prog) (fn := Try.f31) (t := 4) (v := v) rfl rfl ?_
          have e : nodesL ns es = L := by rw [hL, List.take_of_length_le (by omega)]; rfl
          rw [e]
          exact ⟨_, rfl, hx77, hO⟩

end Go.Proofs.Ytknfjgbipfpnjaa
