import Derived.Test.YtknfjgbipfpnjaaG4
import Derived.Test.YtknfjgbipfpnjaaGM
namespace Go.Proofs.Ytknfjgbipfpnjaa
open Go.RowKit Go.Eng Go.OrdPure
theorem T.zv47 : ZV Try.prog 47 (.agg #[.string ByteArray.empty, .string ByteArray.empty, .bool false]) := fun _ => by kernel_rfl
theorem T.sz47 : SZ Try.prog 47 3 := fun _ => by kernel_rfl

theorem flat_repE (n : Nat) : flat enE (List.replicate n ((ByteArray.empty, ByteArray.empty, false) : Edge)) = (List.replicate n [Value.string ByteArray.empty, Value.string ByteArray.empty, Value.bool false]).flatten := by
  induction n with
  | zero => rfl
  | succ n ih => simp only [List.replicate_succ, flat, List.flatMap_cons, List.flatten_cons] at *; rw [ih]; rfl
theorem el_set_sameS {α : Type} [Inhabited α] {xs : List α} {i : Nat} (h : i < xs.length) (x : α) : el (xs.set i x) i = x := by simp [el, List.getD_eq_getElem?_getD, h]
theorem el_set_neS {α : Type} [Inhabited α] {xs : List α} {i j : Nat} (h : i ≠ j) (x : α) : el (xs.set i x) j = el xs j := by simp [el, List.getD_eq_getElem?_getD, h]
theorem el_mapE {xs : List Edge} {i : Nat} (h : i < xs.length) : el (xs.map turn) i = turn (el xs i) := by rw [el_eq (by simpa using h), el_eq h]; simp
theorem map_done {xs F : List Edge} (hF : F.length = xs.length) (hI : ∀ j, j < xs.length → el F j = turn (el xs j)) : xs.map turn = F := list_ext_elS (by simp [hF]) fun j hj => by
  have hj : j < xs.length := by simpa using hj
  rw [el_mapE hj, hI j hj]
set_option maxHeartbeats 4000000 in
theorem turned28 (xs : List Edge) (vl : Value) (w0 : World) (hl : Src w0.heap vl xs.length 3 (flat enE xs)) (hn : xs.length ≤ 1048576) : Calls Try.prog 28 #[vl] w0 fun e w' => ∃ v, e = .returned v ∧ Ext w0 w' ∧ Own w'.heap w0.heap.size 47 3 v xs.length (flat enE (xs.map turn)) := by
  have hE0 : Below w0.heap.size w0 w0 := Below.refl _ _
  have hz0 := hE0.le
  obtain ⟨a, ca, rfl, hca, hca1⟩ := hl.form
  refine enter Try.func28 rfl 28 Try.ntmps28 rfl ?_
  refine seqK fun Q1 kn2 kr3 ke4 => ?_
  refine region ?_
  refine st_q (v := .slice none 0 0) (x_assign rfl) ?_
  refine st_nil ?_
  refine kn2 _ _ ?_
  refine seqK fun Q5 kn6 kr7 ke8 => ?_
  refine region ?_
  refine st_q (v := .slice a xs.length ca) (x_move rfl) ?_
  refine st_q (v := .int .i64 ((xs.length : Nat) : Int)) (x_lenSl rfl Try.underlying23 rfl) ?_
  refine st_e (e_makeSlice T.sl23 rfl rfl (by omega) (by omega) ?_)
  intro w9 hA10
  have hx11 := hA10.ext
  have hs13 := hA10.size
  have hA10x : Al w0 w9 (.cells (flat enE (List.replicate xs.length ((ByteArray.empty, ByteArray.empty, false) : Edge))).toArray 47) := by rw [flat_repE]; exact hA10
  have hO12 := OB.new (lo := w0.heap.size) (k := 3) (c := xs.length) hA10x (by omega) (by rw [flat_length enE_len]; simp) (by omega)
  have hE14 : Below w0.heap.size w0 w9 := hx11.e hE0 (Nat.le_refl _)
  have hz15 := hE14.le
  have hs16 := hx11.size
  have hl17 := hO12.lo
  have hl18 := hO12.lt
  refine st_q (v := .slice ((some ⟨w0.heap.size, 0, none⟩)) xs.length xs.length) (x_assign rfl) ?_
  refine st_nil ?_
  refine kn6 _ _ ?_
  refine seqK fun Q19 kn20 kr21 ke22 => ?_
  refine seqK fun Q23 kn24 kr25 ke26 => ?_
  refine region ?_
  refine st_q (v := .slice a xs.length ca) (x_move rfl) ?_
  refine st_q (v := .int .i64 ((xs.length : Nat) : Int)) (x_lenSl rfl Try.underlying23 rfl) ?_
  refine st_q (v := .int .i64 ((0 : Nat) : Int)) (x_move rfl) ?_
  refine st_nil ?_
  refine kn24 _ _ ?_
  refine blockK fun Q27 kn28 kr29 kx30 kb31 => ?_
  refine loopK (α := Nat × (List Edge)) (fun x => [(3, .slice ((some ⟨w0.heap.size, 0, none⟩)) xs.length xs.length), (9, .slice a xs.length ca), (10, .int .i64 ((xs.length : Nat) : Int)), (11, .int .i64 ((x.1 : Nat) : Int))]) (fun x w32 => Below w0.heap.size w0 w32 ∧ x.1 ≤ xs.length ∧ x.2.length = xs.length ∧ (∀ j, j < x.1 → el x.2 j = turn (el xs j)) ∧ OB w32.heap w0.heap.size 47 3 w0.heap.size xs.length (flat enE x.2)) (fun x => xs.length - x.1) (0, (List.replicate xs.length ((ByteArray.empty, ByteArray.empty, false) : Edge))) ⟨rfl, rfl, rfl, rfl, trivial⟩ ?_ ?_
  ·
    refine ⟨hE14, ?_⟩
    try dsimp only
    exact ⟨Nat.zero_le _, by simp, fun j h => by omega, hO12⟩
  ·
    rintro τ33 ⟨i, F⟩ w34 ⟨hx35, ⟨hi, hF, hI, hO⟩⟩
    try dsimp only at hi hF hI hO
    have hz36 := hx35.le
    intro Q37 kn38 kr39 ke40
    have hl41 := hO.lo
    have hl42 := hO.lt
    refine seqK fun Q43 kn44 kr45 ke46 => ?_
    refine region ?_
    refine st_q (v := .bool (decide (i < xs.length))) (x_lssN rfl rfl) ?_
    refine st_nil ?_
    refine kn44 _ _ ?_
    refine seqK fun Q47 kn48 kr49 ke50 => ?_
    refine cnd (p := i < xs.length) rfl (fun h51 => ?_) (fun h51 => ?_)
    ·
      refine skip ?_
      refine kn48 _ _ ?_
      refine seqK fun Q52 kn53 kr54 ke55 => ?_
      refine blockK fun Q56 kn57 kr58 kx59 kb60 => ?_
      refine seqK fun Q61 kn62 kr63 ke64 => ?_
      refine region ?_
      refine st_q (v := .int .i64 ((i : Nat) : Int)) (x_move rfl) ?_
      obtain ⟨b65, o66, ha67, hc68⟩ := hl.at (by omega)
      refine st_q (v := .pointer (some ⟨b65, o66 + i * 3, none⟩)) (x_index' T.sl23 rfl ha67 rfl (by omega)) ?_
      refine st_q (v := .agg #[.string ((el xs i).1), .string ((el xs i).2.1), .bool ((el xs i).2.2)]) (x_loadA [.string ((el xs i).1), .string ((el xs i).2.1), .bool ((el xs i).2.2)] T.ag47 rfl ((hc68.below hx35).elem enE_len (i := i) (by omega))) ?_
      refine st_e (e_alloc T.zv47 ?_)
      intro w69 hA70
      have hx71 := hA70.ext
      have hs72 := hA70.size
      have hB73 : Blk w69.heap w34.heap.size [.string ByteArray.empty, .string ByteArray.empty, .bool false] 47 := hA70.new
      have hF74 := hO.ext hx71
      have hE75 : Below w0.heap.size w0 w69 := hx71.e hx35 (Nat.le_refl _)
      have hz76 := hE75.le
      have hs77 := hx71.size
      refine st_q (v := .int .i64 ((i : Nat) : Int)) (x_assign rfl) ?_
      refine st_s (e_st (v := .agg #[.string ((el xs i).1), .string ((el xs i).2.1), .bool ((el xs i).2.2)]) T.sz47 rfl rfl hB73 (by simp [Value.cells]) (by rfl) ?_)
      intro w78 hP79
      have hB80 : Blk w78.heap w34.heap.size [.string ((el xs i).1), .string ((el xs i).2.1), .bool ((el xs i).2.2)] 47 := hP79.new
      have hs81 := hP79.size
      have hF82 := hF74.pt hP79 (by omega)
      have hE83 : Below w0.heap.size w0 w78 := hP79.below hE75 (by omega)
      have hz84 := hE83.le
      refine st_nil ?_
      refine kn62 _ _ ?_
      refine region ?_
      refine st_q (v := .slice ((some ⟨w0.heap.size, 0, none⟩)) xs.length xs.length) (x_move rfl) ?_
      refine st_q (v := .int .i64 ((i : Nat) : Int)) (x_move rfl) ?_
      refine st_q (v := .pointer (some ⟨w34.heap.size, 1, none⟩)) (x_field (o := 0) T.fa47_1 rfl) ?_
      refine st_q (v := .string ((el xs i).2.1)) (x_load1 T.na9 rfl (hB80.one 1 rfl)) ?_
      refine st_q (v := .pointer (some ⟨w34.heap.size, 0, none⟩)) (x_field (o := 0) T.fa47_0 rfl) ?_
      refine st_q (v := .string ((el xs i).1)) (x_load1 T.na9 rfl (hB80.one 0 rfl)) ?_
      refine st_q (v := .pointer (some ⟨w34.heap.size, 2, none⟩)) (x_field (o := 0) T.fa47_2 rfl) ?_
      refine st_q (v := .bool ((el xs i).2.2)) (x_load1 T.na4 rfl (hB80.one 2 rfl)) ?_
      refine st_q (v := .agg #[.string ((el xs i).2.1), .string ((el xs i).1), .bool ((el xs i).2.2)]) (x_build (fun _ => by kernel_rfl)) ?_
      refine st_q (v := .pointer (some ⟨w0.heap.size, 0 + i * 3, none⟩)) (x_index T.sl23 rfl rfl (by omega)) ?_
      refine st_s (e_stO (v := .agg #[.string ((el xs i).2.1), .string ((el xs i).1), .bool ((el xs i).2.2)]) (u := ((el xs i).2.1, (el xs i).1, (el xs i).2.2)) enE_len T.sz47 rfl rfl rfl hF82 (by first | omega | (rw [List.length_set]; omega)) (by rfl) ?_)
      intro w85 _ hP86 hB87
      have hs88 := hP86.size
      have hB89 := hB80.pt hP86 (by omega)
      have hE90 : Below w0.heap.size w0 w85 := hP86.below hE83 (by omega)
      have hz91 := hE90.le
      refine st_nil ?_
      refine kn57 _ _ ?_
      refine kn53 _ _ ?_
      refine region ?_
      refine st_q (v := .int .i64 (((i + 1) : Nat) : Int)) (x_addN rfl rfl (by omega)) ?_
      refine st_q (v := .int .i64 (((i + 1) : Nat) : Int)) (x_move rfl) ?_
      refine st_nil ?_
      refine kn38 _ ((i + 1), (F.set i (((el xs i).2.1, (el xs i).1, (el xs i).2.2)))) _ ⟨rfl, rfl, rfl, rfl, trivial⟩ ⟨hE90, ?_⟩ ?_
      ·
        try dsimp only
        refine ⟨by omega, by rw [List.length_set]; exact hF, fun j hj => ?_, hB87⟩
        by_cases e : i = j
        · subst e; rw [el_set_sameS (by omega)]; rfl
        · rw [el_set_neS e]; exact hI j (by omega)
      ·
        (try dsimp only); omega
    ·
      refine exit ?_
      refine ke50 _ _ _ ?_
      refine ke40 _ _ _ ?_
      refine kb31 _ _ ?_
      refine kn20 _ _ ?_
      refine seqK fun Q92 kn93 kr94 ke95 => ?_
      refine region ?_
      refine st_q (v := .slice ((some ⟨w0.heap.size, 0, none⟩)) xs.length xs.length) (x_move rfl) ?_
      refine st_q (v := .slice ((some ⟨w0.heap.size, 0, none⟩)) xs.length xs.length) (x_assign rfl) ?_
      refine st_nil ?_
      refine kn93 _ _ ?_
      refine ret ?_
      refine leave1 (P := Try.prog) (fn := Try.f28) (t := 2) (v := .slice ((some ⟨w0.heap.size, 0, none⟩)) xs.length xs.length) rfl rfl ?_
      rw [map_done hF (fun j hj => hI j (by omega))]
      exact ⟨_, rfl, hx35, hO.own (Nat.le_refl _) (by rw [flat_length enE_len, hF])⟩

end Go.Proofs.Ytknfjgbipfpnjaa
