import Derived.Test.YtegpcbckiehleaaDoorS6
namespace Go.Proofs.YtegpcbckiehleaaDoor
open Go.RowKit Go.Eng Go.OrdPure Go.Flt
theorem T.cf53 : CF Tryd.prog 53 := fun _ _ => by kernel_rfl
theorem T.cf51 : CF Tryd.prog 51 := fun _ _ => by kernel_rfl
theorem T.zv109 : ZV Tryd.prog 109 (.agg #[.slice none 0 0, .slice none 0 0]) := fun _ => by kernel_rfl
theorem T.cf52 : CF Tryd.prog 52 := fun _ _ => by kernel_rfl
theorem T.sl32 : SL Tryd.prog 32 44 8 80 (.agg #[.slice none 0 0, .int .i64 ((0 : Nat) : Int), .int .i64 ((0 : Nat) : Int), .float .f64 0, .float .f64 0, .float .f64 0, .float .f64 0, .float .f64 0]) := sl_mk Tryd.underlying32 (by kernel_rfl) rfl (by decide)
theorem T.sl72 : SL Tryd.prog 72 27 1 24 (.slice none 0 0) := sl_mk Tryd.underlying72 (by kernel_rfl) rfl (by decide)
theorem T.fa44_0 : FA Tryd.prog 44 0 0 := fun _ _ => by kernel_rfl
theorem T.cf55 : CF Tryd.prog 55 := fun _ _ => by kernel_rfl
theorem T.fa44_1 : FA Tryd.prog 44 1 1 := fun _ _ => by kernel_rfl
theorem T.sz3 : SZ Tryd.prog 3 1 := fun _ => by kernel_rfl
theorem T.fa109_1 : FA Tryd.prog 109 1 1 := fun _ _ => by kernel_rfl
theorem T.sz27 : SZ Tryd.prog 27 1 := fun _ => by kernel_rfl

abbrev cK (a b : Row × Row) : Int := tups a.1.2 b.1.2
set_option maxHeartbeats 4000000 in
theorem grouped33 (pr : ByteArray) (ar : Int) (L : List Row) (va : Value) (ls : List Int) (vb : Value) (w0 : World) (ha : Src w0.heap va L.length 1 (flat enR L)) (hL : RowsP w0.heap L) (hb : Src w0.heap vb ls.length 1 (flat enI ls)) (hls : ls.length ≤ 140737488355328) (hG : RightR ar (tp L) ∧ ColsOK ar ls) (hn : L.length ≤ 1466015503701) : Calls Tryd.prog 33 #[.agg #[.string pr, .int .i64 ar, va], vb] w0 fun e w' => ∃ (vg vm : Value) (A : Acc) (vs : List Value), e = .returned (.tuple #[vg, vm, .int .i64 0]) ∧ Ext w0 w' ∧ Own w'.heap w0.heap.size 44 8 vg A.length (flat enG (A.map toG)) ∧ Own w'.heap w0.heap.size 27 1 vm A.length (flat enV vs) ∧ Fam w'.heap w0.heap.size 42 enR vs (A.map (·.2)) ∧ KOK w'.heap w0.heap.size (A.map (·.1)) ∧ A.map gT = grpL ls (tp L) ∧ ∀ g ∈ A, ∀ t ∈ g.2, t ∈ L := by
  have hE0 : Below w0.heap.size w0 w0 := Below.refl _ _
  have hz0 := hE0.le
  obtain ⟨a, ca, rfl, hca, hca1⟩ := ha.form
  obtain ⟨b, cb, rfl, hcb, hcb1⟩ := hb.form
  have hcin : ∀ i, i < ls.length → 0 ≤ el ls i ∧ el ls i < ar := fun i hi => by
    have h1 := (hG.2 i hi).1
    unfold badC at h1
    have h2 := of_decide_eq_false h1
    omega
  refine enter Tryd.func33 rfl 129 Tryd.ntmps33 rfl ?_
  refine seqK fun Q1 kn2 kr3 ke4 => ?_
  refine region ?_
  refine st_e (e_box (v := .agg #[.string pr, .int .i64 ar, .slice a L.length ca]) rfl ?_)
  intro w5 hA6
  have hx7 := hA6.ext
  have hs8 := hA6.size
  have hB9 : Blk w5.heap w0.heap.size [.string pr, .int .i64 ar, .slice a L.length ca] 29 := hA6.new
  have hE10 : Below w0.heap.size w0 w5 := hx7.e hE0 (Nat.le_refl _)
  have hz11 := hE10.le
  have hs12 := hx7.size
  refine st_q (v := .slice none 0 0) (x_assign rfl) ?_
  refine st_q (v := .slice none 0 0) (x_assign rfl) ?_
  refine st_q (v := .int .i64 ((0 : Nat) : Int)) (x_assign rfl) ?_
  refine st_nil ?_
  refine kn2 _ _ ?_
  refine seqK fun Q13 kn14 kr15 ke16 => ?_
  refine seqK fun Q17 kn18 kr19 ke20 => ?_
  refine region ?_
  refine st_q (v := .agg #[.string pr, .int .i64 ar, .slice a L.length ca]) (x_loadA [.string pr, .int .i64 ar, .slice a L.length ca] T.ag29 rfl (hB9.cells 0 [.string pr, .int .i64 ar, .slice a L.length ca] (cells_at rfl))) ?_
  refine st_q (v := .slice b ls.length cb) (x_move rfl) ?_
  refine st_c (t_call [.agg #[.string pr, .int .i64 ar, .slice a L.length ca], .slice b ls.length cb] T.cf39 rfl rfl) (right39 pr ar L _ ls _ _ (ha.below hE10) (hL.below hE10) (hb.below hE10)) ?_
  rintro _ w21 ⟨rfl, hx22⟩
  refine ⟨_, rfl, ?_⟩
  have hB23 := hB9.ext hx22
  have hE24 : Below w0.heap.size w0 w21 := hx22.e hE10 (Nat.le_refl _)
  have hz25 := hE24.le
  have hs26 := hx22.size
  refine st_q (v := .bool (decide (¬ (rightB ar (tp L) ls)))) (x_notP rfl) ?_
  refine st_nil ?_
  refine kn18 _ _ ?_
  refine cnd (p := ¬ (rightB ar (tp L) ls)) rfl (fun h27 => ?_) (fun h27 => ?_)
  ·
   exact absurd h27 (not_not_intro (show rightB ar (tp L) ls from ⟨hG.1, fun i hi => (hG.2 i hi).1⟩))
  ·
   refine skip ?_
   refine kn14 _ _ ?_
   refine seqK fun Q28 kn29 kr30 ke31 => ?_
   refine region ?_
   refine st_e (e_makeMap ?_)
   intro w32 hA33
   have hx34 := hA33.ext
   have hs36 := hA33.size
   have hM35 := IMap.al (P := Tryd.prog) (k := 3) (e := 4) hA33
   have hlo_m : w0.heap.size ≤ w21.heap.size := by omega
   have hB37 := hB23.ext hx34
   have hE38 : Below w0.heap.size w0 w32 := hx34.e hE24 (Nat.le_refl _)
   have hz39 := hE38.le
   have hs40 := hx34.size
   refine st_q (v := .map (some w21.heap.size)) (x_assign rfl) ?_
   refine st_nil ?_
   refine kn29 _ _ ?_
   refine seqK fun Q41 kn42 kr43 ke44 => ?_
   refine seqK fun Q45 kn46 kr47 ke48 => ?_
   refine region ?_
   refine st_q (v := .slice b ls.length cb) (x_move rfl) ?_
   refine st_q (v := .int .i64 ((ls.length : Nat) : Int)) (x_lenSl rfl Tryd.underlying30 rfl) ?_
   refine st_q (v := .int .i64 ((0 : Nat) : Int)) (x_move rfl) ?_
   refine st_nil ?_
   refine kn46 _ _ ?_
   refine blockK fun Q49 kn50 kr51 kx52 kb53 => ?_
   refine loopK (α := Nat) (fun x => [(1, .slice b ls.length cb), (2, .pointer (some ⟨w0.heap.size, 0, none⟩)), (7, .map (some w21.heap.size)), (26, .slice b ls.length cb), (27, .int .i64 ((ls.length : Nat) : Int)), (28, .int .i64 ((x : Nat) : Int))]) (fun x w54 => Below w0.heap.size w0 w54 ∧ x ≤ ls.length ∧ Blk w54.heap w0.heap.size [.string pr, .int .i64 ar, .slice a L.length ca] 29 ∧ IMap Tryd.prog 3 4 w54 w21.heap.size x (seenB ls x) ∧ ∀ j, j < x → ∀ k, k < j → el ls k ≠ el ls j) (fun x => ls.length - x) (0) ⟨rfl, rfl, rfl, rfl, rfl, rfl, trivial⟩ ?_ ?_
   ·
    refine ⟨hE38, ?_⟩
    try dsimp only
    exact ⟨Nat.zero_le _, hB37, by rw [seenB_zero]; exact hM35, fun j h => by omega⟩
   ·
    rintro τ55 i w56 ⟨hx57, ⟨hi, hBx, hM, hI⟩⟩
    try dsimp only at hi hBx hM hI
    have hz58 := hx57.le
    intro Q59 kn60 kr61 ke62
    refine seqK fun Q63 kn64 kr65 ke66 => ?_
    refine region ?_
    refine st_q (v := .bool (decide (i < ls.length))) (x_lssN rfl rfl) ?_
    refine st_nil ?_
    refine kn64 _ _ ?_
    refine seqK fun Q67 kn68 kr69 ke70 => ?_
    refine cnd (p := i < ls.length) rfl (fun h71 => ?_) (fun h71 => ?_)
    ·
     refine skip ?_
     refine kn68 _ _ ?_
     refine seqK fun Q72 kn73 kr74 ke75 => ?_
     refine blockK fun Q76 kn77 kr78 kx79 kb80 => ?_
     refine seqK fun Q81 kn82 kr83 ke84 => ?_
     refine region ?_
     obtain ⟨b85, o86, ha87, hc88⟩ := hb.at (by omega)
     refine st_q (v := .pointer (some ⟨b85, o86 + i * 1, none⟩)) (x_index' T.sl30 rfl ha87 rfl (by omega)) ?_
     refine st_q (v := .int .i64 ((el ls i))) (x_load1 T.na3 rfl ((hc88.below hx57).elem enI_len (i := i) (by omega))) ?_
     refine st_q (v := .int .i64 ((el ls i))) (x_assign rfl) ?_
     refine st_nil ?_
     refine kn82 _ _ ?_
     refine seqK fun Q89 kn90 kr91 ke92 => ?_
     refine seqK fun Q93 kn94 kr95 ke96 => ?_
     refine region ?_
     refine st_q (v := .map (some w21.heap.size)) (x_move rfl) ?_
     refine st_q (v := .int .i64 ((el ls i))) (x_move rfl) ?_
     refine st_q (v := .bool (decide (∃ j, j < i ∧ el ls j = el ls i))) (x_lookupI rfl rfl Tryd.underlying3 Tryd.underlying4 Tryd.underlying105 zeroB hM (wfC (hG.2 i (by omega)).1 hG.1.2.2)) ?_
     refine st_nil ?_
     refine kn94 _ _ ?_
     refine cnd (p := ∃ j, j < i ∧ el ls j = el ls i) rfl (fun h97 => ?_) (fun h97 => ?_)
     ·
      exact absurd h97 (fun ⟨j, hj, e⟩ => (hG.2 i (by omega)).2 j hj e)
     ·
      refine skip ?_
      refine kn90 _ _ ?_
      refine region ?_
      refine st_q (v := .map (some w21.heap.size)) (x_move rfl) ?_
      refine st_q (v := .int .i64 ((el ls i))) (x_move rfl) ?_
      refine st_s (e_mapUpdateI rfl rfl rfl Tryd.underlying3 Tryd.underlying4 Tryd.underlying105 hM (wfC (hG.2 i (by omega)).1 hG.1.2.2) (by unfold maxLen; omega) ?_)
      intro w98 hM99 hG100
      have hB101 := hBx.gk (hG100) (hM.rowk) (by decide)
      have hE102 : Below w0.heap.size w0 w98 := grown_below hG100 hx57 (Nat.le_refl _) (fun b e => by have e := Option.some.inj e; have := hlo_m; omega)
      have hz103 := hE102.le
      have hs104 := hG100.size
      refine st_nil ?_
      refine kn77 _ _ ?_
      refine kn73 _ _ ?_
      refine region ?_
      refine st_q (v := .int .i64 (((i + 1) : Nat) : Int)) (x_addN rfl rfl (by omega)) ?_
      refine st_q (v := .int .i64 (((i + 1) : Nat) : Int)) (x_move rfl) ?_
      refine st_nil ?_
      refine kn60 _ ((i + 1)) _ ⟨rfl, rfl, rfl, rfl, rfl, rfl, trivial⟩ ⟨hE102, ?_⟩ ?_
      ·
       try dsimp only
       exact ⟨by omega, hB101, by rw [seenB_succ]; exact hM99, fun j h => by
         by_cases he : j = i
         · subst he; exact fun k hk e => (by assumption : ¬ ∃ q, q < j ∧ el ls q = el ls j) ⟨k, hk, e⟩
         · exact hI j (by omega)⟩
      ·
       (try dsimp only); omega
    ·
     refine exit ?_
     refine ke70 _ _ _ ?_
     refine ke62 _ _ _ ?_
     refine kb53 _ _ ?_
     refine kn42 _ _ ?_
     refine seqK fun Q105 kn106 kr107 ke108 => ?_
     refine region ?_
     have hEA := hx57
     have hBxA := hBx
     have hLA := RowsP.below hL hEA
     have haA := ha.below hEA
     have hbA := hb.below hEA
     have hzA := hEA.le
     have hE109 : Below w56.heap.size w56 w56 := Below.refl _ _
     have hz110 := hE109.le
     have hcl : ls.length ≤ 16 := cols_len hG.2 hG.1.2.2
     refine st_e (e_buildSlice (cs := []) (e := 109) (fun _ => by kernel_rfl) ?_)
     intro w111 hA112
     have hx113 := hA112.ext
     have hs114 := hA112.size
     have hB115 : Blk w111.heap w56.heap.size [] 109 := hA112.new
     have hB116 := hBxA.ext hx113
     have hE117 : Below w56.heap.size w56 w111 := hx113.e hE109 (Nat.le_refl _)
     have hz118 := hE117.le
     have hs119 := hx113.size
     refine st_q (v := .slice ((some ⟨w56.heap.size, 0, none⟩)) 0 0) (x_assign rfl) ?_
     refine st_nil ?_
     refine kn106 _ _ ?_
     refine seqK fun Q120 kn121 kr122 ke123 => ?_
     refine seqK fun Q124 kn125 kr126 ke127 => ?_
     refine region ?_
     refine st_q (v := .agg #[.string pr, .int .i64 ar, .slice a L.length ca]) (x_loadA [.string pr, .int .i64 ar, .slice a L.length ca] T.ag29 rfl (hB116.cells 0 [.string pr, .int .i64 ar, .slice a L.length ca] (cells_at rfl))) ?_
     refine st_c (t_call [.agg #[.string pr, .int .i64 ar, .slice a L.length ca]] T.cf51 rfl rfl) (set51 pr ar L _ _ (haA.below hE117) (RowsP.below hLA hE117) (by omega)) ?_
     rintro _ w128 ⟨vR, R, rfl, hx129, hO130, hRs, hRL⟩
     refine ⟨_, rfl, ?_⟩
     have hB131 := hB116.ext hx129
     have hB132 := hB115.ext hx129
     have hE133 : Below w56.heap.size w56 w128 := hx129.e hE117 (Nat.le_refl _)
     have hz134 := hE133.le
     have hs135 := hx129.size
     have hOR := hO130.weak (lo' := w56.heap.size) (by omega)
     obtain ⟨aR, cR, rfl, hcR, hcR1⟩ := hOR.src.form
     have hRP : RowsP w56.heap R := fun x hx => hLA x (hRL x hx)
     have hRn : R.length ≤ L.length := by
          have h1 : (tp R).length ≤ (tp L).length := by rw [hRs]; unfold setL; exact Nat.le_trans (ddL_len _) (Nat.le_of_eq (srt_length _))
          rwa [tp_len, tp_len] at h1
     refine st_q (v := .int .i64 ((R.length : Nat) : Int)) (x_lenSl rfl Tryd.underlying27 rfl) ?_
     refine st_q (v := .int .i64 ((0 : Nat) : Int)) (x_move rfl) ?_
     refine st_nil ?_
     refine kn125 _ _ ?_
     refine blockK fun Q136 kn137 kr138 kx139 kb140 => ?_
     refine loopK (α := Nat × (List (Row × Row)) × Value) (fun x => [(1, .slice b ls.length cb), (10, x.2.2), (40, .slice aR R.length cR), (41, .int .i64 ((R.length : Nat) : Int)), (42, .int .i64 ((x.1 : Nat) : Int))]) (fun x w141 => Below w56.heap.size w56 w141 ∧ x.1 ≤ R.length ∧ x.2.1.map (·.2) = R.take x.1 ∧ (∀ q ∈ x.2.1, q.1.2 = cutL q.2.2 ls) ∧ Own w141.heap w56.heap.size 109 2 x.2.2 x.1 (flat enK x.2.1) ∧ KOK w141.heap w56.heap.size (x.2.1.map (·.1)) ∧ Own w141.heap w56.heap.size 42 1 (.slice aR R.length cR) R.length (flat enR R)) (fun x => R.length - x.1) (0, [], .slice ((some ⟨w56.heap.size, 0, none⟩)) 0 0) ⟨rfl, rfl, rfl, rfl, rfl, trivial⟩ ?_ ?_
     ·
      refine ⟨hE133, ?_⟩
      try dsimp only
      exact ⟨Nat.zero_le _, rfl, fun x hx => absurd hx (by simp), hB132.own0 (by omega), KOK.nil _ _, hOR⟩
     ·
      rintro τ142 ⟨i, RL, v⟩ w143 ⟨hx144, ⟨hi, hm, hcut, hO, hK, hOR⟩⟩
      try dsimp only at hi hm hcut hO hK hOR
      have hz145 := hx144.le
      intro Q146 kn147 kr148 ke149
      have hEi := hx144
      have hzi := hEi.le
      obtain ⟨aV, cV, rfl, hcV, hcV1⟩ := hO.src.form
      have hRPi := RowsP.below hRP hEi
      have hORi := hOR.src
      have hbi := hbA.below hEi
      have hlO : ∀ k, Value.ownBlock (.slice aV i cV) = some k → k < w143.heap.size := fun k e => (hO.lt e).2
      have hRLl : RL.length = i := by have h := congrArg List.length hm; rw [List.length_map, List.length_take] at h; omega
      have hE150 : Below w143.heap.size w143 w143 := Below.refl _ _
      have hz151 := hE150.le
      refine seqK fun Q152 kn153 kr154 ke155 => ?_
      refine region ?_
      refine st_q (v := .bool (decide (i < R.length))) (x_lssN rfl rfl) ?_
      refine st_nil ?_
      refine kn153 _ _ ?_
      refine seqK fun Q156 kn157 kr158 ke159 => ?_
      refine cnd (p := i < R.length) rfl (fun h160 => ?_) (fun h160 => ?_)
      ·
       refine skip ?_
       refine kn157 _ _ ?_
       refine seqK fun Q161 kn162 kr163 ke164 => ?_
       refine blockK fun Q165 kn166 kr167 kx168 kb169 => ?_
       refine seqK fun Q170 kn171 kr172 ke173 => ?_
       refine region ?_
       obtain ⟨b174, o175, ha176, hc177⟩ := hORi.at (by omega)
       refine st_q (v := .pointer (some ⟨b174, o175 + i * 1, none⟩)) (x_index' T.sl27 rfl ha176 rfl (by omega)) ?_
       have hs178 := RowsP.at (hRPi) (i := i) (by omega)
       have hq179 := hs178.capl
       refine st_q (v := .slice ((el R i).1.1) ((el R i).2.length) ((el R i).1.2)) (x_load1 T.na42 rfl ((hc177.below hE150).elem enR_len (i := i) (by omega))) ?_
       refine st_q (v := .slice ((el R i).1.1) ((el R i).2.length) ((el R i).1.2)) (x_assign rfl) ?_
       refine st_nil ?_
       refine kn171 _ _ ?_
       refine seqK fun Q180 kn181 kr182 ke183 => ?_
       refine region ?_
       refine st_q (v := .slice ((el R i).1.1) ((el R i).2.length) ((el R i).1.2)) (x_move rfl) ?_
       refine st_q (v := .agg #[.slice none 0 0, .slice ((el R i).1.1) ((el R i).2.length) ((el R i).1.2)]) (x_build (fun _ => by kernel_rfl)) ?_
       refine st_e (e_alloc T.zv109 ?_)
       intro w184 hA185
       have hx186 := hA185.ext
       have hs187 := hA185.size
       have hB188 : Blk w184.heap w143.heap.size [.slice none 0 0, .slice none 0 0] 109 := hA185.new
       have hE189 : Below w143.heap.size w143 w184 := hx186.e hE150 (Nat.le_refl _)
       have hz190 := hE189.le
       have hs191 := hx186.size
       refine st_s (e_st (v := .agg #[.slice none 0 0, .slice ((el R i).1.1) ((el R i).2.length) ((el R i).1.2)]) T.sz109 rfl rfl hB188 (by simp [Value.cells]) (by rfl) ?_)
       intro w192 hP193
       have hB194 : Blk w192.heap w143.heap.size [.slice none 0 0, .slice ((el R i).1.1) ((el R i).2.length) ((el R i).1.2)] 109 := hP193.new
       have hs195 := hP193.size
       have hE196 : Below w143.heap.size w143 w192 := hP193.below hE189 (by omega)
       have hz197 := hE196.le
       refine st_nil ?_
       refine kn181 _ _ ?_
       refine seqK fun Q198 kn199 kr200 ke201 => ?_
       refine seqK fun Q202 kn203 kr204 ke205 => ?_
       refine region ?_
       refine st_q (v := .slice b ls.length cb) (x_move rfl) ?_
       refine st_q (v := .int .i64 ((ls.length : Nat) : Int)) (x_lenSl rfl Tryd.underlying30 rfl) ?_
       refine st_q (v := .int .i64 ((0 : Nat) : Int)) (x_move rfl) ?_
       refine st_nil ?_
       refine kn203 _ _ ?_
       refine blockK fun Q206 kn207 kr208 kx209 kb210 => ?_
       refine loopK (α := Nat × Value) (fun x => [(1, .slice b ls.length cb), (10, .slice aV i cV), (12, .slice ((el R i).1.1) ((el R i).2.length) ((el R i).1.2)), (13, .pointer (some ⟨w143.heap.size, 0, none⟩)), (40, .slice aR R.length cR), (41, .int .i64 ((R.length : Nat) : Int)), (42, .int .i64 ((i : Nat) : Int)), (48, .slice b ls.length cb), (49, .int .i64 ((ls.length : Nat) : Int)), (50, .int .i64 ((x.1 : Nat) : Int))]) (fun x w211 => Below w143.heap.size w143 w211 ∧ x.1 ≤ ls.length ∧ Blk w211.heap w143.heap.size [x.2, .slice ((el R i).1.1) ((el R i).2.length) ((el R i).1.2)] 109 ∧ Own w211.heap w143.heap.size 9 1 x.2 x.1 (flat enS (cutL (el R i).2 (ls.take x.1)))) (fun x => ls.length - x.1) (0, .slice none 0 0) ⟨rfl, rfl, rfl, rfl, rfl, rfl, rfl, rfl, rfl, rfl, trivial⟩ ?_ ?_
       ·
        refine ⟨hE196, ?_⟩
        try dsimp only
        exact ⟨Nat.zero_le _, hB194, Own.nil _ _ _ _⟩
       ·
        rintro τ212 ⟨k, vk⟩ w213 ⟨hx214, ⟨hk, hBt, hOk⟩⟩
        try dsimp only at hk hBt hOk
        have hz215 := hx214.le
        intro Q216 kn217 kr218 ke219
        obtain ⟨aK, cK, rfl, hcK, hcK1⟩ := hOk.src.form
        refine seqK fun Q220 kn221 kr222 ke223 => ?_
        refine region ?_
        refine st_q (v := .bool (decide (k < ls.length))) (x_lssN rfl rfl) ?_
        refine st_nil ?_
        refine kn221 _ _ ?_
        refine seqK fun Q224 kn225 kr226 ke227 => ?_
        refine cnd (p := k < ls.length) rfl (fun h228 => ?_) (fun h228 => ?_)
        ·
         refine skip ?_
         refine kn225 _ _ ?_
         refine seqK fun Q229 kn230 kr231 ke232 => ?_
         refine blockK fun Q233 kn234 kr235 kx236 kb237 => ?_
         refine seqK fun Q238 kn239 kr240 ke241 => ?_
         refine region ?_
         obtain ⟨b242, o243, ha244, hc245⟩ := hbi.at (by omega)
         refine st_q (v := .pointer (some ⟨b242, o243 + k * 1, none⟩)) (x_index' T.sl30 rfl ha244 rfl (by omega)) ?_
         refine st_q (v := .int .i64 ((el ls k))) (x_load1 T.na3 rfl ((hc245.below hx214).elem enI_len (i := k) (by omega))) ?_
         refine st_q (v := .int .i64 ((el ls k))) (x_assign rfl) ?_
         refine st_nil ?_
         refine kn239 _ _ ?_
         refine regionD1 [1, 5] [0, 1, 2, 3, 4, 5, 8] (.one 0 (.one 1 (.one 2 (.one 3 (.one 4 (.one 5 (.one 6 (.one 7 (.one 8 (.one 9 .done)))))))))) (by kernel_rfl) (by kernel_rfl) ?_
         intro w246 hx247 hs248
         have hB249 := hBt.ext hx247
         have hF250 := hOk.ext hx247
         have hE251 : Below w143.heap.size w143 w246 := hx247.e hx214 (Nat.le_refl _)
         have hz252 := hE251.le
         have hs253 := hx247.size
         have hS254 : Ext w246 w246 := Below.refl _ _
         refine d_q (v := .pointer (some ⟨w143.heap.size, 0, none⟩)) rfl rfl (fun _ => x_field (o := 0) T.fa109_0 rfl) ?_
         refine d_l (v := .slice aK k cK) rfl rfl rfl (fun v256 hw255 => x_load1 T.na42 rfl ((hB249.one 0 rfl).ext hw255)) ?_
         refine d_q (v := .slice ((el R i).1.1) ((el R i).2.length) ((el R i).1.2)) rfl rfl (fun _ => x_move rfl) ?_
         refine d_q (v := .int .i64 ((el ls k))) rfl rfl (fun _ => x_move rfl) ?_
         obtain ⟨m, hmk⟩ : ∃ m : Nat, el ls k = ((m : Nat) : Int) := ⟨(el ls k).toNat, by have := hcin k (by omega); omega⟩
         have hmr := hcin k (by omega)
         have htl : ((el R i).2.length : Int) = ar := hG.1.1 _ (show (el R i).2 ∈ tp L from List.mem_map_of_mem (hRL _ (el_mem' (by omega))))
         obtain ⟨b257, o258, ha259, hc260⟩ := hs178.at (by omega)
         refine d_q (v := .pointer (some ⟨b257, o258 + m * 1, none⟩)) rfl rfl (fun _ => x_index' T.sl42 rfl ha259 (Eq.trans rfl (congrArg (Value.int .i64) hmk)) (by omega)) ?_
         refine d_l (v := .string (el (el R i).2 m)) rfl rfl rfl (fun v262 hw261 => x_load1 T.na9 rfl (((hc260.below hE251).elem enS_len (i := m) (by omega)).ext hw261)) ?_
         refine d_e (by decide) (d_e' rfl rfl (e_buildSlice (cs := [.string (el (el R i).2 m)]) (e := 9) (fun _ => by kernel_rfl) ?_))
         intro w263 hA264
         have hx265 := hA264.ext
         have hs266 := hA264.size
         have hB267 : Blk w263.heap w246.heap.size [.string (el (el R i).2 m)] 9 := hA264.new
         have hB268 := hB249.ext hx265
         have hF269 := hF250.ext hx265
         have hE270 : Below w143.heap.size w143 w263 := hx265.e hE251 (Nat.le_refl _)
         have hz271 := hE270.le
         have hs272 := hx265.size
         have hS273 := hS254.trans (hx265.mono hS254.size)
         refine ⟨fun _ => hS273, ?_⟩
         refine d_e (by decide) (d_e' rfl rfl (e_appendX T.sl42 rfl rfl hF269 (hB267.src1 (k := 1) (m := 1) rfl (by omega)) (ones (by rfl)) (by omega) (by decide) (by omega) ?_))
         intro v274 w275 hO276 hG277 hN278 hW279
         have hB280 := hB268.gk (hG277) (hF269.rowk) (by decide)
         have hE281 : Below w143.heap.size w143 w275 := grown_below hG277 hE270 (Nat.le_refl _) (fun b hb => (by have := (hF269.lt hb).1; clear hb; omega))
         have hz282 := hE281.le
         have hs283 := hG277.size
         refine ⟨need_no (by kernel_rfl), ?_⟩
         have hO284 := Own.snoc (enc := enS) (u := el (el R i).2 m) hO276
         obtain ⟨a285, c286, rfl, hm287, hm288⟩ := hO284.src.form
         refine d_q (v := .pointer (some ⟨w143.heap.size, 0, none⟩)) rfl rfl (fun _ => x_field (o := 0) T.fa109_0 rfl) ?_
         refine d_e (by decide) (d_s' rfl rfl (e_st (v := .slice a285 ((k + 1)) c286) T.sz42 rfl rfl hB280 (by simp [Value.cells]) (by rfl) ?_))
         intro w289 hP290
         have hB291 : Blk w289.heap w143.heap.size [.slice a285 ((k + 1)) c286, .slice ((el R i).1.1) ((el R i).2.length) ((el R i).1.2)] 109 := hP290.new
         have hs292 := hP290.size
         have hF293 := hO284.gk (hP290.grownBy) (hB280.rowk) (by decide)
         have hE294 : Below w143.heap.size w143 w289 := hP290.below hE281 (by omega)
         have hz295 := hE294.le
         refine ⟨need_no (by kernel_rfl), ?_⟩
         refine d_done ?_
         refine kn234 _ _ ?_
         refine kn230 _ _ ?_
         refine region ?_
         refine st_q (v := .int .i64 (((k + 1) : Nat) : Int)) (x_addN rfl rfl (by omega)) ?_
         refine st_q (v := .int .i64 (((k + 1) : Nat) : Int)) (x_move rfl) ?_
         refine st_nil ?_
         refine kn217 _ ((k + 1), .slice a285 ((k + 1)) c286) _ ⟨rfl, rfl, rfl, rfl, rfl, rfl, rfl, rfl, rfl, rfl, trivial⟩ ⟨hE294, ?_⟩ ?_
         ·
          try dsimp only
          exact ⟨by omega, hB291, by rw [take_succ_el (by omega), cutL_snoc, hmk]; exact hF293⟩
         ·
          (try dsimp only); omega
        ·
         refine exit ?_
         refine ke227 _ _ _ ?_
         refine ke219 _ _ _ ?_
         refine kb210 _ _ ?_
         refine kn199 _ _ ?_
         refine region ?_
         have ek : k = ls.length := by omega
         have hKn : Own w213.heap w143.heap.size 9 1 (.slice aK (cutL (el R i).2 ls).length cK) (cutL (el R i).2 ls).length (flat enS (cutL (el R i).2 ls)) := by rw [cutL_len]; have h := hOk; rw [ek, List.take_length] at h; exact h
         have hBn : Blk w213.heap w143.heap.size [.slice aK (cutL (el R i).2 ls).length cK, .slice ((el R i).1.1) ((el R i).2.length) ((el R i).1.2)] 109 := by rw [cutL_len]; have h := hBt; rw [ek] at h; exact h
         have hE2 : Below w56.heap.size w56 w213 := Below.e hx214 hEi (Nat.le_refl _)
         have hK2 : KOK w213.heap w56.heap.size ((RL.map (·.1)) ++ [((aK, cK), (cutL (el R i).2 ls))]) := hK.snoc hx214 (by omega) (Nat.le_refl _) hKn
         have hO2 := hO.ext hx214
         have hOR2 := hOR.ext hx214
         have hz2 := hE2.le
         refine st_q (v := .slice aV i cV) (x_move rfl) ?_
         refine st_q (v := .agg #[.slice aK ((cutL (el R i).2 ls).length) cK, .slice ((el R i).1.1) ((el R i).2.length) ((el R i).1.2)]) (x_loadA [.slice aK ((cutL (el R i).2 ls).length) cK, .slice ((el R i).1.1) ((el R i).2.length) ((el R i).1.2)] T.ag109 rfl (hBn.cells 0 [.slice aK ((cutL (el R i).2 ls).length) cK, .slice ((el R i).1.1) ((el R i).2.length) ((el R i).1.2)] (cells_at rfl))) ?_
         refine st_e (e_buildSlice (cs := [.slice aK ((cutL (el R i).2 ls).length) cK, .slice ((el R i).1.1) ((el R i).2.length) ((el R i).1.2)]) (e := 109) (fun _ => by kernel_rfl) ?_)
         intro w296 hA297
         have hx298 := hA297.ext
         have hs299 := hA297.size
         have hB300 : Blk w296.heap w213.heap.size [.slice aK ((cutL (el R i).2 ls).length) cK, .slice ((el R i).1.1) ((el R i).2.length) ((el R i).1.2)] 109 := hA297.new
         have hB301 := hBn.ext hx298
         have hF302 := hO2.ext hx298
         have hF303 := hOR2.ext hx298
         have hF304 := hK2.ext hx298
         have hE305 : Below w56.heap.size w56 w296 := hx298.e hE2 (Nat.le_refl _)
         have hz306 := hE305.le
         have hs307 := hx298.size
         refine st_e (e_appendX T.sl106 rfl rfl hF302 (hB300.src1 (k := 2) (m := 1) rfl (by omega)) (ones (by rfl)) (by omega) (by decide) (by omega) ?_)
         intro v308 w309 hO310 hG311 hN312 hW313
         have hB314 := hB301.grown hG311 (fun e => by first | exact hne e | (have := (hF302.lt e).1; clear e; omega) | (have := (hO.lt e).2; clear e; omega))
         have hF315 := hF303.gk (hG311) (hF302.rowk) (by decide)
         have hF316 := hF304.gk (hG311) (hF302.rowk) (by decide)
         have hE317 : Below w56.heap.size w56 w309 := grown_below hG311 hE305 (Nat.le_refl _) (fun b hb => (by have := (hF302.lt hb).1; clear hb; omega))
         have hz318 := hE317.le
         have hs319 := hG311.size
         have hO320 := Own.snoc (enc := enK) (u := (((aK, cK), (cutL (el R i).2 ls)), el R i)) hO310
         obtain ⟨a321, c322, rfl, hm323, hm324⟩ := hO320.src.form
         refine st_q (v := .slice a321 ((i + 1)) c322) (x_assign rfl) ?_
         refine st_nil ?_
         refine kn166 _ _ ?_
         refine kn162 _ _ ?_
         refine region ?_
         refine st_q (v := .int .i64 (((i + 1) : Nat) : Int)) (x_addN rfl rfl (by omega)) ?_
         refine st_q (v := .int .i64 (((i + 1) : Nat) : Int)) (x_move rfl) ?_
         refine st_nil ?_
         refine kn147 _ ((i + 1), (RL ++ [(((aK, cK), (cutL (el R i).2 ls)), el R i)]), .slice a321 ((i + 1)) c322) _ ⟨rfl, rfl, rfl, rfl, rfl, trivial⟩ ⟨hE317, ?_⟩ ?_
         ·
          try dsimp only
          refine ⟨by omega, by rw [List.map_append, hm, take_succ_el (by omega)]; rfl, fun x hx => ?_, hO320, by rw [List.map_append]; exact hF316, hF315⟩
          rcases List.mem_append.1 hx with hx | hx
          · exact hcut x hx
          · rw [List.mem_singleton] at hx; subst hx; rfl
         ·
          (try dsimp only); omega
      ·
       refine exit ?_
       refine ke159 _ _ _ ?_
       refine ke149 _ _ _ ?_
       refine kb140 _ _ ?_
       refine kn121 _ _ ?_
       refine seqK fun Q325 kn326 kr327 ke328 => ?_
       refine region ?_
       refine st_q (v := .slice aV i cV) (x_move rfl) ?_
       have ei : i = R.length := by omega
       have hmR : RL.map (·.2) = R := by rw [hm, ei, List.take_length]
       have hKG : ∀ x ∈ RL, GK w143 x := fun x hx => (hK.own x.1 (List.mem_map_of_mem hx)).src
       have hOs : Src w143.heap (.slice aV i cV) RL.length 2 (flat enK RL) := by rw [hRLl]; exact hO.src
       refine st_c (t_call [.slice aV i cV, .func (.func 53) #[] #[]] T.cf52 rfl rfl) (sort52 53 cK T.cf53 (tups_law.on fun x : Row × Row => x.1.2) (.func (.func 53) #[] #[]) (toldF70 53) (GK w143) RL hKG _ _ (cmpK53 _) hOs (by omega)) ?_
       rintro _ w329 ⟨vS, rfl, hx330, hO331⟩
       refine ⟨_, rfl, ?_⟩
       have hE332 : Below w143.heap.size w143 w329 := hx330.e hE150 (Nat.le_refl _)
       have hz333 := hE332.le
       have hs334 := hx330.size
       obtain ⟨S, hS⟩ : ∃ S, S = srt cK RL := ⟨_, rfl⟩
       have hSl : S.length = RL.length := by rw [hS, srt_length]
       rw [← hS, ← hSl] at hO331
       obtain ⟨aS, cS, rfl, hcS, hcS1⟩ := hO331.src.form
       have hSs := hO331.src
       have hEAB := Below.e hE332 hEi (Nat.le_refl _)
       have hEB := Below.e hEAB hEA (Nat.le_refl _)
       have hzB := hEB.le
       have hzAB := hEAB.le
       have hKB : KOK w329.heap w56.heap.size (S.map (·.1)) := (hK.ext hx330).perm (by rw [hS]; exact (srt_perm _).map _)
       have hSR : Rise cK S := by rw [hS]; exact srt_rise (tups_law.on fun x : Row × Row => x.1.2) _
       have hSm : ∀ x ∈ S, GR w329 x.1 := fun x hx => (hKB.own x.1 (List.mem_map_of_mem hx)).src
       have hE335 : Below w329.heap.size w329 w329 := Below.refl _ _
       have hz336 := hE335.le
       refine st_q (v := .slice aS S.length cS) (x_assign rfl) ?_
       refine st_nil ?_
       refine kn326 _ _ ?_
       refine seqK fun Q337 kn338 kr339 ke340 => ?_
       refine region ?_
       refine st_q (v := .slice none 0 0) (x_assign rfl) ?_
       refine st_nil ?_
       refine kn338 _ _ ?_
       refine seqK fun Q341 kn342 kr343 ke344 => ?_
       refine region ?_
       refine st_q (v := .slice none 0 0) (x_assign rfl) ?_
       refine st_nil ?_
       refine kn342 _ _ ?_
       refine seqK fun Q345 kn346 kr347 ke348 => ?_
       refine seqK fun Q349 kn350 kr351 ke352 => ?_
       refine region ?_
       refine st_q (v := .slice aS S.length cS) (x_move rfl) ?_
       refine st_q (v := .int .i64 ((S.length : Nat) : Int)) (x_lenSl rfl Tryd.underlying106 rfl) ?_
       refine st_q (v := .int .i64 ((0 : Nat) : Int)) (x_move rfl) ?_
       refine st_nil ?_
       refine kn350 _ _ ?_
       refine blockK fun Q353 kn354 kr355 kx356 kb357 => ?_
       refine loopK (α := Nat × (List Value) × Value × Value) (fun x => [(16, x.2.2.1), (17, x.2.2.2), (71, .slice aS S.length cS), (72, .int .i64 ((S.length : Nat) : Int)), (73, .int .i64 ((x.1 : Nat) : Int))]) (fun x w358 => Below w329.heap.size w329 w358 ∧ x.1 ≤ S.length ∧ Own w358.heap w329.heap.size 44 8 x.2.2.1 (gfold (S.take x.1)).length (flat enG ((gfold (S.take x.1)).map toG)) ∧ Own w358.heap w329.heap.size 27 1 x.2.2.2 (gfold (S.take x.1)).length (flat enV x.2.1) ∧ Fam w358.heap w329.heap.size 42 enR x.2.1 ((gfold (S.take x.1)).map (·.2))) (fun x => S.length - x.1) (0, [], .slice none 0 0, .slice none 0 0) ⟨rfl, rfl, rfl, rfl, rfl, trivial⟩ ?_ ?_
       ·
        refine ⟨hE335, ?_⟩
        try dsimp only
        exact ⟨Nat.zero_le _, Own.nil _ _ _ _, Own.nil _ _ _ _, Fam.nil _ _ _ _⟩
       ·
        rintro τ359 ⟨i, vs, vg, vm⟩ w360 ⟨hx361, ⟨hi, hOg, hOm, hF⟩⟩
        try dsimp only at hi hOg hOm hF
        have hz362 := hx361.le
        intro Q363 kn364 kr365 ke366
        have hsp := gfold_spec (S := S.take i) (hSR.sublist (List.take_sublist _ _))
        have hml := gfold_mem_len (S.take i)
        have hAl := gfold_len (S.take i)
        obtain ⟨A, hA⟩ : ∃ A, A = gfold (S.take i) := ⟨_, rfl⟩
        rw [← hA] at hsp hml hAl hOg hOm hF
        rw [List.length_take] at hAl hml
        obtain ⟨aG, cG, rfl, hcG, hcG1⟩ := hOg.src.form
        obtain ⟨aM, cM, rfl, hcM, hcM1⟩ := hOm.src.form
        have hFl := hF.len
        rw [List.length_map] at hFl
        have hAml : (A.map toG).length = A.length := List.length_map _
        have hkey : ∀ j, j < A.length → Src w329.heap (.slice (el (A.map toG) j).q (el (A.map toG) j).key.length (el (A.map toG) j).c) (el (A.map toG) j).key.length 1 (flat enS (el (A.map toG) j).key) := fun j hj => by
                rw [el_map hj]; obtain ⟨x, hx, e⟩ := hsp.2.2.1 _ (el_mem' hj); have := hSm x (List.mem_of_mem_take hx); rw [← e] at this; exact this
        refine seqK fun Q367 kn368 kr369 ke370 => ?_
        refine region ?_
        refine st_q (v := .bool (decide (i < S.length))) (x_lssN rfl rfl) ?_
        refine st_nil ?_
        refine kn368 _ _ ?_
        refine seqK fun Q371 kn372 kr373 ke374 => ?_
        refine cnd (p := i < S.length) rfl (fun h375 => ?_) (fun h375 => ?_)
        ·
         refine skip ?_
         refine kn372 _ _ ?_
         refine seqK fun Q376 kn377 kr378 ke379 => ?_
         refine blockK fun Q380 kn381 kr382 kx383 kb384 => ?_
         refine seqK fun Q385 kn386 kr387 ke388 => ?_
         refine region ?_
         obtain ⟨b389, o390, ha391, hc392⟩ := hSs.at (by omega)
         refine st_q (v := .pointer (some ⟨b389, o390 + i * 2, none⟩)) (x_index' T.sl106 rfl ha391 rfl (by omega)) ?_
         refine st_q (v := .agg #[.slice ((el S i).1.1.1) ((el S i).1.2.length) ((el S i).1.1.2), .slice ((el S i).2.1.1) ((el S i).2.2.length) ((el S i).2.1.2)]) (x_loadA [.slice ((el S i).1.1.1) ((el S i).1.2.length) ((el S i).1.1.2), .slice ((el S i).2.1.1) ((el S i).2.2.length) ((el S i).2.1.2)] T.ag109 rfl ((hc392.below hx361).elem enK_len (i := i) (by omega))) ?_
         refine st_e (e_alloc T.zv109 ?_)
         intro w393 hA394
         have hx395 := hA394.ext
         have hs396 := hA394.size
         have hB397 : Blk w393.heap w360.heap.size [.slice none 0 0, .slice none 0 0] 109 := hA394.new
         have hF398 := hOg.ext hx395
         have hF399 := hOm.ext hx395
         have hF400 := Fam.ext hF hx395
         have hE401 : Below w329.heap.size w329 w393 := hx395.e hx361 (Nat.le_refl _)
         have hz402 := hE401.le
         have hs403 := hx395.size
         refine st_s (e_st (v := .agg #[.slice ((el S i).1.1.1) ((el S i).1.2.length) ((el S i).1.1.2), .slice ((el S i).2.1.1) ((el S i).2.2.length) ((el S i).2.1.2)]) T.sz109 rfl rfl hB397 (by simp [Value.cells]) (by rfl) ?_)
         intro w404 hP405
         have hB406 : Blk w404.heap w360.heap.size [.slice ((el S i).1.1.1) ((el S i).1.2.length) ((el S i).1.1.2), .slice ((el S i).2.1.1) ((el S i).2.2.length) ((el S i).2.1.2)] 109 := hP405.new
         have hs407 := hP405.size
         have hF408 := hF398.gk (hP405.grownBy) (hB397.rowk) (by decide)
         have hF409 := hF399.gk (hP405.grownBy) (hB397.rowk) (by decide)
         have hF410 := Fam.gk hF400 (hP405.grownBy) (hB397.rowk) (by decide)
         have hE411 : Below w329.heap.size w329 w404 := hP405.below hE401 (by omega)
         have hz412 := hE411.le
         refine st_nil ?_
         refine kn386 _ _ ?_
         refine seqK fun Q413 kn414 kr415 ke416 => ?_
         refine region ?_
         refine st_q (v := .slice aG A.length cG) (x_move rfl) ?_
         refine st_q (v := .int .i64 ((A.length : Nat) : Int)) (x_lenSl rfl Tryd.underlying32 rfl) ?_
         refine st_q (v := .int .i64 ((A.length : Nat) : Int)) (x_assign rfl) ?_
         refine st_nil ?_
         refine kn414 _ _ ?_
         refine seqLK (n := 129) (ds := []) (α := Acc × Nat × (List Value) × Nat × Nat × Nat × Nat) (fun x => [(16, .slice ((some ⟨x.2.2.2.1, 0, none⟩)) x.2.1 x.2.2.2.2.1), (17, .slice ((some ⟨x.2.2.2.2.2.1, 0, none⟩)) x.2.1 x.2.2.2.2.2.2), (19, .pointer (some ⟨w360.heap.size, 0, none⟩)), (20, .int .i64 ((x.2.1 : Nat) : Int)), (71, .slice aS S.length cS), (72, .int .i64 ((S.length : Nat) : Int)), (73, .int .i64 ((i : Nat) : Int))]) (fun x w417 => Below w329.heap.size w329 w417 ∧ x.1 = gpre A (el S i) ∧ x.2.1 = x.1.length ∧ Blk w417.heap w360.heap.size [.slice ((el S i).1.1.1) ((el S i).1.2.length) ((el S i).1.1.2), .slice ((el S i).2.1.1) ((el S i).2.2.length) ((el S i).2.1.2)] 109 ∧ OB w417.heap w329.heap.size 44 8 x.2.2.2.1 x.2.2.2.2.1 (flat enG (x.1.map toG)) ∧ x.2.1 ≤ x.2.2.2.2.1 ∧ OB w417.heap w329.heap.size 27 1 x.2.2.2.2.2.1 x.2.2.2.2.2.2 (flat enV x.2.2.1) ∧ x.2.1 ≤ x.2.2.2.2.2.2 ∧ Fam w417.heap w329.heap.size 42 enR x.2.2.1 (x.1.map (·.2))) ?_ ?_
         ·
          intro Q418 kn419 kr420 ke421
          refine seqK fun Q422 kn423 kr424 ke425 => ?_
          refine regionD1 [8, 10] [0, 1, 2, 3, 4, 5, 6, 7, 8, 9, 10, 12, 13] (.one 0 (.one 1 (.one 2 (.one 3 (.one 4 (.one 5 (.one 6 (.one 7 (.one 8 (.one 9 (.one 10 (.one 11 (.one 12 (.one 13 .done)))))))))))))) (by kernel_rfl) (by kernel_rfl) ?_
          intro w426 hx427 hs428
          have hB429 := hB406.ext hx427
          have hF430 := hF408.ext hx427
          have hF431 := hF409.ext hx427
          have hF432 := Fam.ext hF410 hx427
          have hE433 : Below w329.heap.size w329 w426 := hx427.e hE411 (Nat.le_refl _)
          have hz434 := hE433.le
          have hs435 := hx427.size
          have hS436 : Ext w426 w426 := Below.refl _ _
          refine d_q (v := .int .i64 ((A.length : Nat) : Int)) rfl rfl (fun _ => x_move rfl) ?_
          refine d_q (v := .bool (decide (A.length = 0))) rfl rfl (fun _ => x_eqlN rfl rfl) ?_
          refine d_if rfl rfl (p := A.length = 0) (fun _ => x_move rfl) (fun h437 => ?_) (fun h437 => ?_)
          ·
           refine d_gn (j := 2) (t := 81) rfl rfl rfl rfl (by decide) rfl ?_
           refine d_gn (j := 2) (t := 81) rfl rfl rfl rfl (by decide) rfl ?_
           refine d_gn (j := 2) (t := 81) rfl rfl rfl rfl (by decide) rfl ?_
           refine d_gn (j := 2) (t := 81) rfl rfl rfl rfl (by decide) rfl ?_
           refine d_gn (j := 2) (t := 81) rfl rfl rfl rfl (by decide) rfl ?_
           refine d_gn (j := 2) (t := 81) rfl rfl rfl rfl (by decide) rfl ?_
           refine d_gn (j := 2) (t := 81) rfl rfl rfl rfl (by decide) rfl ?_
           refine d_gn (j := 2) (t := 81) rfl rfl rfl rfl (by decide) rfl ?_
           refine d_e (by decide) (wpE_skip (j := 2) (t := 81) rfl rfl rfl (by decide) rfl (fun _ => hS436) ?_)
           refine d_gn (j := 2) (t := 81) rfl rfl rfl rfl (by decide) rfl ?_
           refine d_q (v := .bool true) rfl rfl (fun _ => x_pickT rfl rfl) ?_
           refine d_done ?_
           refine kn423 _ _ ?_
           refine cndT rfl ?_
           refine seqK fun Q438 kn439 kr440 ke441 => ?_
           refine region ?_
           refine st_q (v := .slice aG A.length cG) (x_move rfl) ?_
           refine st_q (v := .pointer (some ⟨w360.heap.size, 0, none⟩)) (x_field (o := 0) T.fa109_0 rfl) ?_
           refine st_q (v := .slice ((el S i).1.1.1) ((el S i).1.2.length) ((el S i).1.1.2)) (x_load1 T.na42 rfl (hB429.one 0 rfl)) ?_
           refine st_q (v := .agg #[.slice ((el S i).1.1.1) ((el S i).1.2.length) ((el S i).1.1.2), .int .i64 ((0 : Nat) : Int), .int .i64 ((0 : Nat) : Int), .float .f64 0, .float .f64 0, .float .f64 0, .float .f64 0, .float .f64 0]) (x_build (fun _ => by kernel_rfl)) ?_
           refine st_e (e_buildSlice (cs := [.slice ((el S i).1.1.1) ((el S i).1.2.length) ((el S i).1.1.2), .int .i64 ((0 : Nat) : Int), .int .i64 ((0 : Nat) : Int), .float .f64 0, .float .f64 0, .float .f64 0, .float .f64 0, .float .f64 0]) (e := 44) (fun _ => by kernel_rfl) ?_)
           intro w442 hA443
           have hx444 := hA443.ext
           have hs445 := hA443.size
           have hB446 : Blk w442.heap w426.heap.size [.slice ((el S i).1.1.1) ((el S i).1.2.length) ((el S i).1.1.2), .int .i64 ((0 : Nat) : Int), .int .i64 ((0 : Nat) : Int), .float .f64 0, .float .f64 0, .float .f64 0, .float .f64 0, .float .f64 0] 44 := hA443.new
           have hB447 := hB429.ext hx444
           have hF448 := hF430.ext hx444
           have hF449 := hF431.ext hx444
           have hF450 := Fam.ext hF432 hx444
           have hE451 : Below w329.heap.size w329 w442 := hx444.e hE433 (Nat.le_refl _)
           have hz452 := hE451.le
           have hs453 := hx444.size
           refine st_e (e_appendX T.sl32 rfl rfl hF448 (hB446.src1 (k := 8) (m := 1) rfl (by omega)) (ones (by rfl)) (by omega) (by decide) (by omega) ?_)
           intro v454 w455 hO456 hG457 hN458 hW459
           have hB460 := hB447.gk (hG457) (hF448.rowk) (by decide)
           have hF461 := hF449.gk (hG457) (hF448.rowk) (by decide)
           have hF462 := Fam.gk hF450 (hG457) (hF448.rowk) (by decide)
           have hE463 : Below w329.heap.size w329 w455 := grown_below hG457 hE451 (Nat.le_refl _) (fun b hb => (by have := (hF448.lt hb).1; clear hb; omega))
           have hz464 := hE463.le
           have hs465 := hG457.size
           have hO466 := Own.snoc (enc := enG) (u := (⟨(el S i).1.1.1, (el S i).1.1.2, (el S i).1.2, 0, 0, 0, 0, 0, 0, 0⟩ : Grp)) hO456
           obtain ⟨a467, c468, rfl, hm469, hm470⟩ := hO466.src.form
           refine st_q (v := .slice a467 ((A.length + 1)) c468) (x_assign rfl) ?_
           refine st_nil ?_
           refine kn439 _ _ ?_
           refine seqK fun Q471 kn472 kr473 ke474 => ?_
           refine region ?_
           refine st_q (v := .slice aM A.length cM) (x_move rfl) ?_
           refine st_e (e_buildSlice (cs := [.slice none 0 0]) (e := 27) (fun _ => by kernel_rfl) ?_)
           intro w475 hA476
           have hx477 := hA476.ext
           have hs478 := hA476.size
           have hB479 : Blk w475.heap w455.heap.size [.slice none 0 0] 27 := hA476.new
           have hB480 := hB460.ext hx477
           have hF481 := hF461.ext hx477
           have hF482 := Fam.ext hF462 hx477
           have hF483 := hO466.ext hx477
           have hE484 : Below w329.heap.size w329 w475 := hx477.e hE463 (Nat.le_refl _)
           have hz485 := hE484.le
           have hs486 := hx477.size
           refine st_e (e_appendX T.sl72 rfl rfl hF481 (hB479.src1 (k := 1) (m := 1) rfl (by omega)) (ones (by rfl)) (by omega) (by decide) (by omega) ?_)
           intro v487 w488 hO489 hG490 hN491 hW492
           have hB493 := hB480.gk (hG490) (hF481.rowk) (by decide)
           have hF494 := Fam.gk hF482 (hG490) (hF481.rowk) (by decide)
           have hF495 := hF483.gk (hG490) (hF481.rowk) (by decide)
           have hE496 : Below w329.heap.size w329 w488 := grown_below hG490 hE484 (Nat.le_refl _) (fun b hb => (by have := (hF481.lt hb).1; clear hb; omega))
           have hz497 := hE496.le
           have hs498 := hG490.size
           have hO499 := Own.snoc (enc := enV) (u := .slice none 0 0) hO489
           obtain ⟨a500, c501, rfl, hm502, hm503⟩ := hO499.src.form
           have hF504 := hF494.snocNil
           refine st_q (v := .slice a500 ((A.length + 1)) c501) (x_assign rfl) ?_
           refine st_nil ?_
           refine kn472 _ _ ?_
           refine region ?_
           refine st_q (v := .int .i64 ((A.length : Nat) : Int)) (x_move rfl) ?_
           refine st_q (v := .int .i64 (((A.length + 1) : Nat) : Int)) (x_addN rfl rfl (by omega)) ?_
           refine st_q (v := .int .i64 (((A.length + 1) : Nat) : Int)) (x_assign rfl) ?_
           refine st_nil ?_
           obtain ⟨b505, c506, e507, hc508, hO509⟩ := hF495.ob (fun e => by injection e with _ e2 _; omega)
           injection e507 with e510 e511 e512; subst e510; subst e512
           obtain ⟨b513, c514, e515, hc516, hO517⟩ := hO499.ob (fun e => by injection e with _ e2 _; omega)
           injection e515 with e518 e519 e520; subst e518; subst e520
           refine kn419 _ ((A ++ [((el S i).1, [])]), (A.length + 1), (vs ++ [.slice none 0 0]), b505, c468, b513, c501) _ ⟨rfl, rfl, rfl, rfl, rfl, rfl, rfl, trivial⟩ ⟨hE496, ?_⟩
           try dsimp only
           exact ⟨by rw [gpre, if_pos (by first | exact .inl (by omega) | exact .inr (fun e => by have h := (by assumption : ¬ (el (A.map toG) (A.length - 1)).key = (el S i).1.2); rw [el_map (by omega)] at h; exact h e))], by simp, hB493, by rw [List.map_append]; exact hO509, by omega, hO517, by omega, by rw [List.map_append]; exact hF504⟩
          ·
           refine d_gq (v := .slice aG A.length cG) (j := 2) (t := 81) rfl rfl rfl rfl (by decide) (fun _ => x_move rfl) ?_
           refine d_gq (v := .int .i64 ((A.length : Nat) : Int)) (j := 2) (t := 81) rfl rfl rfl rfl (by decide) (fun _ => x_move rfl) ?_
           refine d_gq (v := .int .i64 (((A.length - 1) : Nat) : Int)) (j := 2) (t := 81) rfl rfl rfl rfl (by decide) (fun _ => x_subN rfl rfl (by omega) (by omega)) ?_
           obtain ⟨b521, o522, ha523, hc524⟩ := hF430.src.at (by omega)
           refine d_gq (v := .pointer (some ⟨b521, o522 + ((A.length - 1)) * 8, none⟩)) (j := 2) (t := 81) rfl rfl rfl rfl (by decide) (fun _ => x_index' T.sl32 rfl ha523 rfl (by omega)) ?_
           refine d_gq (v := .pointer (some ⟨b521, o522 + ((A.length - 1)) * 8, none⟩)) (j := 2) (t := 81) rfl rfl rfl rfl (by decide) (fun _ => x_field (o := o522 + ((A.length - 1)) * 8) T.fa44_0 rfl) ?_
           refine d_gl (v := .slice ((el (A.map toG) ((A.length - 1))).q) ((el (A.map toG) ((A.length - 1))).key.length) ((el (A.map toG) ((A.length - 1))).c)) (j := 2) (t := 81) rfl rfl rfl rfl rfl (by decide) (fun v526 hw525 => x_load1 T.na42 rfl (((hc524.elem enG_len (i := (A.length - 1)) (by omega)).fld 0 rfl).ext hw525)) ?_
           refine d_gq (v := .pointer (some ⟨w360.heap.size, 0, none⟩)) (j := 2) (t := 81) rfl rfl rfl rfl (by decide) (fun _ => x_field (o := 0) T.fa109_0 rfl) ?_
           refine d_gl (v := .slice ((el S i).1.1.1) ((el S i).1.2.length) ((el S i).1.1.2)) (j := 2) (t := 81) rfl rfl rfl rfl rfl (by decide) (fun v528 hw527 => x_load1 T.na42 rfl ((hB429.one 0 rfl).ext hw527)) ?_
           refine d_e (by decide) (d_c' rfl (wanted_true (j := 2) (t := 81) rfl rfl (by decide)) (t_call [.slice ((el (A.map toG) ((A.length - 1))).q) ((el (A.map toG) ((A.length - 1))).key.length) ((el (A.map toG) ((A.length - 1))).c), .slice ((el S i).1.1.1) ((el S i).1.2.length) ((el S i).1.1.2)] T.cf55 rfl rfl) (equal55 (el (A.map toG) (A.length - 1)).key (el S i).1.2 _ _ _ ((hkey (A.length - 1) (by omega)).below hE433) (Src.below (hSm _ (el_mem' (by omega))) hE433)) ?_)
           rintro _ w529 ⟨rfl, hx530⟩
           refine ⟨_, rfl, ?_⟩
           have hB531 := hB429.ext hx530
           have hF532 := hF430.ext hx530
           have hF533 := hF431.ext hx530
           have hF534 := Fam.ext hF432 hx530
           have hF535 := hc524.ext hx530
           have hE536 : Below w329.heap.size w329 w529 := hx530.e hE433 (Nat.le_refl _)
           have hz537 := hE536.le
           have hs538 := hx530.size
           have hS539 := hS436.trans (hx530.mono hS436.size)
           refine ⟨fun _ => hS539, ?_⟩
           refine d_gq (v := .bool (decide (¬ ((el (A.map toG) (A.length - 1)).key = (el S i).1.2)))) (j := 2) (t := 81) rfl rfl rfl rfl (by decide) (fun _ => x_notP rfl) ?_
           refine d_q (v := .bool (decide (¬ ((el (A.map toG) (A.length - 1)).key = (el S i).1.2)))) rfl rfl (fun _ => x_pickF rfl rfl) ?_
           refine d_done ?_
           refine kn423 _ _ ?_
           refine cnd (p := ¬ ((el (A.map toG) (A.length - 1)).key = (el S i).1.2)) rfl (fun h540 => ?_) (fun h540 => ?_)
           ·
            refine seqK fun Q541 kn542 kr543 ke544 => ?_
            refine region ?_
            refine st_q (v := .slice aG A.length cG) (x_move rfl) ?_
            refine st_q (v := .pointer (some ⟨w360.heap.size, 0, none⟩)) (x_field (o := 0) T.fa109_0 rfl) ?_
            refine st_q (v := .slice ((el S i).1.1.1) ((el S i).1.2.length) ((el S i).1.1.2)) (x_load1 T.na42 rfl (hB531.one 0 rfl)) ?_
            refine st_q (v := .agg #[.slice ((el S i).1.1.1) ((el S i).1.2.length) ((el S i).1.1.2), .int .i64 ((0 : Nat) : Int), .int .i64 ((0 : Nat) : Int), .float .f64 0, .float .f64 0, .float .f64 0, .float .f64 0, .float .f64 0]) (x_build (fun _ => by kernel_rfl)) ?_
            refine st_e (e_buildSlice (cs := [.slice ((el S i).1.1.1) ((el S i).1.2.length) ((el S i).1.1.2), .int .i64 ((0 : Nat) : Int), .int .i64 ((0 : Nat) : Int), .float .f64 0, .float .f64 0, .float .f64 0, .float .f64 0, .float .f64 0]) (e := 44) (fun _ => by kernel_rfl) ?_)
            intro w545 hA546
            have hx547 := hA546.ext
            have hs548 := hA546.size
            have hB549 : Blk w545.heap w529.heap.size [.slice ((el S i).1.1.1) ((el S i).1.2.length) ((el S i).1.1.2), .int .i64 ((0 : Nat) : Int), .int .i64 ((0 : Nat) : Int), .float .f64 0, .float .f64 0, .float .f64 0, .float .f64 0, .float .f64 0] 44 := hA546.new
            have hB550 := hB531.ext hx547
            have hF551 := hF532.ext hx547
            have hF552 := hF533.ext hx547
            have hF553 := Fam.ext hF534 hx547
            have hF554 := hF535.ext hx547
            have hE555 : Below w329.heap.size w329 w545 := hx547.e hE536 (Nat.le_refl _)
            have hz556 := hE555.le
            have hs557 := hx547.size
            refine st_e (e_appendX T.sl32 rfl rfl hF551 (hB549.src1 (k := 8) (m := 1) rfl (by omega)) (ones (by rfl)) (by omega) (by decide) (by omega) ?_)
            intro v558 w559 hO560 hG561 hN562 hW563
            have hB564 := hB550.gk (hG561) (hF551.rowk) (by decide)
            have hF565 := hF552.gk (hG561) (hF551.rowk) (by decide)
            have hF566 := Fam.gk hF553 (hG561) (hF551.rowk) (by decide)
            have hE568 : Below w329.heap.size w329 w559 := grown_below hG561 hE555 (Nat.le_refl _) (fun b hb => (by have := (hF551.lt hb).1; clear hb; omega))
            have hz569 := hE568.le
            have hs570 := hG561.size
            have hO571 := Own.snoc (enc := enG) (u := (⟨(el S i).1.1.1, (el S i).1.1.2, (el S i).1.2, 0, 0, 0, 0, 0, 0, 0⟩ : Grp)) hO560
            obtain ⟨a572, c573, rfl, hm574, hm575⟩ := hO571.src.form
            refine st_q (v := .slice a572 ((A.length + 1)) c573) (x_assign rfl) ?_
            refine st_nil ?_
            refine kn542 _ _ ?_
            refine seqK fun Q576 kn577 kr578 ke579 => ?_
            refine region ?_
            refine st_q (v := .slice aM A.length cM) (x_move rfl) ?_
            refine st_e (e_buildSlice (cs := [.slice none 0 0]) (e := 27) (fun _ => by kernel_rfl) ?_)
            intro w580 hA581
            have hx582 := hA581.ext
            have hs583 := hA581.size
            have hB584 : Blk w580.heap w559.heap.size [.slice none 0 0] 27 := hA581.new
            have hB585 := hB564.ext hx582
            have hF586 := hF565.ext hx582
            have hF587 := Fam.ext hF566 hx582
            have hF588 := hO571.ext hx582
            have hE589 : Below w329.heap.size w329 w580 := hx582.e hE568 (Nat.le_refl _)
            have hz590 := hE589.le
            have hs591 := hx582.size
            refine st_e (e_appendX T.sl72 rfl rfl hF586 (hB584.src1 (k := 1) (m := 1) rfl (by omega)) (ones (by rfl)) (by omega) (by decide) (by omega) ?_)
            intro v592 w593 hO594 hG595 hN596 hW597
            have hB598 := hB585.gk (hG595) (hF586.rowk) (by decide)
            have hF599 := Fam.gk hF587 (hG595) (hF586.rowk) (by decide)
            have hF600 := hF588.gk (hG595) (hF586.rowk) (by decide)
            have hE601 : Below w329.heap.size w329 w593 := grown_below hG595 hE589 (Nat.le_refl _) (fun b hb => (by have := (hF586.lt hb).1; clear hb; omega))
            have hz602 := hE601.le
            have hs603 := hG595.size
            have hO604 := Own.snoc (enc := enV) (u := .slice none 0 0) hO594
            obtain ⟨a605, c606, rfl, hm607, hm608⟩ := hO604.src.form
            have hF609 := hF599.snocNil
            refine st_q (v := .slice a605 ((A.length + 1)) c606) (x_assign rfl) ?_
            refine st_nil ?_
            refine kn577 _ _ ?_
            refine region ?_
            refine st_q (v := .int .i64 ((A.length : Nat) : Int)) (x_move rfl) ?_
            refine st_q (v := .int .i64 (((A.length + 1) : Nat) : Int)) (x_addN rfl rfl (by omega)) ?_
            refine st_q (v := .int .i64 (((A.length + 1) : Nat) : Int)) (x_assign rfl) ?_
            refine st_nil ?_
            obtain ⟨b610, c611, e612, hc613, hO614⟩ := hF600.ob (fun e => by injection e with _ e2 _; omega)
            injection e612 with e615 e616 e617; subst e615; subst e617
            obtain ⟨b618, c619, e620, hc621, hO622⟩ := hO604.ob (fun e => by injection e with _ e2 _; omega)
            injection e620 with e623 e624 e625; subst e623; subst e625
            refine kn419 _ ((A ++ [((el S i).1, [])]), (A.length + 1), (vs ++ [.slice none 0 0]), b610, c573, b618, c606) _ ⟨rfl, rfl, rfl, rfl, rfl, rfl, rfl, trivial⟩ ⟨hE601, ?_⟩
            try dsimp only
            exact ⟨by rw [gpre, if_pos (by first | exact .inl (by omega) | exact .inr (fun e => by have h := (by assumption : ¬ (el (A.map toG) (A.length - 1)).key = (el S i).1.2); rw [el_map (by omega)] at h; exact h e))], by simp, hB598, by rw [List.map_append]; exact hO614, by omega, hO622, by omega, by rw [List.map_append]; exact hF609⟩
           ·
            refine skip ?_
            obtain ⟨b626, c627, e628, hc629, hO630⟩ := hF532.ob (fun e => by injection e with _ e2 _; omega)
            injection e628 with e631 e632 e633; subst e631; subst e633
            obtain ⟨b634, c635, e636, hc637, hO638⟩ := hF533.ob (fun e => by injection e with _ e2 _; omega)
            injection e636 with e639 e640 e641; subst e639; subst e641
            refine kn419 _ (A, A.length, vs, b626, cG, b634, cM) _ ⟨rfl, rfl, rfl, rfl, rfl, rfl, rfl, trivial⟩ ⟨hE536, ?_⟩
            try dsimp only
            exact ⟨by rw [gpre, if_neg (fun e => e.elim (by omega) (fun e => e (by have h := Decidable.of_not_not (by assumption : ¬ ¬ (el (A.map toG) (A.length - 1)).key = (el S i).1.2); rw [el_map (by omega)] at h; exact h)))], rfl, hB531, hO630, by omega, hO638, by omega, hF534⟩
         ·
          rintro τ642 ⟨A1, n1, vs1, bg, cg, bm, cm⟩ w643 ⟨hx644, ⟨hA1, hn1e, hBt1, hOg1, hcg, hOm1, hcm, hF1⟩⟩
          try dsimp only at hA1 hn1e hBt1 hOg1 hcg hOm1 hcm hF1
          have hz645 := hx644.le
          have hn1 : 0 < n1 := by rw [hn1e, hA1]; exact gpre_pos _ _
          have hn1l : n1 ≤ A.length + 1 := by rw [hn1e, hA1]; exact gpre_len _ _
          have hAm : (A1.map toG).length = n1 := by rw [List.length_map]; exact hn1e.symm
          have hF1l := hF1.len
          rw [List.length_map, ← hn1e] at hF1l
          have hcnt : (el (A1.map toG) (n1 - 1)).count = (((el A1 (n1 - 1)).2.length : Nat) : Int) := by rw [el_map (by omega)]; rfl
          have hcl1 : (el A1 (n1 - 1)).2.length ≤ S.length := by
                    have h := gpre_mem_len (x := el S i) hml (el A1 (n1 - 1)) (by rw [← hA1]; exact el_mem' (by omega)); omega
          have hrl1 : (el (A1.map (·.2)) (n1 - 1)).length ≤ S.length := by rw [el_map (by omega)]; exact hcl1
          have hl646 := hOg1.lo
          have hl647 := hOg1.lt
          have hl648 := hOm1.lo
          have hl649 := hOm1.lt
          refine seqK fun Q650 kn651 kr652 ke653 => ?_
          refine region ?_
          refine st_q (v := .slice ((some ⟨bg, 0, none⟩)) n1 cg) (x_move rfl) ?_
          refine st_q (v := .int .i64 ((n1 : Nat) : Int)) (x_move rfl) ?_
          refine st_q (v := .int .i64 (((n1 - 1) : Nat) : Int)) (x_subN rfl rfl (by omega) (by omega)) ?_
          refine st_q (v := .pointer (some ⟨bg, 0 + ((n1 - 1)) * 8, none⟩)) (x_index T.sl32 rfl rfl (by omega)) ?_
          refine st_q (v := .pointer (some ⟨bg, 0 + ((n1 - 1)) * 8 + 1, none⟩)) (x_field (o := 0 + ((n1 - 1)) * 8) T.fa44_1 rfl) ?_
          refine st_q (v := .int .i64 ((el (A1.map toG) ((n1 - 1))).count)) (x_load1 T.na3 rfl ((hOg1.cells.elem enG_len (i := (n1 - 1)) (by omega)).fld 1 rfl)) ?_
          refine st_q (v := .int .i64 (((el (A1.map toG) ((n1 - 1))).count + 1))) (x_add rfl rfl ⟨by omega, by omega⟩) ?_
          refine st_q (v := .pointer (some ⟨bg, 0 + ((n1 - 1)) * 8, none⟩)) (x_index T.sl32 rfl rfl (by omega)) ?_
          refine st_q (v := .pointer (some ⟨bg, 0 + ((n1 - 1)) * 8 + 1, none⟩)) (x_field (o := 0 + ((n1 - 1)) * 8) T.fa44_1 rfl) ?_
          refine st_s (e_stOF (v := .int .i64 (((el (A1.map toG) ((n1 - 1))).count + 1))) (u := ({ el (A1.map toG) ((n1 - 1)) with count := ((el (A1.map toG) ((n1 - 1))).count + 1) } : Grp)) (i := (n1 - 1)) (f := 1) enG_len T.sz3 rfl rfl rfl rfl hOg1 (by first | omega | (rw [List.length_set]; omega)) (by decide) (by rfl) ?_)
          intro w654 _ hP655 hB656
          have hs657 := hP655.size
          have hB658 := hBt1.gk (hP655.grownBy) (hOg1.rowk) (by decide)
          have hF659 := hOm1.gk (hP655.grownBy) (hOg1.rowk) (by decide)
          have hF660 := Fam.gk hF1 (hP655.grownBy) (hOg1.rowk) (by decide)
          have hE661 : Below w329.heap.size w329 w654 := hP655.below hx644 (by omega)
          have hz662 := hE661.le
          refine st_nil ?_
          refine kn651 _ _ ?_
          refine regionD1 [7, 9] [0, 1, 2, 3, 4, 5, 6, 7, 8, 9, 12] (.one 0 (.one 1 (.one 2 (.one 3 (.one 4 (.one 5 (.one 6 (.one 7 (.one 8 (.one 9 (.one 10 (.one 11 (.one 12 (.one 13 .done)))))))))))))) (by kernel_rfl) (by kernel_rfl) ?_
          intro w663 hx664 hs665
          have hB666 := hB658.ext hx664
          have hF667 := hF659.ext hx664
          have hF668 := Fam.ext hF660 hx664
          have hF669 := hB656.ext hx664
          have hE670 : Below w329.heap.size w329 w663 := hx664.e hE661 (Nat.le_refl _)
          have hz671 := hE670.le
          have hs672 := hx664.size
          have hS673 : Ext w663 w663 := Below.refl _ _
          refine d_q (v := .slice ((some ⟨bm, 0, none⟩)) n1 cm) rfl rfl (fun _ => x_move rfl) ?_
          refine d_q (v := .int .i64 ((n1 : Nat) : Int)) rfl rfl (fun _ => x_move rfl) ?_
          refine d_q (v := .int .i64 (((n1 - 1) : Nat) : Int)) rfl rfl (fun _ => x_subN rfl rfl (by omega) (by omega)) ?_
          refine d_q (v := .slice ((some ⟨bm, 0, none⟩)) n1 cm) rfl rfl (fun _ => x_move rfl) ?_
          refine d_q (v := .int .i64 ((n1 : Nat) : Int)) rfl rfl (fun _ => x_move rfl) ?_
          refine d_q (v := .int .i64 (((n1 - 1) : Nat) : Int)) rfl rfl (fun _ => x_subN rfl rfl (by omega) (by omega)) ?_
          refine d_q (v := .pointer (some ⟨bm, 0 + ((n1 - 1)) * 1, none⟩)) rfl rfl (fun _ => x_index T.sl72 rfl rfl (by omega)) ?_
          have hr679 := hF668.own (n1 - 1) (by have := hF668.len; omega)
          obtain ⟨q676, c677, e678, _, _⟩ := hr679.src.form
          refine d_l (v := .slice q676 ((el (A1.map (·.2)) (n1 - 1)).length) c677) rfl rfl rfl (fun v675 hw674 => x_load1 T.na27 rfl (Cells.conv ((hF667.cells.elem enV_len (i := (n1 - 1)) (by omega)).ext hw674) e678)) ?_
          refine d_q (v := .pointer (some ⟨w360.heap.size, 1, none⟩)) rfl rfl (fun _ => x_field (o := 0) T.fa109_1 rfl) ?_
          refine d_l (v := .slice ((el S i).2.1.1) ((el S i).2.2.length) ((el S i).2.1.2)) rfl rfl rfl (fun v681 hw680 => x_load1 T.na42 rfl ((hB666.one 1 rfl).ext hw680)) ?_
          refine d_e (by decide) (d_e' rfl rfl (e_buildSlice (cs := [.slice ((el S i).2.1.1) ((el S i).2.2.length) ((el S i).2.1.2)]) (e := 42) (fun _ => by kernel_rfl) ?_))
          intro w682 hA683
          have hx684 := hA683.ext
          have hs685 := hA683.size
          have hB686 : Blk w682.heap w663.heap.size [.slice ((el S i).2.1.1) ((el S i).2.2.length) ((el S i).2.1.2)] 42 := hA683.new
          have hB687 := hB666.ext hx684
          have hF688 := hF667.ext hx684
          have hF689 := Fam.ext hF668 hx684
          have hF690 := hF669.ext hx684
          have hE691 : Below w329.heap.size w329 w682 := hx684.e hE670 (Nat.le_refl _)
          have hz692 := hE691.le
          have hs693 := hx684.size
          have hS694 := hS673.trans (hx684.mono hS673.size)
          refine ⟨fun _ => hS694, ?_⟩
          have ho701 := hF689.own (n1 - 1) (by have := hF689.len; omega)
          have ho702 := ho701
          rw [e678] at ho702
          refine d_e (by decide) (d_e' rfl rfl (e_appendX T.sl27 rfl rfl ho702 (hB686.src1 (k := 1) (m := 1) rfl (by omega)) (ones (by rfl)) (by omega) (by decide) (by omega) ?_))
          intro v695 w696 hO697 hG698 hN699 hW700
          rw [← e678] at hG698 hW700
          have hB703 := hB687.gk (hG698) (ho701.rowk) (by decide)
          have hF704 := hF688.gk (hG698) (ho701.rowk) (by decide)
          have hF705 := hF690.gk (hG698) (ho701.rowk) (by decide)
          have hE706 : Below w329.heap.size w329 w696 := grown_below hG698 hE691 (Nat.le_refl _) (fun b hb => by have := (ho701.lt hb).1; omega)
          have hz707 := hE706.le
          have hs708 := hG698.size
          have hF709 := Fam.push (xs' := el (A1.map (·.2)) (n1 - 1) ++ [(el S i).2]) hF689 (by omega) (by rw [List.length_append]; rfl) (Own.snoc (enc := enR) (u := (el S i).2) hO697) hG698 hW700
          refine ⟨need_no (by kernel_rfl), ?_⟩
          have hv1 : (v695).cells.toList = [v695] ∧ (v695).oneCell' = true := by obtain ⟨_, _, rfl, _, _⟩ := hO697.src.form; exact ⟨rfl, rfl⟩
          refine d_q (v := .pointer (some ⟨bm, 0 + ((n1 - 1)) * 1, none⟩)) rfl rfl (fun _ => x_index T.sl72 rfl rfl (by omega)) ?_
          refine d_e (by decide) (d_s' rfl rfl (e_stO (v := v695) (u := v695) enV_len T.sz27 rfl rfl hv1.1 hF704 (by omega) (by show ([v695].all _) = true; rw [List.all_cons, hv1.2]; rfl) ?_))
          intro w710 _ hP711 hB712
          have hs713 := hP711.size
          have hB714 := hB703.gk (hP711.grownBy) (hF704.rowk) (by decide)
          have hF715 := hF705.gk (hP711.grownBy) (hF704.rowk) (by decide)
          have hF716 := Fam.gk hF709 (hP711.grownBy) (hF704.rowk) (by decide)
          have hE717 : Below w329.heap.size w329 w710 := hP711.below hE706 (by omega)
          have hz718 := hE717.le
          refine ⟨need_no (by kernel_rfl), ?_⟩
          refine d_done ?_
          refine kn381 _ _ ?_
          refine kn377 _ _ ?_
          refine region ?_
          refine st_q (v := .int .i64 (((i + 1) : Nat) : Int)) (x_addN rfl rfl (by omega)) ?_
          refine st_q (v := .int .i64 (((i + 1) : Nat) : Int)) (x_move rfl) ?_
          refine st_nil ?_
          refine kn364 _ ((i + 1), (vs1.set (n1 - 1) v695), .slice ((some ⟨bg, 0, none⟩)) n1 cg, .slice ((some ⟨bm, 0, none⟩)) n1 cm) _ ⟨rfl, rfl, rfl, rfl, rfl, trivial⟩ ⟨hE717, ?_⟩ ?_
          ·
           try dsimp only
           have eA : gfold (S.take (i + 1)) = gpush A1 (el S i).2 := by rw [take_succ_el (by omega), gfold_snoc, ← hA, gst, ← hA1]
           have eL : (gpush A1 (el S i).2).length = n1 := by rw [gpush_len]; exact hn1e.symm
           have eG : (gpush A1 (el S i).2).map toG = ((A1.map toG).set ((n1 - 1)) (({ el (A1.map toG) ((n1 - 1)) with count := ((el (A1.map toG) ((n1 - 1))).count + 1) } : Grp))) := by
             unfold gpush; rw [List.map_set, ← hn1e]; congr 1; rw [el_map (by omega)]; unfold toG; simp only [List.length_append, List.length_singleton]; congr 1
           have eM : (gpush A1 (el S i).2).map (·.2) = ((A1.map (·.2)).set (n1 - 1) (el (A1.map (·.2)) (n1 - 1) ++ [(el S i).2])) := by
             unfold gpush; rw [List.map_set, ← hn1e]; congr 1; rw [el_map (by omega)]
           refine ⟨by omega, ?_, ?_, ?_⟩ <;> rw [eA]
           · rw [eL, eG]; exact hF715.own hcg (by rw [flat_length enG_len, List.length_set, hAm])
           · rw [eL]; exact hB712.own hcm (by rw [flat_length enV_len, List.length_set]; omega)
           · rw [eM]; exact hF716
          ·
           (try dsimp only); omega
        ·
         refine exit ?_
         refine ke374 _ _ _ ?_
         refine ke366 _ _ _ ?_
         refine kb357 _ _ ?_
         refine kn346 _ _ ?_
         refine seqK fun Q719 kn720 kr721 ke722 => ?_
         refine region ?_
         refine st_q (v := .slice aG A.length cG) (x_move rfl) ?_
         refine st_q (v := .slice aM A.length cM) (x_move rfl) ?_
         refine st_q (v := .slice aG A.length cG) (x_assign rfl) ?_
         refine st_q (v := .slice aM A.length cM) (x_assign rfl) ?_
         refine st_q (v := .int .i64 ((0 : Nat) : Int)) (x_assign rfl) ?_
         refine st_nil ?_
         refine kn720 _ _ ?_
         refine ret ?_
         refine leave3 (P := Tryd.prog) (fn := Tryd.f33) (t := 4) (u := 5) (s := 6) (v := .slice aG A.length cG) (v' := .slice aM A.length cM) (v'' := .int .i64 ((0 : Nat) : Int)) rfl rfl rfl rfl ?_
         have ei4 : i = S.length := by omega
         have eA : A = gfold S := by rw [hA, ei4, List.take_length]
         have hsub := (gfold_spec hSR).2.2.2.2.1
         refine ⟨_, _, A, vs, rfl, Below.e hx361 hEB (Nat.le_refl _), hOg.weak (by omega), hOm.weak (by omega), ?_, ?_, ?_, ?_⟩
         · exact ⟨hF.len, fun i hi => (hF.own i hi).weak (by omega), hF.apart⟩
         · rw [eA]; exact ((hKB.sub hsub).ext hx361).weak (by omega)
         · rw [eA, hS]; exact grp_is hRs hmR hcut
         · intro g hg t ht
           have h4 := hsp.2.2.2.1 g hg
           rw [h4] at ht
           obtain ⟨x, hx, rfl⟩ := List.mem_map.1 ht
           have hx2 := List.mem_of_mem_take (List.mem_filter.1 hx).1
           rw [hS, srt_mem] at hx2
           refine hRL _ ?_
           rw [← hmR]; exact List.mem_map_of_mem hx2

end Go.Proofs.YtegpcbckiehleaaDoor
