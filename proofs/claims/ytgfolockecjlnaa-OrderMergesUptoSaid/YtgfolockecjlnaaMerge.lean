import Derived.Test.YtgfolockecjlnaaMerge1
import Derived.Test.YtgfolockecjlnaaSets0
namespace Go.Proofs.Ytgfolockecjlnaa
open Go.RowKit Go.Eng Go.OrdPure Go.HeapPure
theorem T.sz35 : SZ Try.prog 35 1 := fun _ => by kernel_rfl
theorem T.cf59 : CF Try.prog 59 := fun _ _ => by kernel_rfl
theorem T.cf61 : CF Try.prog 61 := fun _ _ => by kernel_rfl
theorem T.cf62 : CF Try.prog 62 := fun _ _ => by kernel_rfl
theorem T.cf63 : CF Try.prog 63 := fun _ _ => by kernel_rfl
theorem T.fa83_2 : FA Try.prog 83 2 3 := fun _ _ => by kernel_rfl

set_option maxHeartbeats 4000000 in
theorem merge37 (ls : List Ts) (vs : List S3) (vl : Value) (w0 : World) (hl : Src w0.heap vl vs.length 1 (flat enV vs)) (hvl : vs.length = ls.length) (hS : ∀ k, k < ls.length → (el vs k).2.1 = (el ls k).length ∧ Src w0.heap (sv (el vs k)) (el ls k).length 2 (flat enT (el ls k))) (hu : Up ls) (hn : ls.length ≤ 1099511627776 ∧ ls.length ≤ 4294967296) (ht : ls.flatten.length ≤ 4398046511104) : Calls Try.prog 37 #[(.func (.func 20) #[] #[]), vl] w0 fun e w' => ∃ v, e = .returned v ∧ Ext w0 w' ∧ Own w'.heap w0.heap.size 31 2 v (srt byc ls.flatten).length (flat enT (srt byc ls.flatten)) := by
  have hE0 : Below w0.heap.size w0 w0 := Below.refl _ _
  have hz0 := hE0.le
  obtain ⟨a, ca, rfl, hca, hca1⟩ := hl.form
  refine enter Try.func37 rfl 73 Try.ntmps37 rfl ?_
  refine seqK fun Q1 kn2 kr3 ke4 => ?_
  refine region ?_
  refine st_e (e_box (v := .func (.func 20) #[] #[]) rfl ?_)
  intro w5 hA6
  have hx7 := hA6.ext
  have hs8 := hA6.size
  have hB9 : Blk w5.heap w0.heap.size [.func (.func 20) #[] #[]] 35 := hA6.new
  have hE10 : Below w0.heap.size w0 w5 := hx7.e hE0 (Nat.le_refl _)
  have hz11 := hE10.le
  have hs12 := hx7.size
  refine st_q (v := .slice none 0 0) (x_assign rfl) ?_
  refine st_nil ?_
  refine kn2 _ _ ?_
  refine seqK fun Q13 kn14 kr15 ke16 => ?_
  refine region ?_
  refine st_q (v := .func (.func 20) #[] #[]) (x_load1 T.na35 rfl (hB9.one 0 rfl)) ?_
  refine st_c (t_call [(.func (.func 20) #[] #[])] T.cf53 rfl rfl) (told20 _) ?_
  rintro _ _ ⟨rfl, rfl⟩
  refine ⟨_, rfl, ?_⟩
  refine st_s (e_st (v := .func (.func 20) #[] #[]) T.sz35 rfl rfl hB9 (by simp [Value.cells]) (by rfl) ?_)
  intro w17 hP18
  have hB19 : Blk w17.heap w0.heap.size [.func (.func 20) #[] #[]] 35 := hP18.new
  have hs20 := hP18.size
  have hE21 : Below w0.heap.size w0 w17 := hP18.below hE10 (by omega)
  have hz22 := hE21.le
  refine st_nil ?_
  refine kn14 _ _ ?_
  refine seqK fun Q23 kn24 kr25 ke26 => ?_
  refine region ?_
  refine st_q (v := .func (.func 60) #[] #[.pointer (some ⟨w0.heap.size, 0, none⟩)]) (x_mkFunc (fun _ => by kernel_rfl)) ?_
  refine st_c (t_call [.func (.func 60) #[] #[.pointer (some ⟨w0.heap.size, 0, none⟩)]] T.cf59 rfl rfl) (new59 (w0.heap.size) _) ?_
  rintro _ w27 ⟨bh, rfl, hx28, hN, hbn⟩
  refine ⟨_, rfl, ?_⟩
  have hB29 := hB19.ext hx28
  have hE30 : Below w0.heap.size w0 w27 := hx28.e hE21 (Nat.le_refl _)
  have hz31 := hE30.le
  have hs32 := hx28.size
  have hNw := HeapR.weak' (lo' := w0.heap.size) hN (by omega)
  refine st_q (v := .pointer (some ⟨bh, 0, none⟩)) (x_assign rfl) ?_
  refine st_nil ?_
  refine kn24 _ _ ?_
  refine seqK fun Q33 kn34 kr35 ke36 => ?_
  refine seqK fun Q37 kn38 kr39 ke40 => ?_
  refine region ?_
  refine st_q (v := .slice a vs.length ca) (x_move rfl) ?_
  refine st_q (v := .int .i64 ((vs.length : Nat) : Int)) (x_lenSl rfl Try.underlying63 rfl) ?_
  refine st_q (v := .int .i64 ((0 : Nat) : Int)) (x_move rfl) ?_
  refine st_nil ?_
  refine kn38 _ _ ?_
  refine blockK fun Q41 kn42 kr43 kx44 kb45 => ?_
  refine loopK (α := Nat × Value × (List (Hd × Nat)) × Nat) (fun x => [(1, .slice a vs.length ca), (5, .pointer (some ⟨bh, 0, none⟩)), (15, .slice a vs.length ca), (16, .int .i64 ((vs.length : Nat) : Int)), (17, .int .i64 ((x.1 : Nat) : Int))]) (fun x w46 => Below w0.heap.size w0 w46 ∧ x.1 ≤ ls.length ∧ w0.heap.size < w46.heap.size ∧ Blk w46.heap (w0.heap.size) [.func (.func 20) #[] #[]] 35 ∧ HeapR w46.heap w0.heap.size 98 100 5 (enE enH) bh (.func (.func 60) #[] #[.pointer (some ⟨w0.heap.size, 0, none⟩)]) x.2.1 x.2.2.1 x.2.2.2 ∧ HP (ah cmpH) x.2.2.1 ∧ (x.2.2.1.map Prod.fst).Perm (hds ls 0 (ls.take x.1)) ∧ x.2.2.2 ≤ x.1) (fun x => ls.length - x.1) (0, .slice none 0 0, [], 0) ⟨rfl, rfl, rfl, rfl, rfl, trivial⟩ ?_ ?_
  ·
    refine ⟨hE30, ?_⟩
    try dsimp only
    exact ⟨Nat.zero_le _, by omega, hB29, hNw, fun i h1 h2 => by simp at h2, List.Perm.refl _, Nat.le_refl _⟩
  ·
    rintro τ47 ⟨i, v, es, nx⟩ w48 ⟨hx49, ⟨hi, hpbl, hC, hH, hhp, hQ, hnx⟩⟩
    try dsimp only at hi hpbl hC hH hhp hQ hnx
    have hz50 := hx49.le
    intro Q51 kn52 kr53 ke54
    have hel := es_len hQ
    rw [List.length_take] at hel
    refine seqK fun Q55 kn56 kr57 ke58 => ?_
    refine region ?_
    refine st_q (v := .bool (decide (i < vs.length))) (x_lssN rfl rfl) ?_
    refine st_nil ?_
    refine kn56 _ _ ?_
    refine seqK fun Q59 kn60 kr61 ke62 => ?_
    refine cnd (p := i < vs.length) rfl (fun h63 => ?_) (fun h63 => ?_)
    ·
      refine skip ?_
      refine kn60 _ _ ?_
      refine seqK fun Q64 kn65 kr66 ke67 => ?_
      refine blockK fun Q68 kn69 kr70 kx71 kb72 => ?_
      refine seqK fun Q73 kn74 kr75 ke76 => ?_
      refine region ?_
      refine st_q (v := .int .i64 ((i : Nat) : Int)) (x_move rfl) ?_
      obtain ⟨b77, o78, ha79, hc80⟩ := hl.at (by omega)
      refine st_q (v := .pointer (some ⟨b77, o78 + i * 1, none⟩)) (x_index' T.sl63 rfl ha79 rfl (by omega)) ?_
      refine st_q (v := .slice ((el vs i).1) ((el vs i).2.1) ((el vs i).2.2)) (x_load1 T.na29 rfl ((hc80.below hx49).elem enV_len (i := i) (by omega))) ?_
      refine st_q (v := .int .i64 ((i : Nat) : Int)) (x_assign rfl) ?_
      refine st_q (v := .slice ((el vs i).1) ((el vs i).2.1) ((el vs i).2.2)) (x_assign rfl) ?_
      refine st_nil ?_
      refine kn74 _ _ ?_
      refine seqK fun Q81 kn82 kr83 ke84 => ?_
      refine region ?_
      obtain ⟨hSm, hSs⟩ := hS i (by omega)
      refine st_q (v := .slice ((el vs i).1) ((el vs i).2.1) ((el vs i).2.2)) (x_move rfl) ?_
      refine st_q (v := .int .i64 (((el vs i).2.1 : Nat) : Int)) (x_lenSl rfl Try.underlying29 rfl) ?_
      refine st_q (v := .bool (decide (0 < ((el vs i).2.1)))) (x_gtrN rfl rfl) ?_
      refine st_nil ?_
      refine kn82 _ _ ?_
      refine cnd (p := 0 < ((el vs i).2.1)) rfl (fun h85 => ?_) (fun h85 => ?_)
      ·
        refine region ?_
        refine st_q (v := .pointer (some ⟨bh, 0, none⟩)) (x_move rfl) ?_
        refine st_q (v := .slice ((el vs i).1) ((el vs i).2.1) ((el vs i).2.2)) (x_move rfl) ?_
        obtain ⟨b86, o87, ha88, hc89⟩ := hSs.at (by omega)
        refine st_q (v := .pointer (some ⟨b86, o87 + 0 * 2, none⟩)) (x_index' T.sl29 rfl ha88 rfl (by omega)) ?_
        refine st_q (v := .agg #[.int .i64 ((el (el ls i) 0).1), .int .i64 ((el (el ls i) 0).2)]) (x_loadA [.int .i64 ((el (el ls i) 0).1), .int .i64 ((el (el ls i) 0).2)] T.ag31 rfl ((hc89.below hx49).elem enT_len (i := 0) (by omega))) ?_
        refine st_q (v := .int .i64 ((i : Nat) : Int)) (x_move rfl) ?_
        refine st_q (v := .agg #[.int .i64 ((el (el ls i) 0).1), .int .i64 ((el (el ls i) 0).2), .int .i64 ((i : Nat) : Int), .int .i64 ((0 : Nat) : Int)]) (x_build (fun _ => by kernel_rfl)) ?_
        refine st_c (t_call [.pointer (some ⟨bh, 0, none⟩), .agg #[.int .i64 ((el (el ls i) 0).1), .int .i64 ((el (el ls i) 0).2), .int .i64 ((i : Nat) : Int), .int .i64 ((0 : Nat) : Int)]] T.cf61 rfl rfl) (push61 w0.heap.size (w0.heap.size) bh nx v es (el (el ls i) 0, (⟨i, by omega⟩ : Fin 4294967296), 0) _ hC hH (by omega) (by omega) hhp) ?_
        rintro _ w90 ⟨rfl, v2, es2, hM91, hH2, hP2, hQ2, _⟩
        refine ⟨_, rfl, ?_⟩
        have hB92 := hC.mod hM91 (fun h => h.elim (hC.neB hH.blk (by decide)) (fun h => hC.neO hH.own (by decide) h))
        have hE93 : Below w0.heap.size w0 w90 := Below.mod' hx49 hM91 (fun i hi => HeapR.low hH i hi) (Nat.le_refl _)
        have hz94 := hE93.le
        have hs95 := hM91.size
        refine st_nil ?_
        refine kn69 _ _ ?_
        refine kn65 _ _ ?_
        refine region ?_
        refine st_q (v := .int .i64 (((i + 1) : Nat) : Int)) (x_addN rfl rfl (by omega)) ?_
        refine st_q (v := .int .i64 (((i + 1) : Nat) : Int)) (x_move rfl) ?_
        refine st_nil ?_
        refine kn52 _ ((i + 1), v2, es2, (nx + 1)) _ ⟨rfl, rfl, rfl, rfl, rfl, trivial⟩ ⟨hE93, ?_⟩ ?_
        ·
          try dsimp only
          have hone := one_first (ls := ls) (i := i) (by omega) (by omega)
          exact ⟨by omega, by omega, hB92, hH2, hP2, by rw [hds_take (by omega), hone]; exact (map_snoc hQ2).trans (hQ.append_right _), by omega⟩
        ·
          (try dsimp only); omega
      ·
        refine skip ?_
        refine kn69 _ _ ?_
        refine kn65 _ _ ?_
        refine region ?_
        refine st_q (v := .int .i64 (((i + 1) : Nat) : Int)) (x_addN rfl rfl (by omega)) ?_
        refine st_q (v := .int .i64 (((i + 1) : Nat) : Int)) (x_move rfl) ?_
        refine st_nil ?_
        refine kn52 _ ((i + 1), v, es, nx) _ ⟨rfl, rfl, rfl, rfl, rfl, trivial⟩ ⟨hx49, ?_⟩ ?_
        ·
          try dsimp only
          have hnil : el ls i = [] := List.eq_nil_of_length_eq_zero (by omega)
          exact ⟨by omega, by omega, hC, hH, hhp, by rw [hds_take (by omega), hnil, one, List.append_nil]; exact hQ, by omega⟩
        ·
          (try dsimp only); omega
    ·
      refine exit ?_
      refine ke62 _ _ _ ?_
      refine ke54 _ _ _ ?_
      refine kb45 _ _ ?_
      refine kn34 _ _ ?_
      refine seqK fun Q96 kn97 kr98 ke99 => ?_
      refine region ?_
      refine st_q (v := .slice none 0 0) (x_assign rfl) ?_
      refine st_nil ?_
      refine kn97 _ _ ?_
      refine seqK fun Q100 kn101 kr102 ke103 => ?_
      refine blockK fun Q104 kn105 kr106 kx107 kb108 => ?_
      have hti : ls.take i = ls := List.take_of_length_le (by omega)
      rw [hti] at hQ
      refine loopK (α := (List Ts) × Ts × Value × Value × (List (Hd × Nat)) × Nat) (fun x => [(1, .slice a vs.length ca), (5, .pointer (some ⟨bh, 0, none⟩)), (8, x.2.2.1)]) (fun x w109 => Below w0.heap.size w0 w109 ∧ Suf ls x.1 ∧ (x.2.2.2.2.1.map Prod.fst).Perm (hds ls 0 x.1) ∧ HP (ah cmpH) x.2.2.2.2.1 ∧ x.2.1 ++ srt byc x.1.flatten = srt byc ls.flatten ∧ x.2.1.length + x.1.flatten.length = ls.flatten.length ∧ x.2.2.2.2.2 + x.1.flatten.length ≤ ls.length + ls.flatten.length ∧ w0.heap.size < w109.heap.size ∧ Blk w109.heap (w0.heap.size) [.func (.func 20) #[] #[]] 35 ∧ HeapR w109.heap w0.heap.size 98 100 5 (enE enH) bh (.func (.func 60) #[] #[.pointer (some ⟨w0.heap.size, 0, none⟩)]) x.2.2.2.1 x.2.2.2.2.1 x.2.2.2.2.2 ∧ Own w109.heap w0.heap.size 31 2 x.2.2.1 x.2.1.length (flat enT x.2.1)) (fun x => x.1.flatten.length) (ls, [], .slice none 0 0, v, es, nx) ⟨rfl, rfl, rfl, trivial⟩ ?_ ?_
      ·
        refine ⟨hx49, ?_⟩
        try dsimp only
        exact ⟨Suf.start ls, hQ, hhp, rfl, by simp, by omega, by omega, hC, hH, Own.nil _ _ _ _⟩
      ·
        rintro τ110 ⟨rs, out, vo, v, es, nx⟩ w111 ⟨hx112, ⟨hSf, hQ, hhp, hD, hln, hnx, hpbl, hC, hH, hO⟩⟩
        try dsimp only at hSf hQ hhp hD hln hnx hpbl hC hH hO
        have hz113 := hx112.le
        intro Q114 kn115 kr116 ke117
        have hel := es_len hQ
        have hrl := hSf.1
        obtain ⟨aO, cO, rfl, hcO, hcO1⟩ := hO.src.form
        refine seqK fun Q118 kn119 kr120 ke121 => ?_
        refine seqK fun Q122 kn123 kr124 ke125 => ?_
        refine region ?_
        refine st_q (v := .pointer (some ⟨bh, 0, none⟩)) (x_move rfl) ?_
        refine st_c (t_call [.pointer (some ⟨bh, 0, none⟩)] T.cf62 rfl rfl) (len62 w0.heap.size (w0.heap.size) bh nx v es _ hC hH) ?_
        rintro _ w126 ⟨rfl, hx127⟩
        refine ⟨_, rfl, ?_⟩
        have hB128 := hC.ext hx127
        have hF129 := hH.ext hx127
        have hF130 := hO.ext hx127
        have hE131 : Below w0.heap.size w0 w126 := hx127.e hx112 (Nat.le_refl _)
        have hz132 := hE131.le
        have hs133 := hx127.size
        refine st_q (v := .bool (decide (0 < es.length))) (x_gtrN rfl rfl) ?_
        refine st_nil ?_
        refine kn123 _ _ ?_
        refine cnd (p := 0 < es.length) rfl (fun h134 => ?_) (fun h134 => ?_)
        ·
          refine skip ?_
          refine kn119 _ _ ?_
          refine blockK fun Q135 kn136 kr137 kx138 kb139 => ?_
          refine seqK fun Q140 kn141 kr142 ke143 => ?_
          refine region ?_
          refine st_q (v := .pointer (some ⟨bh, 0, none⟩)) (x_move rfl) ?_
          refine st_c (t_call [.pointer (some ⟨bh, 0, none⟩)] T.cf63 rfl rfl) (pop63 w0.heap.size (w0.heap.size) bh nx v es _ hB128 hF129 (by omega) (by omega) hhp) ?_
          rintro _ w144 ⟨he, v1, es1, hM145, hH1, hP1, hQ1, _⟩
          obtain ⟨k, y, t, hk, hk32, hrk, hxk, hsm, hpm⟩ := merge_step hSf hu (by omega) hhp hQ (by omega) hQ1
          obtain ⟨p, hpl, hpd⟩ := hSf.2 k hk
          rw [hrk] at hpl hpd
          rw [List.length_cons] at hpl
          rw [hxk, fin_eq hk32, show (el ls k).length - (t.length + 1) = p by omega] at he
          subst he
          refine ⟨_, rfl, ?_⟩
          have hB146 := hB128.mod hM145 (fun h => h.elim (hB128.neB hF129.blk (by decide)) (fun h => hB128.neO hF129.own (by decide) h))
          have hF147 := hF130.mod hM145 (fun k e h => h.elim (fun h => hF129.blk.neO hF130 (by decide) (h ▸ e)) (fun h => hF130.neT hF129.own (by decide) e h))
          have hE148 : Below w0.heap.size w0 w144 := Below.mod' hE131 hM145 (fun i hi => HeapR.low hF129 i hi) (Nat.le_refl _)
          have hz149 := hE148.le
          have hs150 := hM145.size
          have hkl : k < ls.length := by have := hSf.1; omega
          obtain ⟨hSm, hSs⟩ := hS k hkl
          have hfl := el_flat_le hkl
          have hel1 : es1.length + 1 = es.length := by have := hQ1.length_eq; rw [List.length_cons] at this; omega
          have hfs := flat_set_len hk hrk
          refine st_q (v := .tuple #[.agg #[.int .i64 y.1, .int .i64 y.2, .int .i64 ((k : Nat) : Int), .int .i64 ((p : Nat) : Int)], .bool true]) (x_move rfl) ?_
          refine st_q (v := .agg #[.int .i64 y.1, .int .i64 y.2, .int .i64 ((k : Nat) : Int), .int .i64 ((p : Nat) : Int)]) (x_extract rfl rfl) ?_
          refine st_q (v := .bool true) (x_extract rfl rfl) ?_
          refine st_e (e_alloc T.zv83 ?_)
          intro w151 hA152
          have hx153 := hA152.ext
          have hs154 := hA152.size
          have hB155 : Blk w151.heap w144.heap.size [.int .i64 ((0 : Nat) : Int), .int .i64 ((0 : Nat) : Int), .int .i64 ((0 : Nat) : Int), .int .i64 ((0 : Nat) : Int)] 83 := hA152.new
          have hB156 := hB146.ext hx153
          have hF157 := hF147.ext hx153
          have hF158 := hH1.ext hx153
          have hE159 : Below w0.heap.size w0 w151 := hx153.e hE148 (Nat.le_refl _)
          have hz160 := hE159.le
          have hs161 := hx153.size
          refine st_s (e_st (v := .agg #[.int .i64 y.1, .int .i64 y.2, .int .i64 ((k : Nat) : Int), .int .i64 ((p : Nat) : Int)]) T.sz83 rfl rfl hB155 (by simp [Value.cells]) (by rfl) ?_)
          intro w162 hP163
          have hB164 : Blk w162.heap w144.heap.size [.int .i64 y.1, .int .i64 y.2, .int .i64 ((k : Nat) : Int), .int .i64 ((p : Nat) : Int)] 83 := hP163.new
          have hs165 := hP163.size
          have hB166 := hB156.pt hP163 (by omega)
          have hF167 := hF157.pt hP163 (by first | exact hB155.neO hF157 (by decide) | (simp [Value.ownBlock]; omega))
          have hF168 := HeapR.mod hF158 ((Mod.refl (fun k => k = w144.heap.size) _).pt hP163 (.inl rfl)) (fun h => hB155.neB hF158.blk (by decide) h.symm) (fun k e h => hB155.neO hF158.own (by decide) (h ▸ e))
          have hE169 : Below w0.heap.size w0 w162 := hP163.below hE159 (by omega)
          have hz170 := hE169.le
          refine st_q (v := .bool true) (x_assign rfl) ?_
          refine st_nil ?_
          refine kn141 _ _ ?_
          refine seqK fun Q171 kn172 kr173 ke174 => ?_
          refine region ?_
          refine st_q (v := .slice aO out.length cO) (x_move rfl) ?_
          refine st_q (v := .pointer (some ⟨w144.heap.size, 0, none⟩)) (x_field (o := 0) T.fa83_0 rfl) ?_
          refine st_q (v := .agg #[.int .i64 y.1, .int .i64 y.2]) (x_loadA [.int .i64 y.1, .int .i64 y.2] T.ag31 rfl (hB164.cells 0 [.int .i64 y.1, .int .i64 y.2] (cells_at rfl))) ?_
          refine st_e (e_buildSlice (cs := [.int .i64 y.1, .int .i64 y.2]) (e := 31) (fun _ => by kernel_rfl) ?_)
          intro w175 hA176
          have hx177 := hA176.ext
          have hs178 := hA176.size
          have hB179 : Blk w175.heap w162.heap.size [.int .i64 y.1, .int .i64 y.2] 31 := hA176.new
          have hB180 := hB166.ext hx177
          have hB181 := hB164.ext hx177
          have hF182 := hF167.ext hx177
          have hF183 := hF168.ext hx177
          have hE184 : Below w0.heap.size w0 w175 := hx177.e hE169 (Nat.le_refl _)
          have hz185 := hE184.le
          have hs186 := hx177.size
          refine st_e (e_appendX T.sl29 rfl rfl hF182 (hB179.src1 (k := 2) (m := 1) rfl (by omega)) (ones (by rfl)) (by omega) (by decide) (by omega) ?_)
          intro v187 w188 hO189 hG190 hN191 hW192
          have hB193 := hB180.grown hG190 (fun e => by first | exact (hB180.neO hF182 (by decide)) e | exact hne e | (have := (hF182.lt e).1; clear e; omega))
          have hB194 := hB181.grown hG190 (fun e => by first | exact (hB181.neO hF182 (by decide)) e | exact hne e | (have := (hF182.lt e).1; clear e; omega))
          have hF195 := hF183.grownT hG190 hF182 (by decide) (by decide)
          have hE196 : Below w0.heap.size w0 w188 := grown_below hG190 hE184 (Nat.le_refl _) (fun b hb => (by have := (hF182.lt hb).1; clear hb; omega))
          have hz197 := hE196.le
          have hs198 := hG190.size
          have hO199 := Own.snoc (enc := enT) (u := y) hO189
          obtain ⟨a200, c201, rfl, hm202, hm203⟩ := hO199.src.form
          refine st_q (v := .slice a200 ((out.length + 1)) c201) (x_assign rfl) ?_
          refine st_nil ?_
          refine kn172 _ _ ?_
          refine seqK fun Q204 kn205 kr206 ke207 => ?_
          refine region ?_
          refine st_q (v := .pointer (some ⟨w144.heap.size, 3, none⟩)) (x_field (o := 0) T.fa83_2 rfl) ?_
          refine st_q (v := .int .i64 ((p : Nat) : Int)) (x_load1 T.na3 rfl (hB194.one 3 rfl)) ?_
          refine st_q (v := .int .i64 (((p + 1) : Nat) : Int)) (x_addN rfl rfl (by omega)) ?_
          refine st_q (v := .pointer (some ⟨w144.heap.size, 3, none⟩)) (x_field (o := 0) T.fa83_2 rfl) ?_
          refine st_s (e_st (v := .int .i64 (((p + 1) : Nat) : Int)) T.sz3 rfl rfl hB194 (by simp [Value.cells]) (by rfl) ?_)
          intro w208 hP209
          have hB210 : Blk w208.heap w144.heap.size [.int .i64 y.1, .int .i64 y.2, .int .i64 ((k : Nat) : Int), .int .i64 (((p + 1) : Nat) : Int)] 83 := hP209.new
          have hs211 := hP209.size
          have hB212 := hB193.pt hP209 (by omega)
          have hF213 := HeapR.mod hF195 ((Mod.refl (fun k => k = w144.heap.size) _).pt hP209 (.inl rfl)) (fun h => hB194.neB hF195.blk (by decide) h.symm) (fun k e h => hB194.neO hF195.own (by decide) (h ▸ e))
          have hF214 := hO199.pt hP209 (by first | exact hB194.neO hO199 (by decide) | (simp [Value.ownBlock]; omega))
          have hE215 : Below w0.heap.size w0 w208 := hP209.below hE196 (by omega)
          have hz216 := hE215.le
          refine st_nil ?_
          refine kn205 _ _ ?_
          refine seqK fun Q217 kn218 kr219 ke220 => ?_
          refine regionD1 [1, 4, 6] [0, 1, 2, 3, 4, 5, 6, 7, 8] (.one 0 (.one 1 (.one 2 (.one 3 (.one 4 (.one 5 (.one 6 (.one 7 (.one 8 .done))))))))) (by kernel_rfl) (by kernel_rfl) ?_
          intro w221 hx222 hs223
          have hB224 := hB212.ext hx222
          have hB225 := hB210.ext hx222
          have hF226 := hF213.ext hx222
          have hF227 := hF214.ext hx222
          have hE228 : Below w0.heap.size w0 w221 := hx222.e hE215 (Nat.le_refl _)
          have hz229 := hE228.le
          have hs230 := hx222.size
          have hS231 : Ext w221 w221 := Below.refl _ _
          refine d_q (v := .pointer (some ⟨w144.heap.size, 3, none⟩)) rfl rfl (fun _ => x_field (o := 0) T.fa83_2 rfl) ?_
          refine d_l (v := .int .i64 (((p + 1) : Nat) : Int)) rfl rfl rfl (fun v233 hw232 => x_load1 T.na3 rfl ((hB225.one 3 rfl).ext hw232)) ?_
          refine d_q (v := .slice a vs.length ca) rfl rfl (fun _ => x_move rfl) ?_
          refine d_q (v := .pointer (some ⟨w144.heap.size, 2, none⟩)) rfl rfl (fun _ => x_field (o := 0) T.fa83_1 rfl) ?_
          refine d_l (v := .int .i64 ((k : Nat) : Int)) rfl rfl rfl (fun v235 hw234 => x_load1 T.na3 rfl ((hB225.one 2 rfl).ext hw234)) ?_
          obtain ⟨b236, o237, ha238, hc239⟩ := hl.at (by omega)
          refine d_q (v := .pointer (some ⟨b236, o237 + k * 1, none⟩)) rfl rfl (fun _ => x_index' T.sl63 rfl ha238 rfl (by omega)) ?_
          refine d_l (v := .slice ((el vs k).1) ((el vs k).2.1) ((el vs k).2.2)) rfl rfl rfl (fun v241 hw240 => x_load1 T.na29 rfl (((hc239.below hE228).elem enV_len (i := k) (by omega)).ext hw240)) ?_
          refine d_q (v := .int .i64 (((el vs k).2.1 : Nat) : Int)) rfl rfl (fun _ => x_lenSl rfl Try.underlying29 rfl) ?_
          refine d_q (v := .bool (decide (((p + 1)) < ((el vs k).2.1)))) rfl rfl (fun _ => x_lssN rfl rfl) ?_
          refine d_done ?_
          refine kn218 _ _ ?_
          refine cnd (p := ((p + 1)) < ((el vs k).2.1)) rfl (fun h242 => ?_) (fun h242 => ?_)
          ·
            refine seqK fun Q243 kn244 kr245 ke246 => ?_
            refine regionD1 [2, 4, 6, 8] [0, 1, 2, 3, 4, 5, 6, 7, 8, 9] (.one 0 (.one 1 (.one 2 (.one 3 (.one 4 (.one 5 (.one 6 (.one 7 (.one 8 (.one 9 (.one 10 .done))))))))))) (by kernel_rfl) (by kernel_rfl) ?_
            intro w247 hx248 hs249
            have hB250 := hB224.ext hx248
            have hB251 := hB225.ext hx248
            have hF252 := hF226.ext hx248
            have hF253 := hF227.ext hx248
            have hE254 : Below w0.heap.size w0 w247 := hx248.e hE228 (Nat.le_refl _)
            have hz255 := hE254.le
            have hs256 := hx248.size
            have hS257 : Ext w247 w247 := Below.refl _ _
            refine d_q (v := .slice a vs.length ca) rfl rfl (fun _ => x_move rfl) ?_
            refine d_q (v := .pointer (some ⟨w144.heap.size, 2, none⟩)) rfl rfl (fun _ => x_field (o := 0) T.fa83_1 rfl) ?_
            refine d_l (v := .int .i64 ((k : Nat) : Int)) rfl rfl rfl (fun v259 hw258 => x_load1 T.na3 rfl ((hB251.one 2 rfl).ext hw258)) ?_
            refine d_q (v := .pointer (some ⟨b236, o237 + k * 1, none⟩)) rfl rfl (fun _ => x_index' T.sl63 rfl ha238 rfl (by omega)) ?_
            refine d_l (v := .slice ((el vs k).1) ((el vs k).2.1) ((el vs k).2.2)) rfl rfl rfl (fun v261 hw260 => x_load1 T.na29 rfl (((hc239.below hE254).elem enV_len (i := k) (by omega)).ext hw260)) ?_
            refine d_q (v := .pointer (some ⟨w144.heap.size, 3, none⟩)) rfl rfl (fun _ => x_field (o := 0) T.fa83_2 rfl) ?_
            refine d_l (v := .int .i64 (((p + 1) : Nat) : Int)) rfl rfl rfl (fun v263 hw262 => x_load1 T.na3 rfl ((hB251.one 3 rfl).ext hw262)) ?_
            obtain ⟨b264, o265, ha266, hc267⟩ := hSs.at (by omega)
            refine d_q (v := .pointer (some ⟨b264, o265 + ((p + 1)) * 2, none⟩)) rfl rfl (fun _ => x_index' T.sl29 rfl ha266 rfl (by omega)) ?_
            refine d_l (v := .agg #[.int .i64 ((el (el ls k) ((p + 1))).1), .int .i64 ((el (el ls k) ((p + 1))).2)]) rfl rfl rfl (fun v269 hw268 => x_loadA [.int .i64 ((el (el ls k) ((p + 1))).1), .int .i64 ((el (el ls k) ((p + 1))).2)] T.ag31 rfl (((hc267.below hE254).elem enT_len (i := (p + 1)) (by omega)).ext hw268)) ?_
            refine d_q (v := .pointer (some ⟨w144.heap.size, 0, none⟩)) rfl rfl (fun _ => x_field (o := 0) T.fa83_0 rfl) ?_
            refine d_e (by decide) (d_s' rfl rfl (e_st (v := .agg #[.int .i64 ((el (el ls k) ((p + 1))).1), .int .i64 ((el (el ls k) ((p + 1))).2)]) T.sz31 rfl rfl hB251 (by simp [Value.cells]) (by rfl) ?_))
            intro w270 hP271
            have hB272 : Blk w270.heap w144.heap.size [.int .i64 ((el (el ls k) ((p + 1))).1), .int .i64 ((el (el ls k) ((p + 1))).2), .int .i64 ((k : Nat) : Int), .int .i64 (((p + 1) : Nat) : Int)] 83 := hP271.new
            have hs273 := hP271.size
            have hB274 := hB250.pt hP271 (by omega)
            have hF275 := HeapR.mod hF252 ((Mod.refl (fun k => k = w144.heap.size) _).pt hP271 (.inl rfl)) (fun h => hB251.neB hF252.blk (by decide) h.symm) (fun k e h => hB251.neO hF252.own (by decide) (h ▸ e))
            have hF276 := hF253.pt hP271 (by first | exact hB251.neO hF253 (by decide) | (simp [Value.ownBlock]; omega))
            have hE277 : Below w0.heap.size w0 w270 := hP271.below hE254 (by omega)
            have hz278 := hE277.le
            refine ⟨need_no (by kernel_rfl), ?_⟩
            refine d_done ?_
            refine kn244 _ _ ?_
            refine region ?_
            refine st_q (v := .pointer (some ⟨bh, 0, none⟩)) (x_move rfl) ?_
            refine st_q (v := .agg #[.int .i64 ((el (el ls k) ((p + 1))).1), .int .i64 ((el (el ls k) ((p + 1))).2), .int .i64 ((k : Nat) : Int), .int .i64 (((p + 1) : Nat) : Int)]) (x_loadA [.int .i64 ((el (el ls k) ((p + 1))).1), .int .i64 ((el (el ls k) ((p + 1))).2), .int .i64 ((k : Nat) : Int), .int .i64 (((p + 1) : Nat) : Int)] T.ag83 rfl (hB272.cells 0 [.int .i64 ((el (el ls k) ((p + 1))).1), .int .i64 ((el (el ls k) ((p + 1))).2), .int .i64 ((k : Nat) : Int), .int .i64 (((p + 1) : Nat) : Int)] (cells_at rfl))) ?_
            refine st_c (t_call [.pointer (some ⟨bh, 0, none⟩), .agg #[.int .i64 ((el (el ls k) ((p + 1))).1), .int .i64 ((el (el ls k) ((p + 1))).2), .int .i64 ((k : Nat) : Int), .int .i64 (((p + 1) : Nat) : Int)]] T.cf61 rfl rfl) (push61 w0.heap.size (w0.heap.size) bh nx v1 es1 (el (el ls k) (p + 1), (⟨k, hk32⟩ : Fin 4294967296), p + 1) _ hB274 hF275 (by omega) (by omega) hP1) ?_
            rintro _ w279 ⟨rfl, v2, es2, hM280, hH2, hP2, hQ2, _⟩
            refine ⟨_, rfl, ?_⟩
            have hB281 := hB274.mod hM280 (fun h => h.elim (hB274.neB hF275.blk (by decide)) (fun h => hB274.neO hF275.own (by decide) h))
            have hB282 := hB272.mod hM280 (fun h => h.elim (hB272.neB hF275.blk (by decide)) (fun h => hB272.neO hF275.own (by decide) h))
            have hF283 := hF276.mod hM280 (fun k e h => h.elim (fun h => hF275.blk.neO hF276 (by decide) (h ▸ e)) (fun h => hF276.neT hF275.own (by decide) e h))
            have hE284 : Below w0.heap.size w0 w279 := Below.mod' hE277 hM280 (fun i hi => HeapR.low hF275 i hi) (Nat.le_refl _)
            have hz285 := hE284.le
            have hs286 := hM280.size
            refine st_nil ?_
            refine kn136 _ _ ?_
            refine kn115 _ ((rs.set k t), (out ++ [y]), .slice a200 ((out.length + 1)) c201, v2, es2, (nx + 1)) _ ⟨rfl, rfl, rfl, trivial⟩ ⟨hE284, ?_⟩ ?_
            ·
              try dsimp only
              have hone := one_next hpd (by omega) hk32
              rw [hone] at hpm
              exact ⟨hSf.set hk hrk, (map_snoc hQ2).trans hpm, hP2, by rw [List.append_assoc, List.singleton_append, ← hsm]; exact hD, by rw [List.length_append, List.length_singleton]; omega, by omega, by omega, hB281, hH2, by rw [List.length_append]; exact hF283⟩
            ·
              (try dsimp only); omega
          ·
            refine skip ?_
            refine kn136 _ _ ?_
            refine kn115 _ ((rs.set k t), (out ++ [y]), .slice a200 ((out.length + 1)) c201, v1, es1, nx) _ ⟨rfl, rfl, rfl, trivial⟩ ⟨hE228, ?_⟩ ?_
            ·
              try dsimp only
              have htn : t = [] := List.eq_nil_of_length_eq_zero (by omega)
              have hone : one ls k t = [] := by rw [htn]; rfl
              rw [hone, List.append_nil] at hpm
              exact ⟨hSf.set hk hrk, hpm, hP1, by rw [List.append_assoc, List.singleton_append, ← hsm]; exact hD, by rw [List.length_append, List.length_singleton]; omega, by omega, by omega, hB224, hF226, by rw [List.length_append]; exact hF227⟩
            ·
              (try dsimp only); omega
        ·
          refine exit ?_
          refine ke121 _ _ _ ?_
          refine ke117 _ _ _ ?_
          refine kb108 _ _ ?_
          refine kn101 _ _ ?_
          refine seqK fun Q287 kn288 kr289 ke290 => ?_
          refine region ?_
          refine st_q (v := .slice aO out.length cO) (x_move rfl) ?_
          refine st_q (v := .slice aO out.length cO) (x_assign rfl) ?_
          refine st_nil ?_
          refine kn288 _ _ ?_
          refine ret ?_
          refine leave1 (P := Try.prog) (fn := Try.f37) (t := 4) (v := .slice aO out.length cO) rfl rfl ?_
          have hes : es = [] := List.eq_nil_of_length_eq_zero (by omega)
          rw [hes] at hQ
          have hfl := hds_done (List.nil_perm.1 hQ)
          rw [hfl, srt_nil, List.append_nil] at hD
          rw [← hD]
          exact ⟨_, rfl, hE131, hF130⟩

end Go.Proofs.Ytgfolockecjlnaa
