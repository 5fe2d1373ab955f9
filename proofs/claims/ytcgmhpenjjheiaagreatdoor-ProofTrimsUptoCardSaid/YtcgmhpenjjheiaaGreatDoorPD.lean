/- A part of the engine: steps over the model. Over any program. -/
import Derived.Test.YtcgmhpenjjheiaaGreatDoorPT
import Derived.Test.YtcgmhpenjjheiaaGreatDoorV3
import Derived.Test.YtcgmhpenjjheiaaGreatDoorProg
import Derived.Test.YtcgmhpenjjheiaaGreatDoorPC
namespace Go.Proofs.YtcgmhpenjjheiaaGreatDoor
open Go.RowKit Go.Eng Go.PT
theorem T.sl70 : SL Tryz.prog 70 4 1 1 (.bool false) := sl_mk Tryz.underlying70 (by kernel_rfl) rfl (by decide)
theorem T.sz4 : SZ Tryz.prog 4 1 := fun _ => by kernel_rfl
theorem T.na4 : NA Tryz.prog 4 := fun _ => by kernel_rfl
theorem T.ag65 : AG Tryz.prog 65 5 := fun _ => ⟨by kernel_rfl, by kernel_rfl⟩
theorem T.zv65 : ZV Tryz.prog 65 (.agg #[.string ByteArray.empty, .slice none 0 0, .int .i64 ((0 : Nat) : Int), .slice none 0 0, .slice none 0 0]) := fun _ => by kernel_rfl
theorem T.sz65 : SZ Tryz.prog 65 5 := fun _ => by kernel_rfl
theorem T.cf18 : CF Tryz.prog 18 := fun _ _ => by kernel_rfl
theorem T.sz63 : SZ Tryz.prog 63 1 := fun _ => by kernel_rfl
theorem trim6 (ss : List Stp) (xs : List Rw) (a : Option Addr) (m c : Nat) (w0 : World) (hs : Sts w0.heap a m c xs) (hE : ∀ i, i < m → el ss i = (el xs i).1) (hsl : ss.length = m) (hm : m ≤ 1048576) (hbd : ∀ i, i < m → (el ss i).t.length ≤ 1048576 ∧ (el ss i).v.length ≤ 1048576 ∧ (el ss i).f.length ≤ 1048576) :
    Calls Tryz.prog 6 #[.slice a m c] w0 fun e w' => ∃ a' m' c' ys, e = .returned (.tuple #[.slice a' m' c', .int .i64 (errT ss)]) ∧ Hp No w0 w' [cQ 65 eR a' m' c' ys, cF m' (fun k => pR 9 3 (el ys k))] ∧ ys.map Prod.fst = resT ss := by
  have hc := hs.1.cap
  have hl := hs.1.len
  refine enter Tryz.func6 rfl 121 Tryz.ntmps6 rfl <| ?_
  refine sr fun Q1 k2 => qt asg <| qt asg <| nl <| k2 _ _ <| seqK fun Q3 kn4 kr5 ke6 => ?_
  refine sr fun Q7 k8 => qt mv <| qt (x_lenSl rfl Tryz.underlying22 rfl) <| qt (x_eqlN (b := 0) rfl rfl) <| nl <| k8 _ _ <| cnd (p := m = 0) rfl (fun h9 => ?_) (fun h9 => ?_)
  · refine sr fun Q10 k11 => qt asg <| qt asg <| nl <| k11 _ _ <| ret <| kr5 _ _ <| leave2 (P := Tryz.prog) (fn := Tryz.f6) (t := 2) (u := 3) (v := .slice none 0 0) (v' := .int .i64 ((2 : Nat) : Int)) rfl rfl rfl ?_
    have hbad : ¬ GoodS ss := by
      have e : ss = [] := List.eq_nil_of_length_eq_zero (by omega)
      rw [e]
      exact good_nil
    exact ⟨none, 0, 0, [], (by rw [errT_bad hbad] <;> rfl), ((((Hp.start No w0).pick [] (by decide)).fnil _).nilQ 65 eR), (by rw [resT_bad hbad] <;> rfl)⟩
  · refine skip <| kn4 _ _ <| ?_
    refine sr fun Q12 k13 => qt mv <| qt (x_lenSl rfl Tryz.underlying22 rfl) <| ?_
    refine st_e <| EmkQ (E := eB) (Hp.start No w0) T.sl70 (false) rfl rfl (by omega) (by omega) rfl fun b14 w15 H16 => qt asg <| nl <| k13 _ _ <| ?_
    refine sr fun Q17 k18 => qt mv <| qt mv <| qt (x_lenSl rfl Tryz.underlying22 rfl) <| qt (subN (b := 1) rfl rfl) <| qt (x_index' T.sl70 rfl ((H16.srQ 0 rfl).addr (by omega)) rfl (by omega)) <| ?_
    refine st_s <| EsoQ (j := (m - 1)) H16 0 true T.sz4 rfl rfl rfl rfl (by omega) fun w19 H20 => nl <| k18 _ _ <| seqK fun Q21 kn22 kr23 ke24 => ?_
    refine sr fun Q25 k26 => qt mv <| qt (x_lenSl rfl Tryz.underlying22 rfl) <| qt (x_sub rfl rfl ⟨by omega, by omega⟩) <| qt asg <| nl <| k26 _ _ <| blockK fun Q27 kn28 kr29 kx30 kb31 => ?_
    have H32 : Hp No w0 w19 [cQ 4 eB (some ⟨b14, 0, none⟩) m m ((List.replicate m false).set (m - 1) true)] := (H20.pick [0] (by decide))
    refine loopK (α := Nat) (fun x => [(0, .slice a m c), (4, .slice (some ⟨b14, 0, none⟩) m m), (5, .int .i64 (((x : Nat) : Int) - 1))]) (fun x w33 => Hp No w0 w33 [cQ 4 eB (some ⟨b14, 0, none⟩) m m (ndK ss (m - x))] ∧ x ≤ m ∧ GoodF ss x) (fun x => x) (m) ⟨rfl, rfl, rfl, trivial⟩ ?_ ?_
    · refine ⟨(by rw [Nat.sub_self, ndK, hsl]; exact H32), ?_⟩
      try dsimp only
      exact ⟨Nat.le_refl _, fun i h1 h2 => by omega⟩
    · rintro τ34 i1 w35 ⟨hx36, ⟨hi, hgf⟩⟩
      try dsimp only at hi hgf
      have hz37 := hx36.le
      intro Q38 kn39 kr40 ke41
      refine seqK fun Q42 kn43 kr44 ke45 => ?_
      refine sr fun Q46 k47 => qt mv <| qt (x_geq rfl rfl) <| nl <| k47 _ _ <| cnd (p := 0 ≤ (((i1 : Nat) : Int) - 1)) rfl (fun h48 => ?_) (fun h48 => ?_)
      · refine skip <| kn43 _ _ <| seqK fun Q49 kn50 kr51 ke52 => blockK fun Q53 kn54 kr55 kx56 kb57 => ?_
        refine sr fun Q58 k59 => qt mv <| qt mv <| qt (x_index' T.sl22 rfl (hs.1.addr (by omega)) (iC (i1 - 1) rfl (by omega)) (by omega)) <| qt (x_field (o := (ao a) + (i1 - 1) * 5) T.fa65_3 rfl) <| qt (x_load1 T.na63 rfl (((hs.ext hx36.x).cellS hE (i := (i1 - 1)) (by omega)).fld 4 rfl)) <| qt (x_lenSl rfl Tryz.underlying63 rfl) <| qt mv <| nl <| k59 _ _ <| blockK fun Q60 kn61 kr62 kx63 kb64 => ?_
        have H65 : Hp No w0 w35 [cQ 4 eB (some ⟨b14, 0, none⟩) m m (ndK ss (m - i1))] := (hx36.pick [0] (by decide))
        refine loopK (α := Nat) (fun x => [(0, .slice a m c), (4, .slice (some ⟨b14, 0, none⟩) m m), (5, .int .i64 (((i1 : Nat) : Int) - 1)), (37, .slice ((el xs (i1 - 1)).2.fa) ((el ss (i1 - 1)).f.length) ((el xs (i1 - 1)).2.fc)), (38, .int .i64 (((el ss (i1 - 1)).f.length : Nat) : Int)), (39, .int .i64 ((x : Nat) : Int))]) (fun x w66 => Hp No w0 w66 [cQ 4 eB (some ⟨b14, 0, none⟩) m m (ndJ ss (i1 - 1) x)] ∧ x ≤ (el ss (i1 - 1)).f.length ∧ ∀ k, k < x → 0 ≤ el (el ss (i1 - 1)).f k ∧ el (el ss (i1 - 1)).f k < (((i1 - 1 : Nat)) : Int)) (fun x => (el ss (i1 - 1)).f.length - x) (0) ⟨rfl, rfl, rfl, rfl, rfl, rfl, trivial⟩ ?_ ?_
        · refine ⟨(by rw [ndJ_zero, show ss.length - 1 - (i1 - 1) = m - i1 by omega]; exact H65), ?_⟩
          try dsimp only
          exact ⟨Nat.zero_le _, fun k hk => by omega⟩
        · rintro τ67 j w68 ⟨hx69, ⟨hj, hr⟩⟩
          try dsimp only at hj hr
          have hz70 := hx69.le
          intro Q71 kn72 kr73 ke74
          have hbi := hbd (i1 - 1) (by omega)
          refine sr fun Q75 k76 => qt (x_lssN rfl rfl) <| nl <| k76 _ _ <| seqK fun Q77 kn78 kr79 ke80 => cnd (p := j < ((el ss (i1 - 1)).f.length)) rfl (fun h81 => ?_) (fun h81 => ?_)
          · refine skip <| kn78 _ _ <| seqK fun Q82 kn83 kr84 ke85 => blockK fun Q86 kn87 kr88 kx89 kb90 => ?_
            refine sr fun Q91 k92 => qt (x_index' T.sl63 rfl (((hs.ext hx69.x).stS hE (i := (i1 - 1)) (by omega)).2.2.addr (by omega)) rfl (by omega)) <| qt (x_load1 T.na3 rfl (((hs.ext hx69.x).stS hE (i := (i1 - 1)) (by omega)).2.2.cell (i := j) (by omega))) <| qt asg <| nl <| k92 _ _ <| seqK fun Q93 kn94 kr95 ke96 => ?_
            refine sr fun Q97 k98 => qt mv <| qt (x_lss rfl rfl) <| st_if (p := (el ((el ss (i1 - 1)).f) j) < 0) (x_move rfl) (fun h99 => ?_) (fun h99 => ?_)
            · refine st_gn 2 45 rfl rfl (by decide) rfl <| st_gn 2 45 rfl rfl (by decide) rfl <| st_gn 2 45 rfl rfl (by decide) rfl <| qt (pkT rfl) <| nl <| k98 _ _ <| cndT rfl <| ?_
              refine sr fun Q100 k101 => qt asg <| qt asg <| nl <| k101 _ _ <| ret <| kr95 _ _ <| kr88 _ _ <| kr84 _ _ <| kr73 _ _ <| kr62 _ _ <| kr55 _ _ <| kr51 _ _ <| kr40 _ _ <| kr29 _ _ <| kr23 _ _ <| leave2 (P := Tryz.prog) (fn := Tryz.f6) (t := 2) (u := 3) (v := .slice none 0 0) (v' := .int .i64 ((2 : Nat) : Int)) rfl rfl rfl ?_
              have hbad : ¬ GoodS ss := bad_at (i := i1 - 1) (j := j) (by omega) (by omega) (by omega)
              exact ⟨none, 0, 0, [], (by rw [errT_bad hbad] <;> rfl), (((hx69.pick [] (by decide)).fnil _).nilQ 65 eR), (by rw [resT_bad hbad] <;> rfl)⟩
            · refine st_gq 2 45 rfl rfl (by decide) <| qt mv <| st_gq 2 45 rfl rfl (by decide) <| qt mv <| st_gq 2 45 rfl rfl (by decide) <| qt (x_geq rfl rfl) <| qt (pkF rfl) <| nl <| k98 _ _ <| cnd (p := (((i1 : Nat) : Int) - 1) ≤ (el ((el ss (i1 - 1)).f) j)) rfl (fun h102 => ?_) (fun h102 => ?_)
              · refine sr fun Q103 k104 => qt asg <| qt asg <| nl <| k104 _ _ <| ret <| kr95 _ _ <| kr88 _ _ <| kr84 _ _ <| kr73 _ _ <| kr62 _ _ <| kr55 _ _ <| kr51 _ _ <| kr40 _ _ <| kr29 _ _ <| kr23 _ _ <| leave2 (P := Tryz.prog) (fn := Tryz.f6) (t := 2) (u := 3) (v := .slice none 0 0) (v' := .int .i64 ((2 : Nat) : Int)) rfl rfl rfl ?_
                have hbad : ¬ GoodS ss := bad_at (i := i1 - 1) (j := j) (by omega) (by omega) (by omega)
                exact ⟨none, 0, 0, [], (by rw [errT_bad hbad] <;> rfl), (((hx69.pick [] (by decide)).fnil _).nilQ 65 eR), (by rw [resT_bad hbad] <;> rfl)⟩
              · refine skip <| kn94 _ _ <| region <| qt mv <| qt mv <| qt mv <| qt mv <| qt (x_index' T.sl70 rfl ((hx69.srQ 0 rfl).addr (by omega)) (iN rfl (by omega)) (by omega)) <| qt (x_load1 T.na4 rfl ((hx69.srQ 0 rfl).cell (i := (el (el ss (i1 - 1)).f j).toNat) (by omega))) <| st_if (p := (el (ndJ ss (i1 - 1) j) ((el (el ss (i1 - 1)).f j).toNat)) = true) (mvB rfl) (fun h105 => ?_) (fun h105 => ?_)
                · refine st_gn 6 56 rfl rfl (by decide) rfl <| st_gn 6 56 rfl rfl (by decide) rfl <| st_gn 6 56 rfl rfl (by decide) rfl <| st_gn 6 56 rfl rfl (by decide) rfl <| qt (pkT rfl) <| qt (x_index' T.sl70 rfl ((hx69.srQ 0 rfl).addr (by omega)) (iN rfl (by omega)) (by omega)) <| ?_
                  refine st_s <| EsoQ (j := (el (el ss (i1 - 1)).f j).toNat) hx69 0 true T.sz4 rfl rfl rfl rfl (by omega) fun w106 H107 => nl <| kn87 _ _ <| kn83 _ _ <| region <| qt (addN (b := 1) rfl rfl) <| qt mv <| nl <| ?_
                  have H108 : Hp No w0 w106 [cQ 4 eB (some ⟨b14, 0, none⟩) m m ((ndJ ss (i1 - 1) j).set ((el (el ss (i1 - 1)).f j).toNat) true)] := (H107.pick [0] (by decide))
                  have e109 := ndJ_yes (s := ss) (i := i1 - 1) (j := j) (by omega) (by omega) hr (by assumption)
                  refine kn72 _ ((j + 1)) _ ⟨rfl, rfl, rfl, rfl, rfl, rfl, trivial⟩ ⟨(by rw [e109]; exact H108), ?_⟩ ?_
                  · try dsimp only
                    exact ⟨by omega, fun k hk => by
                      rcases Nat.lt_or_ge k j with h | h
                      · exact hr k h
                      · rw [show k = j by omega]; omega⟩
                  · (try dsimp only); omega
                · refine st_gq 6 56 rfl rfl (by decide) <| qt mv <| st_gq 6 56 rfl rfl (by decide) <| qt mv <| st_gq 6 56 rfl rfl (by decide) <| qt (x_index' T.sl70 rfl ((hx69.srQ 0 rfl).addr (by omega)) (iC (i1 - 1) rfl (by omega)) (by omega)) <| st_gq 6 56 rfl rfl (by decide) <| qt (x_load1 T.na4 rfl ((hx69.srQ 0 rfl).cell (i := (i1 - 1)) (by omega))) <| qt (pkF rfl) <| qt (x_index' T.sl70 rfl ((hx69.srQ 0 rfl).addr (by omega)) (iN rfl (by omega)) (by omega)) <| ?_
                  refine st_s <| EsoQ (j := (el (el ss (i1 - 1)).f j).toNat) hx69 0 (el (ndJ ss (i1 - 1) j) (i1 - 1)) T.sz4 rfl rfl rfl rfl (by omega) fun w110 H111 => nl <| kn87 _ _ <| kn83 _ _ <| region <| qt (addN (b := 1) rfl rfl) <| qt mv <| nl <| ?_
                  have H112 : Hp No w0 w110 [cQ 4 eB (some ⟨b14, 0, none⟩) m m ((ndJ ss (i1 - 1) j).set ((el (el ss (i1 - 1)).f j).toNat) (el (ndJ ss (i1 - 1) j) (i1 - 1)))] := (H111.pick [0] (by decide))
                  have e113 := ndJ_no (s := ss) (i := i1 - 1) (j := j) (by omega) (by omega) hr (by assumption)
                  refine kn72 _ ((j + 1)) _ ⟨rfl, rfl, rfl, rfl, rfl, rfl, trivial⟩ ⟨(by rw [e113]; exact H112), ?_⟩ ?_
                  · try dsimp only
                    exact ⟨by omega, fun k hk => by
                      rcases Nat.lt_or_ge k j with h | h
                      · exact hr k h
                      · rw [show k = j by omega]; omega⟩
                  · (try dsimp only); omega
          · refine exit <| ke80 _ _ _ <| ke74 _ _ _ <| kb64 _ _ <| kn54 _ _ <| kn50 _ _ <| region <| qt mv <| qt (subC (((i1 - 1 : Nat) : Int) - 1) rfl rfl (by omega) ⟨by omega, by omega⟩) <| qt asg <| nl <| ?_
            have H114 : Hp No w0 w68 [cQ 4 eB (some ⟨b14, 0, none⟩) m m (ndJ ss (i1 - 1) j)] := (hx69.pick [0] (by decide))
            have e115 : ndJ ss (i1 - 1) j = ndK ss (m - (i1 - 1)) := by rw [show j = (el ss (i1 - 1)).f.length by omega, ndJ_end (by omega), hsl]
            refine kn39 _ ((i1 - 1)) _ ⟨rfl, rfl, rfl, trivial⟩ ⟨(by rw [← e115]; exact H114), ?_⟩ ?_
            · try dsimp only
              exact ⟨by omega, GoodF.step (by rw [show i1 - 1 + 1 = i1 by omega]; exact hgf) fun k hk => hr k (by omega)⟩
            · (try dsimp only); omega
      · refine exit <| ke45 _ _ _ <| ke41 _ _ _ <| kb31 _ _ <| kn22 _ _ <| ?_
        refine sr fun Q116 k117 => qt asg <| nl <| k117 _ _ <| ?_
        refine sr fun Q118 k119 => qt mv <| qt (x_lenSl rfl Tryz.underlying22 rfl) <| ?_
        refine st_e <| EmkQ (E := eI) hx36 T.sl63 ((0 : Int)) rfl rfl (by omega) (by omega) rfl fun b120 w121 H122 => qt asg <| nl <| k119 _ _ <| seqK fun Q123 kn124 kr125 ke126 => ?_
        refine sr fun Q127 k128 => qt mv <| qt (x_lenSl rfl Tryz.underlying22 rfl) <| qt mv <| nl <| k128 _ _ <| blockK fun Q129 kn130 kr131 kx132 kb133 => ?_
        have H134 : Hp No w0 w121 [cQ 4 eB (some ⟨b14, 0, none⟩) m m (ndK ss (m - i1)), cQ 3 eI (some ⟨b120, 0, none⟩) m m (List.replicate m (0 : Int))] := (H122.pick [1, 0] (by decide))
        have hm0 : 0 < m := by omega
        have hg : GoodS ss := GoodF.all (by rw [show (0 : Nat) = i1 by omega]; exact hgf) (by omega)
        have e135 : ndK ss (m - i1) = nds ss := by unfold nds; rw [hsl, show m - i1 = m by omega]
        have H136 : Hp No w0 w121 [cQ 4 eB (some ⟨b14, 0, none⟩) m m (nds ss), cQ 3 eI (some ⟨b120, 0, none⟩) m m ((outK ss (nds ss) 0).1)] := by rw [outK, hsl, ← e135]; exact H134
        refine loopK (α := Nat × (Option Addr) × Nat × Nat × (List Rw)) (fun x => [(4, .slice (some ⟨b14, 0, none⟩) m m), (8, .slice x.2.1 x.2.2.1 x.2.2.2.1), (9, .slice (some ⟨b120, 0, none⟩) m m), (67, .slice a m c), (68, .int .i64 ((m : Nat) : Int)), (69, .int .i64 ((x.1 : Nat) : Int))]) (fun x w137 => Hp No w0 w137 [cQ 4 eB (some ⟨b14, 0, none⟩) m m (nds ss), cQ 3 eI (some ⟨b120, 0, none⟩) m m ((outK ss (nds ss) x.1).1), cQ 65 eR x.2.1 x.2.2.1 x.2.2.2.1 x.2.2.2.2, cF x.2.2.1 (fun k => pR 9 3 (el x.2.2.2.2 k))] ∧ x.1 ≤ m ∧ x.2.2.2.2.map Prod.fst = (outK ss (nds ss) x.1).2 ∧ x.2.2.1 = x.2.2.2.2.length) (fun x => m - x.1) (0, none, 0, 0, []) ⟨rfl, rfl, rfl, rfl, rfl, rfl, trivial⟩ ?_ ?_
        · refine ⟨(((H136.fnil _).nilQ 65 eR).pick [2, 3, 0, 1] (by decide)), ?_⟩
          try dsimp only
          exact ⟨Nat.zero_le _, rfl, rfl⟩
        · rintro τ138 ⟨i, a2, m2, c2, ys⟩ w139 ⟨hx140, ⟨hi, hys, hm2⟩⟩
          try dsimp only at hi hys hm2
          have hz141 := hx140.le
          intro Q142 kn143 kr144 ke145
          dsimp only at hx140 ⊢
          have hm2i : m2 ≤ i := by rw [hm2, ← List.length_map (f := Prod.fst), hys]; exact outK_le _ _ _
          refine sr fun Q146 k147 => qt (x_lssN rfl rfl) <| nl <| k147 _ _ <| seqK fun Q148 kn149 kr150 ke151 => cnd (p := i < m) rfl (fun h152 => ?_) (fun h152 => ?_)
          · refine skip <| kn149 _ _ <| seqK fun Q153 kn154 kr155 ke156 => blockK fun Q157 kn158 kr159 kx160 kb161 => ?_
            refine sr fun Q162 k163 => qt mv <| ?_
            have hbi := hbd i (by omega)
            refine qt (x_index' T.sl22 rfl (hs.1.addr (by omega)) rfl (by omega)) <| qt (x_loadA [.string ((el ss i).p), .slice ((el xs i).2.ta) ((el ss i).t.length) ((el xs i).2.tc), .int .i64 ((el ss i).r), .slice ((el xs i).2.va) ((el ss i).v.length) ((el xs i).2.vc), .slice ((el xs i).2.fa) ((el ss i).f.length) ((el xs i).2.fc)] T.ag65 rfl ((hs.ext hx140.x).cellS hE (i := i) (by omega))) <| ?_
            refine st_e <| Eal hx140 T.zv65 fun b164 w165 H166 x167 => qt asg <| ?_
            refine st_s <| Est (v := .agg #[.string ((el ss i).p), .slice ((el xs i).2.ta) ((el ss i).t.length) ((el xs i).2.tc), .int .i64 ((el ss i).r), .slice ((el xs i).2.va) ((el ss i).v.length) ((el xs i).2.vc), .slice ((el xs i).2.fa) ((el ss i).f.length) ((el xs i).2.fc)]) H166 0 T.sz65 rfl rfl rfl rfl rfl rfl fun w168 H169 => nl <| k163 _ _ <| seqK fun Q170 kn171 kr172 ke173 => ?_
            refine sr fun Q174 k175 => qt mv <| qt mv <| qt (x_index' T.sl70 rfl ((H169.srQ 1 rfl).addr (by omega)) rfl (by omega)) <| qt (x_load1 T.na4 rfl ((H169.srQ 1 rfl).cell (i := i) (by omega))) <| qt (x_notBB rfl) <| nl <| k175 _ _ <| cnd (p := ¬ ((el (nds ss) i) = true)) rfl (fun h176 => ?_) (fun h176 => ?_)
            · refine exit <| ke173 _ _ _ <| kb161 _ _ <| kn154 _ _ <| region <| qt (addN (b := 1) rfl rfl) <| qt mv <| nl <| ?_
              have H177 : Hp No w0 w168 [cQ 4 eB (some ⟨b14, 0, none⟩) m m (nds ss), cQ 3 eI (some ⟨b120, 0, none⟩) m m ((outK ss (nds ss) i).1), cQ 65 eR a2 m2 c2 ys, cF m2 (fun k => pR 9 3 (el ys k))] := (H169.pick [1, 2, 3, 4] (by decide))
              refine kn143 _ ((i + 1), a2, m2, c2, ys) _ ⟨rfl, rfl, rfl, rfl, rfl, rfl, trivial⟩ ⟨(by rw [outK_no h176]; exact H177), ?_⟩ ?_
              · try dsimp only
                exact ⟨by omega, by rw [outK_no h176]; exact hys, hm2⟩
              · (try dsimp only); omega
            · refine skip <| kn171 _ _ <| ?_
              refine sr fun Q178 k179 => qt mv <| qt mv <| qt mv <| qt (x_lenSl rfl Tryz.underlying22 rfl) <| qt (x_index' T.sl63 rfl ((H169.srQ 2 rfl).addr (by omega)) rfl (by omega)) <| ?_
              refine st_s <| EsoQ (j := i) H169 2 ((m2 : Nat) : Int) T.sz3 rfl rfl rfl rfl (by omega) fun w180 H181 => nl <| k179 _ _ <| seqK fun Q182 kn183 kr184 ke185 => regionD1 [2, 5, 9, 11] [0, 1, 2, 3, 4, 5, 7, 8, 9, 10, 11, 13] (.one 0 (.one 1 (.one 2 (.one 3 (.one 4 (.one 5 (.one 8 (.one 9 (.one 10 (.one 11 (.two 6 (.one 7 (.two 12 (.one 13 (.one 14 (.one 15 .done))) 14 (.one 12 (.one 13 (.one 15 .done))))) 14 (.one 6 (.one 7 (.one 12 (.one 13 (.one 15 .done)))))))))))))))) (by kernel_rfl) (by kernel_rfl) fun w186 x187 s188 => ?_
              have H189 := H181.ext x187
              have S190 : Ext w186 w186 := Below.refl _ _
              refine d_q rfl rfl (fun _ => x_field (o := 0) T.fa65_0 rfl) <| d_q rfl rfl (fun _ => x_field (o := 0) T.fa62_0 rfl) <| d_l rfl rfl rfl (fun _ y191 => x_load1 T.na9 rfl ((H189.ld 0 rfl 0 rfl).ext y191)) <| d_q rfl rfl (fun _ => x_field (o := 0) T.fa65_0 rfl) <| d_q rfl rfl (fun _ => x_field (o := 0) T.fa62_1 rfl) <| d_l rfl rfl rfl (fun _ y192 => x_load1 T.na56 rfl ((H189.ld 0 rfl 1 rfl).ext y192)) <| d_q rfl rfl (fun _ => x_field (o := 0) T.fa65_1 rfl) <| d_l rfl rfl rfl (fun _ y193 => x_load1 T.na3 rfl ((H189.ld 0 rfl 2 rfl).ext y193)) <| d_q rfl rfl (fun _ => x_field (o := 0) T.fa65_2 rfl) <| d_l rfl rfl rfl (fun _ y194 => x_load1 T.na56 rfl ((H189.ld 0 rfl 3 rfl).ext y194)) <| d_two ?_ ?_
              · refine id <| d_c' rfl rfl (t_call _ T.cf18 rfl rfl) (clone18 ((el ss i).t) _ _ _ _ ((hs.ext H189.x).stS hE (i := i) (by omega)).1 (by omega)) fun _ w198 ⟨a195, c196, er, K197⟩ => ⟨_, er, ?_⟩
                have H199 := H189.app' K197
                have S200 := S190.trans (K197.x.mono S190.size)
                refine ⟨fun _ => S200, ?_⟩
                refine d_q (v := .agg #[.string ((el ss i).p), .slice a195 ((el ss i).t.length) c196]) rfl rfl (fun _ => x_build (fun _ => by kernel_rfl)) <| d_two ?_ ?_
                · refine id <| d_c' rfl rfl (t_call _ T.cf18 rfl rfl) (clone18 ((el ss i).v) _ _ _ _ ((hs.ext H199.x).stS hE (i := i) (by omega)).2.1 (by omega)) fun _ w204 ⟨a201, c202, er, K203⟩ => ⟨_, er, ?_⟩
                  have H205 := H199.app' K203
                  have S206 := S200.trans (K203.x.mono S200.size)
                  refine ⟨fun _ => S206, ?_⟩
                  refine d_q (v := .agg #[.string ((el ss i).p), .slice a195 ((el ss i).t.length) c196, .int .i64 ((el ss i).r), .slice a201 ((el ss i).v.length) c202, .slice none 0 0]) rfl rfl (fun _ => x_build (fun _ => by kernel_rfl)) <| d_e (by decide) <| d_e' rfl rfl <| Eal H205 T.zv65 fun b207 w208 H209 x210 => ?_
                  have S211 := S206.trans (x210.mono S206.size)
                  refine ⟨fun _ => S211, ?_⟩
                  refine d_e (by decide) <| d_s' rfl rfl <| Est (v := .agg #[.string ((el ss i).p), .slice a195 ((el ss i).t.length) c196, .int .i64 ((el ss i).r), .slice a201 ((el ss i).v.length) c202, .slice none 0 0]) H209 0 T.sz65 rfl rfl rfl rfl rfl rfl fun w212 H213 => ⟨need_no (by kernel_rfl), ?_⟩
                  refine d_done <| kn183 _ _ <| seqK fun Q214 kn215 kr216 ke217 => ?_
                  refine sr fun Q218 k219 => qt (x_field (o := 0) T.fa65_3 rfl) <| qt (x_load1 T.na63 rfl (H213.ld 3 rfl 4 rfl)) <| qt (x_lenSl rfl Tryz.underlying63 rfl) <| qt mv <| nl <| k219 _ _ <| blockK fun Q220 kn221 kr222 kx223 kb224 => ?_
                  refine loopK (α := Nat × (Option Addr) × Nat) (fun x => [(4, .slice (some ⟨b14, 0, none⟩) m m), (8, .slice a2 m2 c2), (9, .slice (some ⟨b120, 0, none⟩) m m), (12, .pointer (some ⟨b207, 0, none⟩)), (67, .slice a m c), (68, .int .i64 ((m : Nat) : Int)), (69, .int .i64 ((i : Nat) : Int)), (99, .slice ((el xs i).2.fa) ((el ss i).f.length) ((el xs i).2.fc)), (100, .int .i64 (((el ss i).f.length : Nat) : Int)), (101, .int .i64 ((x.1 : Nat) : Int))]) (fun x w225 => Hp No w0 w225 [cB b207 65 [.string ((el ss i).p), .slice a195 ((el ss i).t.length) c196, .int .i64 ((el ss i).r), .slice a201 ((el ss i).v.length) c202, .slice x.2.1 ((gF (el ss i).f ((outK ss (nds ss) i).1.set i ((m2 : Nat) : Int)) x.1).length) x.2.2], cQ 3 eI x.2.1 ((gF (el ss i).f ((outK ss (nds ss) i).1.set i ((m2 : Nat) : Int)) x.1).length) x.2.2 (gF (el ss i).f ((outK ss (nds ss) i).1.set i ((m2 : Nat) : Int)) x.1), cQ 4 eB (some ⟨b14, 0, none⟩) m m (nds ss), cQ 3 eI (some ⟨b120, 0, none⟩) m m ((outK ss (nds ss) i).1.set i ((m2 : Nat) : Int)), cQ 9 eS a195 ((el ss i).t.length) c196 ((el ss i).t), cQ 9 eS a201 ((el ss i).v.length) c202 ((el ss i).v), cQ 65 eR a2 m2 c2 ys, cF m2 (fun k => pR 9 3 (el ys k))] ∧ x.1 ≤ (el ss i).f.length) (fun x => (el ss i).f.length - x.1) (0, none, 0) ⟨rfl, rfl, rfl, rfl, rfl, rfl, rfl, rfl, rfl, rfl, trivial⟩ ?_ ?_
                  · refine ⟨((H213.nilQ 3 eI).pick [1, 0, 5, 6, 3, 2, 7, 8] (by decide)), ?_⟩
                    try dsimp only
                    exact Nat.zero_le _
                  · rintro τ226 ⟨j, fa, fc⟩ w227 ⟨hx228, hj⟩
                    try dsimp only at hj
                    have hz229 := hx228.le
                    intro Q230 kn231 kr232 ke233
                    dsimp only at hx228 ⊢
                    refine sr fun Q234 k235 => qt (x_lssN rfl rfl) <| nl <| k235 _ _ <| seqK fun Q236 kn237 kr238 ke239 => cnd (p := j < ((el ss i).f.length)) rfl (fun h240 => ?_) (fun h240 => ?_)
                    · refine skip <| kn237 _ _ <| seqK fun Q241 kn242 kr243 ke244 => blockK fun Q245 kn246 kr247 kx248 kb249 => ?_
                      refine sr fun Q250 k251 => ?_
                      have hgx := hg.2 i (by omega) (el (el ss i).f j) (el_mem (by omega))
                      refine qt (x_index' T.sl63 rfl (((hs.ext hx228.x).stS hE (i := i) (by omega)).2.2.addr (by omega)) rfl (by omega)) <| qt (x_load1 T.na3 rfl (((hs.ext hx228.x).stS hE (i := i) (by omega)).2.2.cell (i := j) (by omega))) <| qt asg <| nl <| k251 _ _ <| regionD1 [1, 5] [0, 1, 2, 3, 4, 5, 8] (.one 0 (.one 1 (.one 2 (.one 3 (.one 4 (.one 5 (.one 6 (.one 7 (.one 8 (.one 9 .done)))))))))) (by kernel_rfl) (by kernel_rfl) fun w252 x253 s254 => ?_
                      have H255 := hx228.ext x253
                      have S256 : Ext w252 w252 := Below.refl _ _
                      have hl4 := gF_length (q := ((outK ss (nds ss) i).1.set i ((m2 : Nat) : Int))) hj
                      refine d_q rfl rfl (fun _ => x_field (o := 0) T.fa65_3 rfl) <| d_l rfl rfl rfl (fun _ y257 => x_load1 T.na63 rfl ((H255.ld 0 rfl 4 rfl).ext y257)) <| d_q rfl rfl (fun _ => mv) <| d_q rfl rfl (fun _ => mv) <| d_q rfl rfl (fun _ => x_index' T.sl63 rfl ((H255.srQ 3 rfl).addr (by omega)) (iN rfl hgx.1) (by omega)) <| d_l rfl rfl rfl (fun _ y258 => x_load1 T.na3 rfl (((H255.srQ 3 rfl).cell (i := (el (el ss i).f j).toNat) (by omega)).ext y258)) <| d_e (by decide) <| d_e' rfl rfl <| Ebs (cs := [.int .i64 (el ((outK ss (nds ss) i).1.set i ((m2 : Nat) : Int)) ((el (el ss i).f j).toNat))]) (e := 3) H255 (fun _ => by kernel_rfl) fun b259 w260 H261 x262 => ?_
                      have S263 := S256.trans (x262.mono S256.size)
                      refine ⟨fun _ => S263, ?_⟩
                      refine d_e (by decide) <| d_e' rfl rfl <| EapQ H261 2 T.sl63 rfl rfl rfl (H261.lst (E := eI) 0 rfl (el ((outK ss (nds ss) i).1.set i ((m2 : Nat) : Int)) ((el (el ss i).f j).toNat)) rfl) (by omega) rfl rfl fun a264 c265 w266 H267 => ⟨need_no (by kernel_rfl), ?_⟩
                      refine d_q rfl rfl (fun _ => x_field (o := 0) T.fa65_3 rfl) <| d_e (by decide) <| d_s' rfl rfl <| Est (v := .slice a264 ((gF (el ss i).f ((outK ss (nds ss) i).1.set i ((m2 : Nat) : Int)) j).length + 1) c265) H267 1 T.sz63 rfl rfl rfl rfl rfl rfl fun w268 H269 => ⟨need_no (by kernel_rfl), ?_⟩
                      refine d_done <| kn246 _ _ <| kn242 _ _ <| region <| qt (addN (b := 1) rfl rfl) <| qt mv <| nl <| ?_
                      have H270 : Hp No w0 w268 [cB b207 65 [.string ((el ss i).p), .slice a195 ((el ss i).t.length) c196, .int .i64 ((el ss i).r), .slice a201 ((el ss i).v.length) c202, .slice a264 ((gF (el ss i).f ((outK ss (nds ss) i).1.set i ((m2 : Nat) : Int)) j).length + 1) c265], cQ 3 eI a264 ((gF (el ss i).f ((outK ss (nds ss) i).1.set i ((m2 : Nat) : Int)) j).length + 1) c265 ((gF (el ss i).f ((outK ss (nds ss) i).1.set i ((m2 : Nat) : Int)) j) ++ [(el ((outK ss (nds ss) i).1.set i ((m2 : Nat) : Int)) ((el (el ss i).f j).toNat))]), cQ 4 eB (some ⟨b14, 0, none⟩) m m (nds ss), cQ 3 eI (some ⟨b120, 0, none⟩) m m ((outK ss (nds ss) i).1.set i ((m2 : Nat) : Int)), cQ 9 eS a195 ((el ss i).t.length) c196 ((el ss i).t), cQ 9 eS a201 ((el ss i).v.length) c202 ((el ss i).v), cQ 65 eR a2 m2 c2 ys, cF m2 (fun k => pR 9 3 (el ys k))] := (H269.pick [1, 2, 3, 4, 5, 6, 7, 8] (by decide))
                      refine kn231 _ ((j + 1), a264, c265) _ ⟨rfl, rfl, rfl, rfl, rfl, rfl, rfl, rfl, rfl, rfl, trivial⟩ ⟨(by rw [gF_step (by omega), List.length_append]; exact H270), ?_⟩ ?_
                      · try dsimp only
                        exact (by omega)
                      · (try dsimp only); omega
                    · refine exit <| ke239 _ _ _ <| ke233 _ _ _ <| kb224 _ _ <| kn215 _ _ <| region <| qt mv <| qt (x_loadA [.string ((el ss i).p), .slice a195 ((el ss i).t.length) c196, .int .i64 ((el ss i).r), .slice a201 ((el ss i).v.length) c202, .slice fa ((gF (el ss i).f ((outK ss (nds ss) i).1.set i ((m2 : Nat) : Int)) j).length) fc] T.ag65 rfl (hx228.lds 0 rfl 0 [.string ((el ss i).p), .slice a195 ((el ss i).t.length) c196, .int .i64 ((el ss i).r), .slice a201 ((el ss i).v.length) c202, .slice fa ((gF (el ss i).f ((outK ss (nds ss) i).1.set i ((m2 : Nat) : Int)) j).length) fc] rfl)) <| ?_
                      refine st_e <| Ebs (cs := [.string ((el ss i).p), .slice a195 ((el ss i).t.length) c196, .int .i64 ((el ss i).r), .slice a201 ((el ss i).v.length) c202, .slice fa ((gF (el ss i).f ((outK ss (nds ss) i).1.set i ((m2 : Nat) : Int)) j).length) fc]) (e := 65) hx228 (fun _ => by kernel_rfl) fun b271 w272 H273 x274 => ?_
                      refine st_e <| EapQ H273 7 T.sl22 rfl rfl rfl (H273.lst (E := eR) 0 rfl ((⟨(el ss i).p, (el ss i).t, (el ss i).r, (el ss i).v, (gF (el ss i).f ((outK ss (nds ss) i).1.set i ((m2 : Nat) : Int)) j)⟩ : Stp), (⟨a195, c196, a201, c202, fa, fc⟩ : Hd)) rfl) (by omega) rfl rfl fun a275 c276 w277 H278 => qt asg <| nl <| kn158 _ _ <| kn154 _ _ <| region <| qt (addN (b := 1) rfl rfl) <| qt mv <| nl <| ?_
                      have H279 : Hp No w0 w277 ([cQ 9 eS a195 ((el ss i).t.length) c196 ((el ss i).t), cQ 9 eS a201 ((el ss i).v.length) c202 ((el ss i).v), cQ 3 eI fa ((gF (el ss i).f ((outK ss (nds ss) i).1.set i ((m2 : Nat) : Int)) j).length) fc (gF (el ss i).f ((outK ss (nds ss) i).1.set i ((m2 : Nat) : Int)) j), cQ 65 eR a275 (m2 + 1) c276 (ys ++ [((⟨(el ss i).p, (el ss i).t, (el ss i).r, (el ss i).v, (gF (el ss i).f ((outK ss (nds ss) i).1.set i ((m2 : Nat) : Int)) j)⟩ : Stp), (⟨a195, c196, a201, c202, fa, fc⟩ : Hd))]), cF m2 (fun k => pR 9 3 (el ys k))] ++ [cQ 4 eB (some ⟨b14, 0, none⟩) m m (nds ss), cQ 3 eI (some ⟨b120, 0, none⟩) m m ((outK ss (nds ss) i).1.set i ((m2 : Nat) : Int))]) := (H278.pick [5, 6, 2, 7, 8, 3, 4] (by decide))
                      have H280 := (H279.callL (H279.startL.push3 (p := pR 9 3) (u := ((⟨(el ss i).p, (el ss i).t, (el ss i).r, (el ss i).v, (gF (el ss i).f ((outK ss (nds ss) i).1.set i ((m2 : Nat) : Int)) j)⟩ : Stp), (⟨a195, c196, a201, c202, fa, fc⟩ : Hd))) hm2.symm rfl)).pick [2, 3, 0, 1] (by decide)
                      have h281 : el (nds ss) i = true := Decidable.of_not_not h176
                      have e282 : (outK ss (nds ss) (i + 1)).1 = ((outK ss (nds ss) i).1.set i ((m2 : Nat) : Int)) := by rw [outK_yes h281]; show List.set _ _ _ = _; rw [← hys, List.length_map, ← hm2]
                      refine kn143 _ ((i + 1), a275, (m2 + 1), c276, (ys ++ [((⟨(el ss i).p, (el ss i).t, (el ss i).r, (el ss i).v, (gF (el ss i).f ((outK ss (nds ss) i).1.set i ((m2 : Nat) : Int)) j)⟩ : Stp), (⟨a195, c196, a201, c202, fa, fc⟩ : Hd))])) _ ⟨rfl, rfl, rfl, rfl, rfl, rfl, trivial⟩ ⟨(by rw [e282]; exact H280), ?_⟩ ?_
                      · try dsimp only
                        exact ⟨by omega, by rw [outK_yes h281, List.map_append, hys]; show _ ++ [_] = _ ++ [_]; rw [← row_left hg (by omega) ((m2 : Nat) : Int), show (el ss i).f.length = j by omega], by rw [List.length_append, ← hm2]; rfl⟩
                      · (try dsimp only); omega
                · refine id <| d_e' rfl rfl <| Eal H199 T.zv65 fun b283 w284 H285 x286 => ?_
                  have S287 := S200.trans (x286.mono S200.size)
                  refine ⟨fun _ => S287, ?_⟩
                  refine d_e (by decide) <| d_c' rfl rfl (t_call _ T.cf18 rfl rfl) (clone18 ((el ss i).v) _ _ _ _ ((hs.ext H285.x).stS hE (i := i) (by omega)).2.1 (by omega)) fun _ w291 ⟨a288, c289, er, K290⟩ => ⟨_, er, ?_⟩
                  have H292 := H285.app' K290
                  have S293 := S287.trans (K290.x.mono S287.size)
                  refine ⟨fun _ => S293, ?_⟩
                  refine d_q (v := .agg #[.string ((el ss i).p), .slice a195 ((el ss i).t.length) c196, .int .i64 ((el ss i).r), .slice a288 ((el ss i).v.length) c289, .slice none 0 0]) rfl rfl (fun _ => x_build (fun _ => by kernel_rfl)) <| d_e (by decide) <| d_s' rfl rfl <| Est (v := .agg #[.string ((el ss i).p), .slice a195 ((el ss i).t.length) c196, .int .i64 ((el ss i).r), .slice a288 ((el ss i).v.length) c289, .slice none 0 0]) H292 1 T.sz65 rfl rfl rfl rfl rfl rfl fun w294 H295 => ⟨need_no (by kernel_rfl), ?_⟩
                  refine d_done <| kn183 _ _ <| seqK fun Q296 kn297 kr298 ke299 => ?_
                  refine sr fun Q300 k301 => qt (x_field (o := 0) T.fa65_3 rfl) <| qt (x_load1 T.na63 rfl (H295.ld 3 rfl 4 rfl)) <| qt (x_lenSl rfl Tryz.underlying63 rfl) <| qt mv <| nl <| k301 _ _ <| blockK fun Q302 kn303 kr304 kx305 kb306 => ?_
                  refine loopK (α := Nat × (Option Addr) × Nat) (fun x => [(4, .slice (some ⟨b14, 0, none⟩) m m), (8, .slice a2 m2 c2), (9, .slice (some ⟨b120, 0, none⟩) m m), (12, .pointer (some ⟨b283, 0, none⟩)), (67, .slice a m c), (68, .int .i64 ((m : Nat) : Int)), (69, .int .i64 ((i : Nat) : Int)), (99, .slice ((el xs i).2.fa) ((el ss i).f.length) ((el xs i).2.fc)), (100, .int .i64 (((el ss i).f.length : Nat) : Int)), (101, .int .i64 ((x.1 : Nat) : Int))]) (fun x w307 => Hp No w0 w307 [cB b283 65 [.string ((el ss i).p), .slice a195 ((el ss i).t.length) c196, .int .i64 ((el ss i).r), .slice a288 ((el ss i).v.length) c289, .slice x.2.1 ((gF (el ss i).f ((outK ss (nds ss) i).1.set i ((m2 : Nat) : Int)) x.1).length) x.2.2], cQ 3 eI x.2.1 ((gF (el ss i).f ((outK ss (nds ss) i).1.set i ((m2 : Nat) : Int)) x.1).length) x.2.2 (gF (el ss i).f ((outK ss (nds ss) i).1.set i ((m2 : Nat) : Int)) x.1), cQ 4 eB (some ⟨b14, 0, none⟩) m m (nds ss), cQ 3 eI (some ⟨b120, 0, none⟩) m m ((outK ss (nds ss) i).1.set i ((m2 : Nat) : Int)), cQ 9 eS a195 ((el ss i).t.length) c196 ((el ss i).t), cQ 9 eS a288 ((el ss i).v.length) c289 ((el ss i).v), cQ 65 eR a2 m2 c2 ys, cF m2 (fun k => pR 9 3 (el ys k))] ∧ x.1 ≤ (el ss i).f.length) (fun x => (el ss i).f.length - x.1) (0, none, 0) ⟨rfl, rfl, rfl, rfl, rfl, rfl, rfl, rfl, rfl, rfl, trivial⟩ ?_ ?_
                  · refine ⟨((H295.nilQ 3 eI).pick [2, 0, 5, 6, 3, 1, 7, 8] (by decide)), ?_⟩
                    try dsimp only
                    exact Nat.zero_le _
                  · rintro τ308 ⟨j, fa, fc⟩ w309 ⟨hx310, hj⟩
                    try dsimp only at hj
                    have hz311 := hx310.le
                    intro Q312 kn313 kr314 ke315
                    dsimp only at hx310 ⊢
                    refine sr fun Q316 k317 => qt (x_lssN rfl rfl) <| nl <| k317 _ _ <| seqK fun Q318 kn319 kr320 ke321 => cnd (p := j < ((el ss i).f.length)) rfl (fun h322 => ?_) (fun h322 => ?_)
                    · refine skip <| kn319 _ _ <| seqK fun Q323 kn324 kr325 ke326 => blockK fun Q327 kn328 kr329 kx330 kb331 => ?_
                      refine sr fun Q332 k333 => ?_
                      have hgx := hg.2 i (by omega) (el (el ss i).f j) (el_mem (by omega))
                      refine qt (x_index' T.sl63 rfl (((hs.ext hx310.x).stS hE (i := i) (by omega)).2.2.addr (by omega)) rfl (by omega)) <| qt (x_load1 T.na3 rfl (((hs.ext hx310.x).stS hE (i := i) (by omega)).2.2.cell (i := j) (by omega))) <| qt asg <| nl <| k333 _ _ <| regionD1 [1, 5] [0, 1, 2, 3, 4, 5, 8] (.one 0 (.one 1 (.one 2 (.one 3 (.one 4 (.one 5 (.one 6 (.one 7 (.one 8 (.one 9 .done)))))))))) (by kernel_rfl) (by kernel_rfl) fun w334 x335 s336 => ?_
                      have H337 := hx310.ext x335
                      have S338 : Ext w334 w334 := Below.refl _ _
                      have hl4 := gF_length (q := ((outK ss (nds ss) i).1.set i ((m2 : Nat) : Int))) hj
                      refine d_q rfl rfl (fun _ => x_field (o := 0) T.fa65_3 rfl) <| d_l rfl rfl rfl (fun _ y339 => x_load1 T.na63 rfl ((H337.ld 0 rfl 4 rfl).ext y339)) <| d_q rfl rfl (fun _ => mv) <| d_q rfl rfl (fun _ => mv) <| d_q rfl rfl (fun _ => x_index' T.sl63 rfl ((H337.srQ 3 rfl).addr (by omega)) (iN rfl hgx.1) (by omega)) <| d_l rfl rfl rfl (fun _ y340 => x_load1 T.na3 rfl (((H337.srQ 3 rfl).cell (i := (el (el ss i).f j).toNat) (by omega)).ext y340)) <| d_e (by decide) <| d_e' rfl rfl <| Ebs (cs := [.int .i64 (el ((outK ss (nds ss) i).1.set i ((m2 : Nat) : Int)) ((el (el ss i).f j).toNat))]) (e := 3) H337 (fun _ => by kernel_rfl) fun b341 w342 H343 x344 => ?_
                      have S345 := S338.trans (x344.mono S338.size)
                      refine ⟨fun _ => S345, ?_⟩
                      refine d_e (by decide) <| d_e' rfl rfl <| EapQ H343 2 T.sl63 rfl rfl rfl (H343.lst (E := eI) 0 rfl (el ((outK ss (nds ss) i).1.set i ((m2 : Nat) : Int)) ((el (el ss i).f j).toNat)) rfl) (by omega) rfl rfl fun a346 c347 w348 H349 => ⟨need_no (by kernel_rfl), ?_⟩
                      refine d_q rfl rfl (fun _ => x_field (o := 0) T.fa65_3 rfl) <| d_e (by decide) <| d_s' rfl rfl <| Est (v := .slice a346 ((gF (el ss i).f ((outK ss (nds ss) i).1.set i ((m2 : Nat) : Int)) j).length + 1) c347) H349 1 T.sz63 rfl rfl rfl rfl rfl rfl fun w350 H351 => ⟨need_no (by kernel_rfl), ?_⟩
                      refine d_done <| kn328 _ _ <| kn324 _ _ <| region <| qt (addN (b := 1) rfl rfl) <| qt mv <| nl <| ?_
                      have H352 : Hp No w0 w350 [cB b283 65 [.string ((el ss i).p), .slice a195 ((el ss i).t.length) c196, .int .i64 ((el ss i).r), .slice a288 ((el ss i).v.length) c289, .slice a346 ((gF (el ss i).f ((outK ss (nds ss) i).1.set i ((m2 : Nat) : Int)) j).length + 1) c347], cQ 3 eI a346 ((gF (el ss i).f ((outK ss (nds ss) i).1.set i ((m2 : Nat) : Int)) j).length + 1) c347 ((gF (el ss i).f ((outK ss (nds ss) i).1.set i ((m2 : Nat) : Int)) j) ++ [(el ((outK ss (nds ss) i).1.set i ((m2 : Nat) : Int)) ((el (el ss i).f j).toNat))]), cQ 4 eB (some ⟨b14, 0, none⟩) m m (nds ss), cQ 3 eI (some ⟨b120, 0, none⟩) m m ((outK ss (nds ss) i).1.set i ((m2 : Nat) : Int)), cQ 9 eS a195 ((el ss i).t.length) c196 ((el ss i).t), cQ 9 eS a288 ((el ss i).v.length) c289 ((el ss i).v), cQ 65 eR a2 m2 c2 ys, cF m2 (fun k => pR 9 3 (el ys k))] := (H351.pick [1, 2, 3, 4, 5, 6, 7, 8] (by decide))
                      refine kn313 _ ((j + 1), a346, c347) _ ⟨rfl, rfl, rfl, rfl, rfl, rfl, rfl, rfl, rfl, rfl, trivial⟩ ⟨(by rw [gF_step (by omega), List.length_append]; exact H352), ?_⟩ ?_
                      · try dsimp only
                        exact (by omega)
                      · (try dsimp only); omega
                    · refine exit <| ke321 _ _ _ <| ke315 _ _ _ <| kb306 _ _ <| kn297 _ _ <| region <| qt mv <| qt (x_loadA [.string ((el ss i).p), .slice a195 ((el ss i).t.length) c196, .int .i64 ((el ss i).r), .slice a288 ((el ss i).v.length) c289, .slice fa ((gF (el ss i).f ((outK ss (nds ss) i).1.set i ((m2 : Nat) : Int)) j).length) fc] T.ag65 rfl (hx310.lds 0 rfl 0 [.string ((el ss i).p), .slice a195 ((el ss i).t.length) c196, .int .i64 ((el ss i).r), .slice a288 ((el ss i).v.length) c289, .slice fa ((gF (el ss i).f ((outK ss (nds ss) i).1.set i ((m2 : Nat) : Int)) j).length) fc] rfl)) <| ?_
                      refine st_e <| Ebs (cs := [.string ((el ss i).p), .slice a195 ((el ss i).t.length) c196, .int .i64 ((el ss i).r), .slice a288 ((el ss i).v.length) c289, .slice fa ((gF (el ss i).f ((outK ss (nds ss) i).1.set i ((m2 : Nat) : Int)) j).length) fc]) (e := 65) hx310 (fun _ => by kernel_rfl) fun b353 w354 H355 x356 => ?_
                      refine st_e <| EapQ H355 7 T.sl22 rfl rfl rfl (H355.lst (E := eR) 0 rfl ((⟨(el ss i).p, (el ss i).t, (el ss i).r, (el ss i).v, (gF (el ss i).f ((outK ss (nds ss) i).1.set i ((m2 : Nat) : Int)) j)⟩ : Stp), (⟨a195, c196, a288, c289, fa, fc⟩ : Hd)) rfl) (by omega) rfl rfl fun a357 c358 w359 H360 => qt asg <| nl <| kn158 _ _ <| kn154 _ _ <| region <| qt (addN (b := 1) rfl rfl) <| qt mv <| nl <| ?_
                      have H361 : Hp No w0 w359 ([cQ 9 eS a195 ((el ss i).t.length) c196 ((el ss i).t), cQ 9 eS a288 ((el ss i).v.length) c289 ((el ss i).v), cQ 3 eI fa ((gF (el ss i).f ((outK ss (nds ss) i).1.set i ((m2 : Nat) : Int)) j).length) fc (gF (el ss i).f ((outK ss (nds ss) i).1.set i ((m2 : Nat) : Int)) j), cQ 65 eR a357 (m2 + 1) c358 (ys ++ [((⟨(el ss i).p, (el ss i).t, (el ss i).r, (el ss i).v, (gF (el ss i).f ((outK ss (nds ss) i).1.set i ((m2 : Nat) : Int)) j)⟩ : Stp), (⟨a195, c196, a288, c289, fa, fc⟩ : Hd))]), cF m2 (fun k => pR 9 3 (el ys k))] ++ [cQ 4 eB (some ⟨b14, 0, none⟩) m m (nds ss), cQ 3 eI (some ⟨b120, 0, none⟩) m m ((outK ss (nds ss) i).1.set i ((m2 : Nat) : Int))]) := (H360.pick [5, 6, 2, 7, 8, 3, 4] (by decide))
                      have H362 := (H361.callL (H361.startL.push3 (p := pR 9 3) (u := ((⟨(el ss i).p, (el ss i).t, (el ss i).r, (el ss i).v, (gF (el ss i).f ((outK ss (nds ss) i).1.set i ((m2 : Nat) : Int)) j)⟩ : Stp), (⟨a195, c196, a288, c289, fa, fc⟩ : Hd))) hm2.symm rfl)).pick [2, 3, 0, 1] (by decide)
                      have h363 : el (nds ss) i = true := Decidable.of_not_not h176
                      have e364 : (outK ss (nds ss) (i + 1)).1 = ((outK ss (nds ss) i).1.set i ((m2 : Nat) : Int)) := by rw [outK_yes h363]; show List.set _ _ _ = _; rw [← hys, List.length_map, ← hm2]
                      refine kn143 _ ((i + 1), a357, (m2 + 1), c358, (ys ++ [((⟨(el ss i).p, (el ss i).t, (el ss i).r, (el ss i).v, (gF (el ss i).f ((outK ss (nds ss) i).1.set i ((m2 : Nat) : Int)) j)⟩ : Stp), (⟨a195, c196, a288, c289, fa, fc⟩ : Hd))])) _ ⟨rfl, rfl, rfl, rfl, rfl, rfl, trivial⟩ ⟨(by rw [e364]; exact H362), ?_⟩ ?_
                      · try dsimp only
                        exact ⟨by omega, by rw [outK_yes h363, List.map_append, hys]; show _ ++ [_] = _ ++ [_]; rw [← row_left hg (by omega) ((m2 : Nat) : Int), show (el ss i).f.length = j by omega], by rw [List.length_append, ← hm2]; rfl⟩
                      · (try dsimp only); omega
              · refine id <| d_e' rfl rfl <| Eal H189 T.zv65 fun b365 w366 H367 x368 => ?_
                have S369 := S190.trans (x368.mono S190.size)
                refine ⟨fun _ => S369, ?_⟩
                refine d_e (by decide) <| d_c' rfl rfl (t_call _ T.cf18 rfl rfl) (clone18 ((el ss i).t) _ _ _ _ ((hs.ext H367.x).stS hE (i := i) (by omega)).1 (by omega)) fun _ w373 ⟨a370, c371, er, K372⟩ => ⟨_, er, ?_⟩
                have H374 := H367.app' K372
                have S375 := S369.trans (K372.x.mono S369.size)
                refine ⟨fun _ => S375, ?_⟩
                refine d_q (v := .agg #[.string ((el ss i).p), .slice a370 ((el ss i).t.length) c371]) rfl rfl (fun _ => x_build (fun _ => by kernel_rfl)) <| d_e (by decide) <| d_c' rfl rfl (t_call _ T.cf18 rfl rfl) (clone18 ((el ss i).v) _ _ _ _ ((hs.ext H374.x).stS hE (i := i) (by omega)).2.1 (by omega)) fun _ w379 ⟨a376, c377, er, K378⟩ => ⟨_, er, ?_⟩
                have H380 := H374.app' K378
                have S381 := S375.trans (K378.x.mono S375.size)
                refine ⟨fun _ => S381, ?_⟩
                refine d_q (v := .agg #[.string ((el ss i).p), .slice a370 ((el ss i).t.length) c371, .int .i64 ((el ss i).r), .slice a376 ((el ss i).v.length) c377, .slice none 0 0]) rfl rfl (fun _ => x_build (fun _ => by kernel_rfl)) <| d_e (by decide) <| d_s' rfl rfl <| Est (v := .agg #[.string ((el ss i).p), .slice a370 ((el ss i).t.length) c371, .int .i64 ((el ss i).r), .slice a376 ((el ss i).v.length) c377, .slice none 0 0]) H380 2 T.sz65 rfl rfl rfl rfl rfl rfl fun w382 H383 => ⟨need_no (by kernel_rfl), ?_⟩
                refine d_done <| kn183 _ _ <| seqK fun Q384 kn385 kr386 ke387 => ?_
                refine sr fun Q388 k389 => qt (x_field (o := 0) T.fa65_3 rfl) <| qt (x_load1 T.na63 rfl (H383.ld 3 rfl 4 rfl)) <| qt (x_lenSl rfl Tryz.underlying63 rfl) <| qt mv <| nl <| k389 _ _ <| blockK fun Q390 kn391 kr392 kx393 kb394 => ?_
                refine loopK (α := Nat × (Option Addr) × Nat) (fun x => [(4, .slice (some ⟨b14, 0, none⟩) m m), (8, .slice a2 m2 c2), (9, .slice (some ⟨b120, 0, none⟩) m m), (12, .pointer (some ⟨b365, 0, none⟩)), (67, .slice a m c), (68, .int .i64 ((m : Nat) : Int)), (69, .int .i64 ((i : Nat) : Int)), (99, .slice ((el xs i).2.fa) ((el ss i).f.length) ((el xs i).2.fc)), (100, .int .i64 (((el ss i).f.length : Nat) : Int)), (101, .int .i64 ((x.1 : Nat) : Int))]) (fun x w395 => Hp No w0 w395 [cB b365 65 [.string ((el ss i).p), .slice a370 ((el ss i).t.length) c371, .int .i64 ((el ss i).r), .slice a376 ((el ss i).v.length) c377, .slice x.2.1 ((gF (el ss i).f ((outK ss (nds ss) i).1.set i ((m2 : Nat) : Int)) x.1).length) x.2.2], cQ 3 eI x.2.1 ((gF (el ss i).f ((outK ss (nds ss) i).1.set i ((m2 : Nat) : Int)) x.1).length) x.2.2 (gF (el ss i).f ((outK ss (nds ss) i).1.set i ((m2 : Nat) : Int)) x.1), cQ 4 eB (some ⟨b14, 0, none⟩) m m (nds ss), cQ 3 eI (some ⟨b120, 0, none⟩) m m ((outK ss (nds ss) i).1.set i ((m2 : Nat) : Int)), cQ 9 eS a370 ((el ss i).t.length) c371 ((el ss i).t), cQ 9 eS a376 ((el ss i).v.length) c377 ((el ss i).v), cQ 65 eR a2 m2 c2 ys, cF m2 (fun k => pR 9 3 (el ys k))] ∧ x.1 ≤ (el ss i).f.length) (fun x => (el ss i).f.length - x.1) (0, none, 0) ⟨rfl, rfl, rfl, rfl, rfl, rfl, rfl, rfl, rfl, rfl, trivial⟩ ?_ ?_
                · refine ⟨((H383.nilQ 3 eI).pick [3, 0, 5, 6, 2, 1, 7, 8] (by decide)), ?_⟩
                  try dsimp only
                  exact Nat.zero_le _
                · rintro τ396 ⟨j, fa, fc⟩ w397 ⟨hx398, hj⟩
                  try dsimp only at hj
                  have hz399 := hx398.le
                  intro Q400 kn401 kr402 ke403
                  dsimp only at hx398 ⊢
                  refine sr fun Q404 k405 => qt (x_lssN rfl rfl) <| nl <| k405 _ _ <| seqK fun Q406 kn407 kr408 ke409 => cnd (p := j < ((el ss i).f.length)) rfl (fun h410 => ?_) (fun h410 => ?_)
                  · refine skip <| kn407 _ _ <| seqK fun Q411 kn412 kr413 ke414 => blockK fun Q415 kn416 kr417 kx418 kb419 => ?_
                    refine sr fun Q420 k421 => ?_
                    have hgx := hg.2 i (by omega) (el (el ss i).f j) (el_mem (by omega))
                    refine qt (x_index' T.sl63 rfl (((hs.ext hx398.x).stS hE (i := i) (by omega)).2.2.addr (by omega)) rfl (by omega)) <| qt (x_load1 T.na3 rfl (((hs.ext hx398.x).stS hE (i := i) (by omega)).2.2.cell (i := j) (by omega))) <| qt asg <| nl <| k421 _ _ <| regionD1 [1, 5] [0, 1, 2, 3, 4, 5, 8] (.one 0 (.one 1 (.one 2 (.one 3 (.one 4 (.one 5 (.one 6 (.one 7 (.one 8 (.one 9 .done)))))))))) (by kernel_rfl) (by kernel_rfl) fun w422 x423 s424 => ?_
                    have H425 := hx398.ext x423
                    have S426 : Ext w422 w422 := Below.refl _ _
                    have hl4 := gF_length (q := ((outK ss (nds ss) i).1.set i ((m2 : Nat) : Int))) hj
                    refine d_q rfl rfl (fun _ => x_field (o := 0) T.fa65_3 rfl) <| d_l rfl rfl rfl (fun _ y427 => x_load1 T.na63 rfl ((H425.ld 0 rfl 4 rfl).ext y427)) <| d_q rfl rfl (fun _ => mv) <| d_q rfl rfl (fun _ => mv) <| d_q rfl rfl (fun _ => x_index' T.sl63 rfl ((H425.srQ 3 rfl).addr (by omega)) (iN rfl hgx.1) (by omega)) <| d_l rfl rfl rfl (fun _ y428 => x_load1 T.na3 rfl (((H425.srQ 3 rfl).cell (i := (el (el ss i).f j).toNat) (by omega)).ext y428)) <| d_e (by decide) <| d_e' rfl rfl <| Ebs (cs := [.int .i64 (el ((outK ss (nds ss) i).1.set i ((m2 : Nat) : Int)) ((el (el ss i).f j).toNat))]) (e := 3) H425 (fun _ => by kernel_rfl) fun b429 w430 H431 x432 => ?_
                    have S433 := S426.trans (x432.mono S426.size)
                    refine ⟨fun _ => S433, ?_⟩
                    refine d_e (by decide) <| d_e' rfl rfl <| EapQ H431 2 T.sl63 rfl rfl rfl (H431.lst (E := eI) 0 rfl (el ((outK ss (nds ss) i).1.set i ((m2 : Nat) : Int)) ((el (el ss i).f j).toNat)) rfl) (by omega) rfl rfl fun a434 c435 w436 H437 => ⟨need_no (by kernel_rfl), ?_⟩
                    refine d_q rfl rfl (fun _ => x_field (o := 0) T.fa65_3 rfl) <| d_e (by decide) <| d_s' rfl rfl <| Est (v := .slice a434 ((gF (el ss i).f ((outK ss (nds ss) i).1.set i ((m2 : Nat) : Int)) j).length + 1) c435) H437 1 T.sz63 rfl rfl rfl rfl rfl rfl fun w438 H439 => ⟨need_no (by kernel_rfl), ?_⟩
                    refine d_done <| kn416 _ _ <| kn412 _ _ <| region <| qt (addN (b := 1) rfl rfl) <| qt mv <| nl <| ?_
                    have H440 : Hp No w0 w438 [cB b365 65 [.string ((el ss i).p), .slice a370 ((el ss i).t.length) c371, .int .i64 ((el ss i).r), .slice a376 ((el ss i).v.length) c377, .slice a434 ((gF (el ss i).f ((outK ss (nds ss) i).1.set i ((m2 : Nat) : Int)) j).length + 1) c435], cQ 3 eI a434 ((gF (el ss i).f ((outK ss (nds ss) i).1.set i ((m2 : Nat) : Int)) j).length + 1) c435 ((gF (el ss i).f ((outK ss (nds ss) i).1.set i ((m2 : Nat) : Int)) j) ++ [(el ((outK ss (nds ss) i).1.set i ((m2 : Nat) : Int)) ((el (el ss i).f j).toNat))]), cQ 4 eB (some ⟨b14, 0, none⟩) m m (nds ss), cQ 3 eI (some ⟨b120, 0, none⟩) m m ((outK ss (nds ss) i).1.set i ((m2 : Nat) : Int)), cQ 9 eS a370 ((el ss i).t.length) c371 ((el ss i).t), cQ 9 eS a376 ((el ss i).v.length) c377 ((el ss i).v), cQ 65 eR a2 m2 c2 ys, cF m2 (fun k => pR 9 3 (el ys k))] := (H439.pick [1, 2, 3, 4, 5, 6, 7, 8] (by decide))
                    refine kn401 _ ((j + 1), a434, c435) _ ⟨rfl, rfl, rfl, rfl, rfl, rfl, rfl, rfl, rfl, rfl, trivial⟩ ⟨(by rw [gF_step (by omega), List.length_append]; exact H440), ?_⟩ ?_
                    · try dsimp only
                      exact (by omega)
                    · (try dsimp only); omega
                  · refine exit <| ke409 _ _ _ <| ke403 _ _ _ <| kb394 _ _ <| kn385 _ _ <| region <| qt mv <| qt (x_loadA [.string ((el ss i).p), .slice a370 ((el ss i).t.length) c371, .int .i64 ((el ss i).r), .slice a376 ((el ss i).v.length) c377, .slice fa ((gF (el ss i).f ((outK ss (nds ss) i).1.set i ((m2 : Nat) : Int)) j).length) fc] T.ag65 rfl (hx398.lds 0 rfl 0 [.string ((el ss i).p), .slice a370 ((el ss i).t.length) c371, .int .i64 ((el ss i).r), .slice a376 ((el ss i).v.length) c377, .slice fa ((gF (el ss i).f ((outK ss (nds ss) i).1.set i ((m2 : Nat) : Int)) j).length) fc] rfl)) <| ?_
                    refine st_e <| Ebs (cs := [.string ((el ss i).p), .slice a370 ((el ss i).t.length) c371, .int .i64 ((el ss i).r), .slice a376 ((el ss i).v.length) c377, .slice fa ((gF (el ss i).f ((outK ss (nds ss) i).1.set i ((m2 : Nat) : Int)) j).length) fc]) (e := 65) hx398 (fun _ => by kernel_rfl) fun b441 w442 H443 x444 => ?_
                    refine st_e <| EapQ H443 7 T.sl22 rfl rfl rfl (H443.lst (E := eR) 0 rfl ((⟨(el ss i).p, (el ss i).t, (el ss i).r, (el ss i).v, (gF (el ss i).f ((outK ss (nds ss) i).1.set i ((m2 : Nat) : Int)) j)⟩ : Stp), (⟨a370, c371, a376, c377, fa, fc⟩ : Hd)) rfl) (by omega) rfl rfl fun a445 c446 w447 H448 => qt asg <| nl <| kn158 _ _ <| kn154 _ _ <| region <| qt (addN (b := 1) rfl rfl) <| qt mv <| nl <| ?_
                    have H449 : Hp No w0 w447 ([cQ 9 eS a370 ((el ss i).t.length) c371 ((el ss i).t), cQ 9 eS a376 ((el ss i).v.length) c377 ((el ss i).v), cQ 3 eI fa ((gF (el ss i).f ((outK ss (nds ss) i).1.set i ((m2 : Nat) : Int)) j).length) fc (gF (el ss i).f ((outK ss (nds ss) i).1.set i ((m2 : Nat) : Int)) j), cQ 65 eR a445 (m2 + 1) c446 (ys ++ [((⟨(el ss i).p, (el ss i).t, (el ss i).r, (el ss i).v, (gF (el ss i).f ((outK ss (nds ss) i).1.set i ((m2 : Nat) : Int)) j)⟩ : Stp), (⟨a370, c371, a376, c377, fa, fc⟩ : Hd))]), cF m2 (fun k => pR 9 3 (el ys k))] ++ [cQ 4 eB (some ⟨b14, 0, none⟩) m m (nds ss), cQ 3 eI (some ⟨b120, 0, none⟩) m m ((outK ss (nds ss) i).1.set i ((m2 : Nat) : Int))]) := (H448.pick [5, 6, 2, 7, 8, 3, 4] (by decide))
                    have H450 := (H449.callL (H449.startL.push3 (p := pR 9 3) (u := ((⟨(el ss i).p, (el ss i).t, (el ss i).r, (el ss i).v, (gF (el ss i).f ((outK ss (nds ss) i).1.set i ((m2 : Nat) : Int)) j)⟩ : Stp), (⟨a370, c371, a376, c377, fa, fc⟩ : Hd))) hm2.symm rfl)).pick [2, 3, 0, 1] (by decide)
                    have h451 : el (nds ss) i = true := Decidable.of_not_not h176
                    have e452 : (outK ss (nds ss) (i + 1)).1 = ((outK ss (nds ss) i).1.set i ((m2 : Nat) : Int)) := by rw [outK_yes h451]; show List.set _ _ _ = _; rw [← hys, List.length_map, ← hm2]
                    refine kn143 _ ((i + 1), a445, (m2 + 1), c446, (ys ++ [((⟨(el ss i).p, (el ss i).t, (el ss i).r, (el ss i).v, (gF (el ss i).f ((outK ss (nds ss) i).1.set i ((m2 : Nat) : Int)) j)⟩ : Stp), (⟨a370, c371, a376, c377, fa, fc⟩ : Hd))])) _ ⟨rfl, rfl, rfl, rfl, rfl, rfl, trivial⟩ ⟨(by rw [e452]; exact H450), ?_⟩ ?_
                    · try dsimp only
                      exact ⟨by omega, by rw [outK_yes h451, List.map_append, hys]; show _ ++ [_] = _ ++ [_]; rw [← row_left hg (by omega) ((m2 : Nat) : Int), show (el ss i).f.length = j by omega], by rw [List.length_append, ← hm2]; rfl⟩
                    · (try dsimp only); omega
          · refine exit <| ke151 _ _ _ <| ke145 _ _ _ <| kb133 _ _ <| kn124 _ _ <| ?_
            refine sr fun Q453 k454 => qt mv <| qt asg <| qt asg <| nl <| k454 _ _ <| ret <| leave2 (P := Tryz.prog) (fn := Tryz.f6) (t := 2) (u := 3) (v := .slice a2 m2 c2) (v' := .int .i64 ((0 : Nat) : Int)) rfl rfl rfl ?_
            have e : i = m := by omega
            exact ⟨a2, m2, c2, ys, (by rw [errT_good hg] <;> rfl), (hx140.pick [2, 3] (by decide)), by rw [resT_good hg, hys, e, ← hsl]; rfl⟩
end Go.Proofs.YtcgmhpenjjheiaaGreatDoor
