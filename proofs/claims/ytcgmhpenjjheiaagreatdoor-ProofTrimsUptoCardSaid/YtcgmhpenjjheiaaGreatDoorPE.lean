/- The rows' lists as a book has them. -/
import Derived.Test.YtcgmhpenjjheiaaGreatDoorPT
import Derived.Test.YtcgmhpenjjheiaaGreatDoorV3
import Derived.Test.YtcgmhpenjjheiaaGreatDoorProg
import Derived.Test.YtcgmhpenjjheiaaGreatDoorPD
namespace Go.Proofs.YtcgmhpenjjheiaaGreatDoor
open Go.RowKit Go.Eng Go.PT

abbrev pF (U : TypeId) (x : Rw) : Ch := cQ U eI x.2.fa x.1.f.length x.2.fc x.1.f
theorem reftrim7 (ss : List Stp) (xs : List Rw) (a : Option Addr) (m c : Nat) (w0 : World) (hs : Sts w0.heap a m c xs) (hE : ∀ i, i < m → el ss i = (el xs i).1) (hsl : ss.length = m) (hm : m ≤ 1048576) (hbd : ∀ i, i < m → (el ss i).t.length ≤ 1048576 ∧ (el ss i).v.length ≤ 1048576 ∧ (el ss i).f.length ≤ 1048576) :
    Calls Tryz.prog 7 #[.slice a m c] w0 fun e w' => ∃ a' m' c' ys, e = .returned (.tuple #[.slice a' m' c', .int .i64 (errT ss)]) ∧ Ext w0 w' ∧ Sts w'.heap a' m' c' ys ∧ ys.map Prod.fst = resT ss := by
  have hc := hs.1.cap
  have hl := hs.1.len
  refine enter Tryz.func7 rfl 161 Tryz.ntmps7 rfl <| ?_
  refine sr fun Q1 k2 => qt asg <| qt asg <| nl <| k2 _ _ <| seqK fun Q3 kn4 kr5 ke6 => ?_
  refine sr fun Q7 k8 => qt mv <| qt (x_lenSl rfl Tryz.underlying22 rfl) <| qt (x_eqlN (b := 0) rfl rfl) <| nl <| k8 _ _ <| cnd (p := m = 0) rfl (fun h9 => ?_) (fun h9 => ?_)
  · refine sr fun Q10 k11 => qt asg <| qt asg <| nl <| k11 _ _ <| ret <| kr5 _ _ <| leave2 (P := Tryz.prog) (fn := Tryz.f7) (t := 2) (u := 3) (v := .slice none 0 0) (v' := .int .i64 ((2 : Nat) : Int)) rfl rfl rfl ?_
    have hbad : ¬ GoodS ss := by
      have e : ss = [] := List.eq_nil_of_length_eq_zero (by omega)
      rw [e]
      exact good_nil
    exact ⟨none, 0, 0, [], (by rw [errT_bad hbad] <;> rfl), ((Hp.start No w0).pick [] (by decide)).x, ⟨Src.nil _ _, fun k hk => absurd hk (Nat.not_lt_zero k)⟩, (by rw [resT_bad hbad] <;> rfl)⟩
  · refine skip <| kn4 _ _ <| seqK fun Q12 kn13 kr14 ke15 => ?_
    refine sr fun Q16 k17 => qt asg <| nl <| k17 _ _ <| blockK fun Q18 kn19 kr20 kx21 kb22 => ?_
    refine loopK (α := Nat) (fun x => [(0, .slice a m c), (4, .int .i64 ((x : Nat) : Int))]) (fun x w23 => Hp No w0 w23 [] ∧ x ≤ m ∧ GoodB ss x) (fun x => m - x) (0) ⟨rfl, rfl, trivial⟩ ?_ ?_
    · refine ⟨((Hp.start No w0).pick [] (by decide)), ?_⟩
      try dsimp only
      exact ⟨Nat.zero_le _, fun i h => by omega⟩
    · rintro τ24 i w25 ⟨hx26, ⟨hi, hgb⟩⟩
      try dsimp only at hi hgb
      have hz27 := hx26.le
      intro Q28 kn29 kr30 ke31
      refine seqK fun Q32 kn33 kr34 ke35 => ?_
      refine sr fun Q36 k37 => qt mv <| qt mv <| qt (x_lenSl rfl Tryz.underlying22 rfl) <| qt (x_lssN rfl rfl) <| nl <| k37 _ _ <| cnd (p := i < m) rfl (fun h38 => ?_) (fun h38 => ?_)
      · refine skip <| kn33 _ _ <| seqK fun Q39 kn40 kr41 ke42 => blockK fun Q43 kn44 kr45 kx46 kb47 => ?_
        refine sr fun Q48 k49 => qt asg <| nl <| k49 _ _ <| blockK fun Q50 kn51 kr52 kx53 kb54 => ?_
        refine loopK (α := Nat) (fun x => [(0, .slice a m c), (4, .int .i64 ((i : Nat) : Int)), (5, .int .i64 ((x : Nat) : Int))]) (fun x w55 => Hp No w0 w55 [] ∧ x ≤ (el ss i).f.length ∧ ∀ k, k < x → 0 ≤ el (el ss i).f k ∧ el (el ss i).f k < (i : Int)) (fun x => (el ss i).f.length - x) (0) ⟨rfl, rfl, rfl, trivial⟩ ?_ ?_
        · refine ⟨(hx26.pick [] (by decide)), ?_⟩
          try dsimp only
          exact ⟨Nat.zero_le _, fun k hk => by omega⟩
        · rintro τ56 j w57 ⟨hx58, ⟨hj, hr⟩⟩
          try dsimp only at hj hr
          have hz59 := hx58.le
          intro Q60 kn61 kr62 ke63
          have hbi := hbd i (by omega)
          refine seqK fun Q64 kn65 kr66 ke67 => ?_
          refine sr fun Q68 k69 => qt mv <| qt mv <| qt mv <| qt (x_index' T.sl22 rfl (hs.1.addr (by omega)) rfl (by omega)) <| qt (x_field (o := (ao a) + i * 5) T.fa65_3 rfl) <| qt (x_load1 T.na63 rfl (((hs.ext hx58.x).cellS hE (i := i) (by omega)).fld 4 rfl)) <| qt (x_lenSl rfl Tryz.underlying63 rfl) <| qt (x_lssN rfl rfl) <| nl <| k69 _ _ <| cnd (p := j < ((el ss i).f.length)) rfl (fun h70 => ?_) (fun h70 => ?_)
          · refine skip <| kn65 _ _ <| seqK fun Q71 kn72 kr73 ke74 => blockK fun Q75 kn76 kr77 kx78 kb79 => ?_
            refine sr fun Q80 k81 => qt mv <| qt mv <| qt (x_index' T.sl22 rfl (hs.1.addr (by omega)) rfl (by omega)) <| qt (x_field (o := (ao a) + i * 5) T.fa65_3 rfl) <| qt (x_load1 T.na63 rfl (((hs.ext hx58.x).cellS hE (i := i) (by omega)).fld 4 rfl)) <| qt mv <| qt (x_index' T.sl63 rfl (((hs.ext hx58.x).stS hE (i := i) (by omega)).2.2.addr (by omega)) rfl (by omega)) <| qt (x_load1 T.na3 rfl (((hs.ext hx58.x).stS hE (i := i) (by omega)).2.2.cell (i := j) (by omega))) <| qt (x_lss rfl rfl) <| st_if (p := (el ((el ss i).f) j) < 0) (x_move rfl) (fun h82 => ?_) (fun h82 => ?_)
            · refine st_gn 9 42 rfl rfl (by decide) rfl <| st_gn 9 42 rfl rfl (by decide) rfl <| st_gn 9 42 rfl rfl (by decide) rfl <| st_gn 9 42 rfl rfl (by decide) rfl <| st_gn 9 42 rfl rfl (by decide) rfl <| st_gn 9 42 rfl rfl (by decide) rfl <| st_gn 9 42 rfl rfl (by decide) rfl <| st_gn 9 42 rfl rfl (by decide) rfl <| st_gn 9 42 rfl rfl (by decide) rfl <| st_gn 9 42 rfl rfl (by decide) rfl <| qt (pkT rfl) <| nl <| k81 _ _ <| cndT rfl <| ?_
              refine sr fun Q83 k84 => qt asg <| qt asg <| nl <| k84 _ _ <| ret <| kr77 _ _ <| kr73 _ _ <| kr62 _ _ <| kr52 _ _ <| kr45 _ _ <| kr41 _ _ <| kr30 _ _ <| kr20 _ _ <| kr14 _ _ <| leave2 (P := Tryz.prog) (fn := Tryz.f7) (t := 2) (u := 3) (v := .slice none 0 0) (v' := .int .i64 ((2 : Nat) : Int)) rfl rfl rfl ?_
              have hbad : ¬ GoodS ss := bad_at (i := i) (j := j) (by omega) (by omega) (by omega)
              exact ⟨none, 0, 0, [], (by rw [errT_bad hbad] <;> rfl), (hx58.pick [] (by decide)).x, ⟨Src.nil _ _, fun k hk => absurd hk (Nat.not_lt_zero k)⟩, (by rw [resT_bad hbad] <;> rfl)⟩
            · refine st_gq 9 42 rfl rfl (by decide) <| qt mv <| st_gq 9 42 rfl rfl (by decide) <| qt mv <| st_gq 9 42 rfl rfl (by decide) <| qt (x_index' T.sl22 rfl (hs.1.addr (by omega)) rfl (by omega)) <| st_gq 9 42 rfl rfl (by decide) <| qt (x_field (o := (ao a) + i * 5) T.fa65_3 rfl) <| st_gq 9 42 rfl rfl (by decide) <| qt (x_load1 T.na63 rfl (((hs.ext hx58.x).cellS hE (i := i) (by omega)).fld 4 rfl)) <| st_gq 9 42 rfl rfl (by decide) <| qt mv <| st_gq 9 42 rfl rfl (by decide) <| qt (x_index' T.sl63 rfl (((hs.ext hx58.x).stS hE (i := i) (by omega)).2.2.addr (by omega)) rfl (by omega)) <| st_gq 9 42 rfl rfl (by decide) <| qt (x_load1 T.na3 rfl (((hs.ext hx58.x).stS hE (i := i) (by omega)).2.2.cell (i := j) (by omega))) <| st_gq 9 42 rfl rfl (by decide) <| qt mv <| st_gq 9 42 rfl rfl (by decide) <| qt (x_geq rfl rfl) <| qt (pkF rfl) <| nl <| k81 _ _ <| cnd (p := ((i : Nat) : Int) ≤ (el ((el ss i).f) j)) rfl (fun h85 => ?_) (fun h85 => ?_)
              · refine sr fun Q86 k87 => qt asg <| qt asg <| nl <| k87 _ _ <| ret <| kr77 _ _ <| kr73 _ _ <| kr62 _ _ <| kr52 _ _ <| kr45 _ _ <| kr41 _ _ <| kr30 _ _ <| kr20 _ _ <| kr14 _ _ <| leave2 (P := Tryz.prog) (fn := Tryz.f7) (t := 2) (u := 3) (v := .slice none 0 0) (v' := .int .i64 ((2 : Nat) : Int)) rfl rfl rfl ?_
                have hbad : ¬ GoodS ss := bad_at (i := i) (j := j) (by omega) (by omega) (by omega)
                exact ⟨none, 0, 0, [], (by rw [errT_bad hbad] <;> rfl), (hx58.pick [] (by decide)).x, ⟨Src.nil _ _, fun k hk => absurd hk (Nat.not_lt_zero k)⟩, (by rw [resT_bad hbad] <;> rfl)⟩
              · refine skip <| kn76 _ _ <| kn72 _ _ <| region <| qt mv <| qt (addN (b := 1) rfl rfl) <| qt asg <| nl <| ?_
                refine kn61 _ ((j + 1)) _ ⟨rfl, rfl, rfl, trivial⟩ ⟨(hx58.pick [] (by decide)), ?_⟩ ?_
                · try dsimp only
                  exact ⟨by omega, fun k hk => by
                    rcases Nat.lt_or_ge k j with h | h
                    · exact hr k h
                    · rw [show k = j by omega]; omega⟩
                · (try dsimp only); omega
          · refine exit <| ke67 _ _ _ <| ke63 _ _ _ <| kb54 _ _ <| kn44 _ _ <| kn40 _ _ <| region <| qt mv <| qt (addN (b := 1) rfl rfl) <| qt asg <| nl <| ?_
            refine kn29 _ ((i + 1)) _ ⟨rfl, rfl, trivial⟩ ⟨(hx58.pick [] (by decide)), ?_⟩ ?_
            · try dsimp only
              exact ⟨by omega, hgb.step fun k hk => hr k (by omega)⟩
            · (try dsimp only); omega
      · refine exit <| ke35 _ _ _ <| ke31 _ _ _ <| kb22 _ _ <| kn13 _ _ <| ?_
        refine sr fun Q88 k89 => ?_
        have hm0 : 0 < m := by omega
        have hg : GoodS ss := GoodB.all (by rw [hsl, show m = i by omega]; exact hgb) (by omega)
        refine qt mv <| qt (x_lenSl rfl Tryz.underlying22 rfl) <| ?_
        refine st_e <| EmkQ (E := eB) hx26 T.sl70 (false) rfl rfl (by omega) (by omega) rfl fun b90 w91 H92 => qt asg <| nl <| k89 _ _ <| ?_
        refine sr fun Q93 k94 => qt mv <| qt mv <| qt (x_lenSl rfl Tryz.underlying22 rfl) <| qt (subN (b := 1) rfl rfl) <| qt (x_index' T.sl70 rfl ((H92.srQ 0 rfl).addr (by omega)) rfl (by omega)) <| ?_
        refine st_s <| EsoQ (j := (m - 1)) H92 0 true T.sz4 rfl rfl rfl rfl (by omega) fun w95 H96 => nl <| k94 _ _ <| seqK fun Q97 kn98 kr99 ke100 => ?_
        refine sr fun Q101 k102 => qt mv <| qt (x_lenSl rfl Tryz.underlying22 rfl) <| qt (x_sub rfl rfl ⟨by omega, by omega⟩) <| qt asg <| nl <| k102 _ _ <| blockK fun Q103 kn104 kr105 kx106 kb107 => ?_
        have H108 : Hp No w0 w95 [cQ 4 eB (some ⟨b90, 0, none⟩) m m ((List.replicate m false).set (m - 1) true)] := (H96.pick [0] (by decide))
        refine loopK (α := Nat) (fun x => [(0, .slice a m c), (6, .slice (some ⟨b90, 0, none⟩) m m), (7, .int .i64 (((x : Nat) : Int) - 1))]) (fun x w109 => Hp No w0 w109 [cQ 4 eB (some ⟨b90, 0, none⟩) m m (ndK ss (m - x))] ∧ x ≤ m) (fun x => x) (m) ⟨rfl, rfl, rfl, trivial⟩ ?_ ?_
        · refine ⟨(by rw [Nat.sub_self, ndK, hsl]; exact H108), ?_⟩
          try dsimp only
          exact Nat.le_refl _
        · rintro τ110 i1 w111 ⟨hx112, hi⟩
          try dsimp only at hi
          have hz113 := hx112.le
          intro Q114 kn115 kr116 ke117
          refine seqK fun Q118 kn119 kr120 ke121 => ?_
          refine sr fun Q122 k123 => qt mv <| qt (x_geq rfl rfl) <| nl <| k123 _ _ <| cnd (p := 0 ≤ (((i1 : Nat) : Int) - 1)) rfl (fun h124 => ?_) (fun h124 => ?_)
          · refine skip <| kn119 _ _ <| seqK fun Q125 kn126 kr127 ke128 => blockK fun Q129 kn130 kr131 kx132 kb133 => ?_
            refine sr fun Q134 k135 => qt asg <| nl <| k135 _ _ <| blockK fun Q136 kn137 kr138 kx139 kb140 => ?_
            have H141 : Hp No w0 w111 [cQ 4 eB (some ⟨b90, 0, none⟩) m m (ndK ss (m - i1))] := (hx112.pick [0] (by decide))
            refine loopK (α := Nat) (fun x => [(0, .slice a m c), (6, .slice (some ⟨b90, 0, none⟩) m m), (7, .int .i64 (((i1 : Nat) : Int) - 1)), (8, .int .i64 ((x : Nat) : Int))]) (fun x w142 => Hp No w0 w142 [cQ 4 eB (some ⟨b90, 0, none⟩) m m (ndJ ss (i1 - 1) x)] ∧ x ≤ (el ss (i1 - 1)).f.length) (fun x => (el ss (i1 - 1)).f.length - x) (0) ⟨rfl, rfl, rfl, rfl, trivial⟩ ?_ ?_
            · refine ⟨(by rw [ndJ_zero, show ss.length - 1 - (i1 - 1) = m - i1 by omega]; exact H141), ?_⟩
              try dsimp only
              exact Nat.zero_le _
            · rintro τ143 j w144 ⟨hx145, hj⟩
              try dsimp only at hj
              have hz146 := hx145.le
              intro Q147 kn148 kr149 ke150
              have hbi := hbd (i1 - 1) (by omega)
              refine seqK fun Q151 kn152 kr153 ke154 => ?_
              refine sr fun Q155 k156 => qt mv <| qt mv <| qt (x_index' T.sl70 rfl ((hx145.srQ 0 rfl).addr (by omega)) (iC (i1 - 1) rfl (by omega)) (by omega)) <| qt (x_load1 T.na4 rfl ((hx145.srQ 0 rfl).cell (i := (i1 - 1)) (by omega))) <| st_if (p := (el (ndJ ss (i1 - 1) j) (i1 - 1)) = true) (mvB rfl) (fun h157 => ?_) (fun h157 => ?_)
              · refine st_gq 4 73 rfl rfl (by decide) <| qt mv <| st_gq 4 73 rfl rfl (by decide) <| qt mv <| st_gq 4 73 rfl rfl (by decide) <| qt mv <| st_gq 4 73 rfl rfl (by decide) <| qt (x_index' T.sl22 rfl (hs.1.addr (by omega)) (iC (i1 - 1) rfl (by omega)) (by omega)) <| st_gq 4 73 rfl rfl (by decide) <| qt (x_field (o := (ao a) + (i1 - 1) * 5) T.fa65_3 rfl) <| st_gq 4 73 rfl rfl (by decide) <| qt (x_load1 T.na63 rfl (((hs.ext hx145.x).cellS hE (i := (i1 - 1)) (by omega)).fld 4 rfl)) <| st_gq 4 73 rfl rfl (by decide) <| qt (x_lenSl rfl Tryz.underlying63 rfl) <| st_gq 4 73 rfl rfl (by decide) <| qt (x_lssN rfl rfl) <| qt (pkT rfl) <| nl <| k156 _ _ <| cnd (p := j < ((el ss (i1 - 1)).f.length)) rfl (fun h158 => ?_) (fun h158 => ?_)
                · refine skip <| kn152 _ _ <| seqK fun Q159 kn160 kr161 ke162 => blockK fun Q163 kn164 kr165 kx166 kb167 => region <| ?_
                  have hgx := hg.2 (i1 - 1) (by omega) (el (el ss (i1 - 1)).f j) (el_mem (by omega))
                  refine qt mv <| qt mv <| qt mv <| qt (x_index' T.sl22 rfl (hs.1.addr (by omega)) (iC (i1 - 1) rfl (by omega)) (by omega)) <| qt (x_field (o := (ao a) + (i1 - 1) * 5) T.fa65_3 rfl) <| qt (x_load1 T.na63 rfl (((hs.ext hx145.x).cellS hE (i := (i1 - 1)) (by omega)).fld 4 rfl)) <| qt mv <| qt (x_index' T.sl63 rfl (((hs.ext hx145.x).stS hE (i := (i1 - 1)) (by omega)).2.2.addr (by omega)) rfl (by omega)) <| qt (x_load1 T.na3 rfl (((hs.ext hx145.x).stS hE (i := (i1 - 1)) (by omega)).2.2.cell (i := j) (by omega))) <| qt (x_index' T.sl70 rfl ((hx145.srQ 0 rfl).addr (by omega)) (iN rfl hgx.1) (by omega)) <| ?_
                  refine st_s <| EsoQ (j := (el (el ss (i1 - 1)).f j).toNat) hx145 0 true T.sz4 rfl rfl rfl rfl (by omega) fun w168 H169 => nl <| kn164 _ _ <| kn160 _ _ <| region <| qt mv <| qt (addN (b := 1) rfl rfl) <| qt asg <| nl <| ?_
                  have H170 : Hp No w0 w168 [cQ 4 eB (some ⟨b90, 0, none⟩) m m ((ndJ ss (i1 - 1) j).set ((el (el ss (i1 - 1)).f j).toNat) true)] := (H169.pick [0] (by decide))
                  refine kn148 _ ((j + 1)) _ ⟨rfl, rfl, rfl, rfl, trivial⟩ ⟨(by rw [ndJ_true hg (by omega) (by omega) (by assumption)]; exact H170), ?_⟩ ?_
                  · try dsimp only
                    exact (by omega)
                  · (try dsimp only); omega
                · refine exit <| ke154 _ _ _ <| ke150 _ _ _ <| kb140 _ _ <| kn130 _ _ <| kn126 _ _ <| region <| qt mv <| qt (subC (((i1 - 1 : Nat) : Int) - 1) rfl rfl (by omega) ⟨by omega, by omega⟩) <| qt asg <| nl <| ?_
                  have H171 : Hp No w0 w144 [cQ 4 eB (some ⟨b90, 0, none⟩) m m (ndJ ss (i1 - 1) j)] := (hx145.pick [0] (by decide))
                  have e172 : ndJ ss (i1 - 1) j = ndK ss (m - (i1 - 1)) := by
                    first
                    | (rw [← hsl]; exact ndJ_false hg (by omega) (by omega) (by assumption))
                    | (rw [show j = (el ss (i1 - 1)).f.length by omega, ndJ_end (by omega), hsl])
                  refine kn115 _ ((i1 - 1)) _ ⟨rfl, rfl, rfl, trivial⟩ ⟨(by rw [← e172]; exact H171), ?_⟩ ?_
                  · try dsimp only
                    exact (by omega)
                  · (try dsimp only); omega
              · refine st_gn 4 73 rfl rfl (by decide) rfl <| st_gn 4 73 rfl rfl (by decide) rfl <| st_gn 4 73 rfl rfl (by decide) rfl <| st_gn 4 73 rfl rfl (by decide) rfl <| st_gn 4 73 rfl rfl (by decide) rfl <| st_gn 4 73 rfl rfl (by decide) rfl <| st_gn 4 73 rfl rfl (by decide) rfl <| st_gn 4 73 rfl rfl (by decide) rfl <| qt (pkF rfl) <| nl <| k156 _ _ <| cndF rfl <| exit <| ke154 _ _ _ <| ke150 _ _ _ <| kb140 _ _ <| kn130 _ _ <| kn126 _ _ <| region <| qt mv <| qt (subC (((i1 - 1 : Nat) : Int) - 1) rfl rfl (by omega) ⟨by omega, by omega⟩) <| qt asg <| nl <| ?_
                have H173 : Hp No w0 w144 [cQ 4 eB (some ⟨b90, 0, none⟩) m m (ndJ ss (i1 - 1) j)] := (hx145.pick [0] (by decide))
                have e174 : ndJ ss (i1 - 1) j = ndK ss (m - (i1 - 1)) := by
                  first
                  | (rw [← hsl]; exact ndJ_false hg (by omega) (by omega) (by assumption))
                  | (rw [show j = (el ss (i1 - 1)).f.length by omega, ndJ_end (by omega), hsl])
                refine kn115 _ ((i1 - 1)) _ ⟨rfl, rfl, rfl, trivial⟩ ⟨(by rw [← e174]; exact H173), ?_⟩ ?_
                · try dsimp only
                  exact (by omega)
                · (try dsimp only); omega
          · refine exit <| ke121 _ _ _ <| ke117 _ _ _ <| kb107 _ _ <| kn98 _ _ <| ?_
            refine sr fun Q175 k176 => qt mv <| qt (x_lenSl rfl Tryz.underlying22 rfl) <| ?_
            refine st_e <| EmkQ (E := eI) hx112 T.sl63 ((0 : Int)) rfl rfl (by omega) (by omega) rfl fun b177 w178 H179 => qt asg <| nl <| k176 _ _ <| ?_
            refine sr fun Q180 k181 => qt asg <| nl <| k181 _ _ <| seqK fun Q182 kn183 kr184 ke185 => ?_
            refine sr fun Q186 k187 => qt asg <| nl <| k187 _ _ <| blockK fun Q188 kn189 kr190 kx191 kb192 => ?_
            have H193 : Hp No w0 w178 [cQ 4 eB (some ⟨b90, 0, none⟩) m m (ndK ss (m - i1)), cQ 3 eI (some ⟨b177, 0, none⟩) m m (List.replicate m (0 : Int))] := (H179.pick [1, 0] (by decide))
            have e194 : ndK ss (m - i1) = nds ss := by unfold nds; rw [hsl, show m - i1 = m by omega]
            have H195 : Hp No w0 w178 [cQ 4 eB (some ⟨b90, 0, none⟩) m m (nds ss), cQ 3 eI (some ⟨b177, 0, none⟩) m m ((outK ss (nds ss) 0).1)] := by rw [outK, hsl, ← e194]; exact H193
            refine loopK (α := Nat × (Option Addr) × Nat × Nat × (List Rw)) (fun x => [(0, .slice a m c), (6, .slice (some ⟨b90, 0, none⟩) m m), (9, .slice (some ⟨b177, 0, none⟩) m m), (10, .slice x.2.1 x.2.2.1 x.2.2.2.1), (11, .int .i64 ((x.1 : Nat) : Int))]) (fun x w196 => Hp No w0 w196 [cQ 4 eB (some ⟨b90, 0, none⟩) m m (nds ss), cQ 3 eI (some ⟨b177, 0, none⟩) m m ((outK ss (nds ss) x.1).1), cQ 65 eR x.2.1 x.2.2.1 x.2.2.2.1 x.2.2.2.2, cF x.2.2.1 (fun k => pF 3 (el x.2.2.2.2 k))] ∧ x.1 ≤ m ∧ x.2.2.2.2.map Prod.fst = (outK ss (nds ss) x.1).2 ∧ x.2.2.1 = x.2.2.2.2.length ∧ ∀ k, k < x.2.2.1 → Srm eS w0.heap (el x.2.2.2.2 k).2.ta (el x.2.2.2.2 k).1.t.length (el x.2.2.2.2 k).2.tc (el x.2.2.2.2 k).1.t ∧ Srm eS w0.heap (el x.2.2.2.2 k).2.va (el x.2.2.2.2 k).1.v.length (el x.2.2.2.2 k).2.vc (el x.2.2.2.2 k).1.v) (fun x => m - x.1) (0, none, 0, 0, []) ⟨rfl, rfl, rfl, rfl, rfl, trivial⟩ ?_ ?_
            · refine ⟨(((H195.fnil _).nilQ 65 eR).pick [2, 3, 0, 1] (by decide)), ?_⟩
              try dsimp only
              exact ⟨Nat.zero_le _, rfl, rfl, fun k hk => absurd hk (Nat.not_lt_zero k)⟩
            · rintro τ197 ⟨i, a2, m2, c2, ys⟩ w198 ⟨hx199, ⟨hi, hys, hm2, hyq⟩⟩
              try dsimp only at hi hys hm2 hyq
              have hz200 := hx199.le
              intro Q201 kn202 kr203 ke204
              dsimp only at hx199 ⊢
              have hm2i : m2 ≤ i := by rw [hm2, ← List.length_map (f := Prod.fst), hys]; exact outK_le _ _ _
              refine seqK fun Q205 kn206 kr207 ke208 => ?_
              refine sr fun Q209 k210 => qt mv <| qt mv <| qt (x_lenSl rfl Tryz.underlying22 rfl) <| qt (x_lssN rfl rfl) <| nl <| k210 _ _ <| cnd (p := i < m) rfl (fun h211 => ?_) (fun h211 => ?_)
              · refine skip <| kn206 _ _ <| seqK fun Q212 kn213 kr214 ke215 => blockK fun Q216 kn217 kr218 kx219 kb220 => seqK fun Q221 kn222 kr223 ke224 => ?_
                refine sr fun Q225 k226 => qt mv <| qt mv <| qt (x_index' T.sl70 rfl ((hx199.srQ 0 rfl).addr (by omega)) rfl (by omega)) <| qt (x_load1 T.na4 rfl ((hx199.srQ 0 rfl).cell (i := i) (by omega))) <| qt (x_notBB rfl) <| nl <| k226 _ _ <| cnd (p := ¬ ((el (nds ss) i) = true)) rfl (fun h227 => ?_) (fun h227 => ?_)
                · refine exit <| ke224 _ _ _ <| kb220 _ _ <| kn213 _ _ <| region <| qt mv <| qt (addN (b := 1) rfl rfl) <| qt asg <| nl <| ?_
                  have H228 : Hp No w0 w198 [cQ 4 eB (some ⟨b90, 0, none⟩) m m (nds ss), cQ 3 eI (some ⟨b177, 0, none⟩) m m ((outK ss (nds ss) i).1), cQ 65 eR a2 m2 c2 ys, cF m2 (fun k => pF 3 (el ys k))] := (hx199.pick [0, 1, 2, 3] (by decide))
                  refine kn202 _ ((i + 1), a2, m2, c2, ys) _ ⟨rfl, rfl, rfl, rfl, rfl, trivial⟩ ⟨(by rw [outK_no h227]; exact H228), ?_⟩ ?_
                  · try dsimp only
                    exact ⟨by omega, by rw [outK_no h227]; exact hys, hm2, hyq⟩
                  · (try dsimp only); omega
                · refine skip <| kn222 _ _ <| seqK fun Q229 kn230 kr231 ke232 => regionD1 [4, 9, 14] [0, 1, 2, 3, 4, 5, 6, 7, 8, 9, 10, 11, 12, 13, 14, 15] (.one 0 (.one 1 (.one 2 (.one 3 (.one 4 (.one 5 (.one 6 (.one 7 (.one 8 (.one 9 (.one 10 (.one 11 (.one 12 (.one 13 (.one 14 (.one 15 (.one 16 (.one 17 .done)))))))))))))))))) (by kernel_rfl) (by kernel_rfl) fun w233 x234 s235 => ?_
                  have H236 := hx199.ext x234
                  have S237 : Ext w233 w233 := Below.refl _ _
                  refine d_q rfl rfl (fun _ => mv) <| d_q rfl rfl (fun _ => mv) <| d_q rfl rfl (fun _ => x_index' T.sl22 rfl (hs.1.addr (by omega)) rfl (by omega)) <| d_q rfl rfl (fun _ => x_field (o := (ao a) + i * 5) T.fa65_0 rfl) <| d_l rfl rfl rfl (fun _ y238 => x_loadA [.string ((el ss i).p), .slice ((el xs i).2.ta) ((el ss i).t.length) ((el xs i).2.tc)] T.ag62 rfl ((((hs.ext H236.x).cellS hE (i := i) (by omega)).sub 0 [.string ((el ss i).p), .slice ((el xs i).2.ta) ((el ss i).t.length) ((el xs i).2.tc)] (cells_at rfl)).ext y238)) <| d_q rfl rfl (fun _ => mv) <| d_q rfl rfl (fun _ => mv) <| d_q rfl rfl (fun _ => x_index' T.sl22 rfl (hs.1.addr (by omega)) rfl (by omega)) <| d_q rfl rfl (fun _ => x_field (o := (ao a) + i * 5) T.fa65_1 rfl) <| d_l rfl rfl rfl (fun _ y239 => x_load1 T.na3 rfl ((((hs.ext H236.x).cellS hE (i := i) (by omega)).fld 2 rfl).ext y239)) <| d_q rfl rfl (fun _ => mv) <| d_q rfl rfl (fun _ => mv) <| d_q rfl rfl (fun _ => x_index' T.sl22 rfl (hs.1.addr (by omega)) rfl (by omega)) <| d_q rfl rfl (fun _ => x_field (o := (ao a) + i * 5) T.fa65_2 rfl) <| d_l rfl rfl rfl (fun _ y240 => x_load1 T.na56 rfl ((((hs.ext H236.x).cellS hE (i := i) (by omega)).fld 3 rfl).ext y240)) <| d_q (v := .agg #[.string ((el ss i).p), .slice ((el xs i).2.ta) ((el ss i).t.length) ((el xs i).2.tc), .int .i64 ((el ss i).r), .slice ((el xs i).2.va) ((el ss i).v.length) ((el xs i).2.vc), .slice none 0 0]) rfl rfl (fun _ => x_build (fun _ => by kernel_rfl)) <| d_e (by decide) <| d_e' rfl rfl <| Eal H236 T.zv65 fun b241 w242 H243 x244 => ?_
                  have S245 := S237.trans (x244.mono S237.size)
                  refine ⟨fun _ => S245, ?_⟩
                  refine d_e (by decide) <| d_s' rfl rfl <| Est (v := .agg #[.string ((el ss i).p), .slice ((el xs i).2.ta) ((el ss i).t.length) ((el xs i).2.tc), .int .i64 ((el ss i).r), .slice ((el xs i).2.va) ((el ss i).v.length) ((el xs i).2.vc), .slice none 0 0]) H243 0 T.sz65 rfl rfl rfl rfl rfl rfl fun w246 H247 => ⟨need_no (by kernel_rfl), ?_⟩
                  refine d_done <| kn230 _ _ <| seqK fun Q248 kn249 kr250 ke251 => ?_
                  refine sr fun Q252 k253 => qt asg <| nl <| k253 _ _ <| blockK fun Q254 kn255 kr256 kx257 kb258 => ?_
                  refine loopK (α := Nat × (Option Addr) × Nat) (fun x => [(0, .slice a m c), (6, .slice (some ⟨b90, 0, none⟩) m m), (9, .slice (some ⟨b177, 0, none⟩) m m), (10, .slice a2 m2 c2), (11, .int .i64 ((i : Nat) : Int)), (12, .pointer (some ⟨b241, 0, none⟩)), (13, .int .i64 ((x.1 : Nat) : Int))]) (fun x w259 => Hp No w0 w259 [cB b241 65 [.string ((el ss i).p), .slice ((el xs i).2.ta) ((el ss i).t.length) ((el xs i).2.tc), .int .i64 ((el ss i).r), .slice ((el xs i).2.va) ((el ss i).v.length) ((el xs i).2.vc), .slice x.2.1 ((gF (el ss i).f (outK ss (nds ss) i).1 x.1).length) x.2.2], cQ 3 eI x.2.1 ((gF (el ss i).f (outK ss (nds ss) i).1 x.1).length) x.2.2 (gF (el ss i).f (outK ss (nds ss) i).1 x.1), cQ 4 eB (some ⟨b90, 0, none⟩) m m (nds ss), cQ 3 eI (some ⟨b177, 0, none⟩) m m ((outK ss (nds ss) i).1), cQ 65 eR a2 m2 c2 ys, cF m2 (fun k => pF 3 (el ys k))] ∧ x.1 ≤ (el ss i).f.length) (fun x => (el ss i).f.length - x.1) (0, none, 0) ⟨rfl, rfl, rfl, rfl, rfl, rfl, rfl, trivial⟩ ?_ ?_
                  · refine ⟨((H247.nilQ 3 eI).pick [1, 0, 2, 3, 4, 5] (by decide)), ?_⟩
                    try dsimp only
                    exact Nat.zero_le _
                  · rintro τ260 ⟨j, fa, fc⟩ w261 ⟨hx262, hj⟩
                    try dsimp only at hj
                    have hz263 := hx262.le
                    intro Q264 kn265 kr266 ke267
                    dsimp only at hx262 ⊢
                    refine seqK fun Q268 kn269 kr270 ke271 => ?_
                    refine sr fun Q272 k273 => qt mv <| qt mv <| qt mv <| qt (x_index' T.sl22 rfl (hs.1.addr (by omega)) rfl (by omega)) <| qt (x_field (o := (ao a) + i * 5) T.fa65_3 rfl) <| qt (x_load1 T.na63 rfl (((hs.ext hx262.x).cellS hE (i := i) (by omega)).fld 4 rfl)) <| qt (x_lenSl rfl Tryz.underlying63 rfl) <| qt (x_lssN rfl rfl) <| nl <| k273 _ _ <| cnd (p := j < ((el ss i).f.length)) rfl (fun h274 => ?_) (fun h274 => ?_)
                    · refine skip <| kn269 _ _ <| seqK fun Q275 kn276 kr277 ke278 => blockK fun Q279 kn280 kr281 kx282 kb283 => regionD1 [1, 7, 10, 12] [0, 1, 2, 3, 4, 5, 6, 7, 8, 9, 10, 11, 12, 15] (.one 0 (.one 1 (.one 2 (.one 3 (.one 4 (.one 5 (.one 6 (.one 7 (.one 8 (.one 9 (.one 10 (.one 11 (.one 12 (.one 13 (.one 14 (.one 15 (.one 16 .done))))))))))))))))) (by kernel_rfl) (by kernel_rfl) fun w284 x285 s286 => ?_
                      have H287 := hx262.ext x285
                      have S288 : Ext w284 w284 := Below.refl _ _
                      refine d_q rfl rfl (fun _ => x_field (o := 0) T.fa65_3 rfl) <| d_l rfl rfl rfl (fun _ y289 => x_load1 T.na63 rfl ((H287.ld 0 rfl 4 rfl).ext y289)) <| ?_
                      have hgx := hg.2 i (by omega) (el (el ss i).f j) (el_mem (by omega))
                      have hl4 := gF_length (q := (outK ss (nds ss) i).1) hj
                      have hbi := hbd i (by omega)
                      refine d_q rfl rfl (fun _ => mv) <| d_q rfl rfl (fun _ => mv) <| d_q rfl rfl (fun _ => mv) <| d_q rfl rfl (fun _ => x_index' T.sl22 rfl (hs.1.addr (by omega)) rfl (by omega)) <| d_q rfl rfl (fun _ => x_field (o := (ao a) + i * 5) T.fa65_3 rfl) <| d_l rfl rfl rfl (fun _ y290 => x_load1 T.na63 rfl ((((hs.ext H287.x).cellS hE (i := i) (by omega)).fld 4 rfl).ext y290)) <| d_q rfl rfl (fun _ => mv) <| d_q rfl rfl (fun _ => x_index' T.sl63 rfl (((hs.ext H287.x).stS hE (i := i) (by omega)).2.2.addr (by omega)) rfl (by omega)) <| d_l rfl rfl rfl (fun _ y291 => x_load1 T.na3 rfl ((((hs.ext H287.x).stS hE (i := i) (by omega)).2.2.cell (i := j) (by omega)).ext y291)) <| d_q rfl rfl (fun _ => x_index' T.sl63 rfl ((H287.srQ 3 rfl).addr (by omega)) (iN rfl hgx.1) (by omega)) <| d_l rfl rfl rfl (fun _ y292 => x_load1 T.na3 rfl (((H287.srQ 3 rfl).cell (i := (el (el ss i).f j).toNat) (by omega)).ext y292)) <| d_e (by decide) <| d_e' rfl rfl <| Ebs (cs := [.int .i64 (el ((outK ss (nds ss) i).1) ((el (el ss i).f j).toNat))]) (e := 3) H287 (fun _ => by kernel_rfl) fun b293 w294 H295 x296 => ?_
                      have S297 := S288.trans (x296.mono S288.size)
                      refine ⟨fun _ => S297, ?_⟩
                      refine d_e (by decide) <| d_e' rfl rfl <| EapQ H295 2 T.sl63 rfl rfl rfl (H295.lst (E := eI) 0 rfl (el ((outK ss (nds ss) i).1) ((el (el ss i).f j).toNat)) rfl) (by omega) rfl rfl fun a298 c299 w300 H301 => ⟨need_no (by kernel_rfl), ?_⟩
                      refine d_q rfl rfl (fun _ => x_field (o := 0) T.fa65_3 rfl) <| d_e (by decide) <| d_s' rfl rfl <| Est (v := .slice a298 ((gF (el ss i).f (outK ss (nds ss) i).1 j).length + 1) c299) H301 1 T.sz63 rfl rfl rfl rfl rfl rfl fun w302 H303 => ⟨need_no (by kernel_rfl), ?_⟩
                      refine d_done <| kn280 _ _ <| kn276 _ _ <| region <| qt mv <| qt (addN (b := 1) rfl rfl) <| qt asg <| nl <| ?_
                      have H304 : Hp No w0 w302 [cB b241 65 [.string ((el ss i).p), .slice ((el xs i).2.ta) ((el ss i).t.length) ((el xs i).2.tc), .int .i64 ((el ss i).r), .slice ((el xs i).2.va) ((el ss i).v.length) ((el xs i).2.vc), .slice a298 ((gF (el ss i).f (outK ss (nds ss) i).1 j).length + 1) c299], cQ 3 eI a298 ((gF (el ss i).f (outK ss (nds ss) i).1 j).length + 1) c299 ((gF (el ss i).f (outK ss (nds ss) i).1 j) ++ [(el ((outK ss (nds ss) i).1) ((el (el ss i).f j).toNat))]), cQ 4 eB (some ⟨b90, 0, none⟩) m m (nds ss), cQ 3 eI (some ⟨b177, 0, none⟩) m m ((outK ss (nds ss) i).1), cQ 65 eR a2 m2 c2 ys, cF m2 (fun k => pF 3 (el ys k))] := (H303.pick [1, 2, 3, 4, 5, 6] (by decide))
                      refine kn265 _ ((j + 1), a298, c299) _ ⟨rfl, rfl, rfl, rfl, rfl, rfl, rfl, trivial⟩ ⟨(by rw [gF_step (by omega), List.length_append]; exact H304), ?_⟩ ?_
                      · try dsimp only
                        exact (by omega)
                      · (try dsimp only); omega
                    · refine exit <| ke271 _ _ _ <| ke267 _ _ _ <| kb258 _ _ <| kn249 _ _ <| ?_
                      refine sr fun Q305 k306 => qt mv <| qt mv <| qt mv <| qt (x_lenSl rfl Tryz.underlying22 rfl) <| qt (x_index' T.sl63 rfl ((hx262.srQ 3 rfl).addr (by omega)) rfl (by omega)) <| ?_
                      refine st_s <| EsoQ (j := i) hx262 3 ((m2 : Nat) : Int) T.sz3 rfl rfl rfl rfl (by omega) fun w307 H308 => nl <| k306 _ _ <| region <| qt mv <| qt (x_loadA [.string ((el ss i).p), .slice ((el xs i).2.ta) ((el ss i).t.length) ((el xs i).2.tc), .int .i64 ((el ss i).r), .slice ((el xs i).2.va) ((el ss i).v.length) ((el xs i).2.vc), .slice fa ((gF (el ss i).f (outK ss (nds ss) i).1 j).length) fc] T.ag65 rfl (H308.lds 0 rfl 0 [.string ((el ss i).p), .slice ((el xs i).2.ta) ((el ss i).t.length) ((el xs i).2.tc), .int .i64 ((el ss i).r), .slice ((el xs i).2.va) ((el ss i).v.length) ((el xs i).2.vc), .slice fa ((gF (el ss i).f (outK ss (nds ss) i).1 j).length) fc] rfl)) <| ?_
                      refine st_e <| Ebs (cs := [.string ((el ss i).p), .slice ((el xs i).2.ta) ((el ss i).t.length) ((el xs i).2.tc), .int .i64 ((el ss i).r), .slice ((el xs i).2.va) ((el ss i).v.length) ((el xs i).2.vc), .slice fa ((gF (el ss i).f (outK ss (nds ss) i).1 j).length) fc]) (e := 65) H308 (fun _ => by kernel_rfl) fun b309 w310 H311 x312 => ?_
                      refine st_e <| EapQ H311 5 T.sl22 rfl rfl rfl (H311.lst (E := eR) 0 rfl ((⟨(el ss i).p, (el ss i).t, (el ss i).r, (el ss i).v, (gF (el ss i).f (outK ss (nds ss) i).1 j)⟩ : Stp), (⟨(el xs i).2.ta, (el xs i).2.tc, (el xs i).2.va, (el xs i).2.vc, fa, fc⟩ : Hd)) rfl) (by omega) rfl rfl fun a313 c314 w315 H316 => qt asg <| nl <| kn217 _ _ <| kn213 _ _ <| region <| qt mv <| qt (addN (b := 1) rfl rfl) <| qt asg <| nl <| ?_
                      have H317 : Hp No w0 w315 ([cQ 3 eI fa ((gF (el ss i).f (outK ss (nds ss) i).1 j).length) fc (gF (el ss i).f (outK ss (nds ss) i).1 j), cQ 65 eR a313 (m2 + 1) c314 (ys ++ [((⟨(el ss i).p, (el ss i).t, (el ss i).r, (el ss i).v, (gF (el ss i).f (outK ss (nds ss) i).1 j)⟩ : Stp), (⟨(el xs i).2.ta, (el xs i).2.tc, (el xs i).2.va, (el xs i).2.vc, fa, fc⟩ : Hd))]), cF m2 (fun k => pF 3 (el ys k))] ++ [cQ 4 eB (some ⟨b90, 0, none⟩) m m (nds ss), cQ 3 eI (some ⟨b177, 0, none⟩) m m ((outK ss (nds ss) i).1.set i ((m2 : Nat) : Int))]) := (H316.pick [2, 5, 6, 3, 4] (by decide))
                      have H318 := (H317.callL (H317.startL.push1 (p := pF 3) (u := ((⟨(el ss i).p, (el ss i).t, (el ss i).r, (el ss i).v, (gF (el ss i).f (outK ss (nds ss) i).1 j)⟩ : Stp), (⟨(el xs i).2.ta, (el xs i).2.tc, (el xs i).2.va, (el xs i).2.vc, fa, fc⟩ : Hd))) hm2.symm rfl)).pick [2, 3, 0, 1] (by decide)
                      have h319 : el (nds ss) i = true := Decidable.of_not_not h227
                      have e320 : (outK ss (nds ss) (i + 1)).1 = ((outK ss (nds ss) i).1.set i ((m2 : Nat) : Int)) := by rw [outK_yes h319]; show List.set _ _ _ = _; rw [← hys, List.length_map, ← hm2]
                      refine kn202 _ ((i + 1), a313, (m2 + 1), c314, (ys ++ [((⟨(el ss i).p, (el ss i).t, (el ss i).r, (el ss i).v, (gF (el ss i).f (outK ss (nds ss) i).1 j)⟩ : Stp), (⟨(el xs i).2.ta, (el xs i).2.tc, (el xs i).2.va, (el xs i).2.vc, fa, fc⟩ : Hd))])) _ ⟨rfl, rfl, rfl, rfl, rfl, trivial⟩ ⟨(by rw [e320]; exact H318), ?_⟩ ?_
                      · try dsimp only
                        exact ⟨by omega, by rw [outK_yes h319, List.map_append, hys]; show _ ++ [_] = _ ++ [_]; rw [← row_left' (s := ss), show (el ss i).f.length = j by omega], by rw [List.length_append, ← hm2]; rfl, fun k hk => by
                          rw [el_app1, ← hm2]
                          split
                          · exact ⟨(hs.stS hE (i := i) (by omega)).1, (hs.stS hE (i := i) (by omega)).2.1⟩
                          · exact hyq k (by omega)⟩
                      · (try dsimp only); omega
              · refine exit <| ke208 _ _ _ <| ke204 _ _ _ <| kb192 _ _ <| kn183 _ _ <| ?_
                refine sr fun Q321 k322 => qt mv <| qt asg <| qt asg <| nl <| k322 _ _ <| ret <| leave2 (P := Tryz.prog) (fn := Tryz.f7) (t := 2) (u := 3) (v := .slice a2 m2 c2) (v' := .int .i64 ((0 : Nat) : Int)) rfl rfl rfl ?_
                have H323 : Hp No w0 w198 [cQ 65 eR a2 m2 c2 ys, cF m2 (fun k => pF 3 (el ys k))] := (hx199.pick [2, 3] (by decide))
                have e : i = m := by omega
                exact ⟨a2, m2, c2, ys, (by rw [errT_good hg] <;> rfl), H323.x, ⟨cQ.sr (H323.at 0 rfl), fun k hk => ⟨(hyq k hk).1.ext H323.x, (hyq k hk).2.ext H323.x, cQ.sr ((H323.at 1 rfl).1 k hk)⟩⟩, by rw [resT_good hg, hys, e, ← hsl]; rfl⟩
end Go.Proofs.YtcgmhpenjjheiaaGreatDoor
namespace Go.Proofs.YtcgmhpenjjheiaaGreatDoor
open Go.RowKit Go.Eng Go.PT
def bx {α : Type} (T : TypeId) (E : En α) (hs : List Hdr) (x : Nat → List α) (j : Nat) : Ch := cQ T E (el hs j).1 (el hs j).2.1 (el hs j).2.2 (x j)
def tvs (ys : List Rw) (j : Nat) : List ByteArray := if j % 2 = 0 then (el ys (j / 2)).1.t else (el ys (j / 2)).1.v
def fvs (ys : List Rw) (j : Nat) : List Int := (el ys j).1.f
theorem el_append {α : Type} [Inhabited α] (l k : List α) (j : Nat) : el (l ++ k) j = if j < l.length then el l j else el k (j - l.length) := by
  unfold el
  rw [List.getD_eq_getElem?_getD, List.getD_eq_getElem?_getD, List.getD_eq_getElem?_getD]
  split
  · rename_i h; rw [List.getElem?_append_left h]
  · rename_i h; rw [List.getElem?_append_right (by omega)]
theorem hTs_length (ys : List Rw) : ∀ n, (hTs ys n).length = 2 * n
  | 0 => rfl
  | n + 1 => by rw [hTs, List.length_append, hTs_length ys n]; show 2 * n + 2 = _; omega
theorem hFs_length (ys : List Rw) : ∀ n, (hFs ys n).length = n
  | 0 => rfl
  | n + 1 => by rw [hFs, List.length_append, hFs_length ys n]; rfl
theorem hTs_el (ys : List Rw) : ∀ n j, j < 2 * n → el (hTs ys n) j = if j % 2 = 0 then hT (el ys (j / 2)) else hV (el ys (j / 2))
  | 0, j, h => by omega
  | n + 1, j, h => by
    rw [hTs, el_append, hTs_length]
    by_cases h1 : j < 2 * n
    · rw [if_pos h1]; exact hTs_el ys n j h1
    · rw [if_neg h1]
      by_cases h2 : j = 2 * n
      · subst h2; rw [Nat.sub_self, if_pos (by omega), show 2 * n / 2 = n by omega]; rfl
      · obtain rfl : j = 2 * n + 1 := by omega
        rw [show 2 * n + 1 - 2 * n = 1 by omega, if_neg (by omega), show (2 * n + 1) / 2 = n by omega]; rfl
theorem hFs_el (ys : List Rw) : ∀ n j, j < n → el (hFs ys n) j = hF (el ys j)
  | 0, j, h => by omega
  | n + 1, j, h => by
    rw [hFs, el_append, hFs_length]
    by_cases h1 : j < n
    · rw [if_pos h1]; exact hFs_el ys n j h1
    · obtain rfl : j = n := by omega
      rw [if_neg h1, Nat.sub_self]; rfl
theorem hTs_le {ys : List Rw} {n B : Nat} (hb : ∀ k, k < n → (el ys k).1.t.length ≤ B ∧ (el ys k).1.v.length ≤ B) : ∀ j, j < 2 * n → (el (hTs ys n) j).2.1 ≤ B := fun j hj => by
  rw [hTs_el ys n j hj]
  split
  · exact (hb (j / 2) (by omega)).1
  · exact (hb (j / 2) (by omega)).2
theorem hFs_le {ys : List Rw} {n B : Nat} (hb : ∀ k, k < n → (el ys k).1.f.length ≤ B) : ∀ j, j < n → (el (hFs ys n) j).2.1 ≤ B := fun j hj => by
  rw [hFs_el ys n j hj]
  exact hb j hj
theorem app_le {l k : List Hdr} {a b B : Nat} (hl : l.length = a) (h1 : ∀ j, j < a → (el l j).2.1 ≤ B) (h2 : ∀ j, j < b → (el k j).2.1 ≤ B) : ∀ j, j < a + b → (el (l ++ k) j).2.1 ≤ B := fun j hj => by
  rw [el_append]
  split
  · exact h1 j (by omega)
  · exact h2 _ (by omega)
theorem hb3T {ysA ysB ysC : List Rw} {m B : Nat} (hA : ∀ k, k < m → (el ysA k).1.t.length ≤ B ∧ (el ysA k).1.v.length ≤ B) (hB : ∀ k, k < m → (el ysB k).1.t.length ≤ B ∧ (el ysB k).1.v.length ≤ B) (hC : ∀ k, k < m → (el ysC k).1.t.length ≤ B ∧ (el ysC k).1.v.length ≤ B) : ∀ j, j < 2 * m + 2 * m + 2 * m → (el (hTs ysA m ++ hTs ysB m ++ hTs ysC m) j).2.1 ≤ B := by
  have h1 := app_le (B := B) (hTs_length ysA m) (hTs_le hA) (hTs_le hB)
  have hl : (hTs ysA m ++ hTs ysB m).length = 2 * m + 2 * m := by rw [List.length_append, hTs_length, hTs_length]
  exact app_le (B := B) hl h1 (hTs_le hC)
theorem hb3F {ysA ysB ysC : List Rw} {m B : Nat} (hA : ∀ k, k < m → (el ysA k).1.f.length ≤ B) (hB : ∀ k, k < m → (el ysB k).1.f.length ≤ B) (hC : ∀ k, k < m → (el ysC k).1.f.length ≤ B) : ∀ j, j < m + m + m → (el (hFs ysA m ++ hFs ysB m ++ hFs ysC m) j).2.1 ≤ B := by
  have h1 := app_le (B := B) (hFs_length ysA m) (hFs_le hA) (hFs_le hB)
  have hl : (hFs ysA m ++ hFs ysB m).length = m + m := by rw [List.length_append, hFs_length, hFs_length]
  exact app_le (B := B) hl h1 (hFs_le hC)
section
variable {S : Nat → Prop} {w0 w : World} {L : List Ch} {ys : List Rw} {m n : Nat}
theorem open1 (H : Hp S w0 w (cF m (fun k => pR 9 3 (el ys k)) :: L)) : Hp S w0 w (cF (2 * m) (bx 9 eS (hTs ys m) (tvs ys)) :: cF m (bx 3 eI (hFs ys m) (fvs ys)) :: L) := by
  have H1 : Hp S w0 w (cF m (fun k => cQ 9 eS (el ys k).2.ta (el ys k).1.t.length (el ys k).2.tc (el ys k).1.t) :: cF m (fun k => two (cQ 9 eS (el ys k).2.va (el ys k).1.v.length (el ys k).2.vc (el ys k).1.v) (cQ 3 eI (el ys k).2.fa (el ys k).1.f.length (el ys k).2.fc (el ys k).1.f)) :: L) := Hp.fsplit H 0 rfl
  have H2 : Hp S w0 w (cF m (fun k => cQ 9 eS (el ys k).2.va (el ys k).1.v.length (el ys k).2.vc (el ys k).1.v) :: cF m (fun k => cQ 9 eS (el ys k).2.ta (el ys k).1.t.length (el ys k).2.tc (el ys k).1.t) :: cF m (fun k => cQ 3 eI (el ys k).2.fa (el ys k).1.f.length (el ys k).2.fc (el ys k).1.f) :: L) := Hp.fsplit H1 1 rfl
  have H3 := Hp.falt (H2.perm (List.Perm.swap _ _ _)) 0 rfl
  have H4 := H3.fcongr 0 rfl (g := bx 9 eS (hTs ys m) (tvs ys)) fun j hj => by
    unfold bx tvs
    rw [hTs_el ys m j hj]
    split <;> rfl
  exact Hp.fcongr H4 1 rfl (g := bx 3 eI (hFs ys m) (fvs ys)) fun j hj => by
    unfold bx fvs
    rw [hFs_el ys m j hj]
theorem openA {α : Type} {T : TypeId} {E : En α} {h1 h2 : List Hdr} {x1 x2 : Nat → List α} (H : Hp S w0 w (cF n (bx T E h2 x2) :: L)) (i : Nat) (hi : L[i]? = some (cF m (bx T E h1 x1))) (hl : h1.length = m) : Hp S w0 w (L.set i (cF (m + n) (bx T E (h1 ++ h2) fun j => if j < m then x1 j else x2 (j - m)))) := by
  have H1 := H.fapp i hi
  have hil := (List.getElem?_eq_some_iff.1 hi).1
  have H2 := H1.fcongr i (List.getElem?_set_self hil) (g := bx T E (h1 ++ h2) fun j => if j < m then x1 j else x2 (j - m)) fun j hj => by
    unfold bx
    dsimp only
    rw [el_append, hl]
    by_cases h : j < m
    · rw [if_pos h, if_pos h, if_pos h]
    · rw [if_neg h, if_neg h, if_neg h]
  rw [List.set_set] at H2
  exact H2
theorem el_fst (ys : List Rw) (i : Nat) : el (ys.map Prod.fst) i = (el ys i).1 := by
  unfold el
  rw [List.getD_eq_getElem?_getD, List.getD_eq_getElem?_getD, List.getElem?_map]
  cases ys[i]? <;> rfl
theorem el_same {xs ys : List Rw} (h : xs.map Prod.fst = ys.map Prod.fst) (i : Nat) : (el xs i).1 = (el ys i).1 := by rw [← el_fst, ← el_fst, h]
theorem lnt_of {a : Option Addr} {c : Nat} {zs : List Rw} {zm : Rw} (H : Hp S w0 w L) (i j : Nat) (hi : L[i]? = some (cQ 65 eR a (m + 1) c (zs ++ [zm]))) (hj : L[j]? = some (cF m fun k => pL 9 3 mkR (el zs k))) (hr : zm.1.r = -77) : Lnt w.heap mkR a m c zs zm :=
  ⟨cQ.sr (H.at i hi), hr, fun k hk => cQ.sr ((H.at j hj).1 k hk).1, fun k hk => cQ.sr ((H.at j hj).1 k hk).2.1.1, fun k hk => cQ.sr ((H.at j hj).1 k hk).2.1.2.1⟩
abbrev pX (ys : List Rw) (m : Nat) : Ch := cF m (fun k => pR 9 3 (el ys k))
abbrev tX (ys : List Rw) (m : Nat) : Ch := cF (2 * m) (bx 9 eS (hTs ys m) (tvs ys))
abbrev fX (ys : List Rw) (m : Nat) : Ch := cF m (bx 3 eI (hFs ys m) (fvs ys))
theorem books0 {ma mb mc : Nat} {ysA ysB ysC : List Rw} {b t n z x : Ch} (H : Hp S w0 w [pX ysA ma, pX ysB mb, pX ysC mc, b, t, n, z, x]) :
    ∃ xt xf, Hp S w0 w [b, t, cF (2 * ma + 2 * mb + 2 * mc) (bx 9 eS (hTs ysA ma ++ hTs ysB mb ++ hTs ysC mc) xt), n, cF (ma + mb + mc) (bx 3 eI (hFs ysA ma ++ hFs ysB mb ++ hFs ysC mc) xf), z, x] := by
  have H1 : Hp S w0 w [tX ysA ma, fX ysA ma, pX ysB mb, pX ysC mc, b, t, n, z, x] := open1 H
  have G1 : Hp S w0 w [pX ysB mb, tX ysA ma, fX ysA ma, pX ysC mc, b, t, n, z, x] := H1.pick [2, 0, 1, 3, 4, 5, 6, 7, 8] (by decide)
  have H2 : Hp S w0 w [tX ysB mb, fX ysB mb, tX ysA ma, fX ysA ma, pX ysC mc, b, t, n, z, x] := open1 G1
  have G2 : Hp S w0 w [pX ysC mc, tX ysB mb, fX ysB mb, tX ysA ma, fX ysA ma, b, t, n, z, x] := H2.pick [4, 0, 1, 2, 3, 5, 6, 7, 8, 9] (by decide)
  have H3 : Hp S w0 w [tX ysC mc, fX ysC mc, tX ysB mb, fX ysB mb, tX ysA ma, fX ysA ma, b, t, n, z, x] := open1 G2
  have G3 : Hp S w0 w [tX ysB mb, tX ysA ma, tX ysC mc, fX ysC mc, fX ysB mb, fX ysA ma, b, t, n, z, x] := H3.pick [2, 4, 0, 1, 3, 5, 6, 7, 8, 9, 10] (by decide)
  have H4 := openA G3 0 rfl (hTs_length _ _)
  generalize hx4 : (fun j => if j < 2 * ma then tvs ysA j else tvs ysB (j - 2 * ma)) = x4 at H4
  have H4 : Hp S w0 w [cF (2 * ma + 2 * mb) (bx 9 eS (hTs ysA ma ++ hTs ysB mb) x4), tX ysC mc, fX ysC mc, fX ysB mb, fX ysA ma, b, t, n, z, x] := H4
  have G4 : Hp S w0 w [tX ysC mc, cF (2 * ma + 2 * mb) (bx 9 eS (hTs ysA ma ++ hTs ysB mb) x4), fX ysC mc, fX ysB mb, fX ysA ma, b, t, n, z, x] := H4.pick [1, 0, 2, 3, 4, 5, 6, 7, 8, 9] (by decide)
  have H5 := openA G4 0 rfl (by rw [List.length_append, hTs_length, hTs_length])
  generalize hx5 : (fun j => if j < 2 * ma + 2 * mb then x4 j else tvs ysC (j - (2 * ma + 2 * mb))) = x5 at H5
  have H5 : Hp S w0 w [cF (2 * ma + 2 * mb + 2 * mc) (bx 9 eS (hTs ysA ma ++ hTs ysB mb ++ hTs ysC mc) x5), fX ysC mc, fX ysB mb, fX ysA ma, b, t, n, z, x] := H5
  have G5 : Hp S w0 w [fX ysB mb, fX ysA ma, fX ysC mc, cF (2 * ma + 2 * mb + 2 * mc) (bx 9 eS (hTs ysA ma ++ hTs ysB mb ++ hTs ysC mc) x5), b, t, n, z, x] := H5.pick [2, 3, 1, 0, 4, 5, 6, 7, 8] (by decide)
  have H6 := openA G5 0 rfl (hFs_length _ _)
  generalize hx6 : (fun j => if j < ma then fvs ysA j else fvs ysB (j - ma)) = x6 at H6
  have H6 : Hp S w0 w [cF (ma + mb) (bx 3 eI (hFs ysA ma ++ hFs ysB mb) x6), fX ysC mc, cF (2 * ma + 2 * mb + 2 * mc) (bx 9 eS (hTs ysA ma ++ hTs ysB mb ++ hTs ysC mc) x5), b, t, n, z, x] := H6
  have G6 : Hp S w0 w [fX ysC mc, cF (ma + mb) (bx 3 eI (hFs ysA ma ++ hFs ysB mb) x6), cF (2 * ma + 2 * mb + 2 * mc) (bx 9 eS (hTs ysA ma ++ hTs ysB mb ++ hTs ysC mc) x5), b, t, n, z, x] := H6.pick [1, 0, 2, 3, 4, 5, 6, 7] (by decide)
  have H7 := openA G6 0 rfl (by rw [List.length_append, hFs_length, hFs_length])
  generalize hx7 : (fun j => if j < ma + mb then x6 j else fvs ysC (j - (ma + mb))) = x7 at H7
  have H7 : Hp S w0 w [cF (ma + mb + mc) (bx 3 eI (hFs ysA ma ++ hFs ysB mb ++ hFs ysC mc) x7), cF (2 * ma + 2 * mb + 2 * mc) (bx 9 eS (hTs ysA ma ++ hTs ysB mb ++ hTs ysC mc) x5), b, t, n, z, x] := H7
  exact ⟨x5, x7, H7.pick [2, 3, 1, 4, 0, 5, 6] (by decide)⟩
/-- three times the rows' lists, as the book has them -/
theorem books {bk ma mb mc tc nc : Nat} {ta na : Option Addr} {ysA ysB ysC : List Rw} {lv : Value} {Z X : Ch}
    (H : Hp S w0 w [cF ma (fun k => pR 9 3 (el ysA k)), cF mb (fun k => pR 9 3 (el ysB k)), cF mc (fun k => pR 9 3 (el ysC k)), cB bk 36 [.slice ta (0 + 2 * ma + 2 * mb + 2 * mc) tc, .slice na (0 + ma + mb + mc) nc, lv], cQ 56 eL ta (0 + 2 * ma + 2 * mb + 2 * mc) tc ([] ++ hTs ysA ma ++ hTs ysB mb ++ hTs ysC mc), cQ 63 eL na (0 + ma + mb + mc) nc ([] ++ hFs ysA ma ++ hFs ysB mb ++ hFs ysC mc), Z, X]) :
    ∃ xt xf, Hp S w0 w ([cB bk 36 [.slice ta (2 * ma + 2 * mb + 2 * mc) tc, .slice na (ma + mb + mc) nc, lv], cQ 56 eL ta (2 * ma + 2 * mb + 2 * mc) tc (hTs ysA ma ++ hTs ysB mb ++ hTs ysC mc), cF (2 * ma + 2 * mb + 2 * mc) (bx 9 eS (hTs ysA ma ++ hTs ysB mb ++ hTs ysC mc) xt), cQ 63 eL na (ma + mb + mc) nc (hFs ysA ma ++ hFs ysB mb ++ hFs ysC mc), cF (ma + mb + mc) (bx 3 eI (hFs ysA ma ++ hFs ysB mb ++ hFs ysC mc) xf)] ++ [Z, X]) := by
  simp only [Nat.zero_add, List.nil_append] at H
  exact books0 H
end
end Go.Proofs.YtcgmhpenjjheiaaGreatDoor
