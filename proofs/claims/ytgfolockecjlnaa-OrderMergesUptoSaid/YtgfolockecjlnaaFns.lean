import Derived.Test.YtgfolockecjlnaaRows
import Derived.Test.YtgfolockecjlnaaHeap
import Derived.Test.YtgfolockecjlnaaScope
import Derived.Test.YtgfolockecjlnaaOrdPure
namespace Go.Proofs.Ytgfolockecjlnaa
open Go.RowKit Go.Eng Go.OrdPure Go.HeapPure
def enT (x : Int × Int) : List Value := [.int .i64 x.1, .int .i64 x.2]
theorem enT_len (x : Int × Int) : (enT x).length = 2 := rfl
def enI (x : Int) : List Value := [.int .i64 x]
theorem enI_len (x : Int) : (enI x).length = 1 := rfl
def Cmp (fc : Nat) (c : Int × Int → Int × Int → Int) : Prop := ∀ (x y : Int × Int) (w : World), Calls Try.prog fc #[.agg (enT x).toArray, .agg (enT y).toArray] w fun e w' => e = .returned (.int .i64 (c x y)) ∧ Ext w w'
def Told (g : Value) (fc : Nat) : Prop := ∀ w, Calls Try.prog 53 #[g] w fun e w' => e = .returned (.func (.func fc) #[] #[]) ∧ w = w'
def CmpI (fc : Nat) (c : Int → Int → Int) : Prop := ∀ (x y : Int) (w : World), Calls Try.prog fc #[.int .i64 x, .int .i64 y] w fun e w' => e = .returned (.int .i64 (c x y)) ∧ Ext w w'
def ToldI (g : Value) (fc : Nat) : Prop := ∀ w, Calls Try.prog 65 #[g] w fun e w' => e = .returned (.func (.func fc) #[] #[]) ∧ w = w'
def enS (x : ByteArray) : List Value := [.string x]
theorem enS_len (x : ByteArray) : (enS x).length = 1 := rfl
theorem flat_onesS {xs : List ByteArray} : (flat enS xs).all (·.oneCell') = true := by
  induction xs with
  | nil => rfl
  | cons x xs ih => simp only [flat, List.flatMap_cons, List.all_append] at *; rw [ih]; rfl
theorem flat_ones {xs : List (Int × Int)} : (flat enT xs).all (·.oneCell') = true := by
  induction xs with
  | nil => rfl
  | cons x xs ih => simp only [flat, List.flatMap_cons, List.all_append] at *; rw [ih]; rfl
theorem flat_rep (n : Nat) : flat enT (List.replicate n ((0 : Int), (0 : Int))) = (List.replicate n [Value.int .i64 0, Value.int .i64 0]).flatten := by
  induction n with
  | zero => rfl
  | succ n ih => simp only [List.replicate_succ, flat, List.flatMap_cons, List.flatten_cons] at *; rw [ih]; rfl
theorem T.cf53 : CF Try.prog 53 := fun _ _ => by kernel_rfl
theorem T.sl29 : SL Try.prog 29 31 2 16 (.agg #[.int .i64 ((0 : Nat) : Int), .int .i64 ((0 : Nat) : Int)]) := sl_mk Try.underlying29 (by kernel_rfl) rfl (by decide)
theorem T.ag31 : AG Try.prog 31 2 := fun _ => ⟨by kernel_rfl, by kernel_rfl⟩
theorem T.sz31 : SZ Try.prog 31 2 := fun _ => by kernel_rfl
theorem T.sl22 : SL Try.prog 22 9 1 16 (.string ByteArray.empty) := sl_mk Try.underlying22 (by kernel_rfl) rfl (by decide)
theorem T.cf45 : CF Try.prog 45 := fun _ _ => by kernel_rfl
theorem T.na9 : NA Try.prog 9 := fun _ => by kernel_rfl
theorem T.eq2_31 : EQ2 Try.prog 31 := ⟨⟨_, _, Try.underlying31, rfl, rfl, rfl, rfl, Try.underlying3, Try.underlying3⟩, by kernel_rfl, by kernel_rfl⟩
theorem T.fa31_0 : FA Try.prog 31 0 0 := fun _ _ => by kernel_rfl
theorem T.na3 : NA Try.prog 3 := fun _ => by kernel_rfl
theorem T.zv31 : ZV Try.prog 31 (.agg #[.int .i64 ((0 : Nat) : Int), .int .i64 ((0 : Nat) : Int)]) := fun _ => by kernel_rfl
theorem T.cf14 : CF Try.prog 14 := fun _ _ => by kernel_rfl
theorem T.cf15 : CF Try.prog 15 := fun _ _ => by kernel_rfl
theorem T.cf46 : CF Try.prog 46 := fun _ _ => by kernel_rfl
theorem T.fa92_1 : FA Try.prog 92 1 1 := fun _ _ => by kernel_rfl
theorem T.na90 : NA Try.prog 90 := fun _ => by kernel_rfl
theorem T.fa92_0 : FA Try.prog 92 0 0 := fun _ _ => by kernel_rfl
theorem T.na71 : NA Try.prog 71 := fun _ => by kernel_rfl
theorem T.sl90 : SL Try.prog 90 94 2 16 (.agg #[.int .i64 ((0 : Nat) : Int), .int .i64 ((0 : Nat) : Int)]) := sl_mk Try.underlying90 (by kernel_rfl) rfl (by decide)
theorem T.fa94_0 : FA Try.prog 94 0 0 := fun _ _ => by kernel_rfl
theorem T.cf65 : CF Try.prog 65 := fun _ _ => by kernel_rfl
theorem T.fa94_1 : FA Try.prog 94 1 1 := fun _ _ => by kernel_rfl
theorem T.fa92_2 : FA Try.prog 92 2 2 := fun _ _ => by kernel_rfl
theorem T.sz90 : SZ Try.prog 90 1 := fun _ => by kernel_rfl
theorem T.sz3 : SZ Try.prog 3 1 := fun _ => by kernel_rfl
theorem T.cf66 : CF Try.prog 66 := fun _ _ => by kernel_rfl
theorem T.ag94 : AG Try.prog 94 2 := fun _ => ⟨by kernel_rfl, by kernel_rfl⟩
theorem T.sz94 : SZ Try.prog 94 2 := fun _ => by kernel_rfl
theorem T.cf67 : CF Try.prog 67 := fun _ _ => by kernel_rfl
theorem T.sl70 : SL Try.prog 70 3 1 8 (.int .i64 ((0 : Nat) : Int)) := sl_mk Try.underlying70 (by kernel_rfl) rfl (by decide)

set_option maxHeartbeats 4000000 in
theorem sort30p (fc : Nat) (c : Int × Int → Int × Int → Int) (hcf : CF Try.prog fc) (hcmp : Cmp fc c) (hL : Lawful c) (g : Value) (hg : Told g fc) (xs : List (Int × Int)) (vl : Value) (w0 : World) (hl : Src w0.heap vl xs.length 2 (flat enT xs)) (hn : xs.length ≤ 8796093022208) (hpos : 0 < xs.length) : Calls Try.prog 30 #[vl, g] w0 fun e w' => ∃ v, e = .returned v ∧ Ext w0 w' ∧ Own w'.heap w0.heap.size 31 2 v xs.length (flat enT (srt c xs)) := by
  have hE0 : Below w0.heap.size w0 w0 := Below.refl _ _
  have hz0 := hE0.le
  obtain ⟨a, ca, rfl, hca, hca1⟩ := hl.form
  refine enter Try.func30 rfl 98 Try.ntmps30 rfl ?_
  refine seqK fun Q1 kn2 kr3 ke4 => ?_
  refine region ?_
  refine st_q (v := .slice none 0 0) (x_assign rfl) ?_
  refine st_nil ?_
  refine kn2 _ _ ?_
  refine seqK fun Q5 kn6 kr7 ke8 => ?_
  refine region ?_
  refine st_q (v := g) (x_move rfl) ?_
  refine st_c (t_call [g] T.cf53 rfl rfl) (hg _) ?_
  rintro _ _ ⟨rfl, rfl⟩
  refine ⟨_, rfl, ?_⟩
  refine st_q (v := .func (.func fc) #[] #[]) (x_assign rfl) ?_
  refine st_nil ?_
  refine kn6 _ _ ?_
  refine seqLK (n := 98) (ds := []) (α := Nat × Nat × Nat × (List (Int × Int))) (fun x => [(0, .slice a xs.length ca), (1, .func (.func fc) #[] #[]), (5, .slice ((some ⟨x.1, 0, none⟩)) xs.length x.2.2.1), (6, .slice ((some ⟨x.2.1, 0, none⟩)) xs.length xs.length)]) (fun x w9 => Ext w0 w9 ∧ x.1 ≠ x.2.1 ∧ xs.length ≤ x.2.2.1 ∧ xs.length ≤ xs.length ∧ OB w9.heap w0.heap.size 31 2 x.1 x.2.2.1 (flat enT xs) ∧ OB w9.heap w0.heap.size 31 2 x.2.1 xs.length (flat enT x.2.2.2) ∧ xs.length = xs.length ∧ x.2.2.2.length = xs.length) ?_ ?_
  ·
    have hx10 : Ext w0 w0 := Below.refl _ _
    intro Q11 kn12 kr13 ke14
    refine regionD1 [] [0, 2, 3, 5, 6] (.one 0 (.one 2 (.one 3 (.two 1 (.one 5 (.one 4 (.one 6 .done))) 4 (.one 1 (.one 5 (.one 6 .done))))))) (by kernel_rfl) (by kernel_rfl) ?_
    intro w15 hx16 hs17
    have hF18 := hx16.e hx10 (Nat.le_refl _)
    have hE19 : Below w0.heap.size w0 w15 := hx16.e hE0 (Nat.le_refl _)
    have hz20 := hE19.le
    have hs21 := hx16.size
    have hS22 : Ext w15 w15 := Below.refl _ _
    refine d_q (v := .slice a xs.length ca) rfl rfl (fun _ => x_move rfl) ?_
    refine d_q (v := .slice a xs.length ca) rfl rfl (fun _ => x_move rfl) ?_
    refine d_q (v := .int .i64 ((xs.length : Nat) : Int)) rfl rfl (fun _ => x_lenSl rfl Try.underlying29 rfl) ?_
    refine d_two ?_ ?_
    ·
      refine id (d_e' rfl rfl (e_append0 (lo := w15.heap.size) T.sl29 rfl rfl (hl.below hE19) (ones (by exact flat_ones)) (by omega) (by decide) (by omega) ?_))
      intro v23 w24 hO25 hG26 hN27
      have hF28 := hG26.e hF18 (Nat.le_refl _)
      have hE29 : Below w0.heap.size w0 w24 := hG26.e hE19 (Nat.le_refl _)
      have hz30 := hE29.le
      have hs31 := hG26.size
      have hS32 := hS22.trans (hG26.mono hS22.size)
      refine ⟨fun _ => hS32, ?_⟩
      obtain ⟨b33, c34, rfl, hm35, hO36⟩ := hO25.ob (hN27 (by omega))
      have hl38 := hO36.lo
      have hO37 := hO36.weak (lo' := w0.heap.size) (by omega)
      have hl39 := hO37.lo
      have hl40 := hO37.lt
      refine d_q (v := .slice ((some ⟨b33, 0, none⟩)) xs.length c34) rfl rfl (fun _ => x_assign rfl) ?_
      refine d_e (by decide) (d_e' rfl rfl (e_makeSlice T.sl29 rfl rfl (by omega) (by omega) ?_))
      intro w41 hA42
      have hx43 := hA42.ext
      have hs45 := hA42.size
      have hA42x : Al w24 w41 (.cells (flat enT (List.replicate xs.length (0, 0))).toArray 31) := by rw [flat_rep]; exact hA42
      have hO44 := OB.new (lo := w0.heap.size) (k := 2) (c := xs.length) hA42x (by omega) (by rw [flat_length enT_len]; simp) (by omega)
      have hF46 := hx43.e hF28 (Nat.le_refl _)
      have hF47 := hO37.ext hx43
      have hE48 : Below w0.heap.size w0 w41 := hx43.e hE29 (Nat.le_refl _)
      have hz49 := hE48.le
      have hs50 := hx43.size
      have hS51 := hS32.trans (hx43.mono hS32.size)
      refine ⟨fun _ => hS51, ?_⟩
      obtain ⟨b52, b52e⟩ : ∃ b, b = w24.heap.size := ⟨_, rfl⟩
      rw [← b52e] at hO44
      rw [← b52e]
      have hl53 := hO44.lo
      have hl54 := hO44.lt
      refine d_q (v := .slice ((some ⟨b52, 0, none⟩)) xs.length xs.length) rfl rfl (fun _ => x_assign rfl) ?_
      refine d_done ?_
      refine kn12 _ (b33, b52, c34, (List.replicate xs.length (0, 0))) _ ⟨rfl, rfl, rfl, rfl, trivial⟩ ⟨hF46, ?_⟩
      try dsimp only
      exact ⟨by omega, hm35, Nat.le_refl _, hF47, hO44, rfl, by simp⟩
    ·
      refine id (d_e' rfl rfl (e_makeSlice T.sl29 rfl rfl (by omega) (by omega) ?_))
      intro w55 hA56
      have hx57 := hA56.ext
      have hs59 := hA56.size
      have hA56x : Al w15 w55 (.cells (flat enT (List.replicate xs.length (0, 0))).toArray 31) := by rw [flat_rep]; exact hA56
      have hO58 := OB.new (lo := w0.heap.size) (k := 2) (c := xs.length) hA56x (by omega) (by rw [flat_length enT_len]; simp) (by omega)
      have hF60 := hx57.e hF18 (Nat.le_refl _)
      have hE61 : Below w0.heap.size w0 w55 := hx57.e hE19 (Nat.le_refl _)
      have hz62 := hE61.le
      have hs63 := hx57.size
      have hS64 := hS22.trans (hx57.mono hS22.size)
      refine ⟨fun _ => hS64, ?_⟩
      obtain ⟨b65, b65e⟩ : ∃ b, b = w15.heap.size := ⟨_, rfl⟩
      rw [← b65e] at hO58
      rw [← b65e]
      have hl66 := hO58.lo
      have hl67 := hO58.lt
      refine d_e (by decide) (d_e' rfl rfl (e_append0 (lo := w55.heap.size) T.sl29 rfl rfl (hl.below hE61) (ones (by exact flat_ones)) (by omega) (by decide) (by omega) ?_))
      intro v68 w69 hO70 hG71 hN72
      have hF73 := hG71.e hF60 (Nat.le_refl _)
      have hF74 := hO58.ext hG71
      have hE75 : Below w0.heap.size w0 w69 := hG71.e hE61 (Nat.le_refl _)
      have hz76 := hE75.le
      have hs77 := hG71.size
      have hS78 := hS64.trans (hG71.mono hS64.size)
      refine ⟨fun _ => hS78, ?_⟩
      obtain ⟨b79, c80, rfl, hm81, hO82⟩ := hO70.ob (hN72 (by omega))
      have hl84 := hO82.lo
      have hO83 := hO82.weak (lo' := w0.heap.size) (by omega)
      have hl85 := hO83.lo
      have hl86 := hO83.lt
      refine d_q (v := .slice ((some ⟨b79, 0, none⟩)) xs.length c80) rfl rfl (fun _ => x_assign rfl) ?_
      refine d_q (v := .slice ((some ⟨b65, 0, none⟩)) xs.length xs.length) rfl rfl (fun _ => x_assign rfl) ?_
      refine d_done ?_
      refine kn12 _ (b79, b65, c80, (List.replicate xs.length (0, 0))) _ ⟨rfl, rfl, rfl, rfl, trivial⟩ ⟨hF73, ?_⟩
      try dsimp only
      exact ⟨by omega, hm81, Nat.le_refl _, hO83, hF74, rfl, by simp⟩
  ·
    rintro τ87 ⟨b1, b2, c1, G⟩ w88 ⟨hx89, ⟨hne, hc1, hc2, hO1, hO2, hF, hT⟩⟩
    try dsimp only at hne hc1 hc2 hO1 hO2 hF hT
    have hE90 : Below w0.heap.size w0 w88 := hx89.e hE0 (Nat.le_refl _)
    have hz91 := hE90.le
    have hs92 := hx89.size
    have hl93 := hO1.lo
    have hl94 := hO1.lt
    have hl95 := hO2.lo
    have hl96 := hO2.lt
    refine seqK fun Q97 kn98 kr99 ke100 => ?_
    refine seqK fun Q101 kn102 kr103 ke104 => ?_
    refine region ?_
    refine st_q (v := .int .i64 ((1 : Nat) : Int)) (x_assign rfl) ?_
    refine st_nil ?_
    refine kn102 _ _ ?_
    refine blockK fun Q105 kn106 kr107 kx108 kb109 => ?_
    refine loopK (α := Nat × Nat × Nat × Nat × Nat × (List (Int × Int)) × (List (Int × Int))) (fun x => [(0, .slice a xs.length ca), (1, .func (.func fc) #[] #[]), (5, .slice ((some ⟨x.2.1, 0, none⟩)) xs.length x.2.2.2.1), (6, .slice ((some ⟨x.2.2.1, 0, none⟩)) xs.length x.2.2.2.2.1), (7, .int .i64 ((x.1 : Nat) : Int))]) (fun x w110 => Below w0.heap.size w0 w110 ∧ x.2.1 ≠ x.2.2.1 ∧ xs.length ≤ x.2.2.2.1 ∧ xs.length ≤ x.2.2.2.2.1 ∧ OB w110.heap w0.heap.size 31 2 x.2.1 x.2.2.2.1 (flat enT x.2.2.2.2.2.1) ∧ OB w110.heap w0.heap.size 31 2 x.2.2.1 x.2.2.2.2.1 (flat enT x.2.2.2.2.2.2) ∧ x.2.2.2.2.2.1.length = xs.length ∧ x.2.2.2.2.2.2.length = xs.length ∧ 1 ≤ x.1 ∧ x.1 < 2 * xs.length ∧ SegOK c x.1 xs x.2.2.2.2.2.1 xs.length) (fun x => 2 * xs.length - x.1) (1, b1, b2, c1, xs.length, xs, G) ⟨rfl, rfl, rfl, rfl, rfl, trivial⟩ ?_ ?_
    ·
      refine ⟨hE90, ?_⟩
      try dsimp only
      exact ⟨hne, hc1, Nat.le_refl _, hO1, hO2, hF, hT, Nat.le_refl _, by omega, SegOK.one xs _⟩
    ·
      rintro τ111 ⟨wd, b1, b2, c1, c2, F, G⟩ w112 ⟨hx113, ⟨hne, hc1, hc2, hO1, hO2, hF, hT, hw1, hw2, hS⟩⟩
      try dsimp only at hne hc1 hc2 hO1 hO2 hF hT hw1 hw2 hS
      have hz114 := hx113.le
      intro Q115 kn116 kr117 ke118
      have hl119 := hO1.lo
      have hl120 := hO1.lt
      have hl121 := hO2.lo
      have hl122 := hO2.lt
      refine seqK fun Q123 kn124 kr125 ke126 => ?_
      refine seqK fun Q127 kn128 kr129 ke130 => ?_
      refine region ?_
      refine st_q (v := .int .i64 ((wd : Nat) : Int)) (x_move rfl) ?_
      refine st_q (v := .slice a xs.length ca) (x_move rfl) ?_
      refine st_q (v := .int .i64 ((xs.length : Nat) : Int)) (x_lenSl rfl Try.underlying29 rfl) ?_
      refine st_q (v := .bool (decide (wd < xs.length))) (x_lssN rfl rfl) ?_
      refine st_nil ?_
      refine kn128 _ _ ?_
      refine cnd (p := wd < xs.length) rfl (fun h131 => ?_) (fun h131 => ?_)
      ·
        refine skip ?_
        refine kn124 _ _ ?_
        refine seqK fun Q132 kn133 kr134 ke135 => ?_
        refine blockK fun Q136 kn137 kr138 kx139 kb140 => ?_
        refine seqK fun Q141 kn142 kr143 ke144 => ?_
        refine seqK fun Q145 kn146 kr147 ke148 => ?_
        refine region ?_
        refine st_q (v := .int .i64 ((0 : Nat) : Int)) (x_assign rfl) ?_
        refine st_nil ?_
        refine kn146 _ _ ?_
        refine blockK fun Q149 kn150 kr151 kx152 kb153 => ?_
        refine loopK (α := Nat × (List (Int × Int))) (fun x => [(0, .slice a xs.length ca), (1, .func (.func fc) #[] #[]), (5, .slice ((some ⟨b1, 0, none⟩)) xs.length c1), (6, .slice ((some ⟨b2, 0, none⟩)) xs.length c2), (7, .int .i64 ((wd : Nat) : Int)), (8, .int .i64 ((x.1 : Nat) : Int))]) (fun x w154 => Below w0.heap.size w0 w154 ∧ OB w154.heap w0.heap.size 31 2 b1 c1 (flat enT F) ∧ OB w154.heap w0.heap.size 31 2 b2 c2 (flat enT x.2) ∧ x.2.length = xs.length ∧ x.1 < xs.length + 2 * wd ∧ (∃ m, x.1 = m * (2 * wd)) ∧ SegOK c (2 * wd) xs x.2 x.1) (fun x => xs.length + 2 * wd - x.1) (0, G) ⟨rfl, rfl, rfl, rfl, rfl, rfl, trivial⟩ ?_ ?_
        ·
          refine ⟨hx113, ?_⟩
          try dsimp only
          exact ⟨hO1, hO2, hT, by omega, ⟨0, by omega⟩, SegOK.zero _ _ _⟩
        ·
          rintro τ155 ⟨p, T2⟩ w156 ⟨hx157, ⟨hO3, hO4, hT2, hp, hm, hS2⟩⟩
          try dsimp only at hO3 hO4 hT2 hp hm hS2
          have hz158 := hx157.le
          intro Q159 kn160 kr161 ke162
          have hl163 := hO3.lo
          have hl164 := hO3.lt
          have hl165 := hO4.lo
          have hl166 := hO4.lt
          refine seqK fun Q167 kn168 kr169 ke170 => ?_
          refine seqK fun Q171 kn172 kr173 ke174 => ?_
          refine region ?_
          refine st_q (v := .int .i64 ((p : Nat) : Int)) (x_move rfl) ?_
          refine st_q (v := .slice a xs.length ca) (x_move rfl) ?_
          refine st_q (v := .int .i64 ((xs.length : Nat) : Int)) (x_lenSl rfl Try.underlying29 rfl) ?_
          refine st_q (v := .bool (decide (p < xs.length))) (x_lssN rfl rfl) ?_
          refine st_nil ?_
          refine kn172 _ _ ?_
          refine cnd (p := p < xs.length) rfl (fun h175 => ?_) (fun h175 => ?_)
          ·
            refine skip ?_
            refine kn168 _ _ ?_
            refine seqK fun Q176 kn177 kr178 ke179 => ?_
            refine blockK fun Q180 kn181 kr182 kx183 kb184 => ?_
            refine seqK fun Q185 kn186 kr187 ke188 => ?_
            refine region ?_
            refine st_q (v := .int .i64 ((p : Nat) : Int)) (x_move rfl) ?_
            refine st_q (v := .int .i64 ((wd : Nat) : Int)) (x_move rfl) ?_
            refine st_q (v := .int .i64 (((p + wd) : Nat) : Int)) (x_addN rfl rfl (by omega)) ?_
            refine st_q (v := .slice a xs.length ca) (x_move rfl) ?_
            refine st_q (v := .int .i64 ((xs.length : Nat) : Int)) (x_lenSl rfl Try.underlying29 rfl) ?_
            refine st_q (v := .int .i64 (((min ((p + wd)) xs.length) : Nat) : Int)) (x_minN rfl rfl) ?_
            refine st_q (v := .int .i64 ((p : Nat) : Int)) (x_move rfl) ?_
            refine st_q (v := .int .i64 ((wd : Nat) : Int)) (x_move rfl) ?_
            refine st_q (v := .int .i64 (((2 * wd) : Nat) : Int)) (x_mulN rfl rfl (by omega)) ?_
            refine st_q (v := .int .i64 (((p + (2 * wd)) : Nat) : Int)) (x_addN rfl rfl (by omega)) ?_
            refine st_q (v := .slice a xs.length ca) (x_move rfl) ?_
            refine st_q (v := .int .i64 ((xs.length : Nat) : Int)) (x_lenSl rfl Try.underlying29 rfl) ?_
            refine st_q (v := .int .i64 (((min ((p + (2 * wd))) xs.length) : Nat) : Int)) (x_minN rfl rfl) ?_
            refine st_q (v := .int .i64 (((min ((p + wd)) xs.length) : Nat) : Int)) (x_assign rfl) ?_
            refine st_q (v := .int .i64 (((min ((p + (2 * wd))) xs.length) : Nat) : Int)) (x_assign rfl) ?_
            refine st_nil ?_
            refine kn186 _ _ ?_
            refine seqK fun Q189 kn190 kr191 ke192 => ?_
            refine region ?_
            refine st_q (v := .int .i64 ((p : Nat) : Int)) (x_move rfl) ?_
            refine st_q (v := .int .i64 (((min ((p + wd)) xs.length) : Nat) : Int)) (x_move rfl) ?_
            refine st_q (v := .int .i64 ((p : Nat) : Int)) (x_move rfl) ?_
            refine st_q (v := .int .i64 ((p : Nat) : Int)) (x_assign rfl) ?_
            refine st_q (v := .int .i64 (((min ((p + wd)) xs.length) : Nat) : Int)) (x_assign rfl) ?_
            refine st_q (v := .int .i64 ((p : Nat) : Int)) (x_assign rfl) ?_
            refine st_nil ?_
            refine kn190 _ _ ?_
            refine blockK fun Q193 kn194 kr195 kx196 kb197 => ?_
            refine loopK (α := Nat × Nat × Nat × (List (Int × Int))) (fun x => [(0, .slice a xs.length ca), (1, .func (.func fc) #[] #[]), (5, .slice ((some ⟨b1, 0, none⟩)) xs.length c1), (6, .slice ((some ⟨b2, 0, none⟩)) xs.length c2), (7, .int .i64 ((wd : Nat) : Int)), (8, .int .i64 ((p : Nat) : Int)), (9, .int .i64 (((min ((p + wd)) xs.length) : Nat) : Int)), (10, .int .i64 (((min ((p + (2 * wd))) xs.length) : Nat) : Int)), (11, .int .i64 ((x.1 : Nat) : Int)), (12, .int .i64 ((x.2.1 : Nat) : Int)), (13, .int .i64 ((x.2.2.1 : Nat) : Int))]) (fun x w198 => Below w0.heap.size w0 w198 ∧ OB w198.heap w0.heap.size 31 2 b1 c1 (flat enT F) ∧ OB w198.heap w0.heap.size 31 2 b2 c2 (flat enT x.2.2.2) ∧ x.2.2.2.length = xs.length ∧ x.2.2.1 + (min (p + wd) xs.length) = x.1 + x.2.1 ∧ p ≤ x.1 ∧ x.1 ≤ min (p + wd) xs.length ∧ min (p + wd) xs.length ≤ x.2.1 ∧ x.2.1 ≤ min (p + 2 * wd) xs.length ∧ SegOK c (2 * wd) xs x.2.2.2 p ∧ seg x.2.2.2 p x.2.2.1 ++ mrg c (seg F x.1 (min (p + wd) xs.length)) (seg F x.2.1 (min (p + 2 * wd) xs.length)) = srt c (seg xs p (min (p + 2 * wd) xs.length))) (fun x => xs.length - x.2.2.1) (p, (min (p + wd) xs.length), p, T2) ⟨rfl, rfl, rfl, rfl, rfl, rfl, rfl, rfl, rfl, rfl, rfl, trivial⟩ ?_ ?_
            ·
              refine ⟨hx157, ?_⟩
              try dsimp only
              exact ⟨hO3, hO4, hT2, by omega, by omega, by omega, by omega, by omega, hS2, by rw [seg_self]; exact merge_start hL hS hm (by omega) (by omega)⟩
            ·
              rintro τ199 ⟨ai, bi, k, T3⟩ w200 ⟨hx201, ⟨hO5, hO6, hT3, hk, ha1, ha2, hb1, hb2, hS3, hM⟩⟩
              try dsimp only at hO5 hO6 hT3 hk ha1 ha2 hb1 hb2 hS3 hM
              have hz202 := hx201.le
              intro Q203 kn204 kr205 ke206
              have hl207 := hO5.lo
              have hl208 := hO5.lt
              have hl209 := hO6.lo
              have hl210 := hO6.lt
              refine seqK fun Q211 kn212 kr213 ke214 => ?_
              refine seqK fun Q215 kn216 kr217 ke218 => ?_
              refine region ?_
              refine st_q (v := .int .i64 ((k : Nat) : Int)) (x_move rfl) ?_
              refine st_q (v := .int .i64 (((min ((p + (2 * wd))) xs.length) : Nat) : Int)) (x_move rfl) ?_
              refine st_q (v := .bool (decide (k < ((min ((p + (2 * wd))) xs.length))))) (x_lssN rfl rfl) ?_
              refine st_nil ?_
              refine kn216 _ _ ?_
              refine cnd (p := k < ((min ((p + (2 * wd))) xs.length))) rfl (fun h219 => ?_) (fun h219 => ?_)
              ·
                refine skip ?_
                refine kn212 _ _ ?_
                refine seqK fun Q220 kn221 kr222 ke223 => ?_
                refine blockK fun Q224 kn225 kr226 kx227 kb228 => ?_
                refine seqK fun Q229 kn230 kr231 ke232 => ?_
                refine regionD1 [12, 16] [0, 1, 2, 3, 4, 5, 6, 7, 8, 9, 10, 11, 12, 13, 14, 15, 16, 18, 19, 20] (.one 0 (.one 1 (.one 2 (.one 3 (.one 4 (.one 5 (.one 6 (.one 7 (.one 8 (.one 9 (.one 10 (.one 11 (.one 12 (.one 13 (.one 14 (.one 15 (.one 16 (.one 17 (.one 18 (.one 19 (.one 20 .done))))))))))))))))))))) (by kernel_rfl) (by kernel_rfl) ?_
                intro w233 hx234 hs235
                have hF236 := hO5.ext hx234
                have hF237 := hO6.ext hx234
                have hE238 : Below w0.heap.size w0 w233 := hx234.e hx201 (Nat.le_refl _)
                have hz239 := hE238.le
                have hs240 := hx234.size
                have hS241 : Ext w233 w233 := Below.refl _ _
                refine d_q (v := .int .i64 ((ai : Nat) : Int)) rfl rfl (fun _ => x_move rfl) ?_
                refine d_q (v := .int .i64 (((min ((p + wd)) xs.length) : Nat) : Int)) rfl rfl (fun _ => x_move rfl) ?_
                refine d_q (v := .bool (decide (ai < ((min ((p + wd)) xs.length))))) rfl rfl (fun _ => x_lssN rfl rfl) ?_
                refine d_if rfl rfl (p := ai < ((min ((p + wd)) xs.length))) (fun _ => x_move rfl) (fun h242 => ?_) (fun h242 => ?_)
                ·
                  refine d_gq (v := .int .i64 ((bi : Nat) : Int)) (j := 3) (t := 59) rfl rfl rfl rfl (by decide) (fun _ => x_move rfl) ?_
                  refine d_gq (v := .int .i64 (((min ((p + (2 * wd))) xs.length) : Nat) : Int)) (j := 3) (t := 59) rfl rfl rfl rfl (by decide) (fun _ => x_move rfl) ?_
                  refine d_gq (v := .bool (decide (bi = ((min ((p + (2 * wd))) xs.length))))) (j := 3) (t := 59) rfl rfl rfl rfl (by decide) (fun _ => x_eqlN rfl rfl) ?_
                  refine d_gif (j := 3) (t := 59) rfl rfl rfl rfl (by decide) (p := bi = ((min ((p + (2 * wd))) xs.length))) (fun _ => x_move rfl) (fun h243 => ?_) (fun h243 => ?_)
                  ·
                    refine d_gn (j := 7) (t := 63) rfl rfl rfl rfl (by decide) rfl ?_
                    refine d_gn (j := 7) (t := 63) rfl rfl rfl rfl (by decide) rfl ?_
                    refine d_gn (j := 7) (t := 63) rfl rfl rfl rfl (by decide) rfl ?_
                    refine d_gn (j := 7) (t := 63) rfl rfl rfl rfl (by decide) rfl ?_
                    refine d_gn (j := 7) (t := 63) rfl rfl rfl rfl (by decide) rfl ?_
                    refine d_gn (j := 7) (t := 63) rfl rfl rfl rfl (by decide) rfl ?_
                    refine d_gn (j := 7) (t := 63) rfl rfl rfl rfl (by decide) rfl ?_
                    refine d_gn (j := 7) (t := 63) rfl rfl rfl rfl (by decide) rfl ?_
                    refine d_gn (j := 7) (t := 63) rfl rfl rfl rfl (by decide) rfl ?_
                    refine d_e (by decide) (wpE_skip (j := 7) (t := 63) rfl rfl rfl (by decide) rfl (fun _ => hS241) ?_)
                    refine d_gn (j := 7) (t := 63) rfl rfl rfl rfl (by decide) rfl ?_
                    refine d_gq (v := .bool true) (j := 3) (t := 59) rfl rfl rfl rfl (by decide) (fun _ => x_pickT rfl rfl) ?_
                    refine d_q (v := .bool true) rfl rfl (fun _ => x_pickT rfl rfl) ?_
                    refine d_done ?_
                    refine kn230 _ _ ?_
                    refine cndT rfl ?_
                    refine seqK fun Q244 kn245 kr246 ke247 => ?_
                    refine region ?_
                    refine st_q (v := .slice ((some ⟨b2, 0, none⟩)) xs.length c2) (x_move rfl) ?_
                    refine st_q (v := .int .i64 ((k : Nat) : Int)) (x_move rfl) ?_
                    refine st_q (v := .slice ((some ⟨b1, 0, none⟩)) xs.length c1) (x_move rfl) ?_
                    refine st_q (v := .int .i64 ((ai : Nat) : Int)) (x_move rfl) ?_
                    refine st_q (v := .pointer (some ⟨b1, 0 + ai * 2, none⟩)) (x_index T.sl29 rfl rfl (by omega)) ?_
                    refine st_q (v := .agg #[.int .i64 ((el F ai).1), .int .i64 ((el F ai).2)]) (x_loadA [.int .i64 ((el F ai).1), .int .i64 ((el F ai).2)] T.ag31 rfl (hF236.cells.elem enT_len (i := ai) (by omega))) ?_
                    refine st_q (v := .pointer (some ⟨b2, 0 + k * 2, none⟩)) (x_index T.sl29 rfl rfl (by omega)) ?_
                    refine st_s (e_stO (v := .agg #[.int .i64 ((el F ai).1), .int .i64 ((el F ai).2)]) (u := (el F ai)) enT_len T.sz31 rfl rfl rfl hF237 (by first | omega | (rw [List.length_set]; omega)) (by rfl) ?_)
                    intro w248 _ hP249 hB250
                    have hs251 := hP249.size
                    have hF252 := hF236.pt hP249 (by omega)
                    have hE253 : Below w0.heap.size w0 w248 := hP249.below hE238 (by omega)
                    have hz254 := hE253.le
                    refine st_nil ?_
                    refine kn245 _ _ ?_
                    refine region ?_
                    refine st_q (v := .int .i64 ((ai : Nat) : Int)) (x_move rfl) ?_
                    refine st_q (v := .int .i64 (((ai + 1) : Nat) : Int)) (x_addN rfl rfl (by omega)) ?_
                    refine st_q (v := .int .i64 (((ai + 1) : Nat) : Int)) (x_assign rfl) ?_
                    refine st_nil ?_
                    refine kn225 _ _ ?_
                    refine kn221 _ _ ?_
                    refine region ?_
                    refine st_q (v := .int .i64 ((k : Nat) : Int)) (x_move rfl) ?_
                    refine st_q (v := .int .i64 (((k + 1) : Nat) : Int)) (x_addN rfl rfl (by omega)) ?_
                    refine st_q (v := .int .i64 (((k + 1) : Nat) : Int)) (x_assign rfl) ?_
                    refine st_nil ?_
                    refine kn204 _ ((ai + 1), bi, (k + 1), (T3.set k ((el F ai)))) _ ⟨rfl, rfl, rfl, rfl, rfl, rfl, rfl, rfl, rfl, rfl, rfl, trivial⟩ ⟨hE253, ?_⟩ ?_
                    ·
                      try dsimp only
                      exact ⟨hF252, hB250, by rw [List.length_set]; exact hT3, by omega, by omega, by omega, by omega, by omega, hS3.set _ (by omega) hm, merge_left hM (by omega) (by first | exact .inl (by omega) | exact .inr ⟨by omega, by omega⟩) (by omega) (by omega) (by omega) (by omega)⟩
                    ·
                      (try dsimp only); omega
                  ·
                    refine d_gq (v := .func (.func fc) #[] #[]) (j := 7) (t := 63) rfl rfl rfl rfl (by decide) (fun _ => x_move rfl) ?_
                    refine d_gq (v := .slice ((some ⟨b1, 0, none⟩)) xs.length c1) (j := 7) (t := 63) rfl rfl rfl rfl (by decide) (fun _ => x_move rfl) ?_
                    refine d_gq (v := .int .i64 ((bi : Nat) : Int)) (j := 7) (t := 63) rfl rfl rfl rfl (by decide) (fun _ => x_move rfl) ?_
                    refine d_gq (v := .pointer (some ⟨b1, 0 + bi * 2, none⟩)) (j := 7) (t := 63) rfl rfl rfl rfl (by decide) (fun _ => x_index T.sl29 rfl rfl (by omega)) ?_
                    refine d_gl (v := .agg #[.int .i64 ((el F bi).1), .int .i64 ((el F bi).2)]) (j := 7) (t := 63) rfl rfl rfl rfl rfl (by decide) (fun v256 hw255 => x_loadA [.int .i64 ((el F bi).1), .int .i64 ((el F bi).2)] T.ag31 rfl ((hF236.cells.elem enT_len (i := bi) (by omega)).ext hw255)) ?_
                    refine d_gq (v := .slice ((some ⟨b1, 0, none⟩)) xs.length c1) (j := 7) (t := 63) rfl rfl rfl rfl (by decide) (fun _ => x_move rfl) ?_
                    refine d_gq (v := .int .i64 ((ai : Nat) : Int)) (j := 7) (t := 63) rfl rfl rfl rfl (by decide) (fun _ => x_move rfl) ?_
                    refine d_gq (v := .pointer (some ⟨b1, 0 + ai * 2, none⟩)) (j := 7) (t := 63) rfl rfl rfl rfl (by decide) (fun _ => x_index T.sl29 rfl rfl (by omega)) ?_
                    refine d_gl (v := .agg #[.int .i64 ((el F ai).1), .int .i64 ((el F ai).2)]) (j := 7) (t := 63) rfl rfl rfl rfl rfl (by decide) (fun v258 hw257 => x_loadA [.int .i64 ((el F ai).1), .int .i64 ((el F ai).2)] T.ag31 rfl ((hF236.cells.elem enT_len (i := ai) (by omega)).ext hw257)) ?_
                    refine d_e (by decide) (d_c' rfl (wanted_true (j := 7) (t := 63) rfl rfl (by decide)) (t_call [.agg #[.int .i64 ((el F bi).1), .int .i64 ((el F bi).2)], .agg #[.int .i64 ((el F ai).1), .int .i64 ((el F ai).2)]] hcf rfl rfl) (hcmp (el F bi) (el F ai) _) ?_)
                    rintro _ w259 ⟨rfl, hx260⟩
                    refine ⟨_, rfl, ?_⟩
                    have hF261 := hF236.ext hx260
                    have hF262 := hF237.ext hx260
                    have hE263 : Below w0.heap.size w0 w259 := hx260.e hE238 (Nat.le_refl _)
                    have hz264 := hE263.le
                    have hs265 := hx260.size
                    have hS266 := hS241.trans (hx260.mono hS241.size)
                    refine ⟨fun _ => hS266, ?_⟩
                    refine d_gq (v := .bool (decide (0 ≤ (c (el F bi) (el F ai))))) (j := 7) (t := 63) rfl rfl rfl rfl (by decide) (fun _ => x_geq rfl rfl) ?_
                    refine d_gq (v := .bool (decide (0 ≤ (c (el F bi) (el F ai))))) (j := 3) (t := 59) rfl rfl rfl rfl (by decide) (fun _ => x_pickF rfl rfl) ?_
                    refine d_q (v := .bool (decide (0 ≤ (c (el F bi) (el F ai))))) rfl rfl (fun _ => x_pickT rfl rfl) ?_
                    refine d_done ?_
                    refine kn230 _ _ ?_
                    refine cnd (p := 0 ≤ (c (el F bi) (el F ai))) rfl (fun h267 => ?_) (fun h267 => ?_)
                    ·
                      refine seqK fun Q268 kn269 kr270 ke271 => ?_
                      refine region ?_
                      refine st_q (v := .slice ((some ⟨b2, 0, none⟩)) xs.length c2) (x_move rfl) ?_
                      refine st_q (v := .int .i64 ((k : Nat) : Int)) (x_move rfl) ?_
                      refine st_q (v := .slice ((some ⟨b1, 0, none⟩)) xs.length c1) (x_move rfl) ?_
                      refine st_q (v := .int .i64 ((ai : Nat) : Int)) (x_move rfl) ?_
                      refine st_q (v := .pointer (some ⟨b1, 0 + ai * 2, none⟩)) (x_index T.sl29 rfl rfl (by omega)) ?_
                      refine st_q (v := .agg #[.int .i64 ((el F ai).1), .int .i64 ((el F ai).2)]) (x_loadA [.int .i64 ((el F ai).1), .int .i64 ((el F ai).2)] T.ag31 rfl (hF261.cells.elem enT_len (i := ai) (by omega))) ?_
                      refine st_q (v := .pointer (some ⟨b2, 0 + k * 2, none⟩)) (x_index T.sl29 rfl rfl (by omega)) ?_
                      refine st_s (e_stO (v := .agg #[.int .i64 ((el F ai).1), .int .i64 ((el F ai).2)]) (u := (el F ai)) enT_len T.sz31 rfl rfl rfl hF262 (by first | omega | (rw [List.length_set]; omega)) (by rfl) ?_)
                      intro w272 _ hP273 hB274
                      have hs275 := hP273.size
                      have hF276 := hF261.pt hP273 (by omega)
                      have hE277 : Below w0.heap.size w0 w272 := hP273.below hE263 (by omega)
                      have hz278 := hE277.le
                      refine st_nil ?_
                      refine kn269 _ _ ?_
                      refine region ?_
                      refine st_q (v := .int .i64 ((ai : Nat) : Int)) (x_move rfl) ?_
                      refine st_q (v := .int .i64 (((ai + 1) : Nat) : Int)) (x_addN rfl rfl (by omega)) ?_
                      refine st_q (v := .int .i64 (((ai + 1) : Nat) : Int)) (x_assign rfl) ?_
                      refine st_nil ?_
                      refine kn225 _ _ ?_
                      refine kn221 _ _ ?_
                      refine region ?_
                      refine st_q (v := .int .i64 ((k : Nat) : Int)) (x_move rfl) ?_
                      refine st_q (v := .int .i64 (((k + 1) : Nat) : Int)) (x_addN rfl rfl (by omega)) ?_
                      refine st_q (v := .int .i64 (((k + 1) : Nat) : Int)) (x_assign rfl) ?_
                      refine st_nil ?_
                      refine kn204 _ ((ai + 1), bi, (k + 1), (T3.set k ((el F ai)))) _ ⟨rfl, rfl, rfl, rfl, rfl, rfl, rfl, rfl, rfl, rfl, rfl, trivial⟩ ⟨hE277, ?_⟩ ?_
                      ·
                        try dsimp only
                        exact ⟨hF276, hB274, by rw [List.length_set]; exact hT3, by omega, by omega, by omega, by omega, by omega, hS3.set _ (by omega) hm, merge_left hM (by omega) (by first | exact .inl (by omega) | exact .inr ⟨by omega, by omega⟩) (by omega) (by omega) (by omega) (by omega)⟩
                      ·
                        (try dsimp only); omega
                    ·
                      refine seqK fun Q279 kn280 kr281 ke282 => ?_
                      refine region ?_
                      refine st_q (v := .slice ((some ⟨b2, 0, none⟩)) xs.length c2) (x_move rfl) ?_
                      refine st_q (v := .int .i64 ((k : Nat) : Int)) (x_move rfl) ?_
                      refine st_q (v := .slice ((some ⟨b1, 0, none⟩)) xs.length c1) (x_move rfl) ?_
                      refine st_q (v := .int .i64 ((bi : Nat) : Int)) (x_move rfl) ?_
                      refine st_q (v := .pointer (some ⟨b1, 0 + bi * 2, none⟩)) (x_index T.sl29 rfl rfl (by omega)) ?_
                      refine st_q (v := .agg #[.int .i64 ((el F bi).1), .int .i64 ((el F bi).2)]) (x_loadA [.int .i64 ((el F bi).1), .int .i64 ((el F bi).2)] T.ag31 rfl (hF261.cells.elem enT_len (i := bi) (by omega))) ?_
                      refine st_q (v := .pointer (some ⟨b2, 0 + k * 2, none⟩)) (x_index T.sl29 rfl rfl (by omega)) ?_
                      refine st_s (e_stO (v := .agg #[.int .i64 ((el F bi).1), .int .i64 ((el F bi).2)]) (u := (el F bi)) enT_len T.sz31 rfl rfl rfl hF262 (by first | omega | (rw [List.length_set]; omega)) (by rfl) ?_)
                      intro w283 _ hP284 hB285
                      have hs286 := hP284.size
                      have hF287 := hF261.pt hP284 (by omega)
                      have hE288 : Below w0.heap.size w0 w283 := hP284.below hE263 (by omega)
                      have hz289 := hE288.le
                      refine st_nil ?_
                      refine kn280 _ _ ?_
                      refine region ?_
                      refine st_q (v := .int .i64 ((bi : Nat) : Int)) (x_move rfl) ?_
                      refine st_q (v := .int .i64 (((bi + 1) : Nat) : Int)) (x_addN rfl rfl (by omega)) ?_
                      refine st_q (v := .int .i64 (((bi + 1) : Nat) : Int)) (x_assign rfl) ?_
                      refine st_nil ?_
                      refine kn225 _ _ ?_
                      refine kn221 _ _ ?_
                      refine region ?_
                      refine st_q (v := .int .i64 ((k : Nat) : Int)) (x_move rfl) ?_
                      refine st_q (v := .int .i64 (((k + 1) : Nat) : Int)) (x_addN rfl rfl (by omega)) ?_
                      refine st_q (v := .int .i64 (((k + 1) : Nat) : Int)) (x_assign rfl) ?_
                      refine st_nil ?_
                      refine kn204 _ (ai, (bi + 1), (k + 1), (T3.set k ((el F bi)))) _ ⟨rfl, rfl, rfl, rfl, rfl, rfl, rfl, rfl, rfl, rfl, rfl, trivial⟩ ⟨hE288, ?_⟩ ?_
                      ·
                        try dsimp only
                        exact ⟨hF287, hB285, by rw [List.length_set]; exact hT3, by omega, by omega, by omega, by omega, by omega, hS3.set _ (by omega) hm, merge_right hM (by omega) (by first | exact .inl (by omega) | exact .inr ⟨by omega, by omega⟩) (by omega) (by omega) (by omega) (by omega)⟩
                      ·
                        (try dsimp only); omega
                ·
                  refine d_gn (j := 3) (t := 59) rfl rfl rfl rfl (by decide) rfl ?_
                  refine d_gn (j := 3) (t := 59) rfl rfl rfl rfl (by decide) rfl ?_
                  refine d_gn (j := 3) (t := 59) rfl rfl rfl rfl (by decide) rfl ?_
                  refine d_gn (j := 3) (t := 59) rfl rfl rfl rfl (by decide) rfl ?_
                  refine d_gu (j := 7) (t := 63) rfl rfl rfl rfl (by decide) ?_
                  refine d_gu (j := 7) (t := 63) rfl rfl rfl rfl (by decide) ?_
                  refine d_gu (j := 7) (t := 63) rfl rfl rfl rfl (by decide) ?_
                  refine d_gu (j := 7) (t := 63) rfl rfl rfl rfl (by decide) ?_
                  refine d_gu (j := 7) (t := 63) rfl rfl rfl rfl (by decide) ?_
                  refine d_gu (j := 7) (t := 63) rfl rfl rfl rfl (by decide) ?_
                  refine d_gu (j := 7) (t := 63) rfl rfl rfl rfl (by decide) ?_
                  refine d_gu (j := 7) (t := 63) rfl rfl rfl rfl (by decide) ?_
                  refine d_gu (j := 7) (t := 63) rfl rfl rfl rfl (by decide) ?_
                  refine d_e (by decide) (wpE_undef (j := 7) (t := 63) rfl rfl rfl (by decide) (fun _ => hS241) ?_)
                  refine d_gu (j := 7) (t := 63) rfl rfl rfl rfl (by decide) ?_
                  refine d_gn (j := 3) (t := 59) rfl rfl rfl rfl (by decide) rfl ?_
                  refine d_q (v := .bool false) rfl rfl (fun _ => x_pickF rfl rfl) ?_
                  refine d_done ?_
                  refine kn230 _ _ ?_
                  refine cndF rfl ?_
                  refine seqK fun Q290 kn291 kr292 ke293 => ?_
                  refine region ?_
                  refine st_q (v := .slice ((some ⟨b2, 0, none⟩)) xs.length c2) (x_move rfl) ?_
                  refine st_q (v := .int .i64 ((k : Nat) : Int)) (x_move rfl) ?_
                  refine st_q (v := .slice ((some ⟨b1, 0, none⟩)) xs.length c1) (x_move rfl) ?_
                  refine st_q (v := .int .i64 ((bi : Nat) : Int)) (x_move rfl) ?_
                  refine st_q (v := .pointer (some ⟨b1, 0 + bi * 2, none⟩)) (x_index T.sl29 rfl rfl (by omega)) ?_
                  refine st_q (v := .agg #[.int .i64 ((el F bi).1), .int .i64 ((el F bi).2)]) (x_loadA [.int .i64 ((el F bi).1), .int .i64 ((el F bi).2)] T.ag31 rfl (hF236.cells.elem enT_len (i := bi) (by omega))) ?_
                  refine st_q (v := .pointer (some ⟨b2, 0 + k * 2, none⟩)) (x_index T.sl29 rfl rfl (by omega)) ?_
                  refine st_s (e_stO (v := .agg #[.int .i64 ((el F bi).1), .int .i64 ((el F bi).2)]) (u := (el F bi)) enT_len T.sz31 rfl rfl rfl hF237 (by first | omega | (rw [List.length_set]; omega)) (by rfl) ?_)
                  intro w294 _ hP295 hB296
                  have hs297 := hP295.size
                  have hF298 := hF236.pt hP295 (by omega)
                  have hE299 : Below w0.heap.size w0 w294 := hP295.below hE238 (by omega)
                  have hz300 := hE299.le
                  refine st_nil ?_
                  refine kn291 _ _ ?_
                  refine region ?_
                  refine st_q (v := .int .i64 ((bi : Nat) : Int)) (x_move rfl) ?_
                  refine st_q (v := .int .i64 (((bi + 1) : Nat) : Int)) (x_addN rfl rfl (by omega)) ?_
                  refine st_q (v := .int .i64 (((bi + 1) : Nat) : Int)) (x_assign rfl) ?_
                  refine st_nil ?_
                  refine kn225 _ _ ?_
                  refine kn221 _ _ ?_
                  refine region ?_
                  refine st_q (v := .int .i64 ((k : Nat) : Int)) (x_move rfl) ?_
                  refine st_q (v := .int .i64 (((k + 1) : Nat) : Int)) (x_addN rfl rfl (by omega)) ?_
                  refine st_q (v := .int .i64 (((k + 1) : Nat) : Int)) (x_assign rfl) ?_
                  refine st_nil ?_
                  refine kn204 _ (ai, (bi + 1), (k + 1), (T3.set k ((el F bi)))) _ ⟨rfl, rfl, rfl, rfl, rfl, rfl, rfl, rfl, rfl, rfl, rfl, trivial⟩ ⟨hE299, ?_⟩ ?_
                  ·
                    try dsimp only
                    exact ⟨hF298, hB296, by rw [List.length_set]; exact hT3, by omega, by omega, by omega, by omega, by omega, hS3.set _ (by omega) hm, merge_right hM (by omega) (by first | exact .inl (by omega) | exact .inr ⟨by omega, by omega⟩) (by omega) (by omega) (by omega) (by omega)⟩
                  ·
                    (try dsimp only); omega
              ·
                refine exit ?_
                refine ke214 _ _ _ ?_
                refine ke206 _ _ _ ?_
                refine kb197 _ _ ?_
                refine kn181 _ _ ?_
                refine kn177 _ _ ?_
                refine region ?_
                refine st_q (v := .int .i64 ((p : Nat) : Int)) (x_move rfl) ?_
                refine st_q (v := .int .i64 ((wd : Nat) : Int)) (x_move rfl) ?_
                refine st_q (v := .int .i64 (((2 * wd) : Nat) : Int)) (x_mulN rfl rfl (by omega)) ?_
                refine st_q (v := .int .i64 (((p + (2 * wd)) : Nat) : Int)) (x_addN rfl rfl (by omega)) ?_
                refine st_q (v := .int .i64 (((p + (2 * wd)) : Nat) : Int)) (x_assign rfl) ?_
                refine st_nil ?_
                refine kn160 _ ((p + 2 * wd), T3) _ ⟨rfl, rfl, rfl, rfl, rfl, rfl, trivial⟩ ⟨hx201, ?_⟩ ?_
                ·
                  try dsimp only
                  obtain rfl : k = min (p + 2 * wd) xs.length := by omega
                  obtain rfl : ai = min (p + wd) xs.length := by omega
                  obtain rfl : bi = min (p + 2 * wd) xs.length := by omega
                  exact ⟨hO5, hO6, hT3, by omega, ⟨hm.choose + 1, by have := hm.choose_spec; rw [Nat.add_mul]; omega⟩, merge_end hS3 hm (by omega) hM⟩
                ·
                  (try dsimp only); omega
          ·
            refine exit ?_
            refine ke170 _ _ _ ?_
            refine ke162 _ _ _ ?_
            refine kb153 _ _ ?_
            refine kn142 _ _ ?_
            refine region ?_
            refine st_q (v := .slice ((some ⟨b2, 0, none⟩)) xs.length c2) (x_move rfl) ?_
            refine st_q (v := .slice ((some ⟨b1, 0, none⟩)) xs.length c1) (x_move rfl) ?_
            refine st_q (v := .slice ((some ⟨b2, 0, none⟩)) xs.length c2) (x_assign rfl) ?_
            refine st_q (v := .slice ((some ⟨b1, 0, none⟩)) xs.length c1) (x_assign rfl) ?_
            refine st_nil ?_
            refine kn137 _ _ ?_
            refine kn133 _ _ ?_
            refine region ?_
            refine st_q (v := .int .i64 ((wd : Nat) : Int)) (x_move rfl) ?_
            refine st_q (v := .int .i64 (((wd * 2) : Nat) : Int)) (x_mulN rfl rfl (by omega)) ?_
            refine st_q (v := .int .i64 (((wd * 2) : Nat) : Int)) (x_assign rfl) ?_
            refine st_nil ?_
            refine kn116 _ ((wd * 2), b2, b1, c2, c1, T2, F) _ ⟨rfl, rfl, rfl, rfl, rfl, trivial⟩ ⟨hx157, ?_⟩ ?_
            ·
              try dsimp only
              exact ⟨Ne.symm hne, hc2, hc1, hO4, hO3, hT2, hF, by omega, by omega, by rw [Nat.mul_comm wd 2]; exact hS2.mono (by omega)⟩
            ·
              (try dsimp only); omega
      ·
        refine exit ?_
        refine ke126 _ _ _ ?_
        refine ke118 _ _ _ ?_
        refine kb109 _ _ ?_
        refine kn98 _ _ ?_
        refine seqK fun Q301 kn302 kr303 ke304 => ?_
        refine region ?_
        refine st_q (v := .slice ((some ⟨b1, 0, none⟩)) xs.length c1) (x_move rfl) ?_
        refine st_q (v := .slice ((some ⟨b1, 0, none⟩)) xs.length c1) (x_assign rfl) ?_
        refine st_nil ?_
        refine kn302 _ _ ?_
        refine ret ?_
        refine leave1 (P := Try.prog) (fn := Try.f30) (t := 4) (v := .slice ((some ⟨b1, 0, none⟩)) xs.length c1) rfl rfl ?_
        exact ⟨_, rfl, hx113, (hS.done hF (by omega)) ▸ hO1.own hc1 (by rw [flat_length enT_len, hF])⟩

set_option maxHeartbeats 4000000 in
theorem copytexts (xs : List ByteArray) (vl : Value) (w0 : World) (hl : Src w0.heap vl xs.length 1 (flat enS xs)) (hn : xs.length ≤ 8796093022208) : Calls Try.prog 45 #[vl] w0 fun e w' => ∃ v, e = .returned v ∧ Ext w0 w' ∧ Own w'.heap w0.heap.size 9 1 v xs.length (flat enS xs) := by
  have hE0 : Below w0.heap.size w0 w0 := Below.refl _ _
  have hz0 := hE0.le
  obtain ⟨a, ca, rfl, hca, hca1⟩ := hl.form
  refine enter Try.func45 rfl 6 Try.ntmps45 rfl ?_
  refine seqK fun Q1 kn2 kr3 ke4 => ?_
  refine region ?_
  refine st_q (v := .slice none 0 0) (x_assign rfl) ?_
  refine st_nil ?_
  refine kn2 _ _ ?_
  refine seqK fun Q5 kn6 kr7 ke8 => ?_
  refine region ?_
  refine st_e (e_buildSlice (cs := []) (e := 9) (fun _ => by kernel_rfl) ?_)
  intro w9 hA10
  have hx11 := hA10.ext
  have hs12 := hA10.size
  have hB13 : Blk w9.heap w0.heap.size [] 9 := hA10.new
  have hE14 : Below w0.heap.size w0 w9 := hx11.e hE0 (Nat.le_refl _)
  have hz15 := hE14.le
  have hs16 := hx11.size
  refine st_q (v := .slice a xs.length ca) (x_move rfl) ?_
  have hO22 := hB13.own0 (k := 1) (lo := w0.heap.size) (by omega)
  refine st_e (e_appendX T.sl22 rfl rfl hO22 (hl.below hE14) (ones (by exact flat_onesS)) (by omega) (by decide) (by omega) ?_)
  intro v17 w18 hO19 hG20 hN21 hW23
  have hE24 : Below w0.heap.size w0 w18 := grown_below hG20 hE14 (Nat.le_refl _) (fun b hb => (by have := (hO22.lt hb).1; clear hb; omega))
  have hz25 := hE24.le
  have hs26 := hG20.size
  have hO27 := hO19.zero
  obtain ⟨a28, c29, rfl, hm30, hm31⟩ := hO27.src.form
  refine st_q (v := .slice a28 xs.length c29) (x_assign rfl) ?_
  refine st_nil ?_
  refine kn6 _ _ ?_
  refine ret ?_
  refine leave1 (P := Try.prog) (fn := Try.f45) (t := 2) (v := .slice a28 xs.length c29) rfl rfl ?_
  exact ⟨_, rfl, hE24, hO27⟩

def roomS (i : Nat) : List ByteArray := List.replicate i (ByteArray.mk #[0, 114, 111, 111, 109])
theorem roomS_succ (i : Nat) : roomS (i + 1) = roomS i ++ [(ByteArray.mk #[0, 114, 111, 111, 109])] := by unfold roomS; rw [List.replicate_succ']
@[simp] theorem roomS_len (i : Nat) : (roomS i).length = i := by simp [roomS]

set_option maxHeartbeats 4000000 in
theorem lendtexts (xs : List ByteArray) (vl : Value) (w0 : World) (hl : Src w0.heap vl xs.length 1 (flat enS xs)) (hn : xs.length ≤ 8796093021952) : Calls Try.prog 10 #[vl] w0 fun e w' => ∃ a c, e = .returned (.slice a xs.length c) ∧ Ext w0 w' ∧ xs.length + 3 ≤ c ∧ Own w'.heap w0.heap.size 9 1 (.slice a (xs.length + 3) c) (xs.length + 3) (flat enS (xs ++ roomS 3)) ∧ c ≤ 9223372036854775807 := by
  have hE0 : Below w0.heap.size w0 w0 := Below.refl _ _
  have hz0 := hE0.le
  obtain ⟨a, ca, rfl, hca, hca1⟩ := hl.form
  refine enter Try.func10 rfl 18 Try.ntmps10 rfl ?_
  refine seqK fun Q1 kn2 kr3 ke4 => ?_
  refine region ?_
  refine st_q (v := .slice none 0 0) (x_assign rfl) ?_
  refine st_nil ?_
  refine kn2 _ _ ?_
  refine seqK fun Q5 kn6 kr7 ke8 => ?_
  refine region ?_
  refine st_q (v := .slice a xs.length ca) (x_move rfl) ?_
  refine st_c (t_call [.slice a xs.length ca] T.cf45 rfl rfl) (copytexts xs _ _ (hl.below hE0) (by omega)) ?_
  rintro _ w9 ⟨v11, rfl, hx10, hO12⟩
  refine ⟨_, rfl, ?_⟩
  have hE13 : Below w0.heap.size w0 w9 := hx10.e hE0 (Nat.le_refl _)
  have hz14 := hE13.le
  have hs15 := hx10.size
  have hO16 := hO12.weak (lo' := w0.heap.size) (by omega)
  obtain ⟨a17, c18, rfl, hm19, hm20⟩ := hO16.src.form
  refine st_q (v := .slice a17 xs.length c18) (x_assign rfl) ?_
  refine st_nil ?_
  refine kn6 _ _ ?_
  refine seqK fun Q21 kn22 kr23 ke24 => ?_
  refine seqK fun Q25 kn26 kr27 ke28 => ?_
  refine region ?_
  refine st_q (v := .int .i64 ((0 : Nat) : Int)) (x_assign rfl) ?_
  refine st_nil ?_
  refine kn26 _ _ ?_
  refine blockK fun Q29 kn30 kr31 kx32 kb33 => ?_
  refine loopK (α := Nat × Value) (fun x => [(0, .slice a xs.length ca), (3, x.2), (4, .int .i64 ((x.1 : Nat) : Int))]) (fun x w34 => Below w0.heap.size w0 w34 ∧ x.1 ≤ 3 ∧ Own w34.heap w0.heap.size 9 1 x.2 (xs.length + x.1) (flat enS (xs ++ roomS x.1))) (fun x => 3 - x.1) (0, .slice a17 xs.length c18) ⟨rfl, rfl, rfl, trivial⟩ ?_ ?_
  ·
    refine ⟨hE13, ?_⟩
    try dsimp only
    exact ⟨Nat.zero_le _, (by simpa [roomS] using hO16)⟩
  ·
    rintro τ35 ⟨i, v⟩ w36 ⟨hx37, ⟨hi, hO⟩⟩
    try dsimp only at hi hO
    have hz38 := hx37.le
    intro Q39 kn40 kr41 ke42
    obtain ⟨a43, c44, rfl, hm45, hm46⟩ := hO.src.form
    refine seqK fun Q47 kn48 kr49 ke50 => ?_
    refine seqK fun Q51 kn52 kr53 ke54 => ?_
    refine region ?_
    refine st_q (v := .int .i64 ((i : Nat) : Int)) (x_move rfl) ?_
    refine st_q (v := .bool (decide (i < 3))) (x_lssN rfl rfl) ?_
    refine st_nil ?_
    refine kn52 _ _ ?_
    refine cnd (p := i < 3) rfl (fun h55 => ?_) (fun h55 => ?_)
    ·
      refine skip ?_
      refine kn48 _ _ ?_
      refine seqK fun Q56 kn57 kr58 ke59 => ?_
      refine blockK fun Q60 kn61 kr62 kx63 kb64 => ?_
      refine region ?_
      refine st_q (v := .slice a43 ((xs.length + i)) c44) (x_move rfl) ?_
      refine st_e (e_buildSlice (cs := [.string ((ByteArray.mk #[0, 114, 111, 111, 109]))]) (e := 9) (fun _ => by kernel_rfl) ?_)
      intro w65 hA66
      have hx67 := hA66.ext
      have hs68 := hA66.size
      have hB69 : Blk w65.heap w36.heap.size [.string ((ByteArray.mk #[0, 114, 111, 111, 109]))] 9 := hA66.new
      have hF70 := hO.ext hx67
      have hE71 : Below w0.heap.size w0 w65 := hx67.e hx37 (Nat.le_refl _)
      have hz72 := hE71.le
      have hs73 := hx67.size
      refine st_e (e_appendX T.sl22 rfl rfl hF70 (hB69.src1 (k := 1) (m := 1) rfl (by omega)) (ones (by rfl)) (by omega) (by decide) (by omega) ?_)
      intro v74 w75 hO76 hG77 hN78 hW79
      have hE80 : Below w0.heap.size w0 w75 := grown_below hG77 hE71 (Nat.le_refl _) (fun b hb => (by have := (hF70.lt hb).1; clear hb; omega))
      have hz81 := hE80.le
      have hs82 := hG77.size
      have hO83 := Own.snoc (enc := enS) (u := (ByteArray.mk #[0, 114, 111, 111, 109])) hO76
      obtain ⟨a84, c85, rfl, hm86, hm87⟩ := hO83.src.form
      refine st_q (v := .slice a84 (((xs.length + i) + 1)) c85) (x_assign rfl) ?_
      refine st_nil ?_
      refine kn61 _ _ ?_
      refine kn57 _ _ ?_
      refine region ?_
      refine st_q (v := .int .i64 ((i : Nat) : Int)) (x_move rfl) ?_
      refine st_q (v := .int .i64 (((i + 1) : Nat) : Int)) (x_addN rfl rfl (by omega)) ?_
      refine st_q (v := .int .i64 (((i + 1) : Nat) : Int)) (x_assign rfl) ?_
      refine st_nil ?_
      refine kn40 _ ((i + 1), .slice a84 (((xs.length + i) + 1)) c85) _ ⟨rfl, rfl, rfl, trivial⟩ ⟨hE80, ?_⟩ ?_
      ·
        try dsimp only
        exact ⟨by omega, by rw [roomS_succ, ← List.append_assoc]; exact hO83⟩
      ·
        (try dsimp only); omega
    ·
      refine exit ?_
      refine ke50 _ _ _ ?_
      refine ke42 _ _ _ ?_
      refine kb33 _ _ ?_
      refine kn22 _ _ ?_
      refine seqK fun Q88 kn89 kr90 ke91 => ?_
      refine region ?_
      refine st_q (v := .slice a43 ((xs.length + i)) c44) (x_move rfl) ?_
      refine st_q (v := .slice a xs.length ca) (x_move rfl) ?_
      refine st_q (v := .int .i64 ((xs.length : Nat) : Int)) (x_lenSl rfl Try.underlying22 rfl) ?_
      refine st_q (v := .slice a43 xs.length c44) (x_sliceHi T.sl22 rfl rfl (by omega)) ?_
      refine st_q (v := .slice a43 xs.length c44) (x_assign rfl) ?_
      refine st_nil ?_
      refine kn89 _ _ ?_
      refine ret ?_
      refine leave1 (P := Try.prog) (fn := Try.f10) (t := 2) (v := .slice a43 xs.length c44) rfl rfl ?_
      obtain rfl : i = 3 := by omega
      exact ⟨_, _, rfl, hx37, by omega, hO, by omega⟩

theorem same_end {α : Type} {xs ys : List α} {i : Nat} (h : xs.take i = ys.take i) (h1 : i = xs.length) (h2 : i = ys.length) : xs = ys := by
  rw [List.take_of_length_le (by omega), List.take_of_length_le (by omega)] at h; exact h
theorem take_step {α : Type} [Inhabited α] {xs ys : List α} {i : Nat} (h : xs.take i = ys.take i) (h1 : i < xs.length) (h2 : i < ys.length) (he : el xs i = el ys i) : xs.take (i + 1) = ys.take (i + 1) := by
  rw [take_succ_el h1, take_succ_el h2, h, he]
set_option maxHeartbeats 4000000 in
theorem sametexts (xs ys : List ByteArray) (va vb : Value) (w0 : World) (ha : Src w0.heap va xs.length 1 (flat enS xs)) (hb : Src w0.heap vb ys.length 1 (flat enS ys)) : Calls Try.prog 46 #[va, vb] w0 fun e w' => e = .returned (.bool (decide (xs = ys))) ∧ Ext w0 w' := by
  have hE0 : Below w0.heap.size w0 w0 := Below.refl _ _
  have hz0 := hE0.le
  obtain ⟨a, ca, rfl, hca, hca1⟩ := ha.form
  obtain ⟨b, cb, rfl, hcb, hcb1⟩ := hb.form
  refine enter Try.func46 rfl 26 Try.ntmps46 rfl ?_
  refine seqK fun Q1 kn2 kr3 ke4 => ?_
  refine region ?_
  refine st_q (v := .bool false) (x_assign rfl) ?_
  refine st_nil ?_
  refine kn2 _ _ ?_
  refine seqK fun Q5 kn6 kr7 ke8 => ?_
  refine seqK fun Q9 kn10 kr11 ke12 => ?_
  refine region ?_
  refine st_q (v := .slice a xs.length ca) (x_move rfl) ?_
  refine st_q (v := .int .i64 ((xs.length : Nat) : Int)) (x_lenSl rfl Try.underlying22 rfl) ?_
  refine st_q (v := .slice b ys.length cb) (x_move rfl) ?_
  refine st_q (v := .int .i64 ((ys.length : Nat) : Int)) (x_lenSl rfl Try.underlying22 rfl) ?_
  refine st_q (v := .bool (decide (xs.length ≠ ys.length))) (x_neqN rfl rfl) ?_
  refine st_nil ?_
  refine kn10 _ _ ?_
  refine cnd (p := xs.length ≠ ys.length) rfl (fun h13 => ?_) (fun h13 => ?_)
  ·
    refine seqK fun Q14 kn15 kr16 ke17 => ?_
    refine region ?_
    refine st_q (v := .bool false) (x_assign rfl) ?_
    refine st_nil ?_
    refine kn15 _ _ ?_
    refine ret ?_
    refine kr7 _ _ ?_
    refine leave1 (P := Try.prog) (fn := Try.f46) (t := 4) (v := .bool false) rfl rfl ?_
    exact ⟨by rw [decide_eq_false (fun e => h13 (by rw [e]))], hE0⟩
  ·
    refine skip ?_
    refine kn6 _ _ ?_
    refine seqK fun Q18 kn19 kr20 ke21 => ?_
    refine seqK fun Q22 kn23 kr24 ke25 => ?_
    refine region ?_
    refine st_q (v := .int .i64 ((0 : Nat) : Int)) (x_assign rfl) ?_
    refine st_nil ?_
    refine kn23 _ _ ?_
    refine blockK fun Q26 kn27 kr28 kx29 kb30 => ?_
    refine loopK (α := Nat) (fun x => [(0, .slice a xs.length ca), (1, .slice b ys.length cb), (5, .int .i64 ((x : Nat) : Int))]) (fun x w31 => Ext w0 w31 ∧ x ≤ xs.length ∧ xs.take x = ys.take x) (fun x => xs.length - x) (0) ⟨rfl, rfl, rfl, trivial⟩ ?_ ?_
    ·
      refine ⟨Below.refl _ _, ?_⟩
      try dsimp only
      exact ⟨Nat.zero_le _, rfl⟩
    ·
      rintro τ32 i w33 ⟨hx34, ⟨hi, hI⟩⟩
      try dsimp only at hi hI
      have hE35 : Below w0.heap.size w0 w33 := hx34.e hE0 (Nat.le_refl _)
      have hz36 := hE35.le
      have hs37 := hx34.size
      intro Q38 kn39 kr40 ke41
      refine seqK fun Q42 kn43 kr44 ke45 => ?_
      refine seqK fun Q46 kn47 kr48 ke49 => ?_
      refine region ?_
      refine st_q (v := .int .i64 ((i : Nat) : Int)) (x_move rfl) ?_
      refine st_q (v := .slice a xs.length ca) (x_move rfl) ?_
      refine st_q (v := .int .i64 ((xs.length : Nat) : Int)) (x_lenSl rfl Try.underlying22 rfl) ?_
      refine st_q (v := .bool (decide (i < xs.length))) (x_lssN rfl rfl) ?_
      refine st_nil ?_
      refine kn47 _ _ ?_
      refine cnd (p := i < xs.length) rfl (fun h50 => ?_) (fun h50 => ?_)
      ·
        refine skip ?_
        refine kn43 _ _ ?_
        refine seqK fun Q51 kn52 kr53 ke54 => ?_
        refine blockK fun Q55 kn56 kr57 kx58 kb59 => ?_
        refine seqK fun Q60 kn61 kr62 ke63 => ?_
        refine regionD1 [3, 7] [0, 1, 2, 3, 4, 5, 6, 7, 8] (.one 0 (.one 1 (.one 2 (.one 3 (.one 4 (.one 5 (.one 6 (.one 7 (.one 8 .done))))))))) (by kernel_rfl) (by kernel_rfl) ?_
        intro w64 hx65 hs66
        have hF67 := hx65.e hx34 (Nat.le_refl _)
        have hE68 : Below w0.heap.size w0 w64 := hx65.e hE35 (Nat.le_refl _)
        have hz69 := hE68.le
        have hs70 := hx65.size
        have hS71 : Ext w64 w64 := Below.refl _ _
        refine d_q (v := .slice a xs.length ca) rfl rfl (fun _ => x_move rfl) ?_
        refine d_q (v := .int .i64 ((i : Nat) : Int)) rfl rfl (fun _ => x_move rfl) ?_
        obtain ⟨b72, o73, ha74, hc75⟩ := ha.at (by omega)
        refine d_q (v := .pointer (some ⟨b72, o73 + i * 1, none⟩)) rfl rfl (fun _ => x_index' T.sl22 rfl ha74 rfl (by omega)) ?_
        refine d_l (v := .string (el xs i)) rfl rfl rfl (fun v77 hw76 => x_load1 T.na9 rfl (((hc75.below hE68).elem enS_len (i := i) (by omega)).ext hw76)) ?_
        refine d_q (v := .slice b ys.length cb) rfl rfl (fun _ => x_move rfl) ?_
        refine d_q (v := .int .i64 ((i : Nat) : Int)) rfl rfl (fun _ => x_move rfl) ?_
        obtain ⟨b78, o79, ha80, hc81⟩ := hb.at (by omega)
        refine d_q (v := .pointer (some ⟨b78, o79 + i * 1, none⟩)) rfl rfl (fun _ => x_index' T.sl22 rfl ha80 rfl (by omega)) ?_
        refine d_l (v := .string (el ys i)) rfl rfl rfl (fun v83 hw82 => x_load1 T.na9 rfl (((hc81.below hE68).elem enS_len (i := i) (by omega)).ext hw82)) ?_
        refine d_q (v := .bool (decide ((el xs i).toList ≠ (el ys i).toList))) rfl rfl (fun _ => x_neqS rfl rfl) ?_
        refine d_done ?_
        refine kn61 _ _ ?_
        refine cnd (p := (el xs i).toList ≠ (el ys i).toList) rfl (fun h84 => ?_) (fun h84 => ?_)
        ·
          refine seqK fun Q85 kn86 kr87 ke88 => ?_
          refine region ?_
          refine st_q (v := .bool false) (x_assign rfl) ?_
          refine st_nil ?_
          refine kn86 _ _ ?_
          refine ret ?_
          refine kr57 _ _ ?_
          refine kr53 _ _ ?_
          refine kr40 _ _ ?_
          refine kr28 _ _ ?_
          refine kr20 _ _ ?_
          refine leave1 (P := Try.prog) (fn := Try.f46) (t := 4) (v := .bool false) rfl rfl ?_
          exact ⟨by rw [decide_eq_false (ne_of_el (i := i) (fun e => h84 (by rw [e])))], hE68⟩
        ·
          refine skip ?_
          refine kn56 _ _ ?_
          refine kn52 _ _ ?_
          refine region ?_
          refine st_q (v := .int .i64 ((i : Nat) : Int)) (x_move rfl) ?_
          refine st_q (v := .int .i64 (((i + 1) : Nat) : Int)) (x_addN rfl rfl (by omega)) ?_
          refine st_q (v := .int .i64 (((i + 1) : Nat) : Int)) (x_assign rfl) ?_
          refine st_nil ?_
          refine kn39 _ ((i + 1)) _ ⟨rfl, rfl, rfl, trivial⟩ ⟨hF67, ?_⟩ ?_
          ·
            try dsimp only
            exact ⟨by omega, take_step hI (by omega) (by omega) (bytes_ext (by simpa using h84))⟩
          ·
            (try dsimp only); omega
      ·
        refine exit ?_
        refine ke45 _ _ _ ?_
        refine ke41 _ _ _ ?_
        refine kb30 _ _ ?_
        refine kn19 _ _ ?_
        refine seqK fun Q89 kn90 kr91 ke92 => ?_
        refine region ?_
        refine st_q (v := .bool true) (x_assign rfl) ?_
        refine st_nil ?_
        refine kn90 _ _ ?_
        refine ret ?_
        refine leave1 (P := Try.prog) (fn := Try.f46) (t := 4) (v := .bool true) rfl rfl ?_
        exact ⟨by rw [decide_eq_true (same_end hI (by omega) (by omega))], hE35⟩

set_option maxHeartbeats 4000000 in
theorem same (xs ys : List (Int × Int)) (va vb : Value) (w0 : World) (ha : Src w0.heap va xs.length 2 (flat enT xs)) (hb : Src w0.heap vb ys.length 2 (flat enT ys)) : Calls Try.prog 34 #[va, vb] w0 fun e w' => e = .returned (.bool (decide (xs = ys))) ∧ Ext w0 w' := by
  have hE0 : Below w0.heap.size w0 w0 := Below.refl _ _
  have hz0 := hE0.le
  obtain ⟨a, ca, rfl, hca, hca1⟩ := ha.form
  obtain ⟨b, cb, rfl, hcb, hcb1⟩ := hb.form
  refine enter Try.func34 rfl 26 Try.ntmps34 rfl ?_
  refine seqK fun Q1 kn2 kr3 ke4 => ?_
  refine region ?_
  refine st_q (v := .bool false) (x_assign rfl) ?_
  refine st_nil ?_
  refine kn2 _ _ ?_
  refine seqK fun Q5 kn6 kr7 ke8 => ?_
  refine seqK fun Q9 kn10 kr11 ke12 => ?_
  refine region ?_
  refine st_q (v := .slice a xs.length ca) (x_move rfl) ?_
  refine st_q (v := .int .i64 ((xs.length : Nat) : Int)) (x_lenSl rfl Try.underlying29 rfl) ?_
  refine st_q (v := .slice b ys.length cb) (x_move rfl) ?_
  refine st_q (v := .int .i64 ((ys.length : Nat) : Int)) (x_lenSl rfl Try.underlying29 rfl) ?_
  refine st_q (v := .bool (decide (xs.length ≠ ys.length))) (x_neqN rfl rfl) ?_
  refine st_nil ?_
  refine kn10 _ _ ?_
  refine cnd (p := xs.length ≠ ys.length) rfl (fun h13 => ?_) (fun h13 => ?_)
  ·
    refine seqK fun Q14 kn15 kr16 ke17 => ?_
    refine region ?_
    refine st_q (v := .bool false) (x_assign rfl) ?_
    refine st_nil ?_
    refine kn15 _ _ ?_
    refine ret ?_
    refine kr7 _ _ ?_
    refine leave1 (P := Try.prog) (fn := Try.f34) (t := 4) (v := .bool false) rfl rfl ?_
    exact ⟨by rw [decide_eq_false (fun e => h13 (by rw [e]))], hE0⟩
  ·
    refine skip ?_
    refine kn6 _ _ ?_
    refine seqK fun Q18 kn19 kr20 ke21 => ?_
    refine seqK fun Q22 kn23 kr24 ke25 => ?_
    refine region ?_
    refine st_q (v := .int .i64 ((0 : Nat) : Int)) (x_assign rfl) ?_
    refine st_nil ?_
    refine kn23 _ _ ?_
    refine blockK fun Q26 kn27 kr28 kx29 kb30 => ?_
    refine loopK (α := Nat) (fun x => [(0, .slice a xs.length ca), (1, .slice b ys.length cb), (5, .int .i64 ((x : Nat) : Int))]) (fun x w31 => Ext w0 w31 ∧ x ≤ xs.length ∧ xs.take x = ys.take x) (fun x => xs.length - x) (0) ⟨rfl, rfl, rfl, trivial⟩ ?_ ?_
    ·
      refine ⟨Below.refl _ _, ?_⟩
      try dsimp only
      exact ⟨Nat.zero_le _, rfl⟩
    ·
      rintro τ32 i w33 ⟨hx34, ⟨hi, hI⟩⟩
      try dsimp only at hi hI
      have hE35 : Below w0.heap.size w0 w33 := hx34.e hE0 (Nat.le_refl _)
      have hz36 := hE35.le
      have hs37 := hx34.size
      intro Q38 kn39 kr40 ke41
      refine seqK fun Q42 kn43 kr44 ke45 => ?_
      refine seqK fun Q46 kn47 kr48 ke49 => ?_
      refine region ?_
      refine st_q (v := .int .i64 ((i : Nat) : Int)) (x_move rfl) ?_
      refine st_q (v := .slice a xs.length ca) (x_move rfl) ?_
      refine st_q (v := .int .i64 ((xs.length : Nat) : Int)) (x_lenSl rfl Try.underlying29 rfl) ?_
      refine st_q (v := .bool (decide (i < xs.length))) (x_lssN rfl rfl) ?_
      refine st_nil ?_
      refine kn47 _ _ ?_
      refine cnd (p := i < xs.length) rfl (fun h50 => ?_) (fun h50 => ?_)
      ·
        refine skip ?_
        refine kn43 _ _ ?_
        refine seqK fun Q51 kn52 kr53 ke54 => ?_
        refine blockK fun Q55 kn56 kr57 kx58 kb59 => ?_
        refine seqK fun Q60 kn61 kr62 ke63 => ?_
        refine regionD1 [3, 7] [0, 1, 2, 3, 4, 5, 6, 7, 8] (.one 0 (.one 1 (.one 2 (.one 3 (.one 4 (.one 5 (.one 6 (.one 7 (.one 8 .done))))))))) (by kernel_rfl) (by kernel_rfl) ?_
        intro w64 hx65 hs66
        have hF67 := hx65.e hx34 (Nat.le_refl _)
        have hE68 : Below w0.heap.size w0 w64 := hx65.e hE35 (Nat.le_refl _)
        have hz69 := hE68.le
        have hs70 := hx65.size
        have hS71 : Ext w64 w64 := Below.refl _ _
        refine d_q (v := .slice a xs.length ca) rfl rfl (fun _ => x_move rfl) ?_
        refine d_q (v := .int .i64 ((i : Nat) : Int)) rfl rfl (fun _ => x_move rfl) ?_
        obtain ⟨b72, o73, ha74, hc75⟩ := ha.at (by omega)
        refine d_q (v := .pointer (some ⟨b72, o73 + i * 2, none⟩)) rfl rfl (fun _ => x_index' T.sl29 rfl ha74 rfl (by omega)) ?_
        refine d_l (v := .agg #[.int .i64 ((el xs i).1), .int .i64 ((el xs i).2)]) rfl rfl rfl (fun v77 hw76 => x_loadA [.int .i64 ((el xs i).1), .int .i64 ((el xs i).2)] T.ag31 rfl (((hc75.below hE68).elem enT_len (i := i) (by omega)).ext hw76)) ?_
        refine d_q (v := .slice b ys.length cb) rfl rfl (fun _ => x_move rfl) ?_
        refine d_q (v := .int .i64 ((i : Nat) : Int)) rfl rfl (fun _ => x_move rfl) ?_
        obtain ⟨b78, o79, ha80, hc81⟩ := hb.at (by omega)
        refine d_q (v := .pointer (some ⟨b78, o79 + i * 2, none⟩)) rfl rfl (fun _ => x_index' T.sl29 rfl ha80 rfl (by omega)) ?_
        refine d_l (v := .agg #[.int .i64 ((el ys i).1), .int .i64 ((el ys i).2)]) rfl rfl rfl (fun v83 hw82 => x_loadA [.int .i64 ((el ys i).1), .int .i64 ((el ys i).2)] T.ag31 rfl (((hc81.below hE68).elem enT_len (i := i) (by omega)).ext hw82)) ?_
        refine d_q (v := .bool (decide (¬ ((el xs i) = (el ys i))))) rfl rfl (fun _ => x_neq2 T.eq2_31 rfl rfl) ?_
        refine d_done ?_
        refine kn61 _ _ ?_
        refine cnd (p := ¬ ((el xs i) = (el ys i))) rfl (fun h84 => ?_) (fun h84 => ?_)
        ·
          refine seqK fun Q85 kn86 kr87 ke88 => ?_
          refine region ?_
          refine st_q (v := .bool false) (x_assign rfl) ?_
          refine st_nil ?_
          refine kn86 _ _ ?_
          refine ret ?_
          refine kr57 _ _ ?_
          refine kr53 _ _ ?_
          refine kr40 _ _ ?_
          refine kr28 _ _ ?_
          refine kr20 _ _ ?_
          refine leave1 (P := Try.prog) (fn := Try.f34) (t := 4) (v := .bool false) rfl rfl ?_
          exact ⟨by rw [decide_eq_false (ne_of_el (i := i) (h84))], hE68⟩
        ·
          refine skip ?_
          refine kn56 _ _ ?_
          refine kn52 _ _ ?_
          refine region ?_
          refine st_q (v := .int .i64 ((i : Nat) : Int)) (x_move rfl) ?_
          refine st_q (v := .int .i64 (((i + 1) : Nat) : Int)) (x_addN rfl rfl (by omega)) ?_
          refine st_q (v := .int .i64 (((i + 1) : Nat) : Int)) (x_assign rfl) ?_
          refine st_nil ?_
          refine kn39 _ ((i + 1)) _ ⟨rfl, rfl, rfl, trivial⟩ ⟨hF67, ?_⟩ ?_
          ·
            try dsimp only
            exact ⟨by omega, take_step hI (by omega) (by omega) (by simpa using h84)⟩
          ·
            (try dsimp only); omega
      ·
        refine exit ?_
        refine ke45 _ _ _ ?_
        refine ke41 _ _ _ ?_
        refine kb30 _ _ ?_
        refine kn19 _ _ ?_
        refine seqK fun Q89 kn90 kr91 ke92 => ?_
        refine region ?_
        refine st_q (v := .bool true) (x_assign rfl) ?_
        refine st_nil ?_
        refine kn90 _ _ ?_
        refine ret ?_
        refine leave1 (P := Try.prog) (fn := Try.f34) (t := 4) (v := .bool true) rfl rfl ?_
        exact ⟨by rw [decide_eq_true (same_end hI (by omega) (by omega))], hE35⟩

def txt (a b : ByteArray) : Int := if Op.bytesLess a.toList b.toList = true then -1 else if (Op.bytesLess a.toList b.toList || a.toList == b.toList) = false then 1 else 0
def numc (a b : Int) : Int := if a < b then -1 else if b < a then 1 else 0
def byc (a b : Int × Int) : Int := if a.1 < b.1 then -5 else if b.1 < a.1 then 7 else 0
def tups : List ByteArray → List ByteArray → Int
  | a :: l, b :: m => if txt a b = 0 then tups l m else txt a b
  | [], [] => 0
  | [], _ :: _ => -1
  | _ :: _, [] => 1
set_option maxHeartbeats 4000000 in
theorem texts14 (a b : ByteArray) (w0 : World) : Calls Try.prog 14 #[.string a, .string b] w0 fun e w' => e = .returned (.int .i64 (txt a b)) ∧ w0 = w' := by
  have hE0 : Below w0.heap.size w0 w0 := Below.refl _ _
  have hz0 := hE0.le
  refine enter Try.func14 rfl 13 Try.ntmps14 rfl ?_
  refine seqK fun Q1 kn2 kr3 ke4 => ?_
  refine region ?_
  refine st_q (v := .int .i64 ((0 : Nat) : Int)) (x_assign rfl) ?_
  refine st_nil ?_
  refine kn2 _ _ ?_
  refine seqK fun Q5 kn6 kr7 ke8 => ?_
  refine blockK fun Q9 kn10 kr11 kx12 kb13 => ?_
  refine seqK fun Q14 kn15 kr16 ke17 => ?_
  refine region ?_
  refine st_q (v := .string a) (x_move rfl) ?_
  refine st_q (v := .string b) (x_move rfl) ?_
  refine st_q (v := .bool (decide (Op.bytesLess a.toList b.toList = true))) (x_lssS rfl rfl) ?_
  refine st_q (v := .bool (decide (Op.bytesLess a.toList b.toList = true))) (x_assign rfl) ?_
  refine st_nil ?_
  refine kn15 _ _ ?_
  refine cnd (p := Op.bytesLess a.toList b.toList = true) rfl (fun h18 => ?_) (fun h18 => ?_)
  ·
    refine seqK fun Q19 kn20 kr21 ke22 => ?_
    refine region ?_
    refine st_q (v := .int .i64 (-1)) (x_assign rfl) ?_
    refine st_nil ?_
    refine kn20 _ _ ?_
    refine ret ?_
    refine kr11 _ _ ?_
    refine kr7 _ _ ?_
    refine leave1 (P := Try.prog) (fn := Try.f14) (t := 4) (v := .int .i64 (-1)) rfl rfl ?_
    exact ⟨by unfold txt; split <;> first | contradiction | rfl | (split <;> first | contradiction | rfl), rfl⟩
  ·
    refine seqK fun Q23 kn24 kr25 ke26 => ?_
    refine region ?_
    refine st_q (v := .string a) (x_move rfl) ?_
    refine st_q (v := .string b) (x_move rfl) ?_
    refine st_q (v := .bool (decide ((Op.bytesLess a.toList b.toList || a.toList == b.toList) = false))) (x_gtrS rfl rfl) ?_
    refine st_q (v := .bool (decide ((Op.bytesLess a.toList b.toList || a.toList == b.toList) = false))) (x_assign rfl) ?_
    refine st_nil ?_
    refine kn24 _ _ ?_
    refine cnd (p := (Op.bytesLess a.toList b.toList || a.toList == b.toList) = false) rfl (fun h27 => ?_) (fun h27 => ?_)
    ·
      refine seqK fun Q28 kn29 kr30 ke31 => ?_
      refine region ?_
      refine st_q (v := .int .i64 ((1 : Nat) : Int)) (x_assign rfl) ?_
      refine st_nil ?_
      refine kn29 _ _ ?_
      refine ret ?_
      refine kr11 _ _ ?_
      refine kr7 _ _ ?_
      refine leave1 (P := Try.prog) (fn := Try.f14) (t := 4) (v := .int .i64 ((1 : Nat) : Int)) rfl rfl ?_
      exact ⟨by unfold txt; split <;> first | contradiction | rfl | (split <;> first | contradiction | rfl), rfl⟩
    ·
      refine skip ?_
      refine kn10 _ _ ?_
      refine kn6 _ _ ?_
      refine seqK fun Q32 kn33 kr34 ke35 => ?_
      refine region ?_
      refine st_q (v := .int .i64 ((0 : Nat) : Int)) (x_assign rfl) ?_
      refine st_nil ?_
      refine kn33 _ _ ?_
      refine ret ?_
      refine leave1 (P := Try.prog) (fn := Try.f14) (t := 4) (v := .int .i64 ((0 : Nat) : Int)) rfl rfl ?_
      exact ⟨by unfold txt; split <;> first | contradiction | rfl | (split <;> first | contradiction | rfl), rfl⟩

set_option maxHeartbeats 4000000 in
theorem texts15 (a b : ByteArray) (w0 : World) : Calls Try.prog 15 #[.string a, .string b] w0 fun e w' => e = .returned (.int .i64 (txt a b)) ∧ w0 = w' := by
  have hE0 : Below w0.heap.size w0 w0 := Below.refl _ _
  have hz0 := hE0.le
  refine enter Try.func15 rfl 11 Try.ntmps15 rfl ?_
  refine seqK fun Q1 kn2 kr3 ke4 => ?_
  refine region ?_
  refine st_q (v := .int .i64 ((0 : Nat) : Int)) (x_assign rfl) ?_
  refine st_nil ?_
  refine kn2 _ _ ?_
  refine seqK fun Q5 kn6 kr7 ke8 => ?_
  refine seqK fun Q9 kn10 kr11 ke12 => ?_
  refine region ?_
  refine st_q (v := .string a) (x_move rfl) ?_
  refine st_q (v := .string b) (x_move rfl) ?_
  refine st_q (v := .bool (decide (Op.bytesLess a.toList b.toList = true))) (x_lssS rfl rfl) ?_
  refine st_nil ?_
  refine kn10 _ _ ?_
  refine cnd (p := Op.bytesLess a.toList b.toList = true) rfl (fun h13 => ?_) (fun h13 => ?_)
  ·
    refine seqK fun Q14 kn15 kr16 ke17 => ?_
    refine region ?_
    refine st_q (v := .int .i64 (-1)) (x_assign rfl) ?_
    refine st_nil ?_
    refine kn15 _ _ ?_
    refine ret ?_
    refine kr7 _ _ ?_
    refine leave1 (P := Try.prog) (fn := Try.f15) (t := 4) (v := .int .i64 (-1)) rfl rfl ?_
    exact ⟨by unfold txt; split <;> first | contradiction | rfl | (split <;> first | contradiction | rfl), rfl⟩
  ·
    refine skip ?_
    refine kn6 _ _ ?_
    refine seqK fun Q18 kn19 kr20 ke21 => ?_
    refine seqK fun Q22 kn23 kr24 ke25 => ?_
    refine region ?_
    refine st_q (v := .string a) (x_move rfl) ?_
    refine st_q (v := .string b) (x_move rfl) ?_
    refine st_q (v := .bool (decide ((Op.bytesLess a.toList b.toList || a.toList == b.toList) = false))) (x_gtrS rfl rfl) ?_
    refine st_nil ?_
    refine kn23 _ _ ?_
    refine cnd (p := (Op.bytesLess a.toList b.toList || a.toList == b.toList) = false) rfl (fun h26 => ?_) (fun h26 => ?_)
    ·
      refine seqK fun Q27 kn28 kr29 ke30 => ?_
      refine region ?_
      refine st_q (v := .int .i64 ((1 : Nat) : Int)) (x_assign rfl) ?_
      refine st_nil ?_
      refine kn28 _ _ ?_
      refine ret ?_
      refine kr20 _ _ ?_
      refine leave1 (P := Try.prog) (fn := Try.f15) (t := 4) (v := .int .i64 ((1 : Nat) : Int)) rfl rfl ?_
      exact ⟨by unfold txt; split <;> first | contradiction | rfl | (split <;> first | contradiction | rfl), rfl⟩
    ·
      refine skip ?_
      refine kn19 _ _ ?_
      refine seqK fun Q31 kn32 kr33 ke34 => ?_
      refine region ?_
      refine st_q (v := .int .i64 ((0 : Nat) : Int)) (x_assign rfl) ?_
      refine st_nil ?_
      refine kn32 _ _ ?_
      refine ret ?_
      refine leave1 (P := Try.prog) (fn := Try.f15) (t := 4) (v := .int .i64 ((0 : Nat) : Int)) rfl rfl ?_
      exact ⟨by unfold txt; split <;> first | contradiction | rfl | (split <;> first | contradiction | rfl), rfl⟩

set_option maxHeartbeats 4000000 in
theorem numbers48 (a b : Int) (w0 : World) : Calls Try.prog 48 #[.int .i64 a, .int .i64 b] w0 fun e w' => e = .returned (.int .i64 (numc a b)) ∧ w0 = w' := by
  have hE0 : Below w0.heap.size w0 w0 := Below.refl _ _
  have hz0 := hE0.le
  refine enter Try.func48 rfl 11 Try.ntmps48 rfl ?_
  refine seqK fun Q1 kn2 kr3 ke4 => ?_
  refine region ?_
  refine st_q (v := .int .i64 ((0 : Nat) : Int)) (x_assign rfl) ?_
  refine st_nil ?_
  refine kn2 _ _ ?_
  refine seqK fun Q5 kn6 kr7 ke8 => ?_
  refine seqK fun Q9 kn10 kr11 ke12 => ?_
  refine region ?_
  refine st_q (v := .int .i64 a) (x_move rfl) ?_
  refine st_q (v := .int .i64 b) (x_move rfl) ?_
  refine st_q (v := .bool (decide (a < b))) (x_lss rfl rfl) ?_
  refine st_nil ?_
  refine kn10 _ _ ?_
  refine cnd (p := a < b) rfl (fun h13 => ?_) (fun h13 => ?_)
  ·
    refine seqK fun Q14 kn15 kr16 ke17 => ?_
    refine region ?_
    refine st_q (v := .int .i64 (-1)) (x_assign rfl) ?_
    refine st_nil ?_
    refine kn15 _ _ ?_
    refine ret ?_
    refine kr7 _ _ ?_
    refine leave1 (P := Try.prog) (fn := Try.f48) (t := 4) (v := .int .i64 (-1)) rfl rfl ?_
    exact ⟨by unfold numc; split <;> first | contradiction | rfl | (split <;> first | contradiction | rfl), rfl⟩
  ·
    refine skip ?_
    refine kn6 _ _ ?_
    refine seqK fun Q18 kn19 kr20 ke21 => ?_
    refine seqK fun Q22 kn23 kr24 ke25 => ?_
    refine region ?_
    refine st_q (v := .int .i64 a) (x_move rfl) ?_
    refine st_q (v := .int .i64 b) (x_move rfl) ?_
    refine st_q (v := .bool (decide (b < a))) (x_gtr rfl rfl) ?_
    refine st_nil ?_
    refine kn23 _ _ ?_
    refine cnd (p := b < a) rfl (fun h26 => ?_) (fun h26 => ?_)
    ·
      refine seqK fun Q27 kn28 kr29 ke30 => ?_
      refine region ?_
      refine st_q (v := .int .i64 ((1 : Nat) : Int)) (x_assign rfl) ?_
      refine st_nil ?_
      refine kn28 _ _ ?_
      refine ret ?_
      refine kr20 _ _ ?_
      refine leave1 (P := Try.prog) (fn := Try.f48) (t := 4) (v := .int .i64 ((1 : Nat) : Int)) rfl rfl ?_
      exact ⟨by unfold numc; split <;> first | contradiction | rfl | (split <;> first | contradiction | rfl), rfl⟩
    ·
      refine skip ?_
      refine kn19 _ _ ?_
      refine seqK fun Q31 kn32 kr33 ke34 => ?_
      refine region ?_
      refine st_q (v := .int .i64 ((0 : Nat) : Int)) (x_assign rfl) ?_
      refine st_nil ?_
      refine kn32 _ _ ?_
      refine ret ?_
      refine leave1 (P := Try.prog) (fn := Try.f48) (t := 4) (v := .int .i64 ((0 : Nat) : Int)) rfl rfl ?_
      exact ⟨by unfold numc; split <;> first | contradiction | rfl | (split <;> first | contradiction | rfl), rfl⟩

set_option maxHeartbeats 4000000 in
theorem by20 (a b : Int × Int) (w0 : World) : Calls Try.prog 20 #[.agg (enT a).toArray, .agg (enT b).toArray] w0 fun e w' => e = .returned (.int .i64 (byc a b)) ∧ Ext w0 w' := by
  have hE0 : Below w0.heap.size w0 w0 := Below.refl _ _
  have hz0 := hE0.le
  refine enter Try.func20 rfl 15 Try.ntmps20 rfl ?_
  refine seqK fun Q1 kn2 kr3 ke4 => ?_
  refine region ?_
  refine st_e (e_box (v := .agg #[.int .i64 a.1, .int .i64 a.2]) rfl ?_)
  intro w5 hA6
  have hx7 := hA6.ext
  have hs8 := hA6.size
  have hB9 : Blk w5.heap w0.heap.size [.int .i64 a.1, .int .i64 a.2] 31 := hA6.new
  have hE10 : Below w0.heap.size w0 w5 := hx7.e hE0 (Nat.le_refl _)
  have hz11 := hE10.le
  have hs12 := hx7.size
  refine st_e (e_box (v := .agg #[.int .i64 b.1, .int .i64 b.2]) rfl ?_)
  intro w13 hA14
  have hx15 := hA14.ext
  have hs16 := hA14.size
  have hB17 : Blk w13.heap w5.heap.size [.int .i64 b.1, .int .i64 b.2] 31 := hA14.new
  have hB18 := hB9.ext hx15
  have hE19 : Below w0.heap.size w0 w13 := hx15.e hE10 (Nat.le_refl _)
  have hz20 := hE19.le
  have hs21 := hx15.size
  refine st_q (v := .int .i64 ((0 : Nat) : Int)) (x_assign rfl) ?_
  refine st_nil ?_
  refine kn2 _ _ ?_
  refine seqK fun Q22 kn23 kr24 ke25 => ?_
  refine seqK fun Q26 kn27 kr28 ke29 => ?_
  refine region ?_
  refine st_q (v := .pointer (some ⟨w0.heap.size, 0, none⟩)) (x_field (o := 0) T.fa31_0 rfl) ?_
  refine st_q (v := .int .i64 a.1) (x_load1 T.na3 rfl (hB18.one 0 rfl)) ?_
  refine st_q (v := .pointer (some ⟨w5.heap.size, 0, none⟩)) (x_field (o := 0) T.fa31_0 rfl) ?_
  refine st_q (v := .int .i64 b.1) (x_load1 T.na3 rfl (hB17.one 0 rfl)) ?_
  refine st_q (v := .bool (decide (a.1 < b.1))) (x_lss rfl rfl) ?_
  refine st_nil ?_
  refine kn27 _ _ ?_
  refine cnd (p := a.1 < b.1) rfl (fun h30 => ?_) (fun h30 => ?_)
  ·
    refine seqK fun Q31 kn32 kr33 ke34 => ?_
    refine region ?_
    refine st_q (v := .int .i64 (-5)) (x_assign rfl) ?_
    refine st_nil ?_
    refine kn32 _ _ ?_
    refine ret ?_
    refine kr24 _ _ ?_
    refine leave1 (P := Try.prog) (fn := Try.f20) (t := 4) (v := .int .i64 (-5)) rfl rfl ?_
    exact ⟨by unfold byc; split <;> first | contradiction | rfl | (split <;> first | contradiction | rfl), hE19⟩
  ·
    refine skip ?_
    refine kn23 _ _ ?_
    refine seqK fun Q35 kn36 kr37 ke38 => ?_
    refine seqK fun Q39 kn40 kr41 ke42 => ?_
    refine region ?_
    refine st_q (v := .pointer (some ⟨w0.heap.size, 0, none⟩)) (x_field (o := 0) T.fa31_0 rfl) ?_
    refine st_q (v := .int .i64 a.1) (x_load1 T.na3 rfl (hB18.one 0 rfl)) ?_
    refine st_q (v := .pointer (some ⟨w5.heap.size, 0, none⟩)) (x_field (o := 0) T.fa31_0 rfl) ?_
    refine st_q (v := .int .i64 b.1) (x_load1 T.na3 rfl (hB17.one 0 rfl)) ?_
    refine st_q (v := .bool (decide (b.1 < a.1))) (x_gtr rfl rfl) ?_
    refine st_nil ?_
    refine kn40 _ _ ?_
    refine cnd (p := b.1 < a.1) rfl (fun h43 => ?_) (fun h43 => ?_)
    ·
      refine seqK fun Q44 kn45 kr46 ke47 => ?_
      refine region ?_
      refine st_q (v := .int .i64 ((7 : Nat) : Int)) (x_assign rfl) ?_
      refine st_nil ?_
      refine kn45 _ _ ?_
      refine ret ?_
      refine kr37 _ _ ?_
      refine leave1 (P := Try.prog) (fn := Try.f20) (t := 4) (v := .int .i64 ((7 : Nat) : Int)) rfl rfl ?_
      exact ⟨by unfold byc; split <;> first | contradiction | rfl | (split <;> first | contradiction | rfl), hE19⟩
    ·
      refine skip ?_
      refine kn36 _ _ ?_
      refine seqK fun Q48 kn49 kr50 ke51 => ?_
      refine region ?_
      refine st_q (v := .int .i64 ((0 : Nat) : Int)) (x_assign rfl) ?_
      refine st_nil ?_
      refine kn49 _ _ ?_
      refine ret ?_
      refine leave1 (P := Try.prog) (fn := Try.f20) (t := 4) (v := .int .i64 ((0 : Nat) : Int)) rfl rfl ?_
      exact ⟨by unfold byc; split <;> first | contradiction | rfl | (split <;> first | contradiction | rfl), hE19⟩

set_option maxHeartbeats 4000000 in
theorem thing27 (a b : Int) (w0 : World) : Calls Try.prog 27 #[.int .i64 a, .int .i64 b] w0 fun e w' => e = .returned (.agg (enT (a, b)).toArray) ∧ Ext w0 w' := by
  have hE0 : Below w0.heap.size w0 w0 := Below.refl _ _
  have hz0 := hE0.le
  refine enter Try.func27 rfl 8 Try.ntmps27 rfl ?_
  refine seqK fun Q1 kn2 kr3 ke4 => ?_
  refine region ?_
  refine st_e (e_alloc T.zv31 ?_)
  intro w5 hA6
  have hx7 := hA6.ext
  have hs8 := hA6.size
  have hB9 : Blk w5.heap w0.heap.size [.int .i64 ((0 : Nat) : Int), .int .i64 ((0 : Nat) : Int)] 31 := hA6.new
  have hE10 : Below w0.heap.size w0 w5 := hx7.e hE0 (Nat.le_refl _)
  have hz11 := hE10.le
  have hs12 := hx7.size
  refine st_nil ?_
  refine kn2 _ _ ?_
  refine seqK fun Q13 kn14 kr15 ke16 => ?_
  refine region ?_
  refine st_q (v := .int .i64 a) (x_move rfl) ?_
  refine st_q (v := .int .i64 b) (x_move rfl) ?_
  refine st_q (v := .agg #[.int .i64 a, .int .i64 b]) (x_build (fun _ => by kernel_rfl)) ?_
  refine st_s (e_st (v := .agg #[.int .i64 a, .int .i64 b]) T.sz31 rfl rfl hB9 (by simp [Value.cells]) (by rfl) ?_)
  intro w17 hP18
  have hB19 : Blk w17.heap w0.heap.size [.int .i64 a, .int .i64 b] 31 := hP18.new
  have hs20 := hP18.size
  have hE21 : Below w0.heap.size w0 w17 := hP18.below hE10 (by omega)
  have hz22 := hE21.le
  refine st_nil ?_
  refine kn14 _ _ ?_
  refine ret ?_
  refine leaveC (P := Try.prog) (fn := Try.f27) (t := 4) (T := 31) (b := w0.heap.size) (o := 0) (cs := [.int .i64 a, .int .i64 b]) rfl T.ag31 rfl (hB19.cells 0 [.int .i64 a, .int .i64 b] (cells_at rfl)) ?_
  exact ⟨rfl, hE21⟩

set_option maxHeartbeats 4000000 in
theorem told53 (f : Nat) (w0 : World) : Calls Try.prog 53 #[.func (.func f) #[] #[]] w0 fun e w' => e = .returned (.func (.func f) #[] #[]) ∧ w0 = w' := by
  have hE0 : Below w0.heap.size w0 w0 := Below.refl _ _
  have hz0 := hE0.le
  refine enter Try.func53 rfl 6 Try.ntmps53 rfl ?_
  refine seqK fun Q1 kn2 kr3 ke4 => ?_
  refine region ?_
  refine st_q (v := .nilFunc) (x_assign rfl) ?_
  refine st_nil ?_
  refine kn2 _ _ ?_
  refine seqK fun Q5 kn6 kr7 ke8 => ?_
  refine seqK fun Q9 kn10 kr11 ke12 => ?_
  refine region ?_
  refine st_q (v := .func (.func f) #[] #[]) (x_move rfl) ?_
  refine st_q (v := .bool false) (x_eqlFnil Try.underlying35 rfl rfl) ?_
  refine st_nil ?_
  refine kn10 _ _ ?_
  refine cndF rfl ?_
  refine skip ?_
  refine kn6 _ _ ?_
  refine seqK fun Q13 kn14 kr15 ke16 => ?_
  refine region ?_
  refine st_q (v := .func (.func f) #[] #[]) (x_move rfl) ?_
  refine st_q (v := .func (.func f) #[] #[]) (x_assign rfl) ?_
  refine st_nil ?_
  refine kn14 _ _ ?_
  refine ret ?_
  refine leave1 (P := Try.prog) (fn := Try.f53) (t := 2) (v := .func (.func f) #[] #[]) rfl rfl ?_
  exact ⟨rfl, rfl⟩

set_option maxHeartbeats 4000000 in
theorem told53nil  (w0 : World) : Calls Try.prog 53 #[.nilFunc] w0 fun e w' => e = .returned (.func (.func 68) #[] #[]) ∧ w0 = w' := by
  have hE0 : Below w0.heap.size w0 w0 := Below.refl _ _
  have hz0 := hE0.le
  refine enter Try.func53 rfl 6 Try.ntmps53 rfl ?_
  refine seqK fun Q1 kn2 kr3 ke4 => ?_
  refine region ?_
  refine st_q (v := .nilFunc) (x_assign rfl) ?_
  refine st_nil ?_
  refine kn2 _ _ ?_
  refine seqK fun Q5 kn6 kr7 ke8 => ?_
  refine seqK fun Q9 kn10 kr11 ke12 => ?_
  refine region ?_
  refine st_q (v := .nilFunc) (x_move rfl) ?_
  refine st_q (v := .bool true) (x_eqlFnil' Try.underlying35 rfl rfl) ?_
  refine st_nil ?_
  refine kn10 _ _ ?_
  refine cndT rfl ?_
  refine seqK fun Q13 kn14 kr15 ke16 => ?_
  refine region ?_
  refine st_q (v := .func (.func 68) #[] #[]) (x_assign rfl) ?_
  refine st_nil ?_
  refine kn14 _ _ ?_
  refine ret ?_
  refine kr7 _ _ ?_
  refine leave1 (P := Try.prog) (fn := Try.f53) (t := 2) (v := .func (.func 68) #[] #[]) rfl rfl ?_
  exact ⟨rfl, rfl⟩

set_option maxHeartbeats 4000000 in
theorem nil68 (a b : Int × Int) (w0 : World) : Calls Try.prog 68 #[.agg (enT a).toArray, .agg (enT b).toArray] w0 fun e w' => e = .returned (.int .i64 0) ∧ Ext w0 w' := by
  have hE0 : Below w0.heap.size w0 w0 := Below.refl _ _
  have hz0 := hE0.le
  refine enter Try.func68 rfl 5 Try.ntmps68 rfl ?_
  refine seqK fun Q1 kn2 kr3 ke4 => ?_
  refine region ?_
  refine st_e (e_box (v := .agg #[.int .i64 a.1, .int .i64 a.2]) rfl ?_)
  intro w5 hA6
  have hx7 := hA6.ext
  have hs8 := hA6.size
  have hB9 : Blk w5.heap w0.heap.size [.int .i64 a.1, .int .i64 a.2] 31 := hA6.new
  have hE10 : Below w0.heap.size w0 w5 := hx7.e hE0 (Nat.le_refl _)
  have hz11 := hE10.le
  have hs12 := hx7.size
  refine st_e (e_box (v := .agg #[.int .i64 b.1, .int .i64 b.2]) rfl ?_)
  intro w13 hA14
  have hx15 := hA14.ext
  have hs16 := hA14.size
  have hB17 : Blk w13.heap w5.heap.size [.int .i64 b.1, .int .i64 b.2] 31 := hA14.new
  have hB18 := hB9.ext hx15
  have hE19 : Below w0.heap.size w0 w13 := hx15.e hE10 (Nat.le_refl _)
  have hz20 := hE19.le
  have hs21 := hx15.size
  refine st_q (v := .int .i64 ((0 : Nat) : Int)) (x_assign rfl) ?_
  refine st_nil ?_
  refine kn2 _ _ ?_
  refine seqK fun Q22 kn23 kr24 ke25 => ?_
  refine region ?_
  refine st_q (v := .int .i64 ((0 : Nat) : Int)) (x_assign rfl) ?_
  refine st_nil ?_
  refine kn23 _ _ ?_
  refine ret ?_
  refine leave1 (P := Try.prog) (fn := Try.f68) (t := 4) (v := .int .i64 ((0 : Nat) : Int)) rfl rfl ?_
  exact ⟨rfl, hE19⟩

theorem tups_end (l m : List ByteArray) (k : Nat) (h : l.length ≤ k ∨ m.length ≤ k) : tups (l.drop k) (m.drop k) = if l.length - k < m.length - k then -1 else if m.length - k < l.length - k then 1 else 0 := by
  have e1 := List.length_drop (i := k) (l := l)
  have e2 := List.length_drop (i := k) (l := m)
  generalize l.drop k = x at *
  generalize m.drop k = y at *
  rw [← e1, ← e2]
  have h' : x.length = 0 ∨ y.length = 0 := by omega
  clear e1 e2
  cases x <;> cases y <;> simp [tups] at h' ⊢
theorem tups_step {l m : List ByteArray} {k : Nat} (h1 : k < l.length) (h2 : k < m.length) : tups (l.drop k) (m.drop k) = if txt (el l k) (el m k) = 0 then tups (l.drop (k + 1)) (m.drop (k + 1)) else txt (el l k) (el m k) := by
  rw [drop_el h1, drop_el h2, tups]
set_option maxHeartbeats 4000000 in
theorem tuples11 (xs ys : List ByteArray) (va vb : Value) (w0 : World) (ha : Src w0.heap va xs.length 1 (flat enS xs)) (hb : Src w0.heap vb ys.length 1 (flat enS ys)) : Calls Try.prog 11 #[va, vb] w0 fun e w' => e = .returned (.int .i64 (tups xs ys)) ∧ Ext w0 w' := by
  have hE0 : Below w0.heap.size w0 w0 := Below.refl _ _
  have hz0 := hE0.le
  obtain ⟨a, ca, rfl, hca, hca1⟩ := ha.form
  obtain ⟨b, cb, rfl, hcb, hcb1⟩ := hb.form
  refine enter Try.func11 rfl 40 Try.ntmps11 rfl ?_
  refine seqK fun Q1 kn2 kr3 ke4 => ?_
  refine region ?_
  refine st_q (v := .int .i64 ((0 : Nat) : Int)) (x_assign rfl) ?_
  refine st_nil ?_
  refine kn2 _ _ ?_
  refine seqK fun Q5 kn6 kr7 ke8 => ?_
  refine seqK fun Q9 kn10 kr11 ke12 => ?_
  refine region ?_
  refine st_q (v := .slice a xs.length ca) (x_move rfl) ?_
  refine st_q (v := .int .i64 ((xs.length : Nat) : Int)) (x_lenSl rfl Try.underlying22 rfl) ?_
  refine st_q (v := .slice b ys.length cb) (x_move rfl) ?_
  refine st_q (v := .int .i64 ((ys.length : Nat) : Int)) (x_lenSl rfl Try.underlying22 rfl) ?_
  refine st_q (v := .int .i64 (((min xs.length ys.length) : Nat) : Int)) (x_minN rfl rfl) ?_
  refine st_q (v := .int .i64 ((0 : Nat) : Int)) (x_move rfl) ?_
  refine st_nil ?_
  refine kn10 _ _ ?_
  refine blockK fun Q13 kn14 kr15 kx16 kb17 => ?_
  refine loopK (α := Nat) (fun x => [(0, .slice a xs.length ca), (1, .slice b ys.length cb), (11, .int .i64 (((min xs.length ys.length) : Nat) : Int)), (12, .int .i64 ((x : Nat) : Int))]) (fun x w18 => Ext w0 w18 ∧ x ≤ xs.length ∧ x ≤ ys.length ∧ tups (xs.drop x) (ys.drop x) = tups xs ys) (fun x => xs.length - x) (0) ⟨rfl, rfl, rfl, rfl, trivial⟩ ?_ ?_
  ·
    refine ⟨Below.refl _ _, ?_⟩
    try dsimp only
    exact ⟨Nat.zero_le _, Nat.zero_le _, rfl⟩
  ·
    rintro τ19 k w20 ⟨hx21, ⟨hk1, hk2, hI⟩⟩
    try dsimp only at hk1 hk2 hI
    have hE22 : Below w0.heap.size w0 w20 := hx21.e hE0 (Nat.le_refl _)
    have hz23 := hE22.le
    have hs24 := hx21.size
    intro Q25 kn26 kr27 ke28
    refine seqK fun Q29 kn30 kr31 ke32 => ?_
    refine region ?_
    refine st_q (v := .bool (decide (k < ((min xs.length ys.length))))) (x_lssN rfl rfl) ?_
    refine st_nil ?_
    refine kn30 _ _ ?_
    refine seqK fun Q33 kn34 kr35 ke36 => ?_
    refine cnd (p := k < ((min xs.length ys.length))) rfl (fun h37 => ?_) (fun h37 => ?_)
    ·
      refine skip ?_
      refine kn34 _ _ ?_
      refine seqK fun Q38 kn39 kr40 ke41 => ?_
      refine blockK fun Q42 kn43 kr44 kx45 kb46 => ?_
      refine seqK fun Q47 kn48 kr49 ke50 => ?_
      refine region ?_
      refine st_q (v := .int .i64 ((k : Nat) : Int)) (x_move rfl) ?_
      refine st_q (v := .int .i64 ((k : Nat) : Int)) (x_assign rfl) ?_
      refine st_nil ?_
      refine kn48 _ _ ?_
      refine seqK fun Q51 kn52 kr53 ke54 => ?_
      refine regionD1 [3, 7] [0, 1, 2, 3, 4, 5, 6, 7, 9] (.one 0 (.one 1 (.one 2 (.one 3 (.one 4 (.one 5 (.one 6 (.one 7 (.one 8 (.one 9 .done)))))))))) (by kernel_rfl) (by kernel_rfl) ?_
      intro w55 hx56 hs57
      have hF58 := hx56.e hx21 (Nat.le_refl _)
      have hE59 : Below w0.heap.size w0 w55 := hx56.e hE22 (Nat.le_refl _)
      have hz60 := hE59.le
      have hs61 := hx56.size
      have hS62 : Ext w55 w55 := Below.refl _ _
      refine d_q (v := .slice a xs.length ca) rfl rfl (fun _ => x_move rfl) ?_
      refine d_q (v := .int .i64 ((k : Nat) : Int)) rfl rfl (fun _ => x_move rfl) ?_
      obtain ⟨b63, o64, ha65, hc66⟩ := ha.at (by omega)
      refine d_q (v := .pointer (some ⟨b63, o64 + k * 1, none⟩)) rfl rfl (fun _ => x_index' T.sl22 rfl ha65 rfl (by omega)) ?_
      refine d_l (v := .string (el xs k)) rfl rfl rfl (fun v68 hw67 => x_load1 T.na9 rfl (((hc66.below hE59).elem enS_len (i := k) (by omega)).ext hw67)) ?_
      refine d_q (v := .slice b ys.length cb) rfl rfl (fun _ => x_move rfl) ?_
      refine d_q (v := .int .i64 ((k : Nat) : Int)) rfl rfl (fun _ => x_move rfl) ?_
      obtain ⟨b69, o70, ha71, hc72⟩ := hb.at (by omega)
      refine d_q (v := .pointer (some ⟨b69, o70 + k * 1, none⟩)) rfl rfl (fun _ => x_index' T.sl22 rfl ha71 rfl (by omega)) ?_
      refine d_l (v := .string (el ys k)) rfl rfl rfl (fun v74 hw73 => x_load1 T.na9 rfl (((hc72.below hE59).elem enS_len (i := k) (by omega)).ext hw73)) ?_
      refine d_e (by decide) (d_c' rfl rfl (t_call [.string (el xs k), .string (el ys k)] T.cf14 rfl rfl) (texts14 (el xs k) (el ys k) _) ?_)
      rintro _ _ ⟨rfl, rfl⟩
      refine ⟨_, rfl, ?_⟩
      have hS75 := hS62
      refine ⟨fun _ => hS75, ?_⟩
      refine d_q (v := .int .i64 (txt (el xs k) (el ys k))) rfl rfl (fun _ => x_assign rfl) ?_
      refine d_done ?_
      refine kn52 _ _ ?_
      refine seqK fun Q76 kn77 kr78 ke79 => ?_
      refine region ?_
      refine st_q (v := .int .i64 (txt (el xs k) (el ys k))) (x_move rfl) ?_
      refine st_q (v := .bool (decide ((txt (el xs k) (el ys k)) ≠ 0))) (x_neq rfl rfl) ?_
      refine st_nil ?_
      refine kn77 _ _ ?_
      refine cnd (p := (txt (el xs k) (el ys k)) ≠ 0) rfl (fun h80 => ?_) (fun h80 => ?_)
      ·
        refine seqK fun Q81 kn82 kr83 ke84 => ?_
        refine region ?_
        refine st_q (v := .int .i64 (txt (el xs k) (el ys k))) (x_move rfl) ?_
        refine st_q (v := .int .i64 (txt (el xs k) (el ys k))) (x_assign rfl) ?_
        refine st_nil ?_
        refine kn82 _ _ ?_
        refine ret ?_
        refine kr44 _ _ ?_
        refine kr40 _ _ ?_
        refine kr27 _ _ ?_
        refine kr15 _ _ ?_
        refine kr7 _ _ ?_
        refine leave1 (P := Try.prog) (fn := Try.f11) (t := 4) (v := .int .i64 (txt (el xs k) (el ys k))) rfl rfl ?_
        exact ⟨by rw [← hI, tups_step (by omega) (by omega), if_neg h80], hE59⟩
      ·
        refine skip ?_
        refine kn43 _ _ ?_
        refine kn39 _ _ ?_
        refine region ?_
        refine st_q (v := .int .i64 (((k + 1) : Nat) : Int)) (x_addN rfl rfl (by omega)) ?_
        refine st_q (v := .int .i64 (((k + 1) : Nat) : Int)) (x_move rfl) ?_
        refine st_nil ?_
        refine kn26 _ ((k + 1)) _ ⟨rfl, rfl, rfl, rfl, trivial⟩ ⟨hF58, ?_⟩ ?_
        ·
          try dsimp only
          exact ⟨by omega, by omega, by rw [← hI]; exact ((tups_step (by omega) (by omega)).trans (if_pos (by simpa using h80))).symm⟩
        ·
          (try dsimp only); omega
    ·
      refine exit ?_
      refine ke36 _ _ _ ?_
      refine ke28 _ _ _ ?_
      refine kb17 _ _ ?_
      refine kn6 _ _ ?_
      refine seqK fun Q85 kn86 kr87 ke88 => ?_
      refine blockK fun Q89 kn90 kr91 kx92 kb93 => ?_
      refine seqK fun Q94 kn95 kr96 ke97 => ?_
      refine region ?_
      refine st_q (v := .slice a xs.length ca) (x_move rfl) ?_
      refine st_q (v := .int .i64 ((xs.length : Nat) : Int)) (x_lenSl rfl Try.underlying22 rfl) ?_
      refine st_q (v := .slice b ys.length cb) (x_move rfl) ?_
      refine st_q (v := .int .i64 ((ys.length : Nat) : Int)) (x_lenSl rfl Try.underlying22 rfl) ?_
      refine st_q (v := .bool (decide (xs.length < ys.length))) (x_lssN rfl rfl) ?_
      refine st_q (v := .bool (decide (xs.length < ys.length))) (x_assign rfl) ?_
      refine st_nil ?_
      refine kn95 _ _ ?_
      refine cnd (p := xs.length < ys.length) rfl (fun h98 => ?_) (fun h98 => ?_)
      ·
        refine seqK fun Q99 kn100 kr101 ke102 => ?_
        refine region ?_
        refine st_q (v := .int .i64 (-1)) (x_assign rfl) ?_
        refine st_nil ?_
        refine kn100 _ _ ?_
        refine ret ?_
        refine kr91 _ _ ?_
        refine kr87 _ _ ?_
        refine leave1 (P := Try.prog) (fn := Try.f11) (t := 4) (v := .int .i64 (-1)) rfl rfl ?_
        exact ⟨by rw [← hI, tups_end _ _ _ (by omega)]; (split <;> first | rfl | (exfalso; omega) | (split <;> first | rfl | (exfalso; omega))), hE22⟩
      ·
        refine seqK fun Q103 kn104 kr105 ke106 => ?_
        refine region ?_
        refine st_q (v := .slice a xs.length ca) (x_move rfl) ?_
        refine st_q (v := .int .i64 ((xs.length : Nat) : Int)) (x_lenSl rfl Try.underlying22 rfl) ?_
        refine st_q (v := .slice b ys.length cb) (x_move rfl) ?_
        refine st_q (v := .int .i64 ((ys.length : Nat) : Int)) (x_lenSl rfl Try.underlying22 rfl) ?_
        refine st_q (v := .bool (decide (ys.length < xs.length))) (x_gtrN rfl rfl) ?_
        refine st_q (v := .bool (decide (ys.length < xs.length))) (x_assign rfl) ?_
        refine st_nil ?_
        refine kn104 _ _ ?_
        refine cnd (p := ys.length < xs.length) rfl (fun h107 => ?_) (fun h107 => ?_)
        ·
          refine seqK fun Q108 kn109 kr110 ke111 => ?_
          refine region ?_
          refine st_q (v := .int .i64 ((1 : Nat) : Int)) (x_assign rfl) ?_
          refine st_nil ?_
          refine kn109 _ _ ?_
          refine ret ?_
          refine kr91 _ _ ?_
          refine kr87 _ _ ?_
          refine leave1 (P := Try.prog) (fn := Try.f11) (t := 4) (v := .int .i64 ((1 : Nat) : Int)) rfl rfl ?_
          exact ⟨by rw [← hI, tups_end _ _ _ (by omega)]; (split <;> first | rfl | (exfalso; omega) | (split <;> first | rfl | (exfalso; omega))), hE22⟩
        ·
          refine skip ?_
          refine kn90 _ _ ?_
          refine kn86 _ _ ?_
          refine seqK fun Q112 kn113 kr114 ke115 => ?_
          refine region ?_
          refine st_q (v := .int .i64 ((0 : Nat) : Int)) (x_assign rfl) ?_
          refine st_nil ?_
          refine kn113 _ _ ?_
          refine ret ?_
          refine leave1 (P := Try.prog) (fn := Try.f11) (t := 4) (v := .int .i64 ((0 : Nat) : Int)) rfl rfl ?_
          exact ⟨by rw [← hI, tups_end _ _ _ (by omega)]; (split <;> first | rfl | (exfalso; omega) | (split <;> first | rfl | (exfalso; omega))), hE22⟩

set_option maxHeartbeats 4000000 in
theorem tuples12 (xs ys : List ByteArray) (va vb : Value) (w0 : World) (ha : Src w0.heap va xs.length 1 (flat enS xs)) (hb : Src w0.heap vb ys.length 1 (flat enS ys)) : Calls Try.prog 12 #[va, vb] w0 fun e w' => e = .returned (.int .i64 (tups xs ys)) ∧ Ext w0 w' := by
  have hE0 : Below w0.heap.size w0 w0 := Below.refl _ _
  have hz0 := hE0.le
  obtain ⟨a, ca, rfl, hca, hca1⟩ := ha.form
  obtain ⟨b, cb, rfl, hcb, hcb1⟩ := hb.form
  refine enter Try.func12 rfl 41 Try.ntmps12 rfl ?_
  refine seqK fun Q1 kn2 kr3 ke4 => ?_
  refine region ?_
  refine st_q (v := .int .i64 ((0 : Nat) : Int)) (x_assign rfl) ?_
  refine st_nil ?_
  refine kn2 _ _ ?_
  refine seqK fun Q5 kn6 kr7 ke8 => ?_
  refine seqK fun Q9 kn10 kr11 ke12 => ?_
  refine region ?_
  refine st_q (v := .int .i64 ((0 : Nat) : Int)) (x_assign rfl) ?_
  refine st_nil ?_
  refine kn10 _ _ ?_
  refine blockK fun Q13 kn14 kr15 kx16 kb17 => ?_
  refine loopK (α := Nat) (fun x => [(0, .slice a xs.length ca), (1, .slice b ys.length cb), (5, .int .i64 ((x : Nat) : Int))]) (fun x w18 => Ext w0 w18 ∧ x ≤ xs.length ∧ x ≤ ys.length ∧ tups (xs.drop x) (ys.drop x) = tups xs ys) (fun x => xs.length - x) (0) ⟨rfl, rfl, rfl, trivial⟩ ?_ ?_
  ·
    refine ⟨Below.refl _ _, ?_⟩
    try dsimp only
    exact ⟨Nat.zero_le _, Nat.zero_le _, rfl⟩
  ·
    rintro τ19 k w20 ⟨hx21, ⟨hk1, hk2, hI⟩⟩
    try dsimp only at hk1 hk2 hI
    have hE22 : Below w0.heap.size w0 w20 := hx21.e hE0 (Nat.le_refl _)
    have hz23 := hE22.le
    have hs24 := hx21.size
    intro Q25 kn26 kr27 ke28
    refine seqK fun Q29 kn30 kr31 ke32 => ?_
    refine seqK fun Q33 kn34 kr35 ke36 => ?_
    refine region ?_
    refine st_q (v := .int .i64 ((k : Nat) : Int)) (x_move rfl) ?_
    refine st_q (v := .slice a xs.length ca) (x_move rfl) ?_
    refine st_q (v := .int .i64 ((xs.length : Nat) : Int)) (x_lenSl rfl Try.underlying22 rfl) ?_
    refine st_q (v := .bool (decide (k < xs.length))) (x_lssN rfl rfl) ?_
    refine st_if (p := k < xs.length) (x_move rfl) (fun h37 => ?_) (fun h37 => ?_)
    ·
      refine st_gq 4 11 rfl rfl (by decide) ?_
      refine st_q (v := .int .i64 ((k : Nat) : Int)) (x_move rfl) ?_
      refine st_gq 4 11 rfl rfl (by decide) ?_
      refine st_q (v := .slice b ys.length cb) (x_move rfl) ?_
      refine st_gq 4 11 rfl rfl (by decide) ?_
      refine st_q (v := .int .i64 ((ys.length : Nat) : Int)) (x_lenSl rfl Try.underlying22 rfl) ?_
      refine st_gq 4 11 rfl rfl (by decide) ?_
      refine st_q (v := .bool (decide (k < ys.length))) (x_lssN rfl rfl) ?_
      refine st_q (v := .bool (decide (k < ys.length))) (x_pickT rfl rfl) ?_
      refine st_nil ?_
      refine kn34 _ _ ?_
      refine cnd (p := k < ys.length) rfl (fun h38 => ?_) (fun h38 => ?_)
      ·
        refine skip ?_
        refine kn30 _ _ ?_
        refine seqK fun Q39 kn40 kr41 ke42 => ?_
        refine blockK fun Q43 kn44 kr45 kx46 kb47 => ?_
        refine seqK fun Q48 kn49 kr50 ke51 => ?_
        refine regionD1 [3, 7] [0, 1, 2, 3, 4, 5, 6, 7, 9] (.one 0 (.one 1 (.one 2 (.one 3 (.one 4 (.one 5 (.one 6 (.one 7 (.one 8 (.one 9 .done)))))))))) (by kernel_rfl) (by kernel_rfl) ?_
        intro w52 hx53 hs54
        have hF55 := hx53.e hx21 (Nat.le_refl _)
        have hE56 : Below w0.heap.size w0 w52 := hx53.e hE22 (Nat.le_refl _)
        have hz57 := hE56.le
        have hs58 := hx53.size
        have hS59 : Ext w52 w52 := Below.refl _ _
        refine d_q (v := .slice a xs.length ca) rfl rfl (fun _ => x_move rfl) ?_
        refine d_q (v := .int .i64 ((k : Nat) : Int)) rfl rfl (fun _ => x_move rfl) ?_
        obtain ⟨b60, o61, ha62, hc63⟩ := ha.at (by omega)
        refine d_q (v := .pointer (some ⟨b60, o61 + k * 1, none⟩)) rfl rfl (fun _ => x_index' T.sl22 rfl ha62 rfl (by omega)) ?_
        refine d_l (v := .string (el xs k)) rfl rfl rfl (fun v65 hw64 => x_load1 T.na9 rfl (((hc63.below hE56).elem enS_len (i := k) (by omega)).ext hw64)) ?_
        refine d_q (v := .slice b ys.length cb) rfl rfl (fun _ => x_move rfl) ?_
        refine d_q (v := .int .i64 ((k : Nat) : Int)) rfl rfl (fun _ => x_move rfl) ?_
        obtain ⟨b66, o67, ha68, hc69⟩ := hb.at (by omega)
        refine d_q (v := .pointer (some ⟨b66, o67 + k * 1, none⟩)) rfl rfl (fun _ => x_index' T.sl22 rfl ha68 rfl (by omega)) ?_
        refine d_l (v := .string (el ys k)) rfl rfl rfl (fun v71 hw70 => x_load1 T.na9 rfl (((hc69.below hE56).elem enS_len (i := k) (by omega)).ext hw70)) ?_
        refine d_e (by decide) (d_c' rfl rfl (t_call [.string (el xs k), .string (el ys k)] T.cf15 rfl rfl) (texts15 (el xs k) (el ys k) _) ?_)
        rintro _ _ ⟨rfl, rfl⟩
        refine ⟨_, rfl, ?_⟩
        have hS72 := hS59
        refine ⟨fun _ => hS72, ?_⟩
        refine d_q (v := .int .i64 (txt (el xs k) (el ys k))) rfl rfl (fun _ => x_assign rfl) ?_
        refine d_done ?_
        refine kn49 _ _ ?_
        refine seqK fun Q73 kn74 kr75 ke76 => ?_
        refine region ?_
        refine st_q (v := .int .i64 (txt (el xs k) (el ys k))) (x_move rfl) ?_
        refine st_q (v := .bool (decide ((txt (el xs k) (el ys k)) ≠ 0))) (x_neq rfl rfl) ?_
        refine st_nil ?_
        refine kn74 _ _ ?_
        refine cnd (p := (txt (el xs k) (el ys k)) ≠ 0) rfl (fun h77 => ?_) (fun h77 => ?_)
        ·
          refine seqK fun Q78 kn79 kr80 ke81 => ?_
          refine region ?_
          refine st_q (v := .int .i64 (txt (el xs k) (el ys k))) (x_move rfl) ?_
          refine st_q (v := .int .i64 (txt (el xs k) (el ys k))) (x_assign rfl) ?_
          refine st_nil ?_
          refine kn79 _ _ ?_
          refine ret ?_
          refine kr45 _ _ ?_
          refine kr41 _ _ ?_
          refine kr27 _ _ ?_
          refine kr15 _ _ ?_
          refine kr7 _ _ ?_
          refine leave1 (P := Try.prog) (fn := Try.f12) (t := 4) (v := .int .i64 (txt (el xs k) (el ys k))) rfl rfl ?_
          exact ⟨by rw [← hI, tups_step (by omega) (by omega), if_neg h77], hE56⟩
        ·
          refine skip ?_
          refine kn44 _ _ ?_
          refine kn40 _ _ ?_
          refine region ?_
          refine st_q (v := .int .i64 ((k : Nat) : Int)) (x_move rfl) ?_
          refine st_q (v := .int .i64 (((k + 1) : Nat) : Int)) (x_addN rfl rfl (by omega)) ?_
          refine st_q (v := .int .i64 (((k + 1) : Nat) : Int)) (x_assign rfl) ?_
          refine st_nil ?_
          refine kn26 _ ((k + 1)) _ ⟨rfl, rfl, rfl, trivial⟩ ⟨hF55, ?_⟩ ?_
          ·
            try dsimp only
            exact ⟨by omega, by omega, by rw [← hI]; exact ((tups_step (by omega) (by omega)).trans (if_pos (by simpa using h77))).symm⟩
          ·
            (try dsimp only); omega
      ·
        refine exit ?_
        refine ke32 _ _ _ ?_
        refine ke28 _ _ _ ?_
        refine kb17 _ _ ?_
        refine kn6 _ _ ?_
        refine seqK fun Q82 kn83 kr84 ke85 => ?_
        refine seqK fun Q86 kn87 kr88 ke89 => ?_
        refine region ?_
        refine st_q (v := .slice a xs.length ca) (x_move rfl) ?_
        refine st_q (v := .int .i64 ((xs.length : Nat) : Int)) (x_lenSl rfl Try.underlying22 rfl) ?_
        refine st_q (v := .slice b ys.length cb) (x_move rfl) ?_
        refine st_q (v := .int .i64 ((ys.length : Nat) : Int)) (x_lenSl rfl Try.underlying22 rfl) ?_
        refine st_q (v := .bool (decide (xs.length < ys.length))) (x_lssN rfl rfl) ?_
        refine st_nil ?_
        refine kn87 _ _ ?_
        refine cnd (p := xs.length < ys.length) rfl (fun h90 => ?_) (fun h90 => ?_)
        ·
          refine seqK fun Q91 kn92 kr93 ke94 => ?_
          refine region ?_
          refine st_q (v := .int .i64 (-1)) (x_assign rfl) ?_
          refine st_nil ?_
          refine kn92 _ _ ?_
          refine ret ?_
          refine kr84 _ _ ?_
          refine leave1 (P := Try.prog) (fn := Try.f12) (t := 4) (v := .int .i64 (-1)) rfl rfl ?_
          exact ⟨by rw [← hI, tups_end _ _ _ (by omega)]; (split <;> first | rfl | (exfalso; omega) | (split <;> first | rfl | (exfalso; omega))), hE22⟩
        ·
          refine skip ?_
          refine kn83 _ _ ?_
          refine seqK fun Q95 kn96 kr97 ke98 => ?_
          refine seqK fun Q99 kn100 kr101 ke102 => ?_
          refine region ?_
          refine st_q (v := .slice a xs.length ca) (x_move rfl) ?_
          refine st_q (v := .int .i64 ((xs.length : Nat) : Int)) (x_lenSl rfl Try.underlying22 rfl) ?_
          refine st_q (v := .slice b ys.length cb) (x_move rfl) ?_
          refine st_q (v := .int .i64 ((ys.length : Nat) : Int)) (x_lenSl rfl Try.underlying22 rfl) ?_
          refine st_q (v := .bool (decide (ys.length < xs.length))) (x_gtrN rfl rfl) ?_
          refine st_nil ?_
          refine kn100 _ _ ?_
          refine cnd (p := ys.length < xs.length) rfl (fun h103 => ?_) (fun h103 => ?_)
          ·
            refine seqK fun Q104 kn105 kr106 ke107 => ?_
            refine region ?_
            refine st_q (v := .int .i64 ((1 : Nat) : Int)) (x_assign rfl) ?_
            refine st_nil ?_
            refine kn105 _ _ ?_
            refine ret ?_
            refine kr97 _ _ ?_
            refine leave1 (P := Try.prog) (fn := Try.f12) (t := 4) (v := .int .i64 ((1 : Nat) : Int)) rfl rfl ?_
            exact ⟨by rw [← hI, tups_end _ _ _ (by omega)]; (split <;> first | rfl | (exfalso; omega) | (split <;> first | rfl | (exfalso; omega))), hE22⟩
          ·
            refine skip ?_
            refine kn96 _ _ ?_
            refine seqK fun Q108 kn109 kr110 ke111 => ?_
            refine region ?_
            refine st_q (v := .int .i64 ((0 : Nat) : Int)) (x_assign rfl) ?_
            refine st_nil ?_
            refine kn109 _ _ ?_
            refine ret ?_
            refine leave1 (P := Try.prog) (fn := Try.f12) (t := 4) (v := .int .i64 ((0 : Nat) : Int)) rfl rfl ?_
            exact ⟨by rw [← hI, tups_end _ _ _ (by omega)]; (split <;> first | rfl | (exfalso; omega) | (split <;> first | rfl | (exfalso; omega))), hE22⟩
    ·
      refine st_gn 4 11 rfl rfl (by decide) rfl ?_
      refine st_gn 4 11 rfl rfl (by decide) rfl ?_
      refine st_gn 4 11 rfl rfl (by decide) rfl ?_
      refine st_gn 4 11 rfl rfl (by decide) rfl ?_
      refine st_q (v := .bool false) (x_pickF rfl rfl) ?_
      refine st_nil ?_
      refine kn34 _ _ ?_
      refine cndF rfl ?_
      refine exit ?_
      refine ke32 _ _ _ ?_
      refine ke28 _ _ _ ?_
      refine kb17 _ _ ?_
      refine kn6 _ _ ?_
      refine seqK fun Q112 kn113 kr114 ke115 => ?_
      refine seqK fun Q116 kn117 kr118 ke119 => ?_
      refine region ?_
      refine st_q (v := .slice a xs.length ca) (x_move rfl) ?_
      refine st_q (v := .int .i64 ((xs.length : Nat) : Int)) (x_lenSl rfl Try.underlying22 rfl) ?_
      refine st_q (v := .slice b ys.length cb) (x_move rfl) ?_
      refine st_q (v := .int .i64 ((ys.length : Nat) : Int)) (x_lenSl rfl Try.underlying22 rfl) ?_
      refine st_q (v := .bool (decide (xs.length < ys.length))) (x_lssN rfl rfl) ?_
      refine st_nil ?_
      refine kn117 _ _ ?_
      refine cnd (p := xs.length < ys.length) rfl (fun h120 => ?_) (fun h120 => ?_)
      ·
        refine seqK fun Q121 kn122 kr123 ke124 => ?_
        refine region ?_
        refine st_q (v := .int .i64 (-1)) (x_assign rfl) ?_
        refine st_nil ?_
        refine kn122 _ _ ?_
        refine ret ?_
        refine kr114 _ _ ?_
        refine leave1 (P := Try.prog) (fn := Try.f12) (t := 4) (v := .int .i64 (-1)) rfl rfl ?_
        exact ⟨by rw [← hI, tups_end _ _ _ (by omega)]; (split <;> first | rfl | (exfalso; omega) | (split <;> first | rfl | (exfalso; omega))), hE22⟩
      ·
        refine skip ?_
        refine kn113 _ _ ?_
        refine seqK fun Q125 kn126 kr127 ke128 => ?_
        refine seqK fun Q129 kn130 kr131 ke132 => ?_
        refine region ?_
        refine st_q (v := .slice a xs.length ca) (x_move rfl) ?_
        refine st_q (v := .int .i64 ((xs.length : Nat) : Int)) (x_lenSl rfl Try.underlying22 rfl) ?_
        refine st_q (v := .slice b ys.length cb) (x_move rfl) ?_
        refine st_q (v := .int .i64 ((ys.length : Nat) : Int)) (x_lenSl rfl Try.underlying22 rfl) ?_
        refine st_q (v := .bool (decide (ys.length < xs.length))) (x_gtrN rfl rfl) ?_
        refine st_nil ?_
        refine kn130 _ _ ?_
        refine cnd (p := ys.length < xs.length) rfl (fun h133 => ?_) (fun h133 => ?_)
        ·
          refine seqK fun Q134 kn135 kr136 ke137 => ?_
          refine region ?_
          refine st_q (v := .int .i64 ((1 : Nat) : Int)) (x_assign rfl) ?_
          refine st_nil ?_
          refine kn135 _ _ ?_
          refine ret ?_
          refine kr127 _ _ ?_
          refine leave1 (P := Try.prog) (fn := Try.f12) (t := 4) (v := .int .i64 ((1 : Nat) : Int)) rfl rfl ?_
          exact ⟨by rw [← hI, tups_end _ _ _ (by omega)]; (split <;> first | rfl | (exfalso; omega) | (split <;> first | rfl | (exfalso; omega))), hE22⟩
        ·
          refine skip ?_
          refine kn126 _ _ ?_
          refine seqK fun Q138 kn139 kr140 ke141 => ?_
          refine region ?_
          refine st_q (v := .int .i64 ((0 : Nat) : Int)) (x_assign rfl) ?_
          refine st_nil ?_
          refine kn139 _ _ ?_
          refine ret ?_
          refine leave1 (P := Try.prog) (fn := Try.f12) (t := 4) (v := .int .i64 ((0 : Nat) : Int)) rfl rfl ?_
          exact ⟨by rw [← hI, tups_end _ _ _ (by omega)]; (split <;> first | rfl | (exfalso; omega) | (split <;> first | rfl | (exfalso; omega))), hE22⟩

theorem el_roomS {n i : Nat} (h : i < n) : el (roomS n) i = (ByteArray.mk #[0, 114, 111, 111, 109]) := el_replicate h
set_option maxHeartbeats 4000000 in
theorem kepttexts (xs : List ByteArray) (a : Option Addr) (c : Nat) (vb : Value) (w0 : World) (ha : Src w0.heap (.slice a (xs.length + 3) c) (xs.length + 3) 1 (flat enS (xs ++ roomS 3))) (hb : Src w0.heap vb xs.length 1 (flat enS xs)) (hn : xs.length ≤ 8796093021952) : Calls Try.prog 13 #[.slice a xs.length c, vb] w0 fun e w' => e = .returned (.bool true) ∧ Ext w0 w' := by
  have hE0 : Below w0.heap.size w0 w0 := Below.refl _ _
  have hz0 := hE0.le
  obtain ⟨_, hca, hca1⟩ := ha.capl
  obtain ⟨b, cb, rfl, hcb, hcb1⟩ := hb.form
  have hlen : (xs ++ roomS 3).length = xs.length + 3 := by simp
  refine enter Try.func13 rfl 28 Try.ntmps13 rfl ?_
  refine seqK fun Q1 kn2 kr3 ke4 => ?_
  refine region ?_
  refine st_q (v := .bool false) (x_assign rfl) ?_
  refine st_nil ?_
  refine kn2 _ _ ?_
  refine seqK fun Q5 kn6 kr7 ke8 => ?_
  refine seqK fun Q9 kn10 kr11 ke12 => ?_
  refine region ?_
  refine st_q (v := .slice a xs.length c) (x_move rfl) ?_
  refine st_q (v := .slice b xs.length cb) (x_move rfl) ?_
  refine st_c (t_call [.slice a xs.length c, .slice b xs.length cb] T.cf46 rfl rfl) (sametexts xs xs _ _ _ (by simpa using (ha.below hE0).take enS_len (j := xs.length) (by omega) (by simp)) (hb.below hE0)) ?_
  rintro _ w13 ⟨rfl, hx14⟩
  refine ⟨_, rfl, ?_⟩
  have hE15 : Below w0.heap.size w0 w13 := hx14.e hE0 (Nat.le_refl _)
  have hz16 := hE15.le
  have hs17 := hx14.size
  refine st_q (v := .bool (decide (¬ (xs = xs)))) (x_notP rfl) ?_
  refine st_nil ?_
  refine kn10 _ _ ?_
  refine cnd (p := ¬ (xs = xs)) rfl (fun h18 => ?_) (fun h18 => ?_)
  ·
    exact absurd h18 (by simp)
  ·
    refine skip ?_
    refine kn6 _ _ ?_
    refine seqK fun Q19 kn20 kr21 ke22 => ?_
    refine region ?_
    refine st_q (v := .slice a xs.length c) (x_move rfl) ?_
    refine st_q (v := .slice b xs.length cb) (x_move rfl) ?_
    refine st_q (v := .int .i64 ((xs.length : Nat) : Int)) (x_lenSl rfl Try.underlying22 rfl) ?_
    refine st_q (v := .int .i64 (((xs.length + 3) : Nat) : Int)) (x_addN rfl rfl (by omega)) ?_
    refine st_q (v := .slice a ((xs.length + 3)) c) (x_sliceHi T.sl22 rfl rfl (by omega)) ?_
    refine st_q (v := .slice a ((xs.length + 3)) c) (x_assign rfl) ?_
    refine st_nil ?_
    refine kn20 _ _ ?_
    refine seqK fun Q23 kn24 kr25 ke26 => ?_
    refine seqK fun Q27 kn28 kr29 ke30 => ?_
    refine region ?_
    refine st_q (v := .int .i64 ((0 : Nat) : Int)) (x_assign rfl) ?_
    refine st_nil ?_
    refine kn28 _ _ ?_
    refine blockK fun Q31 kn32 kr33 kx34 kb35 => ?_
    refine loopK (α := Nat) (fun x => [(1, .slice b xs.length cb), (5, .slice a ((xs.length + 3)) c), (6, .int .i64 ((x : Nat) : Int))]) (fun x w36 => Ext w13 w36 ∧ x ≤ 3) (fun x => 3 - x) (0) ⟨rfl, rfl, rfl, trivial⟩ ?_ ?_
    ·
      refine ⟨Below.refl _ _, ?_⟩
      try dsimp only
      exact Nat.zero_le _
    ·
      rintro τ37 i w38 ⟨hx39, hi⟩
      try dsimp only at hi
      have hE40 : Below w0.heap.size w0 w38 := hx39.e hE15 (Nat.le_refl _)
      have hz41 := hE40.le
      have hs42 := hx39.size
      intro Q43 kn44 kr45 ke46
      refine seqK fun Q47 kn48 kr49 ke50 => ?_
      refine seqK fun Q51 kn52 kr53 ke54 => ?_
      refine region ?_
      refine st_q (v := .int .i64 ((i : Nat) : Int)) (x_move rfl) ?_
      refine st_q (v := .bool (decide (i < 3))) (x_lssN rfl rfl) ?_
      refine st_nil ?_
      refine kn52 _ _ ?_
      refine cnd (p := i < 3) rfl (fun h55 => ?_) (fun h55 => ?_)
      ·
        refine skip ?_
        refine kn48 _ _ ?_
        refine seqK fun Q56 kn57 kr58 ke59 => ?_
        refine blockK fun Q60 kn61 kr62 kx63 kb64 => ?_
        refine seqK fun Q65 kn66 kr67 ke68 => ?_
        refine region ?_
        refine st_q (v := .slice a ((xs.length + 3)) c) (x_move rfl) ?_
        refine st_q (v := .slice b xs.length cb) (x_move rfl) ?_
        refine st_q (v := .int .i64 ((xs.length : Nat) : Int)) (x_lenSl rfl Try.underlying22 rfl) ?_
        refine st_q (v := .int .i64 ((i : Nat) : Int)) (x_move rfl) ?_
        refine st_q (v := .int .i64 (((xs.length + i) : Nat) : Int)) (x_addN rfl rfl (by omega)) ?_
        obtain ⟨b69, o70, ha71, hc72⟩ := ha.at (by omega)
        refine st_q (v := .pointer (some ⟨b69, o70 + ((xs.length + i)) * 1, none⟩)) (x_index' T.sl22 rfl ha71 rfl (by omega)) ?_
        refine st_q (v := .string (el (xs ++ roomS 3) ((xs.length + i)))) (x_load1 T.na9 rfl ((hc72.below hE40).elem enS_len (i := (xs.length + i)) (by omega))) ?_
        refine st_q (v := .bool (decide ((el (xs ++ roomS 3) ((xs.length + i))).toList ≠ ((ByteArray.mk #[0, 114, 111, 111, 109])).toList))) (x_neqS rfl rfl) ?_
        refine st_nil ?_
        refine kn66 _ _ ?_
        refine cnd (p := (el (xs ++ roomS 3) ((xs.length + i))).toList ≠ ((ByteArray.mk #[0, 114, 111, 111, 109])).toList) rfl (fun h73 => ?_) (fun h73 => ?_)
        ·
          exact absurd h73 (by rw [el_append_right, el_roomS (by omega)]; simp)
        ·
          refine skip ?_
          refine kn61 _ _ ?_
          refine kn57 _ _ ?_
          refine region ?_
          refine st_q (v := .int .i64 ((i : Nat) : Int)) (x_move rfl) ?_
          refine st_q (v := .int .i64 (((i + 1) : Nat) : Int)) (x_addN rfl rfl (by omega)) ?_
          refine st_q (v := .int .i64 (((i + 1) : Nat) : Int)) (x_assign rfl) ?_
          refine st_nil ?_
          refine kn44 _ ((i + 1)) _ ⟨rfl, rfl, rfl, trivial⟩ ⟨hx39, ?_⟩ ?_
          ·
            try dsimp only
            omega
          ·
            (try dsimp only); omega
      ·
        refine exit ?_
        refine ke50 _ _ _ ?_
        refine ke46 _ _ _ ?_
        refine kb35 _ _ ?_
        refine kn24 _ _ ?_
        refine seqK fun Q74 kn75 kr76 ke77 => ?_
        refine region ?_
        refine st_q (v := .bool true) (x_assign rfl) ?_
        refine st_nil ?_
        refine kn75 _ _ ?_
        refine ret ?_
        refine leave1 (P := Try.prog) (fn := Try.f13) (t := 4) (v := .bool true) rfl rfl ?_
        exact ⟨rfl, hE40⟩

theorem fd_f {c : Int} {p n : Nat} (h : ¬ p < n) : false = decide (p < n ∧ c = 0) := (decide_eq_false (fun e => h e.1)).symm
theorem fd_n {c : Int} {p n : Nat} (h : p < n) : decide (c = 0) = decide (p < n ∧ c = 0) := decide_eq_decide.2 ⟨fun e => ⟨h, e⟩, fun e => e.2⟩
theorem enI_ones {xs : List Int} : (flat enI xs).all (·.oneCell') = true := by
  induction xs with
  | nil => rfl
  | cons x xs ih => simp only [flat, List.flatMap_cons, List.all_append] at *; rw [ih]; rfl
set_option maxHeartbeats 4000000 in
theorem len52 (lo b nx : Nat) (g v : Value) (es : List (Int × Nat)) (w0 : World) (hH : HeapR w0.heap lo 92 94 2 (enE enI) b g v es nx) : Calls Try.prog 52 #[.pointer (some ⟨b, 0, none⟩)] w0 fun e w' => e = .returned (.int .i64 ((es.length : Nat) : Int)) ∧ Ext w0 w' := by
  have hE0 : Below w0.heap.size w0 w0 := Below.refl _ _
  have hz0 := hE0.le
  obtain ⟨hge, hB, hO, hne⟩ := hH
  obtain ⟨a, ca, rfl, hca, hca1⟩ := hO.src.form
  have hbl := hB.lt
  have hvl : ∀ k, Value.ownBlock (.slice a es.length ca) = some k → lo ≤ k ∧ k < w0.heap.size := fun k hk => hO.lt hk
  refine enter Try.func52 rfl 10 Try.ntmps52 rfl ?_
  refine seqK fun Q1 kn2 kr3 ke4 => ?_
  refine region ?_
  refine st_q (v := .int .i64 ((0 : Nat) : Int)) (x_assign rfl) ?_
  refine st_nil ?_
  refine kn2 _ _ ?_
  refine seqK fun Q5 kn6 kr7 ke8 => ?_
  refine seqK fun Q9 kn10 kr11 ke12 => ?_
  refine region ?_
  refine st_q (v := .pointer (some ⟨b, 0, none⟩)) (x_move rfl) ?_
  refine st_q (v := .bool false) (x_eqlPnil (p := some ⟨b, 0, none⟩) Try.underlying72 rfl rfl) ?_
  refine st_nil ?_
  refine kn10 _ _ ?_
  refine cndF rfl ?_
  refine skip ?_
  refine kn6 _ _ ?_
  refine seqK fun Q13 kn14 kr15 ke16 => ?_
  refine region ?_
  refine st_q (v := .pointer (some ⟨b, 0, none⟩)) (x_move rfl) ?_
  refine st_q (v := .pointer (some ⟨b, 0, none⟩)) (x_nilCheck rfl) ?_
  refine st_q (v := .pointer (some ⟨b, 1, none⟩)) (x_field (o := 0) T.fa92_1 rfl) ?_
  refine st_q (v := .slice a es.length ca) (x_load1 T.na90 rfl (hB.one 1 rfl)) ?_
  refine st_q (v := .int .i64 ((es.length : Nat) : Int)) (x_lenSl rfl Try.underlying90 rfl) ?_
  refine st_q (v := .int .i64 ((es.length : Nat) : Int)) (x_assign rfl) ?_
  refine st_nil ?_
  refine kn14 _ _ ?_
  refine ret ?_
  refine leave1 (P := Try.prog) (fn := Try.f52) (t := 2) (v := .int .i64 ((es.length : Nat) : Int)) rfl rfl ?_
  exact ⟨rfl, hE0⟩

set_option maxHeartbeats 4000000 in
theorem ahead66 (lo fc : Nat) (c : Int → Int → Int) (hcf : CF Try.prog fc) (hcmp : CmpI fc c) (g : Value) (hg : ToldI g fc) (b nx : Nat) (v : Value) (es : List (Int × Nat)) (i k : Nat) (w0 : World) (hH : HeapR w0.heap lo 92 94 2 (enE enI) b g v es nx) (hi : i < es.length) (hk : k < es.length) : Calls Try.prog 66 #[.pointer (some ⟨b, 0, none⟩), .int .i64 ((i : Nat) : Int), .int .i64 ((k : Nat) : Int)] w0 fun e w' => e = .returned (.bool (decide (ah c (el es i) (el es k)))) ∧ Ext w0 w' := by
  have hE0 : Below w0.heap.size w0 w0 := Below.refl _ _
  have hz0 := hE0.le
  obtain ⟨hge, hB, hO, hne⟩ := hH
  obtain ⟨a, ca, rfl, hca, hca1⟩ := hO.src.form
  have hbl := hB.lt
  have hvl : ∀ k, Value.ownBlock (.slice a es.length ca) = some k → lo ≤ k ∧ k < w0.heap.size := fun k hk => hO.lt hk
  refine enter Try.func66 rfl 55 Try.ntmps66 rfl ?_
  refine seqK fun Q1 kn2 kr3 ke4 => ?_
  refine region ?_
  refine st_q (v := .bool false) (x_assign rfl) ?_
  refine st_nil ?_
  refine kn2 _ _ ?_
  refine seqK fun Q5 kn6 kr7 ke8 => ?_
  refine regionD1 [3, 8, 12, 16, 20] [0, 1, 2, 3, 5, 6, 7, 8, 9, 10, 11, 12, 13, 14, 15, 16, 17, 18, 19, 20, 22] (.one 0 (.one 1 (.one 2 (.one 3 (.one 5 (.one 6 (.one 7 (.one 8 (.one 9 (.one 10 (.one 11 (.one 12 (.one 13 (.one 14 (.one 15 (.one 16 (.one 17 (.one 18 (.one 19 (.one 20 (.one 4 (.one 21 (.one 22 .done))))))))))))))))))))))) (by kernel_rfl) (by kernel_rfl) ?_
  intro w9 hx10 hs11
  have hB12 := hB.ext hx10
  have hF13 := hO.ext hx10
  have hE14 : Below w0.heap.size w0 w9 := hx10.e hE0 (Nat.le_refl _)
  have hz15 := hE14.le
  have hs16 := hx10.size
  have hS17 : Ext w9 w9 := Below.refl _ _
  refine d_q (v := .pointer (some ⟨b, 0, none⟩)) rfl rfl (fun _ => x_move rfl) ?_
  refine d_q (v := .pointer (some ⟨b, 0, none⟩)) rfl rfl (fun _ => x_nilCheck rfl) ?_
  refine d_q (v := .pointer (some ⟨b, 0, none⟩)) rfl rfl (fun _ => x_field (o := 0) T.fa92_0 rfl) ?_
  refine d_l (v := g) rfl rfl rfl (fun v19 hw18 => x_load1 T.na71 rfl ((hB12.one 0 rfl).ext hw18)) ?_
  refine d_q (v := .pointer (some ⟨b, 0, none⟩)) rfl rfl (fun _ => x_move rfl) ?_
  refine d_q (v := .pointer (some ⟨b, 0, none⟩)) rfl rfl (fun _ => x_nilCheck rfl) ?_
  refine d_q (v := .pointer (some ⟨b, 1, none⟩)) rfl rfl (fun _ => x_field (o := 0) T.fa92_1 rfl) ?_
  refine d_l (v := .slice a es.length ca) rfl rfl rfl (fun v21 hw20 => x_load1 T.na90 rfl ((hB12.one 1 rfl).ext hw20)) ?_
  refine d_q (v := .int .i64 ((i : Nat) : Int)) rfl rfl (fun _ => x_move rfl) ?_
  obtain ⟨b22, o23, ha24, hc25⟩ := hF13.src.at (by omega)
  refine d_q (v := .pointer (some ⟨b22, o23 + i * 2, none⟩)) rfl rfl (fun _ => x_index' T.sl90 rfl ha24 rfl (by omega)) ?_
  refine d_q (v := .pointer (some ⟨b22, o23 + i * 2, none⟩)) rfl rfl (fun _ => x_field (o := o23 + i * 2) T.fa94_0 rfl) ?_
  refine d_l (v := .int .i64 ((el es i).1)) rfl rfl rfl (fun v27 hw26 => x_load1 T.na3 rfl (((hc25.elem (enE_len enI_len) (i := i) (by omega)).fld 0 rfl).ext hw26)) ?_
  refine d_q (v := .pointer (some ⟨b, 0, none⟩)) rfl rfl (fun _ => x_move rfl) ?_
  refine d_q (v := .pointer (some ⟨b, 0, none⟩)) rfl rfl (fun _ => x_nilCheck rfl) ?_
  refine d_q (v := .pointer (some ⟨b, 1, none⟩)) rfl rfl (fun _ => x_field (o := 0) T.fa92_1 rfl) ?_
  refine d_l (v := .slice a es.length ca) rfl rfl rfl (fun v29 hw28 => x_load1 T.na90 rfl ((hB12.one 1 rfl).ext hw28)) ?_
  refine d_q (v := .int .i64 ((k : Nat) : Int)) rfl rfl (fun _ => x_move rfl) ?_
  obtain ⟨b30, o31, ha32, hc33⟩ := hF13.src.at (by omega)
  refine d_q (v := .pointer (some ⟨b30, o31 + k * 2, none⟩)) rfl rfl (fun _ => x_index' T.sl90 rfl ha32 rfl (by omega)) ?_
  refine d_q (v := .pointer (some ⟨b30, o31 + k * 2, none⟩)) rfl rfl (fun _ => x_field (o := o31 + k * 2) T.fa94_0 rfl) ?_
  refine d_l (v := .int .i64 ((el es k).1)) rfl rfl rfl (fun v35 hw34 => x_load1 T.na3 rfl (((hc33.elem (enE_len enI_len) (i := k) (by omega)).fld 0 rfl).ext hw34)) ?_
  refine d_e (by decide) (d_c' rfl rfl (t_call [g] T.cf65 rfl rfl) (hg _) ?_)
  rintro _ _ ⟨rfl, rfl⟩
  refine ⟨_, rfl, ?_⟩
  have hS36 := hS17
  refine ⟨fun _ => hS36, ?_⟩
  refine d_e (by decide) (d_c' rfl rfl (t_call [.int .i64 ((el es i).1), .int .i64 ((el es k).1)] hcf rfl rfl) (hcmp (el es i).1 (el es k).1 _) ?_)
  rintro _ w37 ⟨rfl, hx38⟩
  refine ⟨_, rfl, ?_⟩
  have hB39 := hB12.ext hx38
  have hF40 := hF13.ext hx38
  have hF41 := hc25.ext hx38
  have hF42 := hc33.ext hx38
  have hE43 : Below w0.heap.size w0 w37 := hx38.e hE14 (Nat.le_refl _)
  have hz44 := hE43.le
  have hs45 := hx38.size
  have hS46 := hS36.trans (hx38.mono hS36.size)
  refine ⟨fun _ => hS46, ?_⟩
  refine d_q (v := .int .i64 (c (el es i).1 (el es k).1)) rfl rfl (fun _ => x_assign rfl) ?_
  refine d_done ?_
  refine kn6 _ _ ?_
  refine seqK fun Q47 kn48 kr49 ke50 => ?_
  refine regionD1 [9, 13, 17, 21] [0, 1, 2, 3, 4, 5, 6, 7, 8, 9, 10, 11, 12, 13, 14, 15, 16, 17, 18, 19, 20, 21, 22, 23, 24, 25] (.one 0 (.one 1 (.one 2 (.one 3 (.one 4 (.one 5 (.one 6 (.one 7 (.one 8 (.one 9 (.one 10 (.one 11 (.one 12 (.one 13 (.one 14 (.one 15 (.one 16 (.one 17 (.one 18 (.one 19 (.one 20 (.one 21 (.one 22 (.one 23 (.one 24 (.one 25 .done)))))))))))))))))))))))))) (by kernel_rfl) (by kernel_rfl) ?_
  intro w51 hx52 hs53
  have hB54 := hB39.ext hx52
  have hF55 := hF40.ext hx52
  have hF56 := hF41.ext hx52
  have hF57 := hF42.ext hx52
  have hE58 : Below w0.heap.size w0 w51 := hx52.e hE43 (Nat.le_refl _)
  have hz59 := hE58.le
  have hs60 := hx52.size
  have hS61 : Ext w51 w51 := Below.refl _ _
  refine d_q (v := .int .i64 (c (el es i).1 (el es k).1)) rfl rfl (fun _ => x_move rfl) ?_
  refine d_q (v := .bool (decide ((c (el es i).1 (el es k).1) < 0))) rfl rfl (fun _ => x_lss rfl rfl) ?_
  refine d_if rfl rfl (p := (c (el es i).1 (el es k).1) < 0) (fun _ => x_move rfl) (fun h62 => ?_) (fun h62 => ?_)
  ·
    refine d_gn (j := 2) (t := 32) rfl rfl rfl rfl (by decide) rfl ?_
    refine d_gn (j := 2) (t := 32) rfl rfl rfl rfl (by decide) rfl ?_
    refine d_gn (j := 2) (t := 32) rfl rfl rfl rfl (by decide) rfl ?_
    refine d_gu (j := 5) (t := 35) rfl rfl rfl rfl (by decide) ?_
    refine d_gu (j := 5) (t := 35) rfl rfl rfl rfl (by decide) ?_
    refine d_gu (j := 5) (t := 35) rfl rfl rfl rfl (by decide) ?_
    refine d_gu (j := 5) (t := 35) rfl rfl rfl rfl (by decide) ?_
    refine d_gu (j := 5) (t := 35) rfl rfl rfl rfl (by decide) ?_
    refine d_gu (j := 5) (t := 35) rfl rfl rfl rfl (by decide) ?_
    refine d_gu (j := 5) (t := 35) rfl rfl rfl rfl (by decide) ?_
    refine d_gu (j := 5) (t := 35) rfl rfl rfl rfl (by decide) ?_
    refine d_gu (j := 5) (t := 35) rfl rfl rfl rfl (by decide) ?_
    refine d_gu (j := 5) (t := 35) rfl rfl rfl rfl (by decide) ?_
    refine d_gu (j := 5) (t := 35) rfl rfl rfl rfl (by decide) ?_
    refine d_gu (j := 5) (t := 35) rfl rfl rfl rfl (by decide) ?_
    refine d_gu (j := 5) (t := 35) rfl rfl rfl rfl (by decide) ?_
    refine d_gu (j := 5) (t := 35) rfl rfl rfl rfl (by decide) ?_
    refine d_gu (j := 5) (t := 35) rfl rfl rfl rfl (by decide) ?_
    refine d_gu (j := 5) (t := 35) rfl rfl rfl rfl (by decide) ?_
    refine d_gu (j := 5) (t := 35) rfl rfl rfl rfl (by decide) ?_
    refine d_gn (j := 2) (t := 32) rfl rfl rfl rfl (by decide) rfl ?_
    refine d_q (v := .bool true) rfl rfl (fun _ => x_pickT rfl rfl) ?_
    refine d_q (v := .bool true) rfl rfl (fun _ => x_assign rfl) ?_
    refine d_done ?_
    refine kn48 _ _ ?_
    refine ret ?_
    refine leave1 (P := Try.prog) (fn := Try.f66) (t := 6) (v := .bool true) rfl rfl ?_
    first | exact ⟨by rw [ah_t (by assumption)], hE58⟩ | exact ⟨by rw [ah_n (by assumption) (by assumption)], hE58⟩ | exact ⟨by rw [ah_f (by assumption) (by assumption)], hE58⟩
  ·
    refine d_gq (v := .int .i64 (c (el es i).1 (el es k).1)) (j := 2) (t := 32) rfl rfl rfl rfl (by decide) (fun _ => x_move rfl) ?_
    refine d_gq (v := .bool (decide ((c (el es i).1 (el es k).1) = 0))) (j := 2) (t := 32) rfl rfl rfl rfl (by decide) (fun _ => x_eql rfl rfl) ?_
    refine d_gif (j := 2) (t := 32) rfl rfl rfl rfl (by decide) (p := (c (el es i).1 (el es k).1) = 0) (fun _ => x_move rfl) (fun h63 => ?_) (fun h63 => ?_)
    ·
      refine d_gq (v := .pointer (some ⟨b, 0, none⟩)) (j := 5) (t := 35) rfl rfl rfl rfl (by decide) (fun _ => x_move rfl) ?_
      refine d_gq (v := .pointer (some ⟨b, 0, none⟩)) (j := 5) (t := 35) rfl rfl rfl rfl (by decide) (fun _ => x_nilCheck rfl) ?_
      refine d_gq (v := .pointer (some ⟨b, 1, none⟩)) (j := 5) (t := 35) rfl rfl rfl rfl (by decide) (fun _ => x_field (o := 0) T.fa92_1 rfl) ?_
      refine d_gl (v := .slice a es.length ca) (j := 5) (t := 35) rfl rfl rfl rfl rfl (by decide) (fun v65 hw64 => x_load1 T.na90 rfl ((hB54.one 1 rfl).ext hw64)) ?_
      refine d_gq (v := .int .i64 ((i : Nat) : Int)) (j := 5) (t := 35) rfl rfl rfl rfl (by decide) (fun _ => x_move rfl) ?_
      obtain ⟨b66, o67, ha68, hc69⟩ := hF55.src.at (by omega)
      refine d_gq (v := .pointer (some ⟨b66, o67 + i * 2, none⟩)) (j := 5) (t := 35) rfl rfl rfl rfl (by decide) (fun _ => x_index' T.sl90 rfl ha68 rfl (by omega)) ?_
      refine d_gq (v := .pointer (some ⟨b66, o67 + i * 2 + 1, none⟩)) (j := 5) (t := 35) rfl rfl rfl rfl (by decide) (fun _ => x_field (o := o67 + i * 2) T.fa94_1 rfl) ?_
      refine d_gl (v := .int .i64 (((el es i).2 : Nat) : Int)) (j := 5) (t := 35) rfl rfl rfl rfl rfl (by decide) (fun v71 hw70 => x_load1 T.na3 rfl (((hc69.elem (enE_len enI_len) (i := i) (by omega)).fld 1 rfl).ext hw70)) ?_
      refine d_gq (v := .pointer (some ⟨b, 0, none⟩)) (j := 5) (t := 35) rfl rfl rfl rfl (by decide) (fun _ => x_move rfl) ?_
      refine d_gq (v := .pointer (some ⟨b, 0, none⟩)) (j := 5) (t := 35) rfl rfl rfl rfl (by decide) (fun _ => x_nilCheck rfl) ?_
      refine d_gq (v := .pointer (some ⟨b, 1, none⟩)) (j := 5) (t := 35) rfl rfl rfl rfl (by decide) (fun _ => x_field (o := 0) T.fa92_1 rfl) ?_
      refine d_gl (v := .slice a es.length ca) (j := 5) (t := 35) rfl rfl rfl rfl rfl (by decide) (fun v73 hw72 => x_load1 T.na90 rfl ((hB54.one 1 rfl).ext hw72)) ?_
      refine d_gq (v := .int .i64 ((k : Nat) : Int)) (j := 5) (t := 35) rfl rfl rfl rfl (by decide) (fun _ => x_move rfl) ?_
      obtain ⟨b74, o75, ha76, hc77⟩ := hF55.src.at (by omega)
      refine d_gq (v := .pointer (some ⟨b74, o75 + k * 2, none⟩)) (j := 5) (t := 35) rfl rfl rfl rfl (by decide) (fun _ => x_index' T.sl90 rfl ha76 rfl (by omega)) ?_
      refine d_gq (v := .pointer (some ⟨b74, o75 + k * 2 + 1, none⟩)) (j := 5) (t := 35) rfl rfl rfl rfl (by decide) (fun _ => x_field (o := o75 + k * 2) T.fa94_1 rfl) ?_
      refine d_gl (v := .int .i64 (((el es k).2 : Nat) : Int)) (j := 5) (t := 35) rfl rfl rfl rfl rfl (by decide) (fun v79 hw78 => x_load1 T.na3 rfl (((hc77.elem (enE_len enI_len) (i := k) (by omega)).fld 1 rfl).ext hw78)) ?_
      refine d_gq (v := .bool (decide (((el es i).2) < ((el es k).2)))) (j := 5) (t := 35) rfl rfl rfl rfl (by decide) (fun _ => x_lssN rfl rfl) ?_
      refine d_gq (v := .bool (decide (((el es i).2) < ((el es k).2)))) (j := 2) (t := 32) rfl rfl rfl rfl (by decide) (fun _ => x_pickT rfl rfl) ?_
      refine d_q (v := .bool (decide (((el es i).2) < ((el es k).2)))) rfl rfl (fun _ => x_pickF rfl rfl) ?_
      refine d_q (v := .bool (decide (((el es i).2) < ((el es k).2)))) rfl rfl (fun _ => x_assign rfl) ?_
      refine d_done ?_
      refine kn48 _ _ ?_
      refine ret ?_
      refine leave1 (P := Try.prog) (fn := Try.f66) (t := 6) (v := .bool (decide (((el es i).2) < ((el es k).2)))) rfl rfl ?_
      first | exact ⟨by rw [ah_t (by assumption)], hE58⟩ | exact ⟨by rw [ah_n (by assumption) (by assumption)], hE58⟩ | exact ⟨by rw [ah_f (by assumption) (by assumption)], hE58⟩
    ·
      refine d_gn (j := 5) (t := 35) rfl rfl rfl rfl (by decide) rfl ?_
      refine d_gn (j := 5) (t := 35) rfl rfl rfl rfl (by decide) rfl ?_
      refine d_gn (j := 5) (t := 35) rfl rfl rfl rfl (by decide) rfl ?_
      refine d_gn (j := 5) (t := 35) rfl rfl rfl rfl (by decide) rfl ?_
      refine d_gn (j := 5) (t := 35) rfl rfl rfl rfl (by decide) rfl ?_
      refine d_gn (j := 5) (t := 35) rfl rfl rfl rfl (by decide) rfl ?_
      refine d_gn (j := 5) (t := 35) rfl rfl rfl rfl (by decide) rfl ?_
      refine d_gn (j := 5) (t := 35) rfl rfl rfl rfl (by decide) rfl ?_
      refine d_gn (j := 5) (t := 35) rfl rfl rfl rfl (by decide) rfl ?_
      refine d_gn (j := 5) (t := 35) rfl rfl rfl rfl (by decide) rfl ?_
      refine d_gn (j := 5) (t := 35) rfl rfl rfl rfl (by decide) rfl ?_
      refine d_gn (j := 5) (t := 35) rfl rfl rfl rfl (by decide) rfl ?_
      refine d_gn (j := 5) (t := 35) rfl rfl rfl rfl (by decide) rfl ?_
      refine d_gn (j := 5) (t := 35) rfl rfl rfl rfl (by decide) rfl ?_
      refine d_gn (j := 5) (t := 35) rfl rfl rfl rfl (by decide) rfl ?_
      refine d_gn (j := 5) (t := 35) rfl rfl rfl rfl (by decide) rfl ?_
      refine d_gn (j := 5) (t := 35) rfl rfl rfl rfl (by decide) rfl ?_
      refine d_gq (v := .bool false) (j := 2) (t := 32) rfl rfl rfl rfl (by decide) (fun _ => x_pickF rfl rfl) ?_
      refine d_q (v := .bool false) rfl rfl (fun _ => x_pickF rfl rfl) ?_
      refine d_q (v := .bool false) rfl rfl (fun _ => x_assign rfl) ?_
      refine d_done ?_
      refine kn48 _ _ ?_
      refine ret ?_
      refine leave1 (P := Try.prog) (fn := Try.f66) (t := 6) (v := .bool false) rfl rfl ?_
      first | exact ⟨by rw [ah_t (by assumption)], hE58⟩ | exact ⟨by rw [ah_n (by assumption) (by assumption)], hE58⟩ | exact ⟨by rw [ah_f (by assumption) (by assumption)], hE58⟩

set_option maxHeartbeats 4000000 in
theorem peek67_0 (lo b nx : Nat) (g v : Value) (es : List (Int × Nat)) (w0 : World) (hH : HeapR w0.heap lo 92 94 2 (enE enI) b g v es nx) (hz : es.length = 0) : Calls Try.prog 67 #[.pointer (some ⟨b, 0, none⟩)] w0 fun e w' => e = .returned (.tuple #[.int .i64 ((0 : Nat) : Int), .bool false]) ∧ Ext w0 w' := by
  have hE0 : Below w0.heap.size w0 w0 := Below.refl _ _
  have hz0 := hE0.le
  obtain ⟨hge, hB, hO, hne⟩ := hH
  obtain ⟨a, ca, rfl, hca, hca1⟩ := hO.src.form
  have hbl := hB.lt
  have hvl : ∀ k, Value.ownBlock (.slice a es.length ca) = some k → lo ≤ k ∧ k < w0.heap.size := fun k hk => hO.lt hk
  refine enter Try.func67 rfl 23 Try.ntmps67 rfl ?_
  refine seqK fun Q1 kn2 kr3 ke4 => ?_
  refine region ?_
  refine st_q (v := .int .i64 ((0 : Nat) : Int)) (x_assign rfl) ?_
  refine st_q (v := .bool false) (x_assign rfl) ?_
  refine st_nil ?_
  refine kn2 _ _ ?_
  refine seqK fun Q5 kn6 kr7 ke8 => ?_
  refine seqK fun Q9 kn10 kr11 ke12 => ?_
  refine region ?_
  refine st_q (v := .pointer (some ⟨b, 0, none⟩)) (x_move rfl) ?_
  refine st_q (v := .bool false) (x_eqlPnil (p := some ⟨b, 0, none⟩) Try.underlying72 rfl rfl) ?_
  refine st_q (v := .bool false) (x_move rfl) ?_
  refine st_gq 2 7 rfl rfl (by decide) ?_
  refine st_q (v := .pointer (some ⟨b, 0, none⟩)) (x_move rfl) ?_
  refine st_gq 2 7 rfl rfl (by decide) ?_
  refine st_q (v := .pointer (some ⟨b, 0, none⟩)) (x_nilCheck rfl) ?_
  refine st_gq 2 7 rfl rfl (by decide) ?_
  refine st_q (v := .pointer (some ⟨b, 1, none⟩)) (x_field (o := 0) T.fa92_1 rfl) ?_
  refine st_gq 2 7 rfl rfl (by decide) ?_
  refine st_q (v := .slice a es.length ca) (x_load1 T.na90 rfl (hB.one 1 rfl)) ?_
  refine st_gq 2 7 rfl rfl (by decide) ?_
  refine st_q (v := .int .i64 ((es.length : Nat) : Int)) (x_lenSl rfl Try.underlying90 rfl) ?_
  refine st_gq 2 7 rfl rfl (by decide) ?_
  refine st_q (v := .bool (decide (es.length = 0))) (x_eqlN rfl rfl) ?_
  refine st_q (v := .bool (decide (es.length = 0))) (x_pickF rfl rfl) ?_
  refine st_nil ?_
  refine kn10 _ _ ?_
  refine cnd (p := es.length = 0) rfl (fun h13 => ?_) (fun h13 => ?_)
  ·
    refine seqK fun Q14 kn15 kr16 ke17 => ?_
    refine region ?_
    refine st_q (v := .int .i64 ((0 : Nat) : Int)) (x_assign rfl) ?_
    refine st_nil ?_
    refine kn15 _ _ ?_
    refine seqK fun Q18 kn19 kr20 ke21 => ?_
    refine region ?_
    refine st_q (v := .int .i64 ((0 : Nat) : Int)) (x_move rfl) ?_
    refine st_q (v := .int .i64 ((0 : Nat) : Int)) (x_assign rfl) ?_
    refine st_q (v := .bool false) (x_assign rfl) ?_
    refine st_nil ?_
    refine kn19 _ _ ?_
    refine ret ?_
    refine kr7 _ _ ?_
    refine leave2 (P := Try.prog) (fn := Try.f67) (t := 2) (u := 3) (v := .int .i64 ((0 : Nat) : Int)) (v' := .bool false) rfl rfl rfl ?_
    exact ⟨rfl, hE0⟩
  ·
    exact absurd h13 (by omega)

set_option maxHeartbeats 4000000 in
theorem peek67_1 (lo b nx : Nat) (g v : Value) (es : List (Int × Nat)) (w0 : World) (hH : HeapR w0.heap lo 92 94 2 (enE enI) b g v es nx) (hz : 0 < es.length) : Calls Try.prog 67 #[.pointer (some ⟨b, 0, none⟩)] w0 fun e w' => e = .returned (.tuple #[.int .i64 (el es 0).1, .bool true]) ∧ Ext w0 w' := by
  have hE0 : Below w0.heap.size w0 w0 := Below.refl _ _
  have hz0 := hE0.le
  obtain ⟨hge, hB, hO, hne⟩ := hH
  obtain ⟨a, ca, rfl, hca, hca1⟩ := hO.src.form
  have hbl := hB.lt
  have hvl : ∀ k, Value.ownBlock (.slice a es.length ca) = some k → lo ≤ k ∧ k < w0.heap.size := fun k hk => hO.lt hk
  refine enter Try.func67 rfl 23 Try.ntmps67 rfl ?_
  refine seqK fun Q1 kn2 kr3 ke4 => ?_
  refine region ?_
  refine st_q (v := .int .i64 ((0 : Nat) : Int)) (x_assign rfl) ?_
  refine st_q (v := .bool false) (x_assign rfl) ?_
  refine st_nil ?_
  refine kn2 _ _ ?_
  refine seqK fun Q5 kn6 kr7 ke8 => ?_
  refine seqK fun Q9 kn10 kr11 ke12 => ?_
  refine region ?_
  refine st_q (v := .pointer (some ⟨b, 0, none⟩)) (x_move rfl) ?_
  refine st_q (v := .bool false) (x_eqlPnil (p := some ⟨b, 0, none⟩) Try.underlying72 rfl rfl) ?_
  refine st_q (v := .bool false) (x_move rfl) ?_
  refine st_gq 2 7 rfl rfl (by decide) ?_
  refine st_q (v := .pointer (some ⟨b, 0, none⟩)) (x_move rfl) ?_
  refine st_gq 2 7 rfl rfl (by decide) ?_
  refine st_q (v := .pointer (some ⟨b, 0, none⟩)) (x_nilCheck rfl) ?_
  refine st_gq 2 7 rfl rfl (by decide) ?_
  refine st_q (v := .pointer (some ⟨b, 1, none⟩)) (x_field (o := 0) T.fa92_1 rfl) ?_
  refine st_gq 2 7 rfl rfl (by decide) ?_
  refine st_q (v := .slice a es.length ca) (x_load1 T.na90 rfl (hB.one 1 rfl)) ?_
  refine st_gq 2 7 rfl rfl (by decide) ?_
  refine st_q (v := .int .i64 ((es.length : Nat) : Int)) (x_lenSl rfl Try.underlying90 rfl) ?_
  refine st_gq 2 7 rfl rfl (by decide) ?_
  refine st_q (v := .bool (decide (es.length = 0))) (x_eqlN rfl rfl) ?_
  refine st_q (v := .bool (decide (es.length = 0))) (x_pickF rfl rfl) ?_
  refine st_nil ?_
  refine kn10 _ _ ?_
  refine cnd (p := es.length = 0) rfl (fun h13 => ?_) (fun h13 => ?_)
  ·
    exact absurd h13 (by omega)
  ·
    refine skip ?_
    refine kn6 _ _ ?_
    refine seqK fun Q14 kn15 kr16 ke17 => ?_
    refine region ?_
    refine st_q (v := .pointer (some ⟨b, 0, none⟩)) (x_move rfl) ?_
    refine st_q (v := .pointer (some ⟨b, 0, none⟩)) (x_nilCheck rfl) ?_
    refine st_q (v := .pointer (some ⟨b, 1, none⟩)) (x_field (o := 0) T.fa92_1 rfl) ?_
    refine st_q (v := .slice a es.length ca) (x_load1 T.na90 rfl (hB.one 1 rfl)) ?_
    obtain ⟨b18, o19, ha20, hc21⟩ := hO.src.at (by omega)
    refine st_q (v := .pointer (some ⟨b18, o19 + 0 * 2, none⟩)) (x_index' T.sl90 rfl ha20 rfl (by omega)) ?_
    refine st_q (v := .pointer (some ⟨b18, o19 + 0 * 2, none⟩)) (x_field (o := o19 + 0 * 2) T.fa94_0 rfl) ?_
    refine st_q (v := .int .i64 ((el es 0).1)) (x_load1 T.na3 rfl ((hc21.elem (enE_len enI_len) (i := 0) (by omega)).fld 0 rfl)) ?_
    refine st_q (v := .int .i64 ((el es 0).1)) (x_assign rfl) ?_
    refine st_q (v := .bool true) (x_assign rfl) ?_
    refine st_nil ?_
    refine kn15 _ _ ?_
    refine ret ?_
    refine leave2 (P := Try.prog) (fn := Try.f67) (t := 2) (u := 3) (v := .int .i64 ((el es 0).1)) (v' := .bool true) rfl rfl rfl ?_
    exact ⟨rfl, hE0⟩

set_option maxHeartbeats 4000000 in
theorem push50 (lo fc : Nat) (c : Int → Int → Int) (hcf : CF Try.prog fc) (hcmp : CmpI fc c) (hL : Lawful c) (g : Value) (hg : ToldI g fc) (b nx : Nat) (v : Value) (es : List (Int × Nat)) (z : Int) (w0 : World) (hH : HeapR w0.heap lo 92 94 2 (enE enI) b g v es nx) (hlen : es.length ≤ 4398046511104) (hnx : nx ≤ 4611686018427387904) (hhp : HP (ah c) es) : Calls Try.prog 50 #[.pointer (some ⟨b, 0, none⟩), .int .i64 z] w0 fun e w' => e = .returned (.tuple #[]) ∧ ∃ v' es', Mod (fun k => k = b ∨ v.ownBlock = some k) w0 w' ∧ HeapR w'.heap lo 92 94 2 (enE enI) b g v' es' (nx + 1) ∧ HP (ah c) es' ∧ es'.Perm (es ++ [(z, nx)]) ∧ (v'.ownBlock = v.ownBlock ∨ ∀ k, v'.ownBlock = some k → w0.heap.size ≤ k) := by
  have hE0 : Mod (fun k => k = b ∨ v.ownBlock = some k) w0 w0 := Mod.refl _ _
  have hz0 := hE0.le
  obtain ⟨hge, hB, hO, hne⟩ := hH
  obtain ⟨a, ca, rfl, hca, hca1⟩ := hO.src.form
  have hbl := hB.lt
  have hvl : ∀ k, Value.ownBlock (.slice a es.length ca) = some k → lo ≤ k ∧ k < w0.heap.size := fun k hk => hO.lt hk
  refine enter Try.func50 rfl 78 Try.ntmps50 rfl ?_
  refine seqK fun Q1 kn2 kr3 ke4 => ?_
  refine seqK fun Q5 kn6 kr7 ke8 => ?_
  refine region ?_
  refine st_q (v := .pointer (some ⟨b, 0, none⟩)) (x_move rfl) ?_
  refine st_q (v := .bool false) (x_eqlPnil (p := some ⟨b, 0, none⟩) Try.underlying72 rfl rfl) ?_
  refine st_nil ?_
  refine kn6 _ _ ?_
  refine cndF rfl ?_
  refine skip ?_
  refine kn2 _ _ ?_
  refine seqK fun Q9 kn10 kr11 ke12 => ?_
  refine regionD1 [4, 9] [0, 1, 2, 3, 4, 5, 6, 7, 8, 9, 10, 13, 14] (.one 0 (.one 1 (.one 2 (.one 3 (.one 4 (.one 5 (.one 6 (.one 7 (.one 8 (.one 9 (.one 10 (.one 11 (.one 12 (.one 13 (.one 14 (.one 15 .done)))))))))))))))) (by kernel_rfl) (by kernel_rfl) ?_
  intro w13 hx14 hs15
  have hB16 := hB.ext hx14
  have hF17 := hO.ext hx14
  have hE18 : Mod (fun k => k = b ∨ Value.ownBlock (.slice a es.length ca) = some k) w0 w13 := hE0.ext hx14
  have hz19 := hE18.le
  have hs20 := hx14.size
  have hS21 : Ext w13 w13 := Below.refl _ _
  refine d_q (v := .pointer (some ⟨b, 0, none⟩)) rfl rfl (fun _ => x_move rfl) ?_
  refine d_q (v := .pointer (some ⟨b, 0, none⟩)) rfl rfl (fun _ => x_move rfl) ?_
  refine d_q (v := .pointer (some ⟨b, 0, none⟩)) rfl rfl (fun _ => x_nilCheck rfl) ?_
  refine d_q (v := .pointer (some ⟨b, 1, none⟩)) rfl rfl (fun _ => x_field (o := 0) T.fa92_1 rfl) ?_
  refine d_l (v := .slice a es.length ca) rfl rfl rfl (fun v23 hw22 => x_load1 T.na90 rfl ((hB16.one 1 rfl).ext hw22)) ?_
  refine d_q (v := .int .i64 z) rfl rfl (fun _ => x_move rfl) ?_
  refine d_q (v := .pointer (some ⟨b, 0, none⟩)) rfl rfl (fun _ => x_move rfl) ?_
  refine d_q (v := .pointer (some ⟨b, 0, none⟩)) rfl rfl (fun _ => x_nilCheck rfl) ?_
  refine d_q (v := .pointer (some ⟨b, 2, none⟩)) rfl rfl (fun _ => x_field (o := 0) T.fa92_2 rfl) ?_
  refine d_l (v := .int .i64 ((nx : Nat) : Int)) rfl rfl rfl (fun v25 hw24 => x_load1 T.na3 rfl ((hB16.one 2 rfl).ext hw24)) ?_
  refine d_q (v := .agg #[.int .i64 z, .int .i64 ((nx : Nat) : Int)]) rfl rfl (fun _ => x_build (fun _ => by kernel_rfl)) ?_
  refine d_e (by decide) (d_e' rfl rfl (e_buildSlice (cs := [.int .i64 z, .int .i64 ((nx : Nat) : Int)]) (e := 94) (fun _ => by kernel_rfl) ?_))
  intro w26 hA27
  have hx28 := hA27.ext
  have hs29 := hA27.size
  have hB30 : Blk w26.heap w13.heap.size [.int .i64 z, .int .i64 ((nx : Nat) : Int)] 94 := hA27.new
  have hB31 := hB16.ext hx28
  have hF32 := hF17.ext hx28
  have hE33 : Mod (fun k => k = b ∨ Value.ownBlock (.slice a es.length ca) = some k) w0 w26 := hE18.ext hx28
  have hz34 := hE33.le
  have hs35 := hx28.size
  have hS36 := hS21.trans (hx28.mono hS21.size)
  refine ⟨fun _ => hS36, ?_⟩
  refine d_e (by decide) (d_e' rfl rfl (e_appendX T.sl90 rfl rfl hF32 (hB30.src1 (k := 2) (m := 1) rfl (by omega)) (ones (by rfl)) (by omega) (by decide) (by omega) ?_))
  intro v37 w38 hO39 hG40 hN41 hW42
  have hB43 := hB31.grown hG40 (fun e => by first | exact hne e | (have := hvl _ e; omega))
  have hE44 : Mod (fun k => k = b ∨ Value.ownBlock (.slice a es.length ca) = some k) w0 w38 := hE33.grown hG40 (fun b hb => .inl (.inr hb))
  have hz45 := hE44.le
  refine ⟨need_no (by kernel_rfl), ?_⟩
  obtain ⟨b1, c1, rfl, hm1, hO1⟩ := (show Own w38.heap lo 94 2 v37 (es.length + 1) (flat (enE enI) (es ++ [(z, nx)])) from hO39.snoc).ob (hN41 (by omega))
  have hbS : (Value.slice (some ⟨b1, 0, none⟩) (es.length + 1) c1).ownBlock = Value.ownBlock (.slice a es.length ca) ∨ w0.heap.size ≤ b1 := hW42.imp (fun e => e) (fun e => by have := e.2 b1 rfl; omega)
  have hb1 : b1 ≠ b := fun e => by subst e; rcases hbS with h | h; exact hne h.symm; omega
  have hbS2 : (b1 = b ∨ Value.ownBlock (.slice a es.length ca) = some b1) ∨ w0.heap.size ≤ b1 := hbS.imp (fun e => .inr e.symm) (fun e => e)
  have hl46 := hO1.lo
  have hl47 := hO1.lt
  refine d_q (v := .pointer (some ⟨b, 0, none⟩)) rfl rfl (fun _ => x_nilCheck rfl) ?_
  refine d_q (v := .pointer (some ⟨b, 1, none⟩)) rfl rfl (fun _ => x_field (o := 0) T.fa92_1 rfl) ?_
  refine d_e (by decide) (d_s' rfl rfl (e_st (v := .slice ((some ⟨b1, 0, none⟩)) ((es.length + 1)) c1) T.sz90 rfl rfl hB43 (by simp [Value.cells]) (by rfl) ?_))
  intro w48 hP49
  have hB50 : Blk w48.heap b [g, .slice ((some ⟨b1, 0, none⟩)) ((es.length + 1)) c1, .int .i64 ((nx : Nat) : Int)] 92 := hP49.new
  have hs51 := hP49.size
  have hF52 := hO1.pt hP49 (by omega)
  have hE53 : Mod (fun k => k = b ∨ Value.ownBlock (.slice a es.length ca) = some k) w0 w48 := hE44.pt hP49 (.inl (.inl rfl))
  have hz54 := hE53.le
  refine ⟨need_no (by kernel_rfl), ?_⟩
  refine d_done ?_
  refine kn10 _ _ ?_
  refine seqK fun Q55 kn56 kr57 ke58 => ?_
  refine region ?_
  refine st_q (v := .pointer (some ⟨b, 0, none⟩)) (x_move rfl) ?_
  refine st_q (v := .pointer (some ⟨b, 0, none⟩)) (x_nilCheck rfl) ?_
  refine st_q (v := .pointer (some ⟨b, 2, none⟩)) (x_field (o := 0) T.fa92_2 rfl) ?_
  refine st_q (v := .int .i64 ((nx : Nat) : Int)) (x_load1 T.na3 rfl (hB50.one 2 rfl)) ?_
  refine st_q (v := .int .i64 (((nx + 1) : Nat) : Int)) (x_addN rfl rfl (by omega)) ?_
  refine st_q (v := .pointer (some ⟨b, 0, none⟩)) (x_nilCheck rfl) ?_
  refine st_q (v := .pointer (some ⟨b, 2, none⟩)) (x_field (o := 0) T.fa92_2 rfl) ?_
  refine st_s (e_st (v := .int .i64 (((nx + 1) : Nat) : Int)) T.sz3 rfl rfl hB50 (by simp [Value.cells]) (by rfl) ?_)
  intro w59 hP60
  have hB61 : Blk w59.heap b [g, .slice ((some ⟨b1, 0, none⟩)) ((es.length + 1)) c1, .int .i64 (((nx + 1) : Nat) : Int)] 92 := hP60.new
  have hs62 := hP60.size
  have hF63 := hF52.pt hP60 (by omega)
  have hE64 : Mod (fun k => k = b ∨ Value.ownBlock (.slice a es.length ca) = some k) w0 w59 := hE53.pt hP60 (.inl (.inl rfl))
  have hz65 := hE64.le
  refine st_nil ?_
  refine kn56 _ _ ?_
  refine seqK fun Q66 kn67 kr68 ke69 => ?_
  refine region ?_
  refine st_q (v := .pointer (some ⟨b, 0, none⟩)) (x_move rfl) ?_
  refine st_q (v := .pointer (some ⟨b, 0, none⟩)) (x_nilCheck rfl) ?_
  refine st_q (v := .pointer (some ⟨b, 1, none⟩)) (x_field (o := 0) T.fa92_1 rfl) ?_
  refine st_q (v := .slice ((some ⟨b1, 0, none⟩)) ((es.length + 1)) c1) (x_load1 T.na90 rfl (hB61.one 1 rfl)) ?_
  refine st_q (v := .int .i64 (((es.length + 1) : Nat) : Int)) (x_lenSl rfl Try.underlying90 rfl) ?_
  refine st_q (v := .int .i64 ((((es.length + 1) - 1) : Nat) : Int)) (x_subN rfl rfl (by omega) (by omega)) ?_
  refine st_q (v := .int .i64 ((((es.length + 1) - 1) : Nat) : Int)) (x_assign rfl) ?_
  refine st_nil ?_
  refine kn67 _ _ ?_
  refine blockK fun Q70 kn71 kr72 kx73 kb74 => ?_
  refine loopK (α := Nat × (List (Int × Nat))) (fun x => [(0, .pointer (some ⟨b, 0, none⟩)), (4, .int .i64 ((x.1 : Nat) : Int))]) (fun x w75 => Mod (fun k => k = b ∨ Value.ownBlock (.slice a es.length ca) = some k) w0 w75 ∧ Blk w75.heap b [g, .slice ((some ⟨b1, 0, none⟩)) ((es.length + 1)) c1, .int .i64 (((nx + 1) : Nat) : Int)] 92 ∧ OB w75.heap lo 94 2 b1 c1 (flat (enE enI) x.2) ∧ x.2.length = es.length + 1 ∧ UpI (ah c) x.2 x.1 ∧ x.2.Perm (es ++ [(z, nx)])) (fun x => x.1) ((es.length + 1 - 1), (es ++ [(z, nx)])) ⟨rfl, rfl, trivial⟩ ?_ ?_
  ·
    refine ⟨hE64, ?_⟩
    try dsimp only
    exact ⟨hB61, hF63, by simp, by rw [Nat.add_sub_cancel]; exact up_start hhp _, List.Perm.refl _⟩
  ·
    rintro τ76 ⟨i, es2⟩ w77 ⟨hx78, ⟨hB1, hO2, hLL, hU, hP⟩⟩
    try dsimp only at hB1 hO2 hLL hU hP
    have hz79 := hx78.le
    intro Q80 kn81 kr82 ke83
    have hl84 := hO2.lo
    have hl85 := hO2.lt
    have hi0 := hU.1
    refine seqK fun Q86 kn87 kr88 ke89 => ?_
    refine seqK fun Q90 kn91 kr92 ke93 => ?_
    refine region ?_
    refine st_q (v := .int .i64 ((i : Nat) : Int)) (x_move rfl) ?_
    refine st_q (v := .bool (decide (0 < i))) (x_gtrN rfl rfl) ?_
    refine st_if (p := 0 < i) (x_move rfl) (fun h94 => ?_) (fun h94 => ?_)
    ·
      refine st_gq 2 37 rfl rfl (by decide) ?_
      refine st_q (v := .pointer (some ⟨b, 0, none⟩)) (x_move rfl) ?_
      refine st_gq 2 37 rfl rfl (by decide) ?_
      refine st_q (v := .int .i64 ((i : Nat) : Int)) (x_move rfl) ?_
      refine st_gq 2 37 rfl rfl (by decide) ?_
      refine st_q (v := .int .i64 ((i : Nat) : Int)) (x_move rfl) ?_
      refine st_gq 2 37 rfl rfl (by decide) ?_
      refine st_q (v := .int .i64 (((i - 1) : Nat) : Int)) (x_subN rfl rfl (by omega) (by omega)) ?_
      refine st_gq 2 37 rfl rfl (by decide) ?_
      refine st_q (v := .int .i64 ((((i - 1) / 2) : Nat) : Int)) (x_quoN rfl rfl (by omega) (by omega)) ?_
      refine st_gq 2 37 rfl rfl (by decide) ?_
      have hH97 := HeapR.of_ob (enE_len enI_len) hge hB1 hO2 hm1 hLL hb1
      refine st_c (t_call [.pointer (some ⟨b, 0, none⟩), .int .i64 ((i : Nat) : Int), .int .i64 ((((i - 1) / 2) : Nat) : Int)] T.cf66 rfl rfl) (ahead66 lo fc c hcf hcmp g hg b (nx + 1) _ es2 i ((i - 1) / 2) _ hH97 (by omega) (by omega)) ?_
      rintro _ w95 ⟨rfl, hx96⟩
      refine ⟨_, rfl, ?_⟩
      have hB98 := hB1.ext hx96
      have hF99 := hO2.ext hx96
      have hE100 : Mod (fun k => k = b ∨ Value.ownBlock (.slice a es.length ca) = some k) w0 w95 := hx78.ext hx96
      have hz101 := hE100.le
      have hs102 := hx96.size
      refine st_q (v := .bool (decide (ah c (el es2 i) (el es2 ((i - 1) / 2))))) (x_pickT rfl rfl) ?_
      refine st_nil ?_
      refine kn91 _ _ ?_
      refine cnd (p := ah c (el es2 i) (el es2 ((i - 1) / 2))) rfl (fun h103 => ?_) (fun h103 => ?_)
      ·
        refine skip ?_
        refine kn87 _ _ ?_
        refine seqK fun Q104 kn105 kr106 ke107 => ?_
        refine blockK fun Q108 kn109 kr110 kx111 kb112 => ?_
        refine regionD1 [3, 8, 15, 20, 24, 27] [0, 1, 2, 3, 4, 5, 6, 7, 8, 9, 10, 11, 12, 13, 14, 15, 16, 17, 18, 19, 20, 21, 22, 23, 24, 25, 26, 27, 28, 30] (.one 0 (.one 1 (.one 2 (.one 3 (.one 4 (.one 5 (.one 6 (.one 7 (.one 8 (.one 9 (.one 10 (.one 11 (.one 12 (.one 13 (.one 14 (.one 15 (.one 16 (.one 17 (.one 18 (.one 19 (.one 20 (.one 21 (.one 22 (.one 23 (.one 24 (.one 25 (.one 26 (.one 27 (.one 28 (.one 29 (.one 30 (.one 31 .done)))))))))))))))))))))))))))))))) (by kernel_rfl) (by kernel_rfl) ?_
        intro w113 hx114 hs115
        have hB116 := hB98.ext hx114
        have hF117 := hF99.ext hx114
        have hE118 : Mod (fun k => k = b ∨ Value.ownBlock (.slice a es.length ca) = some k) w0 w113 := hE100.ext hx114
        have hz119 := hE118.le
        have hs120 := hx114.size
        have hS121 : Ext w113 w113 := Below.refl _ _
        refine d_q (v := .pointer (some ⟨b, 0, none⟩)) rfl rfl (fun _ => x_move rfl) ?_
        refine d_q (v := .pointer (some ⟨b, 0, none⟩)) rfl rfl (fun _ => x_nilCheck rfl) ?_
        refine d_q (v := .pointer (some ⟨b, 1, none⟩)) rfl rfl (fun _ => x_field (o := 0) T.fa92_1 rfl) ?_
        refine d_l (v := .slice ((some ⟨b1, 0, none⟩)) ((es.length + 1)) c1) rfl rfl rfl (fun v123 hw122 => x_load1 T.na90 rfl ((hB116.one 1 rfl).ext hw122)) ?_
        refine d_q (v := .int .i64 ((i : Nat) : Int)) rfl rfl (fun _ => x_move rfl) ?_
        refine d_q (v := .pointer (some ⟨b, 0, none⟩)) rfl rfl (fun _ => x_move rfl) ?_
        refine d_q (v := .pointer (some ⟨b, 0, none⟩)) rfl rfl (fun _ => x_nilCheck rfl) ?_
        refine d_q (v := .pointer (some ⟨b, 1, none⟩)) rfl rfl (fun _ => x_field (o := 0) T.fa92_1 rfl) ?_
        refine d_l (v := .slice ((some ⟨b1, 0, none⟩)) ((es.length + 1)) c1) rfl rfl rfl (fun v125 hw124 => x_load1 T.na90 rfl ((hB116.one 1 rfl).ext hw124)) ?_
        refine d_q (v := .int .i64 ((i : Nat) : Int)) rfl rfl (fun _ => x_move rfl) ?_
        refine d_q (v := .int .i64 (((i - 1) : Nat) : Int)) rfl rfl (fun _ => x_subN rfl rfl (by omega) (by omega)) ?_
        refine d_q (v := .int .i64 ((((i - 1) / 2) : Nat) : Int)) rfl rfl (fun _ => x_quoN rfl rfl (by omega) (by omega)) ?_
        refine d_q (v := .pointer (some ⟨b, 0, none⟩)) rfl rfl (fun _ => x_move rfl) ?_
        refine d_q (v := .pointer (some ⟨b, 0, none⟩)) rfl rfl (fun _ => x_nilCheck rfl) ?_
        refine d_q (v := .pointer (some ⟨b, 1, none⟩)) rfl rfl (fun _ => x_field (o := 0) T.fa92_1 rfl) ?_
        refine d_l (v := .slice ((some ⟨b1, 0, none⟩)) ((es.length + 1)) c1) rfl rfl rfl (fun v127 hw126 => x_load1 T.na90 rfl ((hB116.one 1 rfl).ext hw126)) ?_
        refine d_q (v := .int .i64 ((i : Nat) : Int)) rfl rfl (fun _ => x_move rfl) ?_
        refine d_q (v := .int .i64 (((i - 1) : Nat) : Int)) rfl rfl (fun _ => x_subN rfl rfl (by omega) (by omega)) ?_
        refine d_q (v := .int .i64 ((((i - 1) / 2) : Nat) : Int)) rfl rfl (fun _ => x_quoN rfl rfl (by omega) (by omega)) ?_
        refine d_q (v := .pointer (some ⟨b1, 0 + (((i - 1) / 2)) * 2, none⟩)) rfl rfl (fun _ => x_index T.sl90 rfl rfl (by omega)) ?_
        refine d_l (v := .agg #[.int .i64 ((el es2 (((i - 1) / 2))).1), .int .i64 (((el es2 (((i - 1) / 2))).2 : Nat) : Int)]) rfl rfl rfl (fun v129 hw128 => x_loadA [.int .i64 ((el es2 (((i - 1) / 2))).1), .int .i64 (((el es2 (((i - 1) / 2))).2 : Nat) : Int)] T.ag94 rfl ((hF117.cells.elem (enE_len enI_len) (i := ((i - 1) / 2)) (by omega)).ext hw128)) ?_
        refine d_q (v := .pointer (some ⟨b, 0, none⟩)) rfl rfl (fun _ => x_move rfl) ?_
        refine d_q (v := .pointer (some ⟨b, 0, none⟩)) rfl rfl (fun _ => x_nilCheck rfl) ?_
        refine d_q (v := .pointer (some ⟨b, 1, none⟩)) rfl rfl (fun _ => x_field (o := 0) T.fa92_1 rfl) ?_
        refine d_l (v := .slice ((some ⟨b1, 0, none⟩)) ((es.length + 1)) c1) rfl rfl rfl (fun v131 hw130 => x_load1 T.na90 rfl ((hB116.one 1 rfl).ext hw130)) ?_
        refine d_q (v := .int .i64 ((i : Nat) : Int)) rfl rfl (fun _ => x_move rfl) ?_
        refine d_q (v := .pointer (some ⟨b1, 0 + i * 2, none⟩)) rfl rfl (fun _ => x_index T.sl90 rfl rfl (by omega)) ?_
        refine d_l (v := .agg #[.int .i64 ((el es2 i).1), .int .i64 (((el es2 i).2 : Nat) : Int)]) rfl rfl rfl (fun v133 hw132 => x_loadA [.int .i64 ((el es2 i).1), .int .i64 (((el es2 i).2 : Nat) : Int)] T.ag94 rfl ((hF117.cells.elem (enE_len enI_len) (i := i) (by omega)).ext hw132)) ?_
        refine d_q (v := .pointer (some ⟨b1, 0 + i * 2, none⟩)) rfl rfl (fun _ => x_index T.sl90 rfl rfl (by omega)) ?_
        refine d_e (by decide) (d_s' rfl rfl (e_stO (v := .agg #[.int .i64 ((el es2 (((i - 1) / 2))).1), .int .i64 (((el es2 (((i - 1) / 2))).2 : Nat) : Int)]) (u := (el es2 (((i - 1) / 2)))) (enE_len enI_len) T.sz94 rfl rfl rfl hF117 (by first | omega | (rw [List.length_set]; omega)) (by rfl) ?_))
        intro w134 _ hP135 hB136
        have hs137 := hP135.size
        have hB138 := hB116.pt hP135 (by omega)
        have hE139 : Mod (fun k => k = b ∨ Value.ownBlock (.slice a es.length ca) = some k) w0 w134 := hE118.pt hP135 (hbS2)
        have hz140 := hE139.le
        refine ⟨need_no (by kernel_rfl), ?_⟩
        refine d_q (v := .pointer (some ⟨b1, 0 + (((i - 1) / 2)) * 2, none⟩)) rfl rfl (fun _ => x_index T.sl90 rfl rfl (by omega)) ?_
        refine d_e (by decide) (d_s' rfl rfl (e_stO (v := .agg #[.int .i64 ((el es2 i).1), .int .i64 (((el es2 i).2 : Nat) : Int)]) (u := (el es2 i)) (enE_len enI_len) T.sz94 rfl rfl rfl hB136 (by first | omega | (rw [List.length_set]; omega)) (by rfl) ?_))
        intro w141 _ hP142 hB143
        have hs144 := hP142.size
        have hB145 := hB138.pt hP142 (by omega)
        have hE146 : Mod (fun k => k = b ∨ Value.ownBlock (.slice a es.length ca) = some k) w0 w141 := hE139.pt hP142 (hbS2)
        have hz147 := hE146.le
        refine ⟨need_no (by kernel_rfl), ?_⟩
        refine d_done ?_
        refine kn109 _ _ ?_
        refine kn105 _ _ ?_
        refine region ?_
        refine st_q (v := .int .i64 ((i : Nat) : Int)) (x_move rfl) ?_
        refine st_q (v := .int .i64 (((i - 1) : Nat) : Int)) (x_subN rfl rfl (by omega) (by omega)) ?_
        refine st_q (v := .int .i64 ((((i - 1) / 2) : Nat) : Int)) (x_quoN rfl rfl (by omega) (by omega)) ?_
        refine st_q (v := .int .i64 ((((i - 1) / 2) : Nat) : Int)) (x_assign rfl) ?_
        refine st_nil ?_
        refine kn81 _ (((i - 1) / 2), (swap es2 i ((i - 1) / 2))) _ ⟨rfl, rfl, trivial⟩ ⟨hE146, ?_⟩ ?_
        ·
          try dsimp only
          exact ⟨hB145, hB143, by rw [swap_length]; exact hLL, up_step (ah_swo hL) hU (by omega) (by assumption), (swap_perm (by omega) (by omega)).trans hP⟩
        ·
          (try dsimp only); omega
      ·
        refine exit ?_
        refine ke89 _ _ _ ?_
        refine ke83 _ _ _ ?_
        refine kb74 _ _ ?_
        refine leave0' (P := Try.prog) (fn := Try.f50) rfl ?_
        have hH148 := HeapR.of_ob (enE_len enI_len) hge hB98 hF99 hm1 hLL hb1
        exact ⟨rfl, _, _, hE100, hH148, up_done hU (by first | exact .inl (by omega) | exact .inr (by assumption)), hP, hbS.imp (fun e => e) (fun e k hk => by simp [Value.ownBlock] at hk; omega)⟩
    ·
      refine st_gn 2 37 rfl rfl (by decide) rfl ?_
      refine st_gn 2 37 rfl rfl (by decide) rfl ?_
      refine st_gn 2 37 rfl rfl (by decide) rfl ?_
      refine st_gn 2 37 rfl rfl (by decide) rfl ?_
      refine st_gn 2 37 rfl rfl (by decide) rfl ?_
      refine st_gn 2 37 rfl rfl (by decide) rfl ?_
      refine st_q (v := .bool false) (x_pickF rfl rfl) ?_
      refine st_nil ?_
      refine kn91 _ _ ?_
      refine cndF rfl ?_
      refine exit ?_
      refine ke89 _ _ _ ?_
      refine ke83 _ _ _ ?_
      refine kb74 _ _ ?_
      refine leave0' (P := Try.prog) (fn := Try.f50) rfl ?_
      have hH149 := HeapR.of_ob (enE_len enI_len) hge hB1 hO2 hm1 hLL hb1
      exact ⟨rfl, _, _, hx78, hH149, up_done hU (by first | exact .inl (by omega) | exact .inr (by assumption)), hP, hbS.imp (fun e => e) (fun e k hk => by simp [Value.ownBlock] at hk; omega)⟩

set_option maxHeartbeats 4000000 in
theorem pop51 (lo fc : Nat) (c : Int → Int → Int) (hcf : CF Try.prog fc) (hcmp : CmpI fc c) (hL : Lawful c) (g : Value) (hg : ToldI g fc) (b nx : Nat) (v : Value) (es : List (Int × Nat)) (w0 : World) (hH : HeapR w0.heap lo 92 94 2 (enE enI) b g v es nx) (hz : 0 < es.length) (hlen : es.length ≤ 4398046511105) (hhp : HP (ah c) es) : Calls Try.prog 51 #[.pointer (some ⟨b, 0, none⟩)] w0 fun e w' => e = .returned (.tuple #[.int .i64 (el es 0).1, .bool true]) ∧ ∃ v' es', Mod (fun k => k = b ∨ v.ownBlock = some k) w0 w' ∧ HeapR w'.heap lo 92 94 2 (enE enI) b g v' es' nx ∧ HP (ah c) es' ∧ es.Perm (el es 0 :: es') ∧ v'.ownBlock = v.ownBlock := by
  have hE0 : Mod (fun k => k = b ∨ v.ownBlock = some k) w0 w0 := Mod.refl _ _
  have hz0 := hE0.le
  obtain ⟨hge, hB, hO, hne⟩ := hH
  obtain ⟨b1, c1, rfl, hm1, hO1⟩ := hO.ob (fun e => by subst e; have := hO.src.capl; omega)
  have hbl := hB.lt
  have hb1 : b1 ≠ b := fun e => hne (congrArg some e)
  have hbl1 := hO1.lt
  have hl1 := hO1.lo
  have hl2 := hO1.lt
  refine enter Try.func51 rfl 104 Try.ntmps51 rfl ?_
  refine seqK fun Q3 kn4 kr5 ke6 => ?_
  refine region ?_
  refine st_q (v := .int .i64 ((0 : Nat) : Int)) (x_assign rfl) ?_
  refine st_q (v := .bool false) (x_assign rfl) ?_
  refine st_nil ?_
  refine kn4 _ _ ?_
  refine seqK fun Q7 kn8 kr9 ke10 => ?_
  refine region ?_
  refine st_q (v := .pointer (some ⟨b, 0, none⟩)) (x_move rfl) ?_
  have hH13 := HeapR.of_ob (enE_len enI_len) hge hB hO1 (m := es.length) hm1 rfl hb1
  refine st_c (t_call [.pointer (some ⟨b, 0, none⟩)] T.cf67 rfl rfl) (peek67_1 lo b nx g _ es _ hH13 (by omega)) ?_
  rintro _ w11 ⟨rfl, hx12⟩
  refine ⟨_, rfl, ?_⟩
  have hB14 := hB.ext hx12
  have hF15 := hO1.ext hx12
  have hE16 : Mod (fun k => k = b ∨ Value.ownBlock (.slice (some ⟨b1, 0, none⟩) es.length c1) = some k) w0 w11 := hE0.ext hx12
  have hz17 := hE16.le
  have hs18 := hx12.size
  refine st_q (v := .tuple #[.int .i64 ((el es 0).1), .bool true]) (x_move rfl) ?_
  refine st_q (v := .int .i64 ((el es 0).1)) (x_extract rfl rfl) ?_
  refine st_q (v := .bool true) (x_extract rfl rfl) ?_
  refine st_q (v := .int .i64 ((el es 0).1)) (x_assign rfl) ?_
  refine st_q (v := .bool true) (x_assign rfl) ?_
  refine st_nil ?_
  refine kn8 _ _ ?_
  refine seqK fun Q19 kn20 kr21 ke22 => ?_
  refine seqK fun Q23 kn24 kr25 ke26 => ?_
  refine region ?_
  refine st_q (v := .bool true) (x_move rfl) ?_
  refine st_q (v := .bool false) (x_notB (b := true) rfl) ?_
  refine st_nil ?_
  refine kn24 _ _ ?_
  refine cndF rfl ?_
  refine skip ?_
  refine kn20 _ _ ?_
  refine seqK fun Q27 kn28 kr29 ke30 => ?_
  refine region ?_
  refine st_q (v := .pointer (some ⟨b, 0, none⟩)) (x_move rfl) ?_
  refine st_q (v := .pointer (some ⟨b, 0, none⟩)) (x_nilCheck rfl) ?_
  refine st_q (v := .pointer (some ⟨b, 1, none⟩)) (x_field (o := 0) T.fa92_1 rfl) ?_
  refine st_q (v := .slice ((some ⟨b1, 0, none⟩)) es.length c1) (x_load1 T.na90 rfl (hB14.one 1 rfl)) ?_
  refine st_q (v := .int .i64 ((es.length : Nat) : Int)) (x_lenSl rfl Try.underlying90 rfl) ?_
  refine st_q (v := .int .i64 (((es.length - 1) : Nat) : Int)) (x_subN rfl rfl (by omega) (by omega)) ?_
  refine st_q (v := .int .i64 (((es.length - 1) : Nat) : Int)) (x_assign rfl) ?_
  refine st_nil ?_
  refine kn28 _ _ ?_
  refine seqK fun Q31 kn32 kr33 ke34 => ?_
  refine regionD1 [3, 7, 10] [0, 1, 2, 3, 4, 5, 6, 7, 8, 9, 10, 11] (.one 0 (.one 1 (.one 2 (.one 3 (.one 4 (.one 5 (.one 6 (.one 7 (.one 8 (.one 9 (.one 10 (.one 11 (.one 12 .done))))))))))))) (by kernel_rfl) (by kernel_rfl) ?_
  intro w35 hx36 hs37
  have hB38 := hB14.ext hx36
  have hF39 := hF15.ext hx36
  have hE40 : Mod (fun k => k = b ∨ Value.ownBlock (.slice (some ⟨b1, 0, none⟩) es.length c1) = some k) w0 w35 := hE16.ext hx36
  have hz41 := hE40.le
  have hs42 := hx36.size
  have hS43 : Ext w35 w35 := Below.refl _ _
  refine d_q (v := .pointer (some ⟨b, 0, none⟩)) rfl rfl (fun _ => x_move rfl) ?_
  refine d_q (v := .pointer (some ⟨b, 0, none⟩)) rfl rfl (fun _ => x_nilCheck rfl) ?_
  refine d_q (v := .pointer (some ⟨b, 1, none⟩)) rfl rfl (fun _ => x_field (o := 0) T.fa92_1 rfl) ?_
  refine d_l (v := .slice ((some ⟨b1, 0, none⟩)) es.length c1) rfl rfl rfl (fun v45 hw44 => x_load1 T.na90 rfl ((hB38.one 1 rfl).ext hw44)) ?_
  refine d_q (v := .pointer (some ⟨b, 0, none⟩)) rfl rfl (fun _ => x_move rfl) ?_
  refine d_q (v := .pointer (some ⟨b, 0, none⟩)) rfl rfl (fun _ => x_nilCheck rfl) ?_
  refine d_q (v := .pointer (some ⟨b, 1, none⟩)) rfl rfl (fun _ => x_field (o := 0) T.fa92_1 rfl) ?_
  refine d_l (v := .slice ((some ⟨b1, 0, none⟩)) es.length c1) rfl rfl rfl (fun v47 hw46 => x_load1 T.na90 rfl ((hB38.one 1 rfl).ext hw46)) ?_
  refine d_q (v := .int .i64 (((es.length - 1) : Nat) : Int)) rfl rfl (fun _ => x_move rfl) ?_
  refine d_q (v := .pointer (some ⟨b1, 0 + ((es.length - 1)) * 2, none⟩)) rfl rfl (fun _ => x_index T.sl90 rfl rfl (by omega)) ?_
  refine d_l (v := .agg #[.int .i64 ((el es ((es.length - 1))).1), .int .i64 (((el es ((es.length - 1))).2 : Nat) : Int)]) rfl rfl rfl (fun v49 hw48 => x_loadA [.int .i64 ((el es ((es.length - 1))).1), .int .i64 (((el es ((es.length - 1))).2 : Nat) : Int)] T.ag94 rfl ((hF39.cells.elem (enE_len enI_len) (i := (es.length - 1)) (by omega)).ext hw48)) ?_
  refine d_q (v := .pointer (some ⟨b1, 0 + 0 * 2, none⟩)) rfl rfl (fun _ => x_index T.sl90 rfl rfl (by omega)) ?_
  refine d_e (by decide) (d_s' rfl rfl (e_stO (v := .agg #[.int .i64 ((el es ((es.length - 1))).1), .int .i64 (((el es ((es.length - 1))).2 : Nat) : Int)]) (u := (el es ((es.length - 1)))) (enE_len enI_len) T.sz94 rfl rfl rfl hF39 (by first | omega | (rw [List.length_set]; omega)) (by rfl) ?_))
  intro w50 _ hP51 hB52
  have hs53 := hP51.size
  have hB54 := hB38.pt hP51 (by omega)
  have hE55 : Mod (fun k => k = b ∨ Value.ownBlock (.slice (some ⟨b1, 0, none⟩) es.length c1) = some k) w0 w50 := hE40.pt hP51 (.inl (.inr rfl))
  have hz56 := hE55.le
  refine ⟨need_no (by kernel_rfl), ?_⟩
  refine d_done ?_
  refine kn32 _ _ ?_
  refine seqK fun Q57 kn58 kr59 ke60 => ?_
  refine region ?_
  refine st_q (v := .pointer (some ⟨b, 0, none⟩)) (x_move rfl) ?_
  refine st_q (v := .pointer (some ⟨b, 0, none⟩)) (x_nilCheck rfl) ?_
  refine st_q (v := .pointer (some ⟨b, 1, none⟩)) (x_field (o := 0) T.fa92_1 rfl) ?_
  refine st_q (v := .slice ((some ⟨b1, 0, none⟩)) es.length c1) (x_load1 T.na90 rfl (hB54.one 1 rfl)) ?_
  refine st_q (v := .int .i64 (((es.length - 1) : Nat) : Int)) (x_move rfl) ?_
  refine st_q (v := .agg #[.int .i64 ((0 : Nat) : Int), .int .i64 ((0 : Nat) : Int)]) (x_build (fun _ => by kernel_rfl)) ?_
  refine st_q (v := .pointer (some ⟨b1, 0 + ((es.length - 1)) * 2, none⟩)) (x_index T.sl90 rfl rfl (by omega)) ?_
  refine st_s (e_stO (v := .agg #[.int .i64 ((0 : Nat) : Int), .int .i64 ((0 : Nat) : Int)]) (u := (((0 : Nat) : Int), 0)) (enE_len enI_len) T.sz94 rfl rfl rfl hB52 (by first | omega | (rw [List.length_set]; omega)) (by rfl) ?_)
  intro w61 _ hP62 hB63
  have hs64 := hP62.size
  have hB65 := hB54.pt hP62 (by omega)
  have hE66 : Mod (fun k => k = b ∨ Value.ownBlock (.slice (some ⟨b1, 0, none⟩) es.length c1) = some k) w0 w61 := hE55.pt hP62 (.inl (.inr rfl))
  have hz67 := hE66.le
  refine st_nil ?_
  refine kn58 _ _ ?_
  refine seqK fun Q68 kn69 kr70 ke71 => ?_
  refine region ?_
  refine st_q (v := .pointer (some ⟨b, 0, none⟩)) (x_move rfl) ?_
  refine st_q (v := .pointer (some ⟨b, 0, none⟩)) (x_move rfl) ?_
  refine st_q (v := .pointer (some ⟨b, 0, none⟩)) (x_nilCheck rfl) ?_
  refine st_q (v := .pointer (some ⟨b, 1, none⟩)) (x_field (o := 0) T.fa92_1 rfl) ?_
  refine st_q (v := .slice ((some ⟨b1, 0, none⟩)) es.length c1) (x_load1 T.na90 rfl (hB65.one 1 rfl)) ?_
  refine st_q (v := .int .i64 (((es.length - 1) : Nat) : Int)) (x_move rfl) ?_
  refine st_q (v := .slice ((some ⟨b1, 0, none⟩)) ((es.length - 1)) c1) (x_sliceHi T.sl90 rfl rfl (by omega)) ?_
  refine st_q (v := .pointer (some ⟨b, 0, none⟩)) (x_nilCheck rfl) ?_
  refine st_q (v := .pointer (some ⟨b, 1, none⟩)) (x_field (o := 0) T.fa92_1 rfl) ?_
  refine st_s (e_st (v := .slice ((some ⟨b1, 0, none⟩)) ((es.length - 1)) c1) T.sz90 rfl rfl hB65 (by simp [Value.cells]) (by rfl) ?_)
  intro w72 hP73
  have hB74 : Blk w72.heap b [g, .slice ((some ⟨b1, 0, none⟩)) ((es.length - 1)) c1, .int .i64 ((nx : Nat) : Int)] 92 := hP73.new
  have hs75 := hP73.size
  have hF76 := hB63.pt hP73 (by omega)
  have hE77 : Mod (fun k => k = b ∨ Value.ownBlock (.slice (some ⟨b1, 0, none⟩) es.length c1) = some k) w0 w72 := hE66.pt hP73 (.inl (.inl rfl))
  have hz78 := hE77.le
  refine st_nil ?_
  refine kn69 _ _ ?_
  refine seqK fun Q79 kn80 kr81 ke82 => ?_
  refine region ?_
  refine st_q (v := .int .i64 ((0 : Nat) : Int)) (x_assign rfl) ?_
  refine st_nil ?_
  refine kn80 _ _ ?_
  refine blockK fun Q83 kn84 kr85 kx86 kb87 => ?_
  refine loopK (α := Nat × (List (Int × Nat))) (fun x => [(0, .pointer (some ⟨b, 0, none⟩)), (4, .int .i64 ((el es 0).1)), (6, .int .i64 (((es.length - 1) : Nat) : Int)), (7, .int .i64 ((x.1 : Nat) : Int))]) (fun x w88 => Mod (fun k => k = b ∨ Value.ownBlock (.slice (some ⟨b1, 0, none⟩) es.length c1) = some k) w0 w88 ∧ Blk w88.heap b [g, .slice ((some ⟨b1, 0, none⟩)) ((es.length - 1)) c1, .int .i64 ((nx : Nat) : Int)] 92 ∧ OB w88.heap lo 94 2 b1 c1 (flat (enE enI) x.2) ∧ x.2.length = es.length - 1 ∧ x.1 ≤ es.length ∧ DownI (ah c) x.2 x.1 ∧ es.Perm (el es 0 :: x.2)) (fun x => es.length - x.1) (0, ((es.set 0 (el es (es.length - 1))).take (es.length - 1))) ⟨rfl, rfl, rfl, rfl, trivial⟩ ?_ ?_
  ·
    refine ⟨hE77, ?_⟩
    try dsimp only
    have hT := hF76.take (es.length - 1)
    rw [take_set_le _ (Nat.le_refl _)] at hT
    exact ⟨hB74, hT, by rw [List.length_take, List.length_set]; omega, Nat.zero_le _, down_start hhp (by omega), pop_perm (by omega)⟩
  ·
    rintro τ89 ⟨i, es2⟩ w90 ⟨hx91, ⟨hB1, hO2, hLL, hi, hD, hP⟩⟩
    try dsimp only at hB1 hO2 hLL hi hD hP
    have hz92 := hx91.le
    intro Q93 kn94 kr95 ke96
    have hl97 := hO2.lo
    have hl98 := hO2.lt
    refine blockK fun Q99 kn100 kr101 kx102 kb103 => ?_
    refine seqK fun Q104 kn105 kr106 ke107 => ?_
    refine region ?_
    refine st_q (v := .int .i64 ((i : Nat) : Int)) (x_move rfl) ?_
    refine st_q (v := .int .i64 (((2 * i) : Nat) : Int)) (x_mulN rfl rfl (by omega)) ?_
    refine st_q (v := .int .i64 ((((2 * i) + 1) : Nat) : Int)) (x_addN rfl rfl (by omega)) ?_
    refine st_q (v := .int .i64 ((((2 * i) + 1) : Nat) : Int)) (x_assign rfl) ?_
    refine st_nil ?_
    refine kn105 _ _ ?_
    refine seqK fun Q108 kn109 kr110 ke111 => ?_
    refine seqK fun Q112 kn113 kr114 ke115 => ?_
    refine region ?_
    refine st_q (v := .int .i64 ((((2 * i) + 1) : Nat) : Int)) (x_move rfl) ?_
    refine st_q (v := .int .i64 (((es.length - 1) : Nat) : Int)) (x_move rfl) ?_
    refine st_q (v := .bool (decide (((es.length - 1)) ≤ (((2 * i) + 1))))) (x_geqN rfl rfl) ?_
    refine st_nil ?_
    refine kn113 _ _ ?_
    refine cnd (p := ((es.length - 1)) ≤ (((2 * i) + 1))) rfl (fun h116 => ?_) (fun h116 => ?_)
    ·
      refine seqK fun Q117 kn118 kr119 ke120 => ?_
      refine region ?_
      refine st_q (v := .int .i64 ((el es 0).1)) (x_move rfl) ?_
      refine st_q (v := .int .i64 ((el es 0).1)) (x_assign rfl) ?_
      refine st_q (v := .bool true) (x_assign rfl) ?_
      refine st_nil ?_
      refine kn118 _ _ ?_
      refine ret ?_
      refine kr110 _ _ ?_
      refine kr101 _ _ ?_
      refine kr95 _ _ ?_
      refine kr85 _ _ ?_
      refine leave2 (P := Try.prog) (fn := Try.f51) (t := 2) (u := 3) (v := .int .i64 ((el es 0).1)) (v' := .bool true) rfl rfl rfl ?_
      have hH121 := HeapR.of_ob (enE_len enI_len) hge hB1 hO2 (m := (es.length - 1)) (by omega) hLL hb1
      exact ⟨rfl, _, _, hx91, hH121, (by first | exact down_done hD (fun j h0 hj he => by omega) | exact down_stop (ah_swo hL) hD (by first | exact down_min_r (ah_swo hL) rfl (by assumption) | exact down_min_l (ah_swo hL) rfl (by first | exact .inr (by omega) | exact .inl (by assumption))) (by assumption)), hP, rfl⟩
    ·
      refine skip ?_
      refine kn109 _ _ ?_
      refine seqK fun Q122 kn123 kr124 ke125 => ?_
      refine seqK fun Q126 kn127 kr128 ke129 => ?_
      refine region ?_
      refine st_q (v := .int .i64 ((((2 * i) + 1) : Nat) : Int)) (x_move rfl) ?_
      refine st_q (v := .int .i64 (((((2 * i) + 1) + 1) : Nat) : Int)) (x_addN rfl rfl (by omega)) ?_
      refine st_q (v := .int .i64 (((es.length - 1) : Nat) : Int)) (x_move rfl) ?_
      refine st_q (v := .bool (decide (((((2 * i) + 1) + 1)) < ((es.length - 1))))) (x_lssN rfl rfl) ?_
      refine st_if (p := ((((2 * i) + 1) + 1)) < ((es.length - 1))) (x_move rfl) (fun h130 => ?_) (fun h130 => ?_)
      ·
        refine st_gq 4 62 rfl rfl (by decide) ?_
        refine st_q (v := .pointer (some ⟨b, 0, none⟩)) (x_move rfl) ?_
        refine st_gq 4 62 rfl rfl (by decide) ?_
        refine st_q (v := .int .i64 ((((2 * i) + 1) : Nat) : Int)) (x_move rfl) ?_
        refine st_gq 4 62 rfl rfl (by decide) ?_
        refine st_q (v := .int .i64 (((((2 * i) + 1) + 1) : Nat) : Int)) (x_addN rfl rfl (by omega)) ?_
        refine st_gq 4 62 rfl rfl (by decide) ?_
        refine st_q (v := .int .i64 ((((2 * i) + 1) : Nat) : Int)) (x_move rfl) ?_
        refine st_gq 4 62 rfl rfl (by decide) ?_
        have hH133 := HeapR.of_ob (enE_len enI_len) hge hB1 hO2 (m := (es.length - 1)) (by omega) hLL hb1
        refine st_c (t_call [.pointer (some ⟨b, 0, none⟩), .int .i64 (((((2 * i) + 1) + 1) : Nat) : Int), .int .i64 ((((2 * i) + 1) : Nat) : Int)] T.cf66 rfl rfl) (ahead66 lo fc c hcf hcmp g hg b nx _ es2 ((((2 * i) + 1) + 1)) (((2 * i) + 1)) _ hH133 (by omega) (by omega)) ?_
        rintro _ w131 ⟨rfl, hx132⟩
        refine ⟨_, rfl, ?_⟩
        have hB134 := hB1.ext hx132
        have hF135 := hO2.ext hx132
        have hE136 : Mod (fun k => k = b ∨ Value.ownBlock (.slice (some ⟨b1, 0, none⟩) es.length c1) = some k) w0 w131 := hx91.ext hx132
        have hz137 := hE136.le
        have hs138 := hx132.size
        refine st_q (v := .bool (decide (ah c (el es2 ((((2 * i) + 1) + 1))) (el es2 (((2 * i) + 1)))))) (x_pickT rfl rfl) ?_
        refine st_nil ?_
        refine kn127 _ _ ?_
        refine cnd (p := ah c (el es2 ((((2 * i) + 1) + 1))) (el es2 (((2 * i) + 1)))) rfl (fun h139 => ?_) (fun h139 => ?_)
        ·
          refine region ?_
          refine st_q (v := .int .i64 ((((2 * i) + 1) : Nat) : Int)) (x_move rfl) ?_
          refine st_q (v := .int .i64 (((((2 * i) + 1) + 1) : Nat) : Int)) (x_addN rfl rfl (by omega)) ?_
          refine st_q (v := .int .i64 (((((2 * i) + 1) + 1) : Nat) : Int)) (x_assign rfl) ?_
          refine st_nil ?_
          refine kn123 _ _ ?_
          refine seqK fun Q140 kn141 kr142 ke143 => ?_
          refine seqK fun Q144 kn145 kr146 ke147 => ?_
          refine region ?_
          refine st_q (v := .pointer (some ⟨b, 0, none⟩)) (x_move rfl) ?_
          refine st_q (v := .int .i64 (((((2 * i) + 1) + 1) : Nat) : Int)) (x_move rfl) ?_
          refine st_q (v := .int .i64 ((i : Nat) : Int)) (x_move rfl) ?_
          have hH150 := HeapR.of_ob (enE_len enI_len) hge hB134 hF135 (m := (es.length - 1)) (by omega) hLL hb1
          refine st_c (t_call [.pointer (some ⟨b, 0, none⟩), .int .i64 (((((2 * i) + 1) + 1) : Nat) : Int), .int .i64 ((i : Nat) : Int)] T.cf66 rfl rfl) (ahead66 lo fc c hcf hcmp g hg b nx _ es2 ((((2 * i) + 1) + 1)) i _ hH150 (by omega) (by omega)) ?_
          rintro _ w148 ⟨rfl, hx149⟩
          refine ⟨_, rfl, ?_⟩
          have hB151 := hB134.ext hx149
          have hF152 := hF135.ext hx149
          have hE153 : Mod (fun k => k = b ∨ Value.ownBlock (.slice (some ⟨b1, 0, none⟩) es.length c1) = some k) w0 w148 := hE136.ext hx149
          have hz154 := hE153.le
          have hs155 := hx149.size
          refine st_q (v := .bool (decide (¬ (ah c (el es2 ((((2 * i) + 1) + 1))) (el es2 i))))) (x_notP rfl) ?_
          refine st_nil ?_
          refine kn145 _ _ ?_
          refine cnd (p := ¬ (ah c (el es2 ((((2 * i) + 1) + 1))) (el es2 i))) rfl (fun h156 => ?_) (fun h156 => ?_)
          ·
            refine seqK fun Q157 kn158 kr159 ke160 => ?_
            refine region ?_
            refine st_q (v := .int .i64 ((el es 0).1)) (x_move rfl) ?_
            refine st_q (v := .int .i64 ((el es 0).1)) (x_assign rfl) ?_
            refine st_q (v := .bool true) (x_assign rfl) ?_
            refine st_nil ?_
            refine kn158 _ _ ?_
            refine ret ?_
            refine kr142 _ _ ?_
            refine kr101 _ _ ?_
            refine kr95 _ _ ?_
            refine kr85 _ _ ?_
            refine leave2 (P := Try.prog) (fn := Try.f51) (t := 2) (u := 3) (v := .int .i64 ((el es 0).1)) (v' := .bool true) rfl rfl rfl ?_
            have hH161 := HeapR.of_ob (enE_len enI_len) hge hB151 hF152 (m := (es.length - 1)) (by omega) hLL hb1
            exact ⟨rfl, _, _, hE153, hH161, (by first | exact down_done hD (fun j h0 hj he => by omega) | exact down_stop (ah_swo hL) hD (by first | exact down_min_r (ah_swo hL) rfl (by assumption) | exact down_min_l (ah_swo hL) rfl (by first | exact .inr (by omega) | exact .inl (by assumption))) (by assumption)), hP, rfl⟩
          ·
            refine skip ?_
            refine kn141 _ _ ?_
            refine seqK fun Q162 kn163 kr164 ke165 => ?_
            refine regionD1 [3, 8, 13, 16, 20, 23] [0, 1, 2, 3, 4, 5, 6, 7, 8, 9, 10, 11, 12, 13, 14, 15, 16, 17, 18, 19, 20, 21, 22, 23, 24, 26] (.one 0 (.one 1 (.one 2 (.one 3 (.one 4 (.one 5 (.one 6 (.one 7 (.one 8 (.one 9 (.one 10 (.one 11 (.one 12 (.one 13 (.one 14 (.one 15 (.one 16 (.one 17 (.one 18 (.one 19 (.one 20 (.one 21 (.one 22 (.one 23 (.one 24 (.one 25 (.one 26 (.one 27 .done)))))))))))))))))))))))))))) (by kernel_rfl) (by kernel_rfl) ?_
            intro w166 hx167 hs168
            have hB169 := hB151.ext hx167
            have hF170 := hF152.ext hx167
            have hE171 : Mod (fun k => k = b ∨ Value.ownBlock (.slice (some ⟨b1, 0, none⟩) es.length c1) = some k) w0 w166 := hE153.ext hx167
            have hz172 := hE171.le
            have hs173 := hx167.size
            have hS174 : Ext w166 w166 := Below.refl _ _
            refine d_q (v := .pointer (some ⟨b, 0, none⟩)) rfl rfl (fun _ => x_move rfl) ?_
            refine d_q (v := .pointer (some ⟨b, 0, none⟩)) rfl rfl (fun _ => x_nilCheck rfl) ?_
            refine d_q (v := .pointer (some ⟨b, 1, none⟩)) rfl rfl (fun _ => x_field (o := 0) T.fa92_1 rfl) ?_
            refine d_l (v := .slice ((some ⟨b1, 0, none⟩)) ((es.length - 1)) c1) rfl rfl rfl (fun v176 hw175 => x_load1 T.na90 rfl ((hB169.one 1 rfl).ext hw175)) ?_
            refine d_q (v := .int .i64 ((i : Nat) : Int)) rfl rfl (fun _ => x_move rfl) ?_
            refine d_q (v := .pointer (some ⟨b, 0, none⟩)) rfl rfl (fun _ => x_move rfl) ?_
            refine d_q (v := .pointer (some ⟨b, 0, none⟩)) rfl rfl (fun _ => x_nilCheck rfl) ?_
            refine d_q (v := .pointer (some ⟨b, 1, none⟩)) rfl rfl (fun _ => x_field (o := 0) T.fa92_1 rfl) ?_
            refine d_l (v := .slice ((some ⟨b1, 0, none⟩)) ((es.length - 1)) c1) rfl rfl rfl (fun v178 hw177 => x_load1 T.na90 rfl ((hB169.one 1 rfl).ext hw177)) ?_
            refine d_q (v := .int .i64 (((((2 * i) + 1) + 1) : Nat) : Int)) rfl rfl (fun _ => x_move rfl) ?_
            refine d_q (v := .pointer (some ⟨b, 0, none⟩)) rfl rfl (fun _ => x_move rfl) ?_
            refine d_q (v := .pointer (some ⟨b, 0, none⟩)) rfl rfl (fun _ => x_nilCheck rfl) ?_
            refine d_q (v := .pointer (some ⟨b, 1, none⟩)) rfl rfl (fun _ => x_field (o := 0) T.fa92_1 rfl) ?_
            refine d_l (v := .slice ((some ⟨b1, 0, none⟩)) ((es.length - 1)) c1) rfl rfl rfl (fun v180 hw179 => x_load1 T.na90 rfl ((hB169.one 1 rfl).ext hw179)) ?_
            refine d_q (v := .int .i64 (((((2 * i) + 1) + 1) : Nat) : Int)) rfl rfl (fun _ => x_move rfl) ?_
            refine d_q (v := .pointer (some ⟨b1, 0 + ((((2 * i) + 1) + 1)) * 2, none⟩)) rfl rfl (fun _ => x_index T.sl90 rfl rfl (by omega)) ?_
            refine d_l (v := .agg #[.int .i64 ((el es2 ((((2 * i) + 1) + 1))).1), .int .i64 (((el es2 ((((2 * i) + 1) + 1))).2 : Nat) : Int)]) rfl rfl rfl (fun v182 hw181 => x_loadA [.int .i64 ((el es2 ((((2 * i) + 1) + 1))).1), .int .i64 (((el es2 ((((2 * i) + 1) + 1))).2 : Nat) : Int)] T.ag94 rfl ((hF170.cells.elem (enE_len enI_len) (i := (((2 * i) + 1) + 1)) (by omega)).ext hw181)) ?_
            refine d_q (v := .pointer (some ⟨b, 0, none⟩)) rfl rfl (fun _ => x_move rfl) ?_
            refine d_q (v := .pointer (some ⟨b, 0, none⟩)) rfl rfl (fun _ => x_nilCheck rfl) ?_
            refine d_q (v := .pointer (some ⟨b, 1, none⟩)) rfl rfl (fun _ => x_field (o := 0) T.fa92_1 rfl) ?_
            refine d_l (v := .slice ((some ⟨b1, 0, none⟩)) ((es.length - 1)) c1) rfl rfl rfl (fun v184 hw183 => x_load1 T.na90 rfl ((hB169.one 1 rfl).ext hw183)) ?_
            refine d_q (v := .int .i64 ((i : Nat) : Int)) rfl rfl (fun _ => x_move rfl) ?_
            refine d_q (v := .pointer (some ⟨b1, 0 + i * 2, none⟩)) rfl rfl (fun _ => x_index T.sl90 rfl rfl (by omega)) ?_
            refine d_l (v := .agg #[.int .i64 ((el es2 i).1), .int .i64 (((el es2 i).2 : Nat) : Int)]) rfl rfl rfl (fun v186 hw185 => x_loadA [.int .i64 ((el es2 i).1), .int .i64 (((el es2 i).2 : Nat) : Int)] T.ag94 rfl ((hF170.cells.elem (enE_len enI_len) (i := i) (by omega)).ext hw185)) ?_
            refine d_q (v := .pointer (some ⟨b1, 0 + i * 2, none⟩)) rfl rfl (fun _ => x_index T.sl90 rfl rfl (by omega)) ?_
            refine d_e (by decide) (d_s' rfl rfl (e_stO (v := .agg #[.int .i64 ((el es2 ((((2 * i) + 1) + 1))).1), .int .i64 (((el es2 ((((2 * i) + 1) + 1))).2 : Nat) : Int)]) (u := (el es2 ((((2 * i) + 1) + 1)))) (enE_len enI_len) T.sz94 rfl rfl rfl hF170 (by first | omega | (rw [List.length_set]; omega)) (by rfl) ?_))
            intro w187 _ hP188 hB189
            have hs190 := hP188.size
            have hB191 := hB169.pt hP188 (by omega)
            have hE192 : Mod (fun k => k = b ∨ Value.ownBlock (.slice (some ⟨b1, 0, none⟩) es.length c1) = some k) w0 w187 := hE171.pt hP188 (.inl (.inr rfl))
            have hz193 := hE192.le
            refine ⟨need_no (by kernel_rfl), ?_⟩
            refine d_q (v := .pointer (some ⟨b1, 0 + ((((2 * i) + 1) + 1)) * 2, none⟩)) rfl rfl (fun _ => x_index T.sl90 rfl rfl (by omega)) ?_
            refine d_e (by decide) (d_s' rfl rfl (e_stO (v := .agg #[.int .i64 ((el es2 i).1), .int .i64 (((el es2 i).2 : Nat) : Int)]) (u := (el es2 i)) (enE_len enI_len) T.sz94 rfl rfl rfl hB189 (by first | omega | (rw [List.length_set]; omega)) (by rfl) ?_))
            intro w194 _ hP195 hB196
            have hs197 := hP195.size
            have hB198 := hB191.pt hP195 (by omega)
            have hE199 : Mod (fun k => k = b ∨ Value.ownBlock (.slice (some ⟨b1, 0, none⟩) es.length c1) = some k) w0 w194 := hE192.pt hP195 (.inl (.inr rfl))
            have hz200 := hE199.le
            refine ⟨need_no (by kernel_rfl), ?_⟩
            refine d_done ?_
            refine kn163 _ _ ?_
            refine region ?_
            refine st_q (v := .int .i64 (((((2 * i) + 1) + 1) : Nat) : Int)) (x_move rfl) ?_
            refine st_q (v := .int .i64 (((((2 * i) + 1) + 1) : Nat) : Int)) (x_assign rfl) ?_
            refine st_nil ?_
            refine kn100 _ _ ?_
            refine kn94 _ ((((2 * i) + 1) + 1), (swap es2 i ((((2 * i) + 1) + 1)))) _ ⟨rfl, rfl, rfl, rfl, trivial⟩ ⟨hE199, ?_⟩ ?_
            ·
              try dsimp only
              exact ⟨hB198, hB196, by rw [swap_length]; exact hLL, by omega, down_step (ah_swo hL) hD (by omega) (by omega) (by omega) (Decidable.of_not_not (by assumption)) (by first | exact down_min_r (ah_swo hL) rfl (by assumption) | exact down_min_l (ah_swo hL) rfl (by first | exact .inr (by omega) | exact .inl (by assumption))), hP.trans (List.Perm.cons _ (swap_perm (by omega) (by omega)).symm)⟩
            ·
              (try dsimp only); omega
        ·
          refine skip ?_
          refine kn123 _ _ ?_
          refine seqK fun Q201 kn202 kr203 ke204 => ?_
          refine seqK fun Q205 kn206 kr207 ke208 => ?_
          refine region ?_
          refine st_q (v := .pointer (some ⟨b, 0, none⟩)) (x_move rfl) ?_
          refine st_q (v := .int .i64 ((((2 * i) + 1) : Nat) : Int)) (x_move rfl) ?_
          refine st_q (v := .int .i64 ((i : Nat) : Int)) (x_move rfl) ?_
          have hH211 := HeapR.of_ob (enE_len enI_len) hge hB134 hF135 (m := (es.length - 1)) (by omega) hLL hb1
          refine st_c (t_call [.pointer (some ⟨b, 0, none⟩), .int .i64 ((((2 * i) + 1) : Nat) : Int), .int .i64 ((i : Nat) : Int)] T.cf66 rfl rfl) (ahead66 lo fc c hcf hcmp g hg b nx _ es2 (((2 * i) + 1)) i _ hH211 (by omega) (by omega)) ?_
          rintro _ w209 ⟨rfl, hx210⟩
          refine ⟨_, rfl, ?_⟩
          have hB212 := hB134.ext hx210
          have hF213 := hF135.ext hx210
          have hE214 : Mod (fun k => k = b ∨ Value.ownBlock (.slice (some ⟨b1, 0, none⟩) es.length c1) = some k) w0 w209 := hE136.ext hx210
          have hz215 := hE214.le
          have hs216 := hx210.size
          refine st_q (v := .bool (decide (¬ (ah c (el es2 (((2 * i) + 1))) (el es2 i))))) (x_notP rfl) ?_
          refine st_nil ?_
          refine kn206 _ _ ?_
          refine cnd (p := ¬ (ah c (el es2 (((2 * i) + 1))) (el es2 i))) rfl (fun h217 => ?_) (fun h217 => ?_)
          ·
            refine seqK fun Q218 kn219 kr220 ke221 => ?_
            refine region ?_
            refine st_q (v := .int .i64 ((el es 0).1)) (x_move rfl) ?_
            refine st_q (v := .int .i64 ((el es 0).1)) (x_assign rfl) ?_
            refine st_q (v := .bool true) (x_assign rfl) ?_
            refine st_nil ?_
            refine kn219 _ _ ?_
            refine ret ?_
            refine kr203 _ _ ?_
            refine kr101 _ _ ?_
            refine kr95 _ _ ?_
            refine kr85 _ _ ?_
            refine leave2 (P := Try.prog) (fn := Try.f51) (t := 2) (u := 3) (v := .int .i64 ((el es 0).1)) (v' := .bool true) rfl rfl rfl ?_
            have hH222 := HeapR.of_ob (enE_len enI_len) hge hB212 hF213 (m := (es.length - 1)) (by omega) hLL hb1
            exact ⟨rfl, _, _, hE214, hH222, (by first | exact down_done hD (fun j h0 hj he => by omega) | exact down_stop (ah_swo hL) hD (by first | exact down_min_r (ah_swo hL) rfl (by assumption) | exact down_min_l (ah_swo hL) rfl (by first | exact .inr (by omega) | exact .inl (by assumption))) (by assumption)), hP, rfl⟩
          ·
            refine skip ?_
            refine kn202 _ _ ?_
            refine seqK fun Q223 kn224 kr225 ke226 => ?_
            refine regionD1 [3, 8, 13, 16, 20, 23] [0, 1, 2, 3, 4, 5, 6, 7, 8, 9, 10, 11, 12, 13, 14, 15, 16, 17, 18, 19, 20, 21, 22, 23, 24, 26] (.one 0 (.one 1 (.one 2 (.one 3 (.one 4 (.one 5 (.one 6 (.one 7 (.one 8 (.one 9 (.one 10 (.one 11 (.one 12 (.one 13 (.one 14 (.one 15 (.one 16 (.one 17 (.one 18 (.one 19 (.one 20 (.one 21 (.one 22 (.one 23 (.one 24 (.one 25 (.one 26 (.one 27 .done)))))))))))))))))))))))))))) (by kernel_rfl) (by kernel_rfl) ?_
            intro w227 hx228 hs229
            have hB230 := hB212.ext hx228
            have hF231 := hF213.ext hx228
            have hE232 : Mod (fun k => k = b ∨ Value.ownBlock (.slice (some ⟨b1, 0, none⟩) es.length c1) = some k) w0 w227 := hE214.ext hx228
            have hz233 := hE232.le
            have hs234 := hx228.size
            have hS235 : Ext w227 w227 := Below.refl _ _
            refine d_q (v := .pointer (some ⟨b, 0, none⟩)) rfl rfl (fun _ => x_move rfl) ?_
            refine d_q (v := .pointer (some ⟨b, 0, none⟩)) rfl rfl (fun _ => x_nilCheck rfl) ?_
            refine d_q (v := .pointer (some ⟨b, 1, none⟩)) rfl rfl (fun _ => x_field (o := 0) T.fa92_1 rfl) ?_
            refine d_l (v := .slice ((some ⟨b1, 0, none⟩)) ((es.length - 1)) c1) rfl rfl rfl (fun v237 hw236 => x_load1 T.na90 rfl ((hB230.one 1 rfl).ext hw236)) ?_
            refine d_q (v := .int .i64 ((i : Nat) : Int)) rfl rfl (fun _ => x_move rfl) ?_
            refine d_q (v := .pointer (some ⟨b, 0, none⟩)) rfl rfl (fun _ => x_move rfl) ?_
            refine d_q (v := .pointer (some ⟨b, 0, none⟩)) rfl rfl (fun _ => x_nilCheck rfl) ?_
            refine d_q (v := .pointer (some ⟨b, 1, none⟩)) rfl rfl (fun _ => x_field (o := 0) T.fa92_1 rfl) ?_
            refine d_l (v := .slice ((some ⟨b1, 0, none⟩)) ((es.length - 1)) c1) rfl rfl rfl (fun v239 hw238 => x_load1 T.na90 rfl ((hB230.one 1 rfl).ext hw238)) ?_
            refine d_q (v := .int .i64 ((((2 * i) + 1) : Nat) : Int)) rfl rfl (fun _ => x_move rfl) ?_
            refine d_q (v := .pointer (some ⟨b, 0, none⟩)) rfl rfl (fun _ => x_move rfl) ?_
            refine d_q (v := .pointer (some ⟨b, 0, none⟩)) rfl rfl (fun _ => x_nilCheck rfl) ?_
            refine d_q (v := .pointer (some ⟨b, 1, none⟩)) rfl rfl (fun _ => x_field (o := 0) T.fa92_1 rfl) ?_
            refine d_l (v := .slice ((some ⟨b1, 0, none⟩)) ((es.length - 1)) c1) rfl rfl rfl (fun v241 hw240 => x_load1 T.na90 rfl ((hB230.one 1 rfl).ext hw240)) ?_
            refine d_q (v := .int .i64 ((((2 * i) + 1) : Nat) : Int)) rfl rfl (fun _ => x_move rfl) ?_
            refine d_q (v := .pointer (some ⟨b1, 0 + (((2 * i) + 1)) * 2, none⟩)) rfl rfl (fun _ => x_index T.sl90 rfl rfl (by omega)) ?_
            refine d_l (v := .agg #[.int .i64 ((el es2 (((2 * i) + 1))).1), .int .i64 (((el es2 (((2 * i) + 1))).2 : Nat) : Int)]) rfl rfl rfl (fun v243 hw242 => x_loadA [.int .i64 ((el es2 (((2 * i) + 1))).1), .int .i64 (((el es2 (((2 * i) + 1))).2 : Nat) : Int)] T.ag94 rfl ((hF231.cells.elem (enE_len enI_len) (i := ((2 * i) + 1)) (by omega)).ext hw242)) ?_
            refine d_q (v := .pointer (some ⟨b, 0, none⟩)) rfl rfl (fun _ => x_move rfl) ?_
            refine d_q (v := .pointer (some ⟨b, 0, none⟩)) rfl rfl (fun _ => x_nilCheck rfl) ?_
            refine d_q (v := .pointer (some ⟨b, 1, none⟩)) rfl rfl (fun _ => x_field (o := 0) T.fa92_1 rfl) ?_
            refine d_l (v := .slice ((some ⟨b1, 0, none⟩)) ((es.length - 1)) c1) rfl rfl rfl (fun v245 hw244 => x_load1 T.na90 rfl ((hB230.one 1 rfl).ext hw244)) ?_
            refine d_q (v := .int .i64 ((i : Nat) : Int)) rfl rfl (fun _ => x_move rfl) ?_
            refine d_q (v := .pointer (some ⟨b1, 0 + i * 2, none⟩)) rfl rfl (fun _ => x_index T.sl90 rfl rfl (by omega)) ?_
            refine d_l (v := .agg #[.int .i64 ((el es2 i).1), .int .i64 (((el es2 i).2 : Nat) : Int)]) rfl rfl rfl (fun v247 hw246 => x_loadA [.int .i64 ((el es2 i).1), .int .i64 (((el es2 i).2 : Nat) : Int)] T.ag94 rfl ((hF231.cells.elem (enE_len enI_len) (i := i) (by omega)).ext hw246)) ?_
            refine d_q (v := .pointer (some ⟨b1, 0 + i * 2, none⟩)) rfl rfl (fun _ => x_index T.sl90 rfl rfl (by omega)) ?_
            refine d_e (by decide) (d_s' rfl rfl (e_stO (v := .agg #[.int .i64 ((el es2 (((2 * i) + 1))).1), .int .i64 (((el es2 (((2 * i) + 1))).2 : Nat) : Int)]) (u := (el es2 (((2 * i) + 1)))) (enE_len enI_len) T.sz94 rfl rfl rfl hF231 (by first | omega | (rw [List.length_set]; omega)) (by rfl) ?_))
            intro w248 _ hP249 hB250
            have hs251 := hP249.size
            have hB252 := hB230.pt hP249 (by omega)
            have hE253 : Mod (fun k => k = b ∨ Value.ownBlock (.slice (some ⟨b1, 0, none⟩) es.length c1) = some k) w0 w248 := hE232.pt hP249 (.inl (.inr rfl))
            have hz254 := hE253.le
            refine ⟨need_no (by kernel_rfl), ?_⟩
            refine d_q (v := .pointer (some ⟨b1, 0 + (((2 * i) + 1)) * 2, none⟩)) rfl rfl (fun _ => x_index T.sl90 rfl rfl (by omega)) ?_
            refine d_e (by decide) (d_s' rfl rfl (e_stO (v := .agg #[.int .i64 ((el es2 i).1), .int .i64 (((el es2 i).2 : Nat) : Int)]) (u := (el es2 i)) (enE_len enI_len) T.sz94 rfl rfl rfl hB250 (by first | omega | (rw [List.length_set]; omega)) (by rfl) ?_))
            intro w255 _ hP256 hB257
            have hs258 := hP256.size
            have hB259 := hB252.pt hP256 (by omega)
            have hE260 : Mod (fun k => k = b ∨ Value.ownBlock (.slice (some ⟨b1, 0, none⟩) es.length c1) = some k) w0 w255 := hE253.pt hP256 (.inl (.inr rfl))
            have hz261 := hE260.le
            refine ⟨need_no (by kernel_rfl), ?_⟩
            refine d_done ?_
            refine kn224 _ _ ?_
            refine region ?_
            refine st_q (v := .int .i64 ((((2 * i) + 1) : Nat) : Int)) (x_move rfl) ?_
            refine st_q (v := .int .i64 ((((2 * i) + 1) : Nat) : Int)) (x_assign rfl) ?_
            refine st_nil ?_
            refine kn100 _ _ ?_
            refine kn94 _ (((2 * i) + 1), (swap es2 i (((2 * i) + 1)))) _ ⟨rfl, rfl, rfl, rfl, trivial⟩ ⟨hE260, ?_⟩ ?_
            ·
              try dsimp only
              exact ⟨hB259, hB257, by rw [swap_length]; exact hLL, by omega, down_step (ah_swo hL) hD (by omega) (by omega) (by omega) (Decidable.of_not_not (by assumption)) (by first | exact down_min_r (ah_swo hL) rfl (by assumption) | exact down_min_l (ah_swo hL) rfl (by first | exact .inr (by omega) | exact .inl (by assumption))), hP.trans (List.Perm.cons _ (swap_perm (by omega) (by omega)).symm)⟩
            ·
              (try dsimp only); omega
      ·
        refine st_gn 4 62 rfl rfl (by decide) rfl ?_
        refine st_gn 4 62 rfl rfl (by decide) rfl ?_
        refine st_gn 4 62 rfl rfl (by decide) rfl ?_
        refine st_gn 4 62 rfl rfl (by decide) rfl ?_
        refine st_gn 4 62 rfl rfl (by decide) rfl ?_
        refine st_q (v := .bool false) (x_pickF rfl rfl) ?_
        refine st_nil ?_
        refine kn127 _ _ ?_
        refine cndF rfl ?_
        refine skip ?_
        refine kn123 _ _ ?_
        refine seqK fun Q262 kn263 kr264 ke265 => ?_
        refine seqK fun Q266 kn267 kr268 ke269 => ?_
        refine region ?_
        refine st_q (v := .pointer (some ⟨b, 0, none⟩)) (x_move rfl) ?_
        refine st_q (v := .int .i64 ((((2 * i) + 1) : Nat) : Int)) (x_move rfl) ?_
        refine st_q (v := .int .i64 ((i : Nat) : Int)) (x_move rfl) ?_
        have hH272 := HeapR.of_ob (enE_len enI_len) hge hB1 hO2 (m := (es.length - 1)) (by omega) hLL hb1
        refine st_c (t_call [.pointer (some ⟨b, 0, none⟩), .int .i64 ((((2 * i) + 1) : Nat) : Int), .int .i64 ((i : Nat) : Int)] T.cf66 rfl rfl) (ahead66 lo fc c hcf hcmp g hg b nx _ es2 (((2 * i) + 1)) i _ hH272 (by omega) (by omega)) ?_
        rintro _ w270 ⟨rfl, hx271⟩
        refine ⟨_, rfl, ?_⟩
        have hB273 := hB1.ext hx271
        have hF274 := hO2.ext hx271
        have hE275 : Mod (fun k => k = b ∨ Value.ownBlock (.slice (some ⟨b1, 0, none⟩) es.length c1) = some k) w0 w270 := hx91.ext hx271
        have hz276 := hE275.le
        have hs277 := hx271.size
        refine st_q (v := .bool (decide (¬ (ah c (el es2 (((2 * i) + 1))) (el es2 i))))) (x_notP rfl) ?_
        refine st_nil ?_
        refine kn267 _ _ ?_
        refine cnd (p := ¬ (ah c (el es2 (((2 * i) + 1))) (el es2 i))) rfl (fun h278 => ?_) (fun h278 => ?_)
        ·
          refine seqK fun Q279 kn280 kr281 ke282 => ?_
          refine region ?_
          refine st_q (v := .int .i64 ((el es 0).1)) (x_move rfl) ?_
          refine st_q (v := .int .i64 ((el es 0).1)) (x_assign rfl) ?_
          refine st_q (v := .bool true) (x_assign rfl) ?_
          refine st_nil ?_
          refine kn280 _ _ ?_
          refine ret ?_
          refine kr264 _ _ ?_
          refine kr101 _ _ ?_
          refine kr95 _ _ ?_
          refine kr85 _ _ ?_
          refine leave2 (P := Try.prog) (fn := Try.f51) (t := 2) (u := 3) (v := .int .i64 ((el es 0).1)) (v' := .bool true) rfl rfl rfl ?_
          have hH283 := HeapR.of_ob (enE_len enI_len) hge hB273 hF274 (m := (es.length - 1)) (by omega) hLL hb1
          exact ⟨rfl, _, _, hE275, hH283, (by first | exact down_done hD (fun j h0 hj he => by omega) | exact down_stop (ah_swo hL) hD (by first | exact down_min_r (ah_swo hL) rfl (by assumption) | exact down_min_l (ah_swo hL) rfl (by first | exact .inr (by omega) | exact .inl (by assumption))) (by assumption)), hP, rfl⟩
        ·
          refine skip ?_
          refine kn263 _ _ ?_
          refine seqK fun Q284 kn285 kr286 ke287 => ?_
          refine regionD1 [3, 8, 13, 16, 20, 23] [0, 1, 2, 3, 4, 5, 6, 7, 8, 9, 10, 11, 12, 13, 14, 15, 16, 17, 18, 19, 20, 21, 22, 23, 24, 26] (.one 0 (.one 1 (.one 2 (.one 3 (.one 4 (.one 5 (.one 6 (.one 7 (.one 8 (.one 9 (.one 10 (.one 11 (.one 12 (.one 13 (.one 14 (.one 15 (.one 16 (.one 17 (.one 18 (.one 19 (.one 20 (.one 21 (.one 22 (.one 23 (.one 24 (.one 25 (.one 26 (.one 27 .done)))))))))))))))))))))))))))) (by kernel_rfl) (by kernel_rfl) ?_
          intro w288 hx289 hs290
          have hB291 := hB273.ext hx289
          have hF292 := hF274.ext hx289
          have hE293 : Mod (fun k => k = b ∨ Value.ownBlock (.slice (some ⟨b1, 0, none⟩) es.length c1) = some k) w0 w288 := hE275.ext hx289
          have hz294 := hE293.le
          have hs295 := hx289.size
          have hS296 : Ext w288 w288 := Below.refl _ _
          refine d_q (v := .pointer (some ⟨b, 0, none⟩)) rfl rfl (fun _ => x_move rfl) ?_
          refine d_q (v := .pointer (some ⟨b, 0, none⟩)) rfl rfl (fun _ => x_nilCheck rfl) ?_
          refine d_q (v := .pointer (some ⟨b, 1, none⟩)) rfl rfl (fun _ => x_field (o := 0) T.fa92_1 rfl) ?_
          refine d_l (v := .slice ((some ⟨b1, 0, none⟩)) ((es.length - 1)) c1) rfl rfl rfl (fun v298 hw297 => x_load1 T.na90 rfl ((hB291.one 1 rfl).ext hw297)) ?_
          refine d_q (v := .int .i64 ((i : Nat) : Int)) rfl rfl (fun _ => x_move rfl) ?_
          refine d_q (v := .pointer (some ⟨b, 0, none⟩)) rfl rfl (fun _ => x_move rfl) ?_
          refine d_q (v := .pointer (some ⟨b, 0, none⟩)) rfl rfl (fun _ => x_nilCheck rfl) ?_
          refine d_q (v := .pointer (some ⟨b, 1, none⟩)) rfl rfl (fun _ => x_field (o := 0) T.fa92_1 rfl) ?_
          refine d_l (v := .slice ((some ⟨b1, 0, none⟩)) ((es.length - 1)) c1) rfl rfl rfl (fun v300 hw299 => x_load1 T.na90 rfl ((hB291.one 1 rfl).ext hw299)) ?_
          refine d_q (v := .int .i64 ((((2 * i) + 1) : Nat) : Int)) rfl rfl (fun _ => x_move rfl) ?_
          refine d_q (v := .pointer (some ⟨b, 0, none⟩)) rfl rfl (fun _ => x_move rfl) ?_
          refine d_q (v := .pointer (some ⟨b, 0, none⟩)) rfl rfl (fun _ => x_nilCheck rfl) ?_
          refine d_q (v := .pointer (some ⟨b, 1, none⟩)) rfl rfl (fun _ => x_field (o := 0) T.fa92_1 rfl) ?_
          refine d_l (v := .slice ((some ⟨b1, 0, none⟩)) ((es.length - 1)) c1) rfl rfl rfl (fun v302 hw301 => x_load1 T.na90 rfl ((hB291.one 1 rfl).ext hw301)) ?_
          refine d_q (v := .int .i64 ((((2 * i) + 1) : Nat) : Int)) rfl rfl (fun _ => x_move rfl) ?_
          refine d_q (v := .pointer (some ⟨b1, 0 + (((2 * i) + 1)) * 2, none⟩)) rfl rfl (fun _ => x_index T.sl90 rfl rfl (by omega)) ?_
          refine d_l (v := .agg #[.int .i64 ((el es2 (((2 * i) + 1))).1), .int .i64 (((el es2 (((2 * i) + 1))).2 : Nat) : Int)]) rfl rfl rfl (fun v304 hw303 => x_loadA [.int .i64 ((el es2 (((2 * i) + 1))).1), .int .i64 (((el es2 (((2 * i) + 1))).2 : Nat) : Int)] T.ag94 rfl ((hF292.cells.elem (enE_len enI_len) (i := ((2 * i) + 1)) (by omega)).ext hw303)) ?_
          refine d_q (v := .pointer (some ⟨b, 0, none⟩)) rfl rfl (fun _ => x_move rfl) ?_
          refine d_q (v := .pointer (some ⟨b, 0, none⟩)) rfl rfl (fun _ => x_nilCheck rfl) ?_
          refine d_q (v := .pointer (some ⟨b, 1, none⟩)) rfl rfl (fun _ => x_field (o := 0) T.fa92_1 rfl) ?_
          refine d_l (v := .slice ((some ⟨b1, 0, none⟩)) ((es.length - 1)) c1) rfl rfl rfl (fun v306 hw305 => x_load1 T.na90 rfl ((hB291.one 1 rfl).ext hw305)) ?_
          refine d_q (v := .int .i64 ((i : Nat) : Int)) rfl rfl (fun _ => x_move rfl) ?_
          refine d_q (v := .pointer (some ⟨b1, 0 + i * 2, none⟩)) rfl rfl (fun _ => x_index T.sl90 rfl rfl (by omega)) ?_
          refine d_l (v := .agg #[.int .i64 ((el es2 i).1), .int .i64 (((el es2 i).2 : Nat) : Int)]) rfl rfl rfl (fun v308 hw307 => x_loadA [.int .i64 ((el es2 i).1), .int .i64 (((el es2 i).2 : Nat) : Int)] T.ag94 rfl ((hF292.cells.elem (enE_len enI_len) (i := i) (by omega)).ext hw307)) ?_
          refine d_q (v := .pointer (some ⟨b1, 0 + i * 2, none⟩)) rfl rfl (fun _ => x_index T.sl90 rfl rfl (by omega)) ?_
          refine d_e (by decide) (d_s' rfl rfl (e_stO (v := .agg #[.int .i64 ((el es2 (((2 * i) + 1))).1), .int .i64 (((el es2 (((2 * i) + 1))).2 : Nat) : Int)]) (u := (el es2 (((2 * i) + 1)))) (enE_len enI_len) T.sz94 rfl rfl rfl hF292 (by first | omega | (rw [List.length_set]; omega)) (by rfl) ?_))
          intro w309 _ hP310 hB311
          have hs312 := hP310.size
          have hB313 := hB291.pt hP310 (by omega)
          have hE314 : Mod (fun k => k = b ∨ Value.ownBlock (.slice (some ⟨b1, 0, none⟩) es.length c1) = some k) w0 w309 := hE293.pt hP310 (.inl (.inr rfl))
          have hz315 := hE314.le
          refine ⟨need_no (by kernel_rfl), ?_⟩
          refine d_q (v := .pointer (some ⟨b1, 0 + (((2 * i) + 1)) * 2, none⟩)) rfl rfl (fun _ => x_index T.sl90 rfl rfl (by omega)) ?_
          refine d_e (by decide) (d_s' rfl rfl (e_stO (v := .agg #[.int .i64 ((el es2 i).1), .int .i64 (((el es2 i).2 : Nat) : Int)]) (u := (el es2 i)) (enE_len enI_len) T.sz94 rfl rfl rfl hB311 (by first | omega | (rw [List.length_set]; omega)) (by rfl) ?_))
          intro w316 _ hP317 hB318
          have hs319 := hP317.size
          have hB320 := hB313.pt hP317 (by omega)
          have hE321 : Mod (fun k => k = b ∨ Value.ownBlock (.slice (some ⟨b1, 0, none⟩) es.length c1) = some k) w0 w316 := hE314.pt hP317 (.inl (.inr rfl))
          have hz322 := hE321.le
          refine ⟨need_no (by kernel_rfl), ?_⟩
          refine d_done ?_
          refine kn285 _ _ ?_
          refine region ?_
          refine st_q (v := .int .i64 ((((2 * i) + 1) : Nat) : Int)) (x_move rfl) ?_
          refine st_q (v := .int .i64 ((((2 * i) + 1) : Nat) : Int)) (x_assign rfl) ?_
          refine st_nil ?_
          refine kn100 _ _ ?_
          refine kn94 _ (((2 * i) + 1), (swap es2 i (((2 * i) + 1)))) _ ⟨rfl, rfl, rfl, rfl, trivial⟩ ⟨hE321, ?_⟩ ?_
          ·
            try dsimp only
            exact ⟨hB320, hB318, by rw [swap_length]; exact hLL, by omega, down_step (ah_swo hL) hD (by omega) (by omega) (by omega) (Decidable.of_not_not (by assumption)) (by first | exact down_min_r (ah_swo hL) rfl (by assumption) | exact down_min_l (ah_swo hL) rfl (by first | exact .inr (by omega) | exact .inl (by assumption))), hP.trans (List.Perm.cons _ (swap_perm (by omega) (by omega)).symm)⟩
          ·
            (try dsimp only); omega

set_option maxHeartbeats 4000000 in
theorem pop51_0 (lo b nx : Nat) (g v : Value) (es : List (Int × Nat)) (w0 : World) (hH : HeapR w0.heap lo 92 94 2 (enE enI) b g v es nx) (hz : es.length = 0) : Calls Try.prog 51 #[.pointer (some ⟨b, 0, none⟩)] w0 fun e w' => e = .returned (.tuple #[.int .i64 ((0 : Nat) : Int), .bool false]) ∧ Ext w0 w' := by
  have hE0 : Below w0.heap.size w0 w0 := Below.refl _ _
  have hz0 := hE0.le
  obtain ⟨hge, hB, hO, hne⟩ := hH
  obtain ⟨a, ca, rfl, hca, hca1⟩ := hO.src.form
  have hbl := hB.lt
  have hvl : ∀ k, Value.ownBlock (.slice a es.length ca) = some k → lo ≤ k ∧ k < w0.heap.size := fun k hk => hO.lt hk
  refine enter Try.func51 rfl 104 Try.ntmps51 rfl ?_
  refine seqK fun Q1 kn2 kr3 ke4 => ?_
  refine region ?_
  refine st_q (v := .int .i64 ((0 : Nat) : Int)) (x_assign rfl) ?_
  refine st_q (v := .bool false) (x_assign rfl) ?_
  refine st_nil ?_
  refine kn2 _ _ ?_
  refine seqK fun Q5 kn6 kr7 ke8 => ?_
  refine region ?_
  refine st_q (v := .pointer (some ⟨b, 0, none⟩)) (x_move rfl) ?_
  refine st_c (t_call [.pointer (some ⟨b, 0, none⟩)] T.cf67 rfl rfl) (peek67_0 lo b nx g _ es _ ⟨hge, hB, hO, hne⟩ hz) ?_
  rintro _ w9 ⟨rfl, hx10⟩
  refine ⟨_, rfl, ?_⟩
  have hB11 := hB.ext hx10
  have hF12 := hO.ext hx10
  have hE13 : Below w0.heap.size w0 w9 := hx10.e hE0 (Nat.le_refl _)
  have hz14 := hE13.le
  have hs15 := hx10.size
  refine st_q (v := .tuple #[.int .i64 ((0 : Nat) : Int), .bool false]) (x_move rfl) ?_
  refine st_q (v := .int .i64 ((0 : Nat) : Int)) (x_extract rfl rfl) ?_
  refine st_q (v := .bool false) (x_extract rfl rfl) ?_
  refine st_q (v := .int .i64 ((0 : Nat) : Int)) (x_assign rfl) ?_
  refine st_q (v := .bool false) (x_assign rfl) ?_
  refine st_nil ?_
  refine kn6 _ _ ?_
  refine seqK fun Q16 kn17 kr18 ke19 => ?_
  refine seqK fun Q20 kn21 kr22 ke23 => ?_
  refine region ?_
  refine st_q (v := .bool false) (x_move rfl) ?_
  refine st_q (v := .bool true) (x_notB (b := false) rfl) ?_
  refine st_nil ?_
  refine kn21 _ _ ?_
  refine cndT rfl ?_
  refine seqK fun Q24 kn25 kr26 ke27 => ?_
  refine region ?_
  refine st_q (v := .int .i64 ((0 : Nat) : Int)) (x_move rfl) ?_
  refine st_q (v := .int .i64 ((0 : Nat) : Int)) (x_assign rfl) ?_
  refine st_q (v := .bool false) (x_assign rfl) ?_
  refine st_nil ?_
  refine kn25 _ _ ?_
  refine ret ?_
  refine kr18 _ _ ?_
  refine leave2 (P := Try.prog) (fn := Try.f51) (t := 2) (u := 3) (v := .int .i64 ((0 : Nat) : Int)) (v' := .bool false) rfl rfl rfl ?_
  exact ⟨rfl, hE13⟩

set_option maxHeartbeats 4000000 in
theorem new49 (fc : Nat) (g : Value) (hg : ToldI g fc) (w0 : World)  : Calls Try.prog 49 #[g] w0 fun e w' => ∃ b, e = .returned (.pointer (some ⟨b, 0, none⟩)) ∧ Ext w0 w' ∧ HeapR w'.heap w0.heap.size 92 94 2 (enE enI) b (.func (.func fc) #[] #[]) (.slice none 0 0) (([] : List (Int × Nat))) 0 ∧ w0.heap.size ≤ b := by
  have hE0 : Below w0.heap.size w0 w0 := Below.refl _ _
  have hz0 := hE0.le
  refine enter Try.func49 rfl 7 Try.ntmps49 rfl ?_
  refine seqK fun Q1 kn2 kr3 ke4 => ?_
  refine region ?_
  refine st_q (v := .pointer none) (x_assign rfl) ?_
  refine st_nil ?_
  refine kn2 _ _ ?_
  refine seqK fun Q5 kn6 kr7 ke8 => ?_
  refine region ?_
  refine st_q (v := g) (x_move rfl) ?_
  refine st_c (t_call [g] T.cf65 rfl rfl) (hg _) ?_
  rintro _ _ ⟨rfl, rfl⟩
  refine ⟨_, rfl, ?_⟩
  refine st_q (v := .agg #[.func (.func fc) #[] #[], .slice none 0 0, .int .i64 ((0 : Nat) : Int)]) (x_build (fun _ => by kernel_rfl)) ?_
  refine st_e (e_box (v := .agg #[.func (.func fc) #[] #[], .slice none 0 0, .int .i64 ((0 : Nat) : Int)]) rfl ?_)
  intro w9 hA10
  have hx11 := hA10.ext
  have hs12 := hA10.size
  have hB13 : Blk w9.heap w0.heap.size [.func (.func fc) #[] #[], .slice none 0 0, .int .i64 ((0 : Nat) : Int)] 92 := hA10.new
  have hE14 : Below w0.heap.size w0 w9 := hx11.e hE0 (Nat.le_refl _)
  have hz15 := hE14.le
  have hs16 := hx11.size
  refine st_q (v := .pointer (some ⟨w0.heap.size, 0, none⟩)) (x_assign rfl) ?_
  refine st_nil ?_
  refine kn6 _ _ ?_
  refine ret ?_
  refine leave1 (P := Try.prog) (fn := Try.f49) (t := 2) (v := .pointer (some ⟨w0.heap.size, 0, none⟩)) rfl rfl ?_
  exact ⟨_, rfl, hE14, ⟨by omega, hB13, Own.nil _ _ _ _, by simp [Value.ownBlock]⟩, by omega⟩

set_option maxHeartbeats 4000000 in
theorem find47 (fc : Nat) (c : Int → Int → Int) (hcf : CF Try.prog fc) (hcmp : CmpI fc c) (g : Value) (hg : ToldI g fc) (xs : List Int) (z : Int) (vl : Value) (w0 : World) (hl : Src w0.heap vl xs.length 1 (flat enI xs)) (hn : xs.length ≤ 4611686018427387904) (hmono : ∀ i j, i ≤ j → j < xs.length → c (el xs j) z < 0 → c (el xs i) z < 0) : Calls Try.prog 47 #[vl, .int .i64 z, g] w0 fun e w' => ∃ p : Nat, e = .returned (.tuple #[.int .i64 ((p : Nat) : Int), .bool (decide (p < xs.length ∧ c (el xs p) z = 0))]) ∧ Ext w0 w' ∧ p ≤ xs.length ∧ (∀ i, i < p → c (el xs i) z < 0) ∧ (∀ i, p ≤ i → i < xs.length → ¬ c (el xs i) z < 0) := by
  have hE0 : Below w0.heap.size w0 w0 := Below.refl _ _
  have hz0 := hE0.le
  obtain ⟨a, ca, rfl, hca, hca1⟩ := hl.form
  refine enter Try.func47 rfl 50 Try.ntmps47 rfl ?_
  refine seqK fun Q1 kn2 kr3 ke4 => ?_
  refine region ?_
  refine st_q (v := .int .i64 ((0 : Nat) : Int)) (x_assign rfl) ?_
  refine st_q (v := .bool false) (x_assign rfl) ?_
  refine st_nil ?_
  refine kn2 _ _ ?_
  refine scopeK (n := 50) (ds := []) (α := Nat × Nat) (fun x => [(0, .slice a xs.length ca), (1, .int .i64 z), (2, .func (.func fc) #[] #[]), (8, .int .i64 ((x.1 : Nat) : Int)), (9, .int .i64 ((x.2 : Nat) : Int))]) (fun x w5 => Below w0.heap.size w0 w5 ∧ x.1 ≤ x.2 ∧ x.2 ≤ xs.length ∧ (∀ i, i < x.1 → c (el xs i) z < 0) ∧ (∀ i, x.2 ≤ i → i < xs.length → ¬ c (el xs i) z < 0)) (fun x => x.2 - x.1) rfl rfl ?_ ?_
  ·
    intro Z6 Q7 kn8 kr9 ke10
    refine seqK fun Q11 kn12 kr13 ke14 => ?_
    refine region ?_
    refine st_q (v := g) (x_move rfl) ?_
    refine st_c (t_call [g] T.cf65 rfl rfl) (hg _) ?_
    rintro _ _ ⟨rfl, rfl⟩
    refine ⟨_, rfl, ?_⟩
    refine st_q (v := .func (.func fc) #[] #[]) (x_assign rfl) ?_
    refine st_nil ?_
    refine kn12 _ _ ?_
    refine seqK fun Q15 kn16 kr17 ke18 => ?_
    refine region ?_
    refine st_q (v := .slice a xs.length ca) (x_move rfl) ?_
    refine st_q (v := .int .i64 ((xs.length : Nat) : Int)) (x_lenSl rfl Try.underlying70 rfl) ?_
    refine st_q (v := .int .i64 ((0 : Nat) : Int)) (x_assign rfl) ?_
    refine st_q (v := .int .i64 ((xs.length : Nat) : Int)) (x_assign rfl) ?_
    refine st_nil ?_
    refine kn16 _ _ ?_
    refine kn8 _ (0, xs.length) _ ⟨rfl, rfl, rfl, rfl, rfl, trivial⟩ ⟨hE0, ?_⟩
    try dsimp only
    exact ⟨Nat.zero_le _, Nat.le_refl _, fun i h => by omega, fun i h h2 => by omega⟩
  ·
    rintro τ19 ⟨lo, hi⟩ w20 ⟨hx21, ⟨h1, h2, h3, h4⟩⟩
    try dsimp only at h1 h2 h3 h4
    have hz22 := hx21.le
    intro Q23 kg24 kn25 kr26 ke27
    refine seqG fun Q28 kn29 kr30 ke31 kg32 => ?_
    refine seqG fun Q33 kn34 kr35 ke36 kg37 => ?_
    refine region ?_
    refine st_q (v := .int .i64 ((lo : Nat) : Int)) (x_move rfl) ?_
    refine st_q (v := .int .i64 ((hi : Nat) : Int)) (x_move rfl) ?_
    refine st_q (v := .bool (decide (lo < hi))) (x_lssN rfl rfl) ?_
    refine st_nil ?_
    refine kn34 _ _ ?_
    refine cnd (p := lo < hi) rfl (fun h38 => ?_) (fun h38 => ?_)
    ·
      refine seqG fun Q39 kn40 kr41 ke42 kg43 => ?_
      refine seqG fun Q44 kn45 kr46 ke47 kg48 => ?_
      refine region ?_
      refine st_q (v := .int .i64 ((lo : Nat) : Int)) (x_move rfl) ?_
      refine st_q (v := .int .i64 ((hi : Nat) : Int)) (x_move rfl) ?_
      refine st_q (v := .int .i64 ((lo : Nat) : Int)) (x_move rfl) ?_
      refine st_q (v := .int .i64 (((hi - lo) : Nat) : Int)) (x_subN rfl rfl (by omega) (by omega)) ?_
      refine st_q (v := .int .i64 ((((hi - lo) / 2) : Nat) : Int)) (x_quoN rfl rfl (by omega) (by omega)) ?_
      refine st_q (v := .int .i64 (((lo + ((hi - lo) / 2)) : Nat) : Int)) (x_addN rfl rfl (by omega)) ?_
      refine st_q (v := .int .i64 (((lo + ((hi - lo) / 2)) : Nat) : Int)) (x_assign rfl) ?_
      refine st_nil ?_
      refine kn45 _ _ ?_
      refine seqG fun Q49 kn50 kr51 ke52 kg53 => ?_
      refine region ?_
      refine st_q (v := .func (.func fc) #[] #[]) (x_move rfl) ?_
      refine st_q (v := .slice a xs.length ca) (x_move rfl) ?_
      refine st_q (v := .int .i64 (((lo + ((hi - lo) / 2)) : Nat) : Int)) (x_move rfl) ?_
      obtain ⟨b54, o55, ha56, hc57⟩ := hl.at (by omega)
      refine st_q (v := .pointer (some ⟨b54, o55 + ((lo + ((hi - lo) / 2))) * 1, none⟩)) (x_index' T.sl70 rfl ha56 rfl (by omega)) ?_
      refine st_q (v := .int .i64 (el xs ((lo + ((hi - lo) / 2))))) (x_load1 T.na3 rfl ((hc57.below hx21).elem enI_len (i := (lo + ((hi - lo) / 2))) (by omega))) ?_
      refine st_q (v := .int .i64 z) (x_move rfl) ?_
      refine st_c (t_call [.int .i64 (el xs ((lo + ((hi - lo) / 2)))), .int .i64 z] hcf rfl rfl) (hcmp (el xs ((lo + ((hi - lo) / 2)))) z _) ?_
      rintro _ w58 ⟨rfl, hx59⟩
      refine ⟨_, rfl, ?_⟩
      have hE60 : Below w0.heap.size w0 w58 := hx59.e hx21 (Nat.le_refl _)
      have hz61 := hE60.le
      have hs62 := hx59.size
      refine st_q (v := .bool (decide ((c (el xs ((lo + ((hi - lo) / 2)))) z) < 0))) (x_lss rfl rfl) ?_
      refine st_nil ?_
      refine kn50 _ _ ?_
      refine cnd (p := (c (el xs ((lo + ((hi - lo) / 2)))) z) < 0) rfl (fun h63 => ?_) (fun h63 => ?_)
      ·
        refine region ?_
        refine st_q (v := .int .i64 (((lo + ((hi - lo) / 2)) : Nat) : Int)) (x_move rfl) ?_
        refine st_q (v := .int .i64 ((((lo + ((hi - lo) / 2)) + 1) : Nat) : Int)) (x_addN rfl rfl (by omega)) ?_
        refine st_q (v := .int .i64 ((((lo + ((hi - lo) / 2)) + 1) : Nat) : Int)) (x_assign rfl) ?_
        refine st_nil ?_
        refine kn40 _ _ ?_
        refine gotoS ?_
        refine kg32 _ _ _ ?_
        refine kg24 _ (((lo + ((hi - lo) / 2)) + 1), hi) _ ⟨rfl, rfl, rfl, rfl, rfl, trivial⟩ ⟨hE60, ?_⟩ ?_
        ·
          try dsimp only
          exact ⟨by omega, by omega, fun i h => hmono _ _ (by omega) (by omega) h63, fun i h => h4 i (by omega)⟩
        ·
          (try dsimp only); omega
      ·
        refine region ?_
        refine st_q (v := .int .i64 (((lo + ((hi - lo) / 2)) : Nat) : Int)) (x_move rfl) ?_
        refine st_q (v := .int .i64 (((lo + ((hi - lo) / 2)) : Nat) : Int)) (x_assign rfl) ?_
        refine st_nil ?_
        refine kn40 _ _ ?_
        refine gotoS ?_
        refine kg32 _ _ _ ?_
        refine kg24 _ (lo, (lo + ((hi - lo) / 2))) _ ⟨rfl, rfl, rfl, rfl, rfl, trivial⟩ ⟨hE60, ?_⟩ ?_
        ·
          try dsimp only
          exact ⟨by omega, by omega, fun i h => h3 i (by omega), fun i h h5 hc => h63 (hmono _ _ (by omega) (by omega) hc)⟩
        ·
          (try dsimp only); omega
    ·
      refine skip ?_
      refine kn29 _ _ ?_
      refine seqG fun Q64 kn65 kr66 ke67 kg68 => ?_
      refine region ?_
      refine st_q (v := .int .i64 ((lo : Nat) : Int)) (x_move rfl) ?_
      refine st_q (v := .int .i64 ((lo : Nat) : Int)) (x_move rfl) ?_
      refine st_q (v := .slice a xs.length ca) (x_move rfl) ?_
      refine st_q (v := .int .i64 ((xs.length : Nat) : Int)) (x_lenSl rfl Try.underlying70 rfl) ?_
      refine st_q (v := .bool (decide (lo < xs.length))) (x_lssN rfl rfl) ?_
      refine st_if (p := lo < xs.length) (x_move rfl) (fun h69 => ?_) (fun h69 => ?_)
      ·
        refine st_gq 5 40 rfl rfl (by decide) ?_
        refine st_q (v := .func (.func fc) #[] #[]) (x_move rfl) ?_
        refine st_gq 5 40 rfl rfl (by decide) ?_
        refine st_q (v := .slice a xs.length ca) (x_move rfl) ?_
        refine st_gq 5 40 rfl rfl (by decide) ?_
        refine st_q (v := .int .i64 ((lo : Nat) : Int)) (x_move rfl) ?_
        refine st_gq 5 40 rfl rfl (by decide) ?_
        obtain ⟨b70, o71, ha72, hc73⟩ := hl.at (by omega)
        refine st_q (v := .pointer (some ⟨b70, o71 + lo * 1, none⟩)) (x_index' T.sl70 rfl ha72 rfl (by omega)) ?_
        refine st_gq 5 40 rfl rfl (by decide) ?_
        refine st_q (v := .int .i64 (el xs lo)) (x_load1 T.na3 rfl ((hc73.below hx21).elem enI_len (i := lo) (by omega))) ?_
        refine st_gq 5 40 rfl rfl (by decide) ?_
        refine st_q (v := .int .i64 z) (x_move rfl) ?_
        refine st_gq 5 40 rfl rfl (by decide) ?_
        refine st_c (t_call [.int .i64 (el xs lo), .int .i64 z] hcf rfl rfl) (hcmp (el xs lo) z _) ?_
        rintro _ w74 ⟨rfl, hx75⟩
        refine ⟨_, rfl, ?_⟩
        have hE76 : Below w0.heap.size w0 w74 := hx75.e hx21 (Nat.le_refl _)
        have hz77 := hE76.le
        have hs78 := hx75.size
        refine st_gq 5 40 rfl rfl (by decide) ?_
        refine st_q (v := .bool (decide ((c (el xs lo) z) = 0))) (x_eql rfl rfl) ?_
        refine st_q (v := .bool (decide ((c (el xs lo) z) = 0))) (x_pickT rfl rfl) ?_
        refine st_q (v := .int .i64 ((lo : Nat) : Int)) (x_assign rfl) ?_
        refine st_q (v := .bool (decide ((c (el xs lo) z) = 0))) (x_assign rfl) ?_
        refine st_nil ?_
        refine kn65 _ _ ?_
        refine ret ?_
        refine kr26 _ _ ?_
        refine leave2 (P := Try.prog) (fn := Try.f47) (t := 6) (u := 7) (v := .int .i64 ((lo : Nat) : Int)) (v' := .bool (decide ((c (el xs lo) z) = 0))) rfl rfl rfl ?_
        obtain rfl : lo = hi := by omega
        exact ⟨_, by rw [fd_n (p := lo) (n := xs.length) (by assumption)], hE76, h2, h3, h4⟩
      ·
        refine st_gn 5 40 rfl rfl (by decide) rfl ?_
        refine st_gn 5 40 rfl rfl (by decide) rfl ?_
        refine st_gn 5 40 rfl rfl (by decide) rfl ?_
        refine st_gn 5 40 rfl rfl (by decide) rfl ?_
        refine st_gn 5 40 rfl rfl (by decide) rfl ?_
        refine st_gn 5 40 rfl rfl (by decide) rfl ?_
        refine st_gn 5 40 rfl rfl (by decide) rfl ?_
        refine st_gn 5 40 rfl rfl (by decide) rfl ?_
        refine st_q (v := .bool false) (x_pickF rfl rfl) ?_
        refine st_q (v := .int .i64 ((lo : Nat) : Int)) (x_assign rfl) ?_
        refine st_q (v := .bool false) (x_assign rfl) ?_
        refine st_nil ?_
        refine kn65 _ _ ?_
        refine ret ?_
        refine kr26 _ _ ?_
        refine leave2 (P := Try.prog) (fn := Try.f47) (t := 6) (u := 7) (v := .int .i64 ((lo : Nat) : Int)) (v' := .bool false) rfl rfl rfl ?_
        obtain rfl : lo = hi := by omega
        exact ⟨_, by rw [fd_f (p := lo) (n := xs.length) (c := c (el xs lo) z) (by assumption)], hx21, h2, h3, h4⟩

set_option maxHeartbeats 4000000 in
theorem told65 (f : Nat) (w0 : World) : Calls Try.prog 65 #[.func (.func f) #[] #[]] w0 fun e w' => e = .returned (.func (.func f) #[] #[]) ∧ w0 = w' := by
  have hE0 : Below w0.heap.size w0 w0 := Below.refl _ _
  have hz0 := hE0.le
  refine enter Try.func65 rfl 6 Try.ntmps65 rfl ?_
  refine seqK fun Q1 kn2 kr3 ke4 => ?_
  refine region ?_
  refine st_q (v := .nilFunc) (x_assign rfl) ?_
  refine st_nil ?_
  refine kn2 _ _ ?_
  refine seqK fun Q5 kn6 kr7 ke8 => ?_
  refine seqK fun Q9 kn10 kr11 ke12 => ?_
  refine region ?_
  refine st_q (v := .func (.func f) #[] #[]) (x_move rfl) ?_
  refine st_q (v := .bool false) (x_eqlFnil Try.underlying71 rfl rfl) ?_
  refine st_nil ?_
  refine kn10 _ _ ?_
  refine cndF rfl ?_
  refine skip ?_
  refine kn6 _ _ ?_
  refine seqK fun Q13 kn14 kr15 ke16 => ?_
  refine region ?_
  refine st_q (v := .func (.func f) #[] #[]) (x_move rfl) ?_
  refine st_q (v := .func (.func f) #[] #[]) (x_assign rfl) ?_
  refine st_nil ?_
  refine kn14 _ _ ?_
  refine ret ?_
  refine leave1 (P := Try.prog) (fn := Try.f65) (t := 2) (v := .func (.func f) #[] #[]) rfl rfl ?_
  exact ⟨rfl, rfl⟩

end Go.Proofs.Ytgfolockecjlnaa
