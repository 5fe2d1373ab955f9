import Derived.Test.YtknfjgbipfpnjaaG2
namespace Go.Proofs.Ytknfjgbipfpnjaa
open Go.RowKit Go.Eng Go.OrdPure
theorem T.cf53 : CF Try.prog 53 := fun _ _ => by kernel_rfl
theorem T.sz9 : SZ Try.prog 9 1 := fun _ => by kernel_rfl

def CmpS (fc : Nat) (c : ByteArray → ByteArray → Int) : Prop := ∀ (x y : ByteArray) (w : World), Calls Try.prog fc #[.string x, .string y] w fun e w' => e = .returned (.int .i64 (c x y)) ∧ Ext w w'
def Told (g : Value) (fc : Nat) : Prop := ∀ w, Calls Try.prog 53 #[g] w fun e w' => e = .returned (.func (.func fc) #[] #[]) ∧ w = w'
theorem flat_rep (n : Nat) : flat enS (List.replicate n ByteArray.empty) = (List.replicate n [Value.string ByteArray.empty]).flatten := by
  induction n with
  | zero => rfl
  | succ n ih => simp only [List.replicate_succ, flat, List.flatMap_cons, List.flatten_cons] at *; rw [ih]; rfl
set_option maxHeartbeats 4000000 in
theorem sort48p (fc : Nat) (c : ByteArray → ByteArray → Int) (hcf : CF Try.prog fc) (hcmp : CmpS fc c) (hL : Lawful c) (g : Value) (hg : Told g fc) (xs : List ByteArray) (vl : Value) (w0 : World) (hl : Src w0.heap vl xs.length 1 (flat enS xs)) (hn : xs.length ≤ 8796093022208) (hpos : 0 < xs.length) : Calls Try.prog 48 #[vl, g] w0 fun e w' => ∃ v, e = .returned v ∧ Ext w0 w' ∧ Own w'.heap w0.heap.size 9 1 v xs.length (flat enS (srt c xs)) := by
  have hE0 : Below w0.heap.size w0 w0 := Below.refl _ _
  have hz0 := hE0.le
  obtain ⟨a, ca, rfl, hca, hca1⟩ := hl.form
  refine enter Try.func48 rfl 98 Try.ntmps48 rfl ?_
  refine seqK fun Q1 kn2 kr3 ke4 => ?_
  refine region ?_
  refine st_q (v := .slice none 0 0) (x_assign rfl) ?_
  refine st_nil ?_
  refine kn2 _ _ ?_
  refine seqK fun Q5 kn6 kr7 ke8 => ?_
  refine region ?_
  refine st_q (v := g) (x_move rfl) ?_
  refine st_c (t_call [g] T.cf53 rfl rfl) (hg _) ?_
  rintro _ _ ⟨rfl, rfl⟩
  refine ⟨_, rfl, ?_⟩
  refine st_q (v := .func (.func fc) #[] #[]) (x_assign rfl) ?_
  refine st_nil ?_
  refine kn6 _ _ ?_
  refine seqLK (n := 98) (ds := []) (α := Nat × Nat × Nat × (List ByteArray)) (fun x => [(0, .slice a xs.length ca), (1, .func (.func fc) #[] #[]), (5, .slice ((some ⟨x.1, 0, none⟩)) xs.length x.2.2.1), (6, .slice ((some ⟨x.2.1, 0, none⟩)) xs.length xs.length)]) (fun x w9 => Ext w0 w9 ∧ x.1 ≠ x.2.1 ∧ xs.length ≤ x.2.2.1 ∧ xs.length ≤ xs.length ∧ OB w9.heap w0.heap.size 9 1 x.1 x.2.2.1 (flat enS xs) ∧ OB w9.heap w0.heap.size 9 1 x.2.1 xs.length (flat enS x.2.2.2) ∧ xs.length = xs.length ∧ x.2.2.2.length = xs.length) ?_ ?_
  ·
    have hx10 : Ext w0 w0 := Below.refl _ _
    intro Q11 kn12 kr13 ke14
    refine regionD1 [] [0, 2, 3, 5, 6] (.one 0 (.one 2 (.one 3 (.two 1 (.one 5 (.one 4 (.one 6 .done))) 4 (.one 1 (.one 5 (.one 6 .done))))))) (by kernel_rfl) (by kernel_rfl) ?_
    intro w15 hx16 hs17
    have hF18 := hx16.e hx10 (Nat.le_refl _)
    have hE19 : Below w0.heap.size w0 w15 := hx16.e hE0 (Nat.le_refl _)
    have hz20 := hE19.le
    have hs21 := hx16.size
    have hS22 : Ext w15 w15 := Below.refl _ _
    refine d_q (v := .slice a xs.length ca) rfl rfl (fun _ => x_move rfl) ?_
    refine d_q (v := .slice a xs.length ca) rfl rfl (fun _ => x_move rfl) ?_
    refine d_q (v := .int .i64 ((xs.length : Nat) : Int)) rfl rfl (fun _ => x_lenSl rfl Try.underlying22 rfl) ?_
    refine d_two ?_ ?_
    ·
      refine id (d_e' rfl rfl (e_append0 (lo := w15.heap.size) T.sl22 rfl rfl (hl.below hE19) (ones (by exact flat_onesS)) (by omega) (by decide) (by omega) ?_))
      intro v23 w24 hO25 hG26 hN27
      have hF28 := hG26.e hF18 (Nat.le_refl _)
      have hE29 : Below w0.heap.size w0 w24 := hG26.e hE19 (Nat.le_refl _)
      have hz30 := hE29.le
      have hs31 := hG26.size
      have hS32 := hS22.trans (hG26.mono hS22.size)
      refine ⟨fun _ => hS32, ?_⟩
      obtain ⟨b33, c34, rfl, hm35, hO36⟩ := hO25.ob (hN27 (by omega))
      have hl38 := hO36.lo
      have hO37 := hO36.weak (lo' := w0.heap.size) (by omega)
      have hl39 := hO37.lo
      have hl40 := hO37.lt
      refine d_q (v := .slice ((some ⟨b33, 0, none⟩)) xs.length c34) rfl rfl (fun _ => x_assign rfl) ?_
      refine d_e (by decide) (d_e' rfl rfl (e_makeSlice T.sl22 rfl rfl (by omega) (by omega) ?_))
      intro w41 hA42
      have hx43 := hA42.ext
      have hs45 := hA42.size
      have hA42x : Al w24 w41 (.cells (flat enS (List.replicate xs.length ByteArray.empty)).toArray 9) := by rw [flat_rep]; exact hA42
      have hO44 := OB.new (lo := w0.heap.size) (k := 1) (c := xs.length) hA42x (by omega) (by rw [flat_length enS_len]; simp) (by omega)
      have hF46 := hx43.e hF28 (Nat.le_refl _)
      have hF47 := hO37.ext hx43
      have hE48 : Below w0.heap.size w0 w41 := hx43.e hE29 (Nat.le_refl _)
      have hz49 := hE48.le
      have hs50 := hx43.size
      have hS51 := hS32.trans (hx43.mono hS32.size)
      refine ⟨fun _ => hS51, ?_⟩
      obtain ⟨b52, b52e⟩ : ∃ b, b = w24.heap.size := ⟨_, rfl⟩
      rw [← b52e] at hO44
      rw [← b52e]
      have hl53 := hO44.lo
      have hl54 := hO44.lt
      refine d_q (v := .slice ((some ⟨b52, 0, none⟩)) xs.length xs.length) rfl rfl (fun _ => x_assign rfl) ?_
      refine d_done ?_
      refine kn12 _ (b33, b52, c34, (List.replicate xs.length ByteArray.empty)) _ ⟨rfl, rfl, rfl, rfl, trivial⟩ ⟨hF46, ?_⟩
      try dsimp only
      exact ⟨by omega, hm35, Nat.le_refl _, hF47, hO44, rfl, by simp⟩
    ·
      refine id (d_e' rfl rfl (e_makeSlice T.sl22 rfl rfl (by omega) (by omega) ?_))
      intro w55 hA56
      have hx57 := hA56.ext
      have hs59 := hA56.size
      have hA56x : Al w15 w55 (.cells (flat enS (List.replicate xs.length ByteArray.empty)).toArray 9) := by rw [flat_rep]; exact hA56
      have hO58 := OB.new (lo := w0.heap.size) (k := 1) (c := xs.length) hA56x (by omega) (by rw [flat_length enS_len]; simp) (by omega)
      have hF60 := hx57.e hF18 (Nat.le_refl _)
      have hE61 : Below w0.heap.size w0 w55 := hx57.e hE19 (Nat.le_refl _)
      have hz62 := hE61.le
      have hs63 := hx57.size
      have hS64 := hS22.trans (hx57.mono hS22.size)
      refine ⟨fun _ => hS64, ?_⟩
      obtain ⟨b65, b65e⟩ : ∃ b, b = w15.heap.size := ⟨_, rfl⟩
      rw [← b65e] at hO58
      rw [← b65e]
      have hl66 := hO58.lo
      have hl67 := hO58.lt
      refine d_e (by decide) (d_e' rfl rfl (e_append0 (lo := w55.heap.size) T.sl22 rfl rfl (hl.below hE61) (ones (by exact flat_onesS)) (by omega) (by decide) (by omega) ?_))
      intro v68 w69 hO70 hG71 hN72
      have hF73 := hG71.e hF60 (Nat.le_refl _)
      have hF74 := hO58.ext hG71
      have hE75 : Below w0.heap.size w0 w69 := hG71.e hE61 (Nat.le_refl _)
      have hz76 := hE75.le
      have hs77 := hG71.size
      have hS78 := hS64.trans (hG71.mono hS64.size)
      refine ⟨fun _ => hS78, ?_⟩
      obtain ⟨b79, c80, rfl, hm81, hO82⟩ := hO70.ob (hN72 (by omega))
      have hl84 := hO82.lo
      have hO83 := hO82.weak (lo' := w0.heap.size) (by omega)
      have hl85 := hO83.lo
      have hl86 := hO83.lt
      refine d_q (v := .slice ((some ⟨b79, 0, none⟩)) xs.length c80) rfl rfl (fun _ => x_assign rfl) ?_
      refine d_q (v := .slice ((some ⟨b65, 0, none⟩)) xs.length xs.length) rfl rfl (fun _ => x_assign rfl) ?_
      refine d_done ?_
      refine kn12 _ (b79, b65, c80, (List.replicate xs.length ByteArray.empty)) _ ⟨rfl, rfl, rfl, rfl, trivial⟩ ⟨hF73, ?_⟩
      try dsimp only
      exact ⟨by omega, hm81, Nat.le_refl _, hO83, hF74, rfl, by simp⟩
  ·
    rintro τ87 ⟨b1, b2, c1, G⟩ w88 ⟨hx89, ⟨hne, hc1, hc2, hO1, hO2, hF, hT⟩⟩
    try dsimp only at hne hc1 hc2 hO1 hO2 hF hT
    have hE90 : Below w0.heap.size w0 w88 := hx89.e hE0 (Nat.le_refl _)
    have hz91 := hE90.le
    have hs92 := hx89.size
    have hl93 := hO1.lo
    have hl94 := hO1.lt
    have hl95 := hO2.lo
    have hl96 := hO2.lt
    refine seqK fun Q97 kn98 kr99 ke100 => ?_
    refine seqK fun Q101 kn102 kr103 ke104 => ?_
    refine region ?_
    refine st_q (v := .int .i64 ((1 : Nat) : Int)) (x_assign rfl) ?_
    refine st_nil ?_
    refine kn102 _ _ ?_
    refine blockK fun Q105 kn106 kr107 kx108 kb109 => ?_
    refine loopK (α := Nat × Nat × Nat × Nat × Nat × (List ByteArray) × (List ByteArray)) (fun x => [(0, .slice a xs.length ca), (1, .func (.func fc) #[] #[]), (5, .slice ((some ⟨x.2.1, 0, none⟩)) xs.length x.2.2.2.1), (6, .slice ((some ⟨x.2.2.1, 0, none⟩)) xs.length x.2.2.2.2.1), (7, .int .i64 ((x.1 : Nat) : Int))]) (fun x w110 => Below w0.heap.size w0 w110 ∧ x.2.1 ≠ x.2.2.1 ∧ xs.length ≤ x.2.2.2.1 ∧ xs.length ≤ x.2.2.2.2.1 ∧ OB w110.heap w0.heap.size 9 1 x.2.1 x.2.2.2.1 (flat enS x.2.2.2.2.2.1) ∧ OB w110.heap w0.heap.size 9 1 x.2.2.1 x.2.2.2.2.1 (flat enS x.2.2.2.2.2.2) ∧ x.2.2.2.2.2.1.length = xs.length ∧ x.2.2.2.2.2.2.length = xs.length ∧ 1 ≤ x.1 ∧ x.1 < 2 * xs.length ∧ SegOK c x.1 xs x.2.2.2.2.2.1 xs.length) (fun x => 2 * xs.length - x.1) (1, b1, b2, c1, xs.length, xs, G) ⟨rfl, rfl, rfl, rfl, rfl, trivial⟩ ?_ ?_
    ·
      refine ⟨hE90, ?_⟩
      try dsimp only
      exact ⟨hne, hc1, Nat.le_refl _, hO1, hO2, hF, hT, Nat.le_refl _, by omega, SegOK.one xs _⟩
    ·
      rintro τ111 ⟨wd, b1, b2, c1, c2, F, G⟩ w112 ⟨hx113, ⟨hne, hc1, hc2, hO1, hO2, hF, hT, hw1, hw2, hS⟩⟩
      try dsimp only at hne hc1 hc2 hO1 hO2 hF hT hw1 hw2 hS
      have hz114 := hx113.le
      intro Q115 kn116 kr117 ke118
      have hl119 := hO1.lo
      have hl120 := hO1.lt
      have hl121 := hO2.lo
      have hl122 := hO2.lt
      refine seqK fun Q123 kn124 kr125 ke126 => ?_
      refine seqK fun Q127 kn128 kr129 ke130 => ?_
      refine region ?_
      refine st_q (v := .int .i64 ((wd : Nat) : Int)) (x_move rfl) ?_
      refine st_q (v := .slice a xs.length ca) (x_move rfl) ?_
      refine st_q (v := .int .i64 ((xs.length : Nat) : Int)) (x_lenSl rfl Try.underlying22 rfl) ?_
      refine st_q (v := .bool (decide (wd < xs.length))) (x_lssN rfl rfl) ?_
      refine st_nil ?_
      refine kn128 _ _ ?_
      refine cnd (p := wd < xs.length) rfl (fun h131 => ?_) (fun h131 => ?_)
      ·
        refine skip ?_
        refine kn124 _ _ ?_
        refine seqK fun Q132 kn133 kr134 ke135 => ?_
        refine blockK fun Q136 kn137 kr138 kx139 kb140 => ?_
        refine seqK fun Q141 kn142 kr143 ke144 => ?_
        refine seqK fun Q145 kn146 kr147 ke148 => ?_
        refine region ?_
        refine st_q (v := .int .i64 ((0 : Nat) : Int)) (x_assign rfl) ?_
        refine st_nil ?_
        refine kn146 _ _ ?_
        refine blockK fun Q149 kn150 kr151 kx152 kb153 => ?_
        refine loopK (α := Nat × (List ByteArray)) (fun x => [(0, .slice a xs.length ca), (1, .func (.func fc) #[] #[]), (5, .slice ((some ⟨b1, 0, none⟩)) xs.length c1), (6, .slice ((some ⟨b2, 0, none⟩)) xs.length c2), (7, .int .i64 ((wd : Nat) : Int)), (8, .int .i64 ((x.1 : Nat) : Int))]) (fun x w154 => Below w0.heap.size w0 w154 ∧ OB w154.heap w0.heap.size 9 1 b1 c1 (flat enS F) ∧ OB w154.heap w0.heap.size 9 1 b2 c2 (flat enS x.2) ∧ x.2.length = xs.length ∧ x.1 < xs.length + 2 * wd ∧ (∃ m, x.1 = m * (2 * wd)) ∧ SegOK c (2 * wd) xs x.2 x.1) (fun x => xs.length + 2 * wd - x.1) (0, G) ⟨rfl, rfl, rfl, rfl, rfl, rfl, trivial⟩ ?_ ?_
        ·
          refine ⟨hx113, ?_⟩
          try dsimp only
          exact ⟨hO1, hO2, hT, by omega, ⟨0, by omega⟩, SegOK.zero _ _ _⟩
        ·
          rintro τ155 ⟨p, T2⟩ w156 ⟨hx157, ⟨hO3, hO4, hT2, hp, hm, hS2⟩⟩
          try dsimp only at hO3 hO4 hT2 hp hm hS2
          have hz158 := hx157.le
          intro Q159 kn160 kr161 ke162
          have hl163 := hO3.lo
          have hl164 := hO3.lt
          have hl165 := hO4.lo
          have hl166 := hO4.lt
          refine seqK fun Q167 kn168 kr169 ke170 => ?_
          refine seqK fun Q171 kn172 kr173 ke174 => ?_
          refine region ?_
          refine st_q (v := .int .i64 ((p : Nat) : Int)) (x_move rfl) ?_
          refine st_q (v := .slice a xs.length ca) (x_move rfl) ?_
          refine st_q (v := .int .i64 ((xs.length : Nat) : Int)) (x_lenSl rfl Try.underlying22 rfl) ?_
          refine st_q (v := .bool (decide (p < xs.length))) (x_lssN rfl rfl) ?_
          refine st_nil ?_
          refine kn172 _ _ ?_
          refine cnd (p := p < xs.length) rfl (fun h175 => ?_) (fun h175 => ?_)
          ·
            refine skip ?_
            refine kn168 _ _ ?_
            refine seqK fun Q176 kn177 kr178 ke179 => ?_
            refine blockK fun Q180 kn181 kr182 kx183 kb184 => ?_
            refine seqK fun Q185 kn186 kr187 ke188 => ?_
            refine region ?_
            refine st_q (v := .int .i64 ((p : Nat) : Int)) (x_move rfl) ?_
            refine st_q (v := .int .i64 ((wd : Nat) : Int)) (x_move rfl) ?_
            refine st_q (v := .int .i64 (((p + wd) : Nat) : Int)) (x_addN rfl rfl (by omega)) ?_
            refine st_q (v := .slice a xs.length ca) (x_move rfl) ?_
            refine st_q (v := .int .i64 ((xs.length : Nat) : Int)) (x_lenSl rfl Try.underlying22 rfl) ?_
            refine st_q (v := .int .i64 (((min ((p + wd)) xs.length) : Nat) : Int)) (x_minN rfl rfl) ?_
            refine st_q (v := .int .i64 ((p : Nat) : Int)) (x_move rfl) ?_
            refine st_q (v := .int .i64 ((wd : Nat) : Int)) (x_move rfl) ?_
            refine st_q (v := .int .i64 (((2 * wd) : Nat) : Int)) (x_mulN rfl rfl (by omega)) ?_
            refine st_q (v := .int .i64 (((p + (2 * wd)) : Nat) : Int)) (x_addN rfl rfl (by omega)) ?_
            refine st_q (v := .slice a xs.length ca) (x_move rfl) ?_
            refine st_q (v := .int .i64 ((xs.length : Nat) : Int)) (x_lenSl rfl Try.underlying22 rfl) ?_
            refine st_q (v := .int .i64 (((min ((p + (2 * wd))) xs.length) : Nat) : Int)) (x_minN rfl rfl) ?_
            refine st_q (v := .int .i64 (((min ((p + wd)) xs.length) : Nat) : Int)) (x_assign rfl) ?_
            refine st_q (v := .int .i64 (((min ((p + (2 * wd))) xs.length) : Nat) : Int)) (x_assign rfl) ?_
            refine st_nil ?_
            refine kn186 _ _ ?_
            refine seqK fun Q189 kn190 kr191 ke192 => ?_
            refine region ?_
            refine st_q (v := .int .i64 ((p : Nat) : Int)) (x_move rfl) ?_
            refine st_q (v := .int .i64 (((min ((p + wd)) xs.length) : Nat) : Int)) (x_move rfl) ?_
            refine st_q (v := .int .i64 ((p : Nat) : Int)) (x_move rfl) ?_
            refine st_q (v := .int .i64 ((p : Nat) : Int)) (x_assign rfl) ?_
            refine st_q (v := .int .i64 (((min ((p + wd)) xs.length) : Nat) : Int)) (x_assign rfl) ?_
            refine st_q (v := .int .i64 ((p : Nat) : Int)) (x_assign rfl) ?_
            refine st_nil ?_
            refine kn190 _ _ ?_
            refine blockK fun Q193 kn194 kr195 kx196 kb197 => ?_
            refine loopK (α := Nat × Nat × Nat × (List ByteArray)) (fun x => [(0, .slice a xs.length ca), (1, .func (.func fc) #[] #[]), (5, .slice ((some ⟨b1, 0, none⟩)) xs.length c1), (6, .slice ((some ⟨b2, 0, none⟩)) xs.length c2), (7, .int .i64 ((wd : Nat) : Int)), (8, .int .i64 ((p : Nat) : Int)), (9, .int .i64 (((min ((p + wd)) xs.length) : Nat) : Int)), (10, .int .i64 (((min ((p + (2 * wd))) xs.length) : Nat) : Int)), (11, .int .i64 ((x.1 : Nat) : Int)), (12, .int .i64 ((x.2.1 : Nat) : Int)), (13, .int .i64 ((x.2.2.1 : Nat) : Int))]) (fun x w198 => Below w0.heap.size w0 w198 ∧ OB w198.heap w0.heap.size 9 1 b1 c1 (flat enS F) ∧ OB w198.heap w0.heap.size 9 1 b2 c2 (flat enS x.2.2.2) ∧ x.2.2.2.length = xs.length ∧ x.2.2.1 + (min (p + wd) xs.length) = x.1 + x.2.1 ∧ p ≤ x.1 ∧ x.1 ≤ min (p + wd) xs.length ∧ min (p + wd) xs.length ≤ x.2.1 ∧ x.2.1 ≤ min (p + 2 * wd) xs.length ∧ SegOK c (2 * wd) xs x.2.2.2 p ∧ seg x.2.2.2 p x.2.2.1 ++ mrg c (seg F x.1 (min (p + wd) xs.length)) (seg F x.2.1 (min (p + 2 * wd) xs.length)) = srt c (seg xs p (min (p + 2 * wd) xs.length))) (fun x => xs.length - x.2.2.1) (p, (min (p + wd) xs.length), p, T2) ⟨rfl, rfl, rfl, rfl, rfl, rfl, rfl, rfl, rfl, rfl, rfl, trivial⟩ ?_ ?_
            ·
              refine ⟨hx157, ?_⟩
              try dsimp only
              exact ⟨hO3, hO4, hT2, by omega, by omega, by omega, by omega, by omega, hS2, by rw [seg_self]; exact merge_start hL hS hm (by omega) (by omega)⟩
            ·
              rintro τ199 ⟨ai, bi, k, T3⟩ w200 ⟨hx201, ⟨hO5, hO6, hT3, hk, ha1, ha2, hb1, hb2, hS3, hM⟩⟩
              try dsimp only at hO5 hO6 hT3 hk ha1 ha2 hb1 hb2 hS3 hM
              have hz202 := hx201.le
              intro Q203 kn204 kr205 ke206
              have hl207 := hO5.lo
              have hl208 := hO5.lt
              have hl209 := hO6.lo
              have hl210 := hO6.lt
              refine seqK fun Q211 kn212 kr213 ke214 => ?_
              refine seqK fun Q215 kn216 kr217 ke218 => ?_
              refine region ?_
              refine st_q (v := .int .i64 ((k : Nat) : Int)) (x_move rfl) ?_
              refine st_q (v := .int .i64 (((min ((p + (2 * wd))) xs.length) : Nat) : Int)) (x_move rfl) ?_
              refine st_q (v := .bool (decide (k < ((min ((p + (2 * wd))) xs.length))))) (x_lssN rfl rfl) ?_
              refine st_nil ?_
              refine kn216 _ _ ?_
              refine cnd (p := k < ((min ((p + (2 * wd))) xs.length))) rfl (fun h219 => ?_) (fun h219 => ?_)
              ·
                refine skip ?_
                refine kn212 _ _ ?_
                refine seqK fun Q220 kn221 kr222 ke223 => ?_
                refine blockK fun Q224 kn225 kr226 kx227 kb228 => ?_
                refine seqK fun Q229 kn230 kr231 ke232 => ?_
                refine regionD1 [12, 16] [0, 1, 2, 3, 4, 5, 6, 7, 8, 9, 10, 11, 12, 13, 14, 15, 16, 18, 19, 20] (.one 0 (.one 1 (.one 2 (.one 3 (.one 4 (.one 5 (.one 6 (.one 7 (.one 8 (.one 9 (.one 10 (.one 11 (.one 12 (.one 13 (.one 14 (.one 15 (.one 16 (.one 17 (.one 18 (.one 19 (.one 20 .done))))))))))))))))))))) (by kernel_rfl) (by kernel_rfl) ?_
                intro w233 hx234 hs235
                have hF236 := hO5.ext hx234
                have hF237 := hO6.ext hx234
                have hE238 : Below w0.heap.size w0 w233 := hx234.e hx201 (Nat.le_refl _)
                have hz239 := hE238.le
                have hs240 := hx234.size
                have hS241 : Ext w233 w233 := Below.refl _ _
                refine d_q (v := .int .i64 ((ai : Nat) : Int)) rfl rfl (fun _ => x_move rfl) ?_
                refine d_q (v := .int .i64 (((min ((p + wd)) xs.length) : Nat) : Int)) rfl rfl (fun _ => x_move rfl) ?_
                refine d_q (v := .bool (decide (ai < ((min ((p + wd)) xs.length))))) rfl rfl (fun _ => x_lssN rfl rfl) ?_
                refine d_if rfl rfl (p := ai < ((min ((p + wd)) xs.length))) (fun _ => x_move rfl) (fun h242 => ?_) (fun h242 => ?_)
                ·
                  refine d_gq (v := .int .i64 ((bi : Nat) : Int)) (j := 3) (t := 59) rfl rfl rfl rfl (by decide) (fun _ => x_move rfl) ?_
                  refine d_gq (v := .int .i64 (((min ((p + (2 * wd))) xs.length) : Nat) : Int)) (j := 3) (t := 59) rfl rfl rfl rfl (by decide) (fun _ => x_move rfl) ?_
                  refine d_gq (v := .bool (decide (bi = ((min ((p + (2 * wd))) xs.length))))) (j := 3) (t := 59) rfl rfl rfl rfl (by decide) (fun _ => x_eqlN rfl rfl) ?_
                  refine d_gif (j := 3) (t := 59) rfl rfl rfl rfl (by decide) (p := bi = ((min ((p + (2 * wd))) xs.length))) (fun _ => x_move rfl) (fun h243 => ?_) (fun h243 => ?_)
                  ·
                    refine d_gn (j := 7) (t := 63) rfl rfl rfl rfl (by decide) rfl ?_
                    refine d_gn (j := 7) (t := 63) rfl rfl rfl rfl (by decide) rfl ?_
                    refine d_gn (j := 7) (t := 63) rfl rfl rfl rfl (by decide) rfl ?_
                    refine d_gn (j := 7) (t := 63) rfl rfl rfl rfl (by decide) rfl ?_
                    refine d_gn (j := 7) (t := 63) rfl rfl rfl rfl (by decide) rfl ?_
                    refine d_gn (j := 7) (t := 63) rfl rfl rfl rfl (by decide) rfl ?_
                    refine d_gn (j := 7) (t := 63) rfl rfl rfl rfl (by decide) rfl ?_
                    refine d_gn (j := 7) (t := 63) rfl rfl rfl rfl (by decide) rfl ?_
                    refine d_gn (j := 7) (t := 63) rfl rfl rfl rfl (by decide) rfl ?_
                    refine d_e (by decide) (wpE_skip (j := 7) (t := 63) rfl rfl rfl (by decide) rfl (fun _ => hS241) ?_)
                    refine d_gn (j := 7) (t := 63) rfl rfl rfl rfl (by decide) rfl ?_
                    refine d_gq (v := .bool true) (j := 3) (t := 59) rfl rfl rfl rfl (by decide) (fun _ => x_pickT rfl rfl) ?_
                    refine d_q (v := .bool true) rfl rfl (fun _ => x_pickT rfl rfl) ?_
                    refine d_done ?_
                    refine kn230 _ _ ?_
                    refine cndT rfl ?_
                    refine seqK fun Q244 kn245 kr246 ke247 => ?_
                    refine region ?_
                    refine st_q (v := .slice ((some ⟨b2, 0, none⟩)) xs.length c2) (x_move rfl) ?_
                    refine st_q (v := .int .i64 ((k : Nat) : Int)) (x_move rfl) ?_
                    refine st_q (v := .slice ((some ⟨b1, 0, none⟩)) xs.length c1) (x_move rfl) ?_
                    refine st_q (v := .int .i64 ((ai : Nat) : Int)) (x_move rfl) ?_
                    refine st_q (v := .pointer (some ⟨b1, 0 + ai * 1, none⟩)) (x_index T.sl22 rfl rfl (by omega)) ?_
                    refine st_q (v := .string (el F ai)) (x_load1 T.na9 rfl (hF236.cells.elem enS_len (i := ai) (by omega))) ?_
                    refine st_q (v := .pointer (some ⟨b2, 0 + k * 1, none⟩)) (x_index T.sl22 rfl rfl (by omega)) ?_
                    refine st_s (e_stO (v := .string (el F ai)) (u := el F ai) enS_len T.sz9 rfl rfl rfl hF237 (by first | omega | (rw [List.length_set]; omega)) (by rfl) ?_)
                    intro w248 _ hP249 hB250
                    have hs251 := hP249.size
                    have hF252 := hF236.pt hP249 (by omega)
                    have hE253 : Below w0.heap.size w0 w248 := hP249.below hE238 (by omega)
                    have hz254 := hE253.le
                    refine st_nil ?_
                    refine kn245 _ _ ?_
                    refine region ?_
                    refine st_q (v := .int .i64 ((ai : Nat) : Int)) (x_move rfl) ?_
                    refine st_q (v := .int .i64 (((ai + 1) : Nat) : Int)) (x_addN rfl rfl (by omega)) ?_
                    refine st_q (v := .int .i64 (((ai + 1) : Nat) : Int)) (x_assign rfl) ?_
                    refine st_nil ?_
                    refine kn225 _ _ ?_
                    refine kn221 _ _ ?_
                    refine region ?_
                    refine st_q (v := .int .i64 ((k : Nat) : Int)) (x_move rfl) ?_
                    refine st_q (v := .int .i64 (((k + 1) : Nat) : Int)) (x_addN rfl rfl (by omega)) ?_
                    refine st_q (v := .int .i64 (((k + 1) : Nat) : Int)) (x_assign rfl) ?_
                    refine st_nil ?_
                    refine kn204 _ ((ai + 1), bi, (k + 1), (T3.set k (el F ai))) _ ⟨rfl, rfl, rfl, rfl, rfl, rfl, rfl, rfl, rfl, rfl, rfl, trivial⟩ ⟨hE253, ?_⟩ ?_
                    ·
                      try dsimp only
                      exact ⟨hF252, hB250, by rw [List.length_set]; exact hT3, by omega, by omega, by omega, by omega, by omega, hS3.set _ (by omega) hm, merge_left hM (by omega) (by first | exact .inl (by omega) | exact .inr ⟨by omega, by omega⟩) (by omega) (by omega) (by omega) (by omega)⟩
                    ·
                      (try dsimp only); omega
                  ·
                    refine d_gq (v := .func (.func fc) #[] #[]) (j := 7) (t := 63) rfl rfl rfl rfl (by decide) (fun _ => x_move rfl) ?_
                    refine d_gq (v := .slice ((some ⟨b1, 0, none⟩)) xs.length c1) (j := 7) (t := 63) rfl rfl rfl rfl (by decide) (fun _ => x_move rfl) ?_
                    refine d_gq (v := .int .i64 ((bi : Nat) : Int)) (j := 7) (t := 63) rfl rfl rfl rfl (by decide) (fun _ => x_move rfl) ?_
                    refine d_gq (v := .pointer (some ⟨b1, 0 + bi * 1, none⟩)) (j := 7) (t := 63) rfl rfl rfl rfl (by decide) (fun _ => x_index T.sl22 rfl rfl (by omega)) ?_
                    refine d_gl (v := .string (el F bi)) (j := 7) (t := 63) rfl rfl rfl rfl rfl (by decide) (fun v256 hw255 => x_load1 T.na9 rfl ((hF236.cells.elem enS_len (i := bi) (by omega)).ext hw255)) ?_
                    refine d_gq (v := .slice ((some ⟨b1, 0, none⟩)) xs.length c1) (j := 7) (t := 63) rfl rfl rfl rfl (by decide) (fun _ => x_move rfl) ?_
                    refine d_gq (v := .int .i64 ((ai : Nat) : Int)) (j := 7) (t := 63) rfl rfl rfl rfl (by decide) (fun _ => x_move rfl) ?_
                    refine d_gq (v := .pointer (some ⟨b1, 0 + ai * 1, none⟩)) (j := 7) (t := 63) rfl rfl rfl rfl (by decide) (fun _ => x_index T.sl22 rfl rfl (by omega)) ?_
                    refine d_gl (v := .string (el F ai)) (j := 7) (t := 63) rfl rfl rfl rfl rfl (by decide) (fun v258 hw257 => x_load1 T.na9 rfl ((hF236.cells.elem enS_len (i := ai) (by omega)).ext hw257)) ?_
                    refine d_e (by decide) (d_c' rfl (wanted_true (j := 7) (t := 63) rfl rfl (by decide)) (t_call [.string (el F bi), .string (el F ai)] hcf rfl rfl) (hcmp (el F bi) (el F ai) _) ?_)
                    rintro _ w259 ⟨rfl, hx260⟩
                    refine ⟨_, rfl, ?_⟩
                    have hF261 := hF236.ext hx260
                    have hF262 := hF237.ext hx260
                    have hE263 : Below w0.heap.size w0 w259 := hx260.e hE238 (Nat.le_refl _)
                    have hz264 := hE263.le
                    have hs265 := hx260.size
                    have hS266 := hS241.trans (hx260.mono hS241.size)
                    refine ⟨fun _ => hS266, ?_⟩
                    refine d_gq (v := .bool (decide (0 ≤ (c (el F bi) (el F ai))))) (j := 7) (t := 63) rfl rfl rfl rfl (by decide) (fun _ => x_geq rfl rfl) ?_
                    refine d_gq (v := .bool (decide (0 ≤ (c (el F bi) (el F ai))))) (j := 3) (t := 59) rfl rfl rfl rfl (by decide) (fun _ => x_pickF rfl rfl) ?_
                    refine d_q (v := .bool (decide (0 ≤ (c (el F bi) (el F ai))))) rfl rfl (fun _ => x_pickT rfl rfl) ?_
                    refine d_done ?_
                    refine kn230 _ _ ?_
                    refine cnd (p := 0 ≤ (c (el F bi) (el F ai))) rfl (fun h267 => ?_) (fun h267 => ?_)
                    ·
                      refine seqK fun Q268 kn269 kr270 ke271 => ?_
                      refine region ?_
                      refine st_q (v := .slice ((some ⟨b2, 0, none⟩)) xs.length c2) (x_move rfl) ?_
                      refine st_q (v := .int .i64 ((k : Nat) : Int)) (x_move rfl) ?_
                      refine st_q (v := .slice ((some ⟨b1, 0, none⟩)) xs.length c1) (x_move rfl) ?_
                      refine st_q (v := .int .i64 ((ai : Nat) : Int)) (x_move rfl) ?_
                      refine st_q (v := .pointer (some ⟨b1, 0 + ai * 1, none⟩)) (x_index T.sl22 rfl rfl (by omega)) ?_
                      refine st_q (v := .string (el F ai)) (x_load1 T.na9 rfl (hF261.cells.elem enS_len (i := ai) (by omega))) ?_
                      refine st_q (v := .pointer (some ⟨b2, 0 + k * 1, none⟩)) (x_index T.sl22 rfl rfl (by omega)) ?_
                      refine st_s (e_stO (v := .string (el F ai)) (u := el F ai) enS_len T.sz9 rfl rfl rfl hF262 (by first | omega | (rw [List.length_set]; omega)) (by rfl) ?_)
                      intro w272 _ hP273 hB274
                      have hs275 := hP273.size
                      have hF276 := hF261.pt hP273 (by omega)
                      have hE277 : Below w0.heap.size w0 w272 := hP273.below hE263 (by omega)
                      have hz278 := hE277.le
                      refine st_nil ?_
                      refine kn269 _ _ ?_
                      refine region ?_
                      refine st_q (v := .int .i64 ((ai : Nat) : Int)) (x_move rfl) ?_
                      refine st_q (v := .int .i64 (((ai + 1) : Nat) : Int)) (x_addN rfl rfl (by omega)) ?_
                      refine st_q (v := .int .i64 (((ai + 1) : Nat) : Int)) (x_assign rfl) ?_
                      refine st_nil ?_
                      refine kn225 _ _ ?_
                      refine kn221 _ _ ?_
                      refine region ?_
                      refine st_q (v := .int .i64 ((k : Nat) : Int)) (x_move rfl) ?_
                      refine st_q (v := .int .i64 (((k + 1) : Nat) : Int)) (x_addN rfl rfl (by omega)) ?_
                      refine st_q (v := .int .i64 (((k + 1) : Nat) : Int)) (x_assign rfl) ?_
                      refine st_nil ?_
                      refine kn204 _ ((ai + 1), bi, (k + 1), (T3.set k (el F ai))) _ ⟨rfl, rfl, rfl, rfl, rfl, rfl, rfl, rfl, rfl, rfl, rfl, trivial⟩ ⟨hE277, ?_⟩ ?_
                      ·
                        try dsimp only
                        exact ⟨hF276, hB274, by rw [List.length_set]; exact hT3, by omega, by omega, by omega, by omega, by omega, hS3.set _ (by omega) hm, merge_left hM (by omega) (by first | exact .inl (by omega) | exact .inr ⟨by omega, by omega⟩) (by omega) (by omega) (by omega) (by omega)⟩
                      ·
                        (try dsimp only); omega
                    ·
                      refine seqK fun Q279 kn280 kr281 ke282 => ?_
                      refine region ?_
                      refine st_q (v := .slice ((some ⟨b2, 0, none⟩)) xs.length c2) (x_move rfl) ?_
                      refine st_q (v := .int .i64 ((k : Nat) : Int)) (x_move rfl) ?_
                      refine st_q (v := .slice ((some ⟨b1, 0, none⟩)) xs.length c1) (x_move rfl) ?_
                      refine st_q (v := .int .i64 ((bi : Nat) : Int)) (x_move rfl) ?_
                      refine st_q (v := .pointer (some ⟨b1, 0 + bi * 1, none⟩)) (x_index T.sl22 rfl rfl (by omega)) ?_
                      refine st_q (v := .string (el F bi)) (x_load1 T.na9 rfl (hF261.cells.elem enS_len (i := bi) (by omega))) ?_
                      refine st_q (v := .pointer (some ⟨b2, 0 + k * 1, none⟩)) (x_index T.sl22 rfl rfl (by omega)) ?_
                      refine st_s (e_stO (v := .string (el F bi)) (u := el F bi) enS_len T.sz9 rfl rfl rfl hF262 (by first | omega | (rw [List.length_set]; omega)) (by rfl) ?_)
                      intro w283 _ hP284 hB285
                      have hs286 := hP284.size
                      have hF287 := hF261.pt hP284 (by omega)
                      have hE288 : Below w0.heap.size w0 w283 := hP284.below hE263 (by omega)
                      have hz289 := hE288.le
                      refine st_nil ?_
                      refine kn280 _ _ ?_
                      refine region ?_
                      refine st_q (v := .int .i64 ((bi : Nat) : Int)) (x_move rfl) ?_
                      refine st_q (v := .int .i64 (((bi + 1) : Nat) : Int)) (x_addN rfl rfl (by omega)) ?_
                      refine st_q (v := .int .i64 (((bi + 1) : Nat) : Int)) (x_assign rfl) ?_
                      refine st_nil ?_
                      refine kn225 _ _ ?_
                      refine kn221 _ _ ?_
                      refine region ?_
                      refine st_q (v := .int .i64 ((k : Nat) : Int)) (x_move rfl) ?_
                      refine st_q (v := .int .i64 (((k + 1) : Nat) : Int)) (x_addN rfl rfl (by omega)) ?_
                      refine st_q (v := .int .i64 (((k + 1) : Nat) : Int)) (x_assign rfl) ?_
                      refine st_nil ?_
                      refine kn204 _ (ai, (bi + 1), (k + 1), (T3.set k (el F bi))) _ ⟨rfl, rfl, rfl, rfl, rfl, rfl, rfl, rfl, rfl, rfl, rfl, trivial⟩ ⟨hE288, ?_⟩ ?_
                      ·
                        try dsimp only
                        exact ⟨hF287, hB285, by rw [List.length_set]; exact hT3, by omega, by omega, by omega, by omega, by omega, hS3.set _ (by omega) hm, merge_right hM (by omega) (by first | exact .inl (by omega) | exact .inr ⟨by omega, by omega⟩) (by omega) (by omega) (by omega) (by omega)⟩
                      ·
                        (try dsimp only); omega
                ·
                  refine d_gn (j := 3) (t := 59) rfl rfl rfl rfl (by decide) rfl ?_
                  refine d_gn (j := 3) (t := 59) rfl rfl rfl rfl (by decide) rfl ?_
                  refine d_gn (j := 3) (t := 59) rfl rfl rfl rfl (by decide) rfl ?_
                  refine d_gn (j := 3) (t := 59) rfl rfl rfl rfl (by decide) rfl ?_
                  refine d_gu (j := 7) (t := 63) rfl rfl rfl rfl (by decide) ?_
                  refine d_gu (j := 7) (t := 63) rfl rfl rfl rfl (by decide) ?_
                  refine d_gu (j := 7) (t := 63) rfl rfl rfl rfl (by decide) ?_
                  refine d_gu (j := 7) (t := 63) rfl rfl rfl rfl (by decide) ?_
                  refine d_gu (j := 7) (t := 63) rfl rfl rfl rfl (by decide) ?_
                  refine d_gu (j := 7) (t := 63) rfl rfl rfl rfl (by decide) ?_
                  refine d_gu (j := 7) (t := 63) rfl rfl rfl rfl (by decide) ?_
                  refine d_gu (j := 7) (t := 63) rfl rfl rfl rfl (by decide) ?_
                  refine d_gu (j := 7) (t := 63) rfl rfl rfl rfl (by decide) ?_
                  refine d_e (by decide) (wpE_undef (j := 7) (t := 63) rfl rfl rfl (by decide) (fun _ => hS241) ?_)
                  refine d_gu (j := 7) (t := 63) rfl rfl rfl rfl (by decide) ?_
                  refine d_gn (j := 3) (t := 59) rfl rfl rfl rfl (by decide) rfl ?_
                  refine d_q (v := .bool false) rfl rfl (fun _ => x_pickF rfl rfl) ?_
                  refine d_done ?_
                  refine kn230 _ _ ?_
                  refine cndF rfl ?_
                  refine seqK fun Q290 kn291 kr292 ke293 => ?_
                  refine region ?_
                  refine st_q (v := .slice ((some ⟨b2, 0, none⟩)) xs.length c2) (x_move rfl) ?_
                  refine st_q (v := .int .i64 ((k : Nat) : Int)) (x_move rfl) ?_
                  refine st_q (v := .slice ((some ⟨b1, 0, none⟩)) xs.length c1) (x_move rfl) ?_
                  refine st_q (v := .int .i64 ((bi : Nat) : Int)) (x_move rfl) ?_
                  refine st_q (v := .pointer (some ⟨b1, 0 + bi * 1, none⟩)) (x_index T.sl22 rfl rfl (by omega)) ?_
                  refine st_q (v := .string (el F bi)) (x_load1 T.na9 rfl (hF236.cells.elem enS_len (i := bi) (by omega))) ?_
                  refine st_q (v := .pointer (some ⟨b2, 0 + k * 1, none⟩)) (x_index T.sl22 rfl rfl (by omega)) ?_
                  refine st_s (e_stO (v := .string (el F bi)) (u := el F bi) enS_len T.sz9 rfl rfl rfl hF237 (by first | omega | (rw [List.length_set]; omega)) (by rfl) ?_)
                  intro w294 _ hP295 hB296
                  have hs297 := hP295.size
                  have hF298 := hF236.pt hP295 (by omega)
                  have hE299 : Below w0.heap.size w0 w294 := hP295.below hE238 (by omega)
                  have hz300 := hE299.le
                  refine st_nil ?_
                  refine kn291 _ _ ?_
                  refine region ?_
                  refine st_q (v := .int .i64 ((bi : Nat) : Int)) (x_move rfl) ?_
                  refine st_q (v := .int .i64 (((bi + 1) : Nat) : Int)) (x_addN rfl rfl (by omega)) ?_
                  refine st_q (v := .int .i64 (((bi + 1) : Nat) : Int)) (x_assign rfl) ?_
                  refine st_nil ?_
                  refine kn225 _ _ ?_
                  refine kn221 _ _ ?_
                  refine region ?_
                  refine st_q (v := .int .i64 ((k : Nat) : Int)) (x_move rfl) ?_
                  refine st_q (v := .int .i64 (((k + 1) : Nat) : Int)) (x_addN rfl rfl (by omega)) ?_
                  refine st_q (v := .int .i64 (((k + 1) : Nat) : Int)) (x_assign rfl) ?_
                  refine st_nil ?_
                  refine kn204 _ (ai, (bi + 1), (k + 1), (T3.set k (el F bi))) _ ⟨rfl, rfl, rfl, rfl, rfl, rfl, rfl, rfl, rfl, rfl, rfl, trivial⟩ ⟨hE299, ?_⟩ ?_
                  ·
                    try dsimp only
                    exact ⟨hF298, hB296, by rw [List.length_set]; exact hT3, by omega, by omega, by omega, by omega, by omega, hS3.set _ (by omega) hm, merge_right hM (by omega) (by first | exact .inl (by omega) | exact .inr ⟨by omega, by omega⟩) (by omega) (by omega) (by omega) (by omega)⟩
                  ·
                    (try dsimp only); omega
              ·
                refine exit ?_
                refine ke214 _ _ _ ?_
                refine ke206 _ _ _ ?_
                refine kb197 _ _ ?_
                refine kn181 _ _ ?_
                refine kn177 _ _ ?_
                refine region ?_
                refine st_q (v := .int .i64 ((p : Nat) : Int)) (x_move rfl) ?_
                refine st_q (v := .int .i64 ((wd : Nat) : Int)) (x_move rfl) ?_
                refine st_q (v := .int .i64 (((2 * wd) : Nat) : Int)) (x_mulN rfl rfl (by omega)) ?_
                refine st_q (v := .int .i64 (((p + (2 * wd)) : Nat) : Int)) (x_addN rfl rfl (by omega)) ?_
                refine st_q (v := .int .i64 (((p + (2 * wd)) : Nat) : Int)) (x_assign rfl) ?_
                refine st_nil ?_
                refine kn160 _ ((p + 2 * wd), T3) _ ⟨rfl, rfl, rfl, rfl, rfl, rfl, trivial⟩ ⟨hx201, ?_⟩ ?_
                ·
                  try dsimp only
                  obtain rfl : k = min (p + 2 * wd) xs.length := by omega
                  obtain rfl : ai = min (p + wd) xs.length := by omega
                  obtain rfl : bi = min (p + 2 * wd) xs.length := by omega
                  exact ⟨hO5, hO6, hT3, by omega, ⟨hm.choose + 1, by have := hm.choose_spec; rw [Nat.add_mul]; omega⟩, merge_end hS3 hm (by omega) hM⟩
                ·
                  (try dsimp only); omega
          ·
            refine exit ?_
            refine ke170 _ _ _ ?_
            refine ke162 _ _ _ ?_
            refine kb153 _ _ ?_
            refine kn142 _ _ ?_
            refine region ?_
            refine st_q (v := .slice ((some ⟨b2, 0, none⟩)) xs.length c2) (x_move rfl) ?_
            refine st_q (v := .slice ((some ⟨b1, 0, none⟩)) xs.length c1) (x_move rfl) ?_
            refine st_q (v := .slice ((some ⟨b2, 0, none⟩)) xs.length c2) (x_assign rfl) ?_
            refine st_q (v := .slice ((some ⟨b1, 0, none⟩)) xs.length c1) (x_assign rfl) ?_
            refine st_nil ?_
            refine kn137 _ _ ?_
            refine kn133 _ _ ?_
            refine region ?_
            refine st_q (v := .int .i64 ((wd : Nat) : Int)) (x_move rfl) ?_
            refine st_q (v := .int .i64 (((wd * 2) : Nat) : Int)) (x_mulN rfl rfl (by omega)) ?_
            refine st_q (v := .int .i64 (((wd * 2) : Nat) : Int)) (x_assign rfl) ?_
            refine st_nil ?_
            refine kn116 _ ((wd * 2), b2, b1, c2, c1, T2, F) _ ⟨rfl, rfl, rfl, rfl, rfl, trivial⟩ ⟨hx157, ?_⟩ ?_
            ·
              try dsimp only
              exact ⟨Ne.symm hne, hc2, hc1, hO4, hO3, hT2, hF, by omega, by omega, by rw [Nat.mul_comm wd 2]; exact hS2.mono (by omega)⟩
            ·
              (try dsimp only); omega
      ·
        refine exit ?_
        refine ke126 _ _ _ ?_
        refine ke118 _ _ _ ?_
        refine kb109 _ _ ?_
        refine kn98 _ _ ?_
        refine seqK fun Q301 kn302 kr303 ke304 => ?_
        refine region ?_
        refine st_q (v := .slice ((some ⟨b1, 0, none⟩)) xs.length c1) (x_move rfl) ?_
        refine st_q (v := .slice ((some ⟨b1, 0, none⟩)) xs.length c1) (x_assign rfl) ?_
        refine st_nil ?_
        refine kn302 _ _ ?_
        refine ret ?_
        refine leave1 (P := Try.prog) (fn := Try.f48) (t := 4) (v := .slice ((some ⟨b1, 0, none⟩)) xs.length c1) rfl rfl ?_
        exact ⟨_, rfl, hx113, (hS.done hF (by omega)) ▸ hO1.own hc1 (by rw [flat_length enS_len, hF])⟩

set_option maxHeartbeats 4000000 in
theorem sort48z (fc : Nat) (c : ByteArray → ByteArray → Int) (hcf : CF Try.prog fc) (hcmp : CmpS fc c) (hL : Lawful c) (g : Value) (hg : Told g fc) (xs : List ByteArray) (vl : Value) (w0 : World) (hl : Src w0.heap vl xs.length 1 (flat enS xs)) (hn : xs.length ≤ 8796093022208) (hz : xs.length = 0) : Calls Try.prog 48 #[vl, g] w0 fun e w' => ∃ v, e = .returned v ∧ Ext w0 w' ∧ Own w'.heap w0.heap.size 9 1 v xs.length (flat enS (srt c xs)) := by
  have hE0 : Below w0.heap.size w0 w0 := Below.refl _ _
  have hz0 := hE0.le
  obtain ⟨a, ca, rfl, hca, hca1⟩ := hl.form
  refine enter Try.func48 rfl 98 Try.ntmps48 rfl ?_
  refine seqK fun Q1 kn2 kr3 ke4 => ?_
  refine region ?_
  refine st_q (v := .slice none 0 0) (x_assign rfl) ?_
  refine st_nil ?_
  refine kn2 _ _ ?_
  refine seqK fun Q5 kn6 kr7 ke8 => ?_
  refine region ?_
  refine st_q (v := g) (x_move rfl) ?_
  refine st_c (t_call [g] T.cf53 rfl rfl) (hg _) ?_
  rintro _ _ ⟨rfl, rfl⟩
  refine ⟨_, rfl, ?_⟩
  refine st_q (v := .func (.func fc) #[] #[]) (x_assign rfl) ?_
  refine st_nil ?_
  refine kn6 _ _ ?_
  refine seqK fun Q9 kn10 kr11 ke12 => ?_
  refine regionD1 [] [0, 2, 3, 5, 6] (.one 0 (.one 2 (.one 3 (.two 1 (.one 5 (.one 4 (.one 6 .done))) 4 (.one 1 (.one 5 (.one 6 .done))))))) (by kernel_rfl) (by kernel_rfl) ?_
  intro w13 hx14 hs15
  have hE16 : Below w0.heap.size w0 w13 := hx14.e hE0 (Nat.le_refl _)
  have hz17 := hE16.le
  have hs18 := hx14.size
  have hS19 : Ext w13 w13 := Below.refl _ _
  refine d_q (v := .slice a xs.length ca) rfl rfl (fun _ => x_move rfl) ?_
  refine d_q (v := .slice a xs.length ca) rfl rfl (fun _ => x_move rfl) ?_
  refine d_q (v := .int .i64 ((xs.length : Nat) : Int)) rfl rfl (fun _ => x_lenSl rfl Try.underlying22 rfl) ?_
  refine d_two ?_ ?_
  ·
    refine id (d_e' rfl rfl (e_append0 (lo := w13.heap.size) T.sl22 rfl rfl (hl.below hE16) (ones (by exact flat_onesS)) (by omega) (by decide) (by omega) ?_))
    intro v20 w21 hO22 hG23 hN24
    have hE25 : Below w0.heap.size w0 w21 := hG23.e hE16 (Nat.le_refl _)
    have hz26 := hE25.le
    have hs27 := hG23.size
    have hS28 := hS19.trans (hG23.mono hS19.size)
    refine ⟨fun _ => hS28, ?_⟩
    refine d_q (v := v20) rfl rfl (fun _ => x_assign rfl) ?_
    refine d_e (by decide) (d_e' rfl rfl (e_makeSlice T.sl22 rfl rfl (by omega) (by omega) ?_))
    intro w29 hA30
    have hx31 := hA30.ext
    have hs32 := hA30.size
    have hB33 := hA30.new
    have hF34 := hO22.ext hx31
    have hE35 : Below w0.heap.size w0 w29 := hx31.e hE25 (Nat.le_refl _)
    have hz36 := hE35.le
    have hs37 := hx31.size
    have hS38 := hS28.trans (hx31.mono hS28.size)
    refine ⟨fun _ => hS38, ?_⟩
    refine d_q (v := .slice ((some ⟨w21.heap.size, 0, none⟩)) xs.length xs.length) rfl rfl (fun _ => x_assign rfl) ?_
    refine d_done ?_
    refine kn10 _ _ ?_
    refine seqK fun Q39 kn40 kr41 ke42 => ?_
    refine seqK fun Q43 kn44 kr45 ke46 => ?_
    refine region ?_
    refine st_q (v := .int .i64 ((1 : Nat) : Int)) (x_assign rfl) ?_
    refine st_nil ?_
    refine kn44 _ _ ?_
    refine blockK fun Q47 kn48 kr49 kx50 kb51 => ?_
    refine loopK (α := Unit) (fun _ => [(0, .slice a xs.length ca), (1, .func (.func fc) #[] #[]), (5, v20), (6, .slice ((some ⟨w21.heap.size, 0, none⟩)) xs.length xs.length), (7, .int .i64 ((1 : Nat) : Int))]) (fun _ w52 => w29 = w52 ∧ True) (fun _ => 0) () ⟨rfl, rfl, rfl, rfl, rfl, trivial⟩ ?_ ?_
    ·
      refine ⟨rfl, ?_⟩
      try dsimp only
      all_goals exact trivial
    ·
      rintro τ53 _ w54 ⟨rfl, _⟩
      intro Q55 kn56 kr57 ke58
      refine seqK fun Q59 kn60 kr61 ke62 => ?_
      refine seqK fun Q63 kn64 kr65 ke66 => ?_
      refine region ?_
      refine st_q (v := .int .i64 ((1 : Nat) : Int)) (x_move rfl) ?_
      refine st_q (v := .slice a xs.length ca) (x_move rfl) ?_
      refine st_q (v := .int .i64 ((xs.length : Nat) : Int)) (x_lenSl rfl Try.underlying22 rfl) ?_
      refine st_q (v := .bool (decide (1 < xs.length))) (x_lssN rfl rfl) ?_
      refine st_nil ?_
      refine kn64 _ _ ?_
      refine cnd (p := 1 < xs.length) rfl (fun h67 => ?_) (fun h67 => ?_)
      ·
        exact absurd h67 (by omega)
      ·
        refine exit ?_
        refine ke62 _ _ _ ?_
        refine ke58 _ _ _ ?_
        refine kb51 _ _ ?_
        refine kn40 _ _ ?_
        refine seqK fun Q68 kn69 kr70 ke71 => ?_
        refine region ?_
        refine st_q (v := v20) (x_move rfl) ?_
        refine st_q (v := v20) (x_assign rfl) ?_
        refine st_nil ?_
        refine kn69 _ _ ?_
        refine ret ?_
        refine leave1 (P := Try.prog) (fn := Try.f48) (t := 4) (v := v20) rfl rfl ?_
        exact ⟨_, rfl, hE35, by rw [show srt c xs = xs by rw [List.eq_nil_of_length_eq_zero hz]; rfl]; exact hF34.weak (by omega)⟩
  ·
    refine id (d_e' rfl rfl (e_makeSlice T.sl22 rfl rfl (by omega) (by omega) ?_))
    intro w72 hA73
    have hx74 := hA73.ext
    have hs75 := hA73.size
    have hB76 := hA73.new
    have hE77 : Below w0.heap.size w0 w72 := hx74.e hE16 (Nat.le_refl _)
    have hz78 := hE77.le
    have hs79 := hx74.size
    have hS80 := hS19.trans (hx74.mono hS19.size)
    refine ⟨fun _ => hS80, ?_⟩
    refine d_e (by decide) (d_e' rfl rfl (e_append0 (lo := w72.heap.size) T.sl22 rfl rfl (hl.below hE77) (ones (by exact flat_onesS)) (by omega) (by decide) (by omega) ?_))
    intro v81 w82 hO83 hG84 hN85
    have hE86 : Below w0.heap.size w0 w82 := hG84.e hE77 (Nat.le_refl _)
    have hz87 := hE86.le
    have hs88 := hG84.size
    have hS89 := hS80.trans (hG84.mono hS80.size)
    refine ⟨fun _ => hS89, ?_⟩
    refine d_q (v := v81) rfl rfl (fun _ => x_assign rfl) ?_
    refine d_q (v := .slice ((some ⟨w13.heap.size, 0, none⟩)) xs.length xs.length) rfl rfl (fun _ => x_assign rfl) ?_
    refine d_done ?_
    refine kn10 _ _ ?_
    refine seqK fun Q90 kn91 kr92 ke93 => ?_
    refine seqK fun Q94 kn95 kr96 ke97 => ?_
    refine region ?_
    refine st_q (v := .int .i64 ((1 : Nat) : Int)) (x_assign rfl) ?_
    refine st_nil ?_
    refine kn95 _ _ ?_
    refine blockK fun Q98 kn99 kr100 kx101 kb102 => ?_
    refine loopK (α := Unit) (fun _ => [(0, .slice a xs.length ca), (1, .func (.func fc) #[] #[]), (5, v81), (6, .slice ((some ⟨w13.heap.size, 0, none⟩)) xs.length xs.length), (7, .int .i64 ((1 : Nat) : Int))]) (fun _ w103 => w82 = w103 ∧ True) (fun _ => 0) () ⟨rfl, rfl, rfl, rfl, rfl, trivial⟩ ?_ ?_
    ·
      refine ⟨rfl, ?_⟩
      try dsimp only
      all_goals exact trivial
    ·
      rintro τ104 _ w105 ⟨rfl, _⟩
      intro Q106 kn107 kr108 ke109
      refine seqK fun Q110 kn111 kr112 ke113 => ?_
      refine seqK fun Q114 kn115 kr116 ke117 => ?_
      refine region ?_
      refine st_q (v := .int .i64 ((1 : Nat) : Int)) (x_move rfl) ?_
      refine st_q (v := .slice a xs.length ca) (x_move rfl) ?_
      refine st_q (v := .int .i64 ((xs.length : Nat) : Int)) (x_lenSl rfl Try.underlying22 rfl) ?_
      refine st_q (v := .bool (decide (1 < xs.length))) (x_lssN rfl rfl) ?_
      refine st_nil ?_
      refine kn115 _ _ ?_
      refine cnd (p := 1 < xs.length) rfl (fun h118 => ?_) (fun h118 => ?_)
      ·
        exact absurd h118 (by omega)
      ·
        refine exit ?_
        refine ke113 _ _ _ ?_
        refine ke109 _ _ _ ?_
        refine kb102 _ _ ?_
        refine kn91 _ _ ?_
        refine seqK fun Q119 kn120 kr121 ke122 => ?_
        refine region ?_
        refine st_q (v := v81) (x_move rfl) ?_
        refine st_q (v := v81) (x_assign rfl) ?_
        refine st_nil ?_
        refine kn120 _ _ ?_
        refine ret ?_
        refine leave1 (P := Try.prog) (fn := Try.f48) (t := 4) (v := v81) rfl rfl ?_
        exact ⟨_, rfl, hE86, by rw [show srt c xs = xs by rw [List.eq_nil_of_length_eq_zero hz]; rfl]; exact hO83.weak (by omega)⟩

theorem sort48 (fc : Nat) (c : ByteArray → ByteArray → Int) (hcf : CF Try.prog fc) (hcmp : CmpS fc c) (hL : Lawful c) (g : Value) (hg : Told g fc) (xs : List ByteArray) (vl : Value) (w0 : World) (hl : Src w0.heap vl xs.length 1 (flat enS xs)) (hn : xs.length ≤ 8796093022208) : Calls Try.prog 48 #[vl, g] w0 fun e w' => ∃ v, e = .returned v ∧ Ext w0 w' ∧ Own w'.heap w0.heap.size 9 1 v xs.length (flat enS (srt c xs)) := by
  rcases Nat.eq_zero_or_pos xs.length with hz | hz
  · exact sort48z fc c hcf hcmp hL g hg xs vl w0 hl hn hz
  · exact sort48p fc c hcf hcmp hL g hg xs vl w0 hl hn hz
end Go.Proofs.Ytknfjgbipfpnjaa
