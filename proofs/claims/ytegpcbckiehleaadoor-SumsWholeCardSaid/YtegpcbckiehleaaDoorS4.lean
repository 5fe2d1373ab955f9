import Derived.Test.YtegpcbckiehleaaDoorS3
namespace Go.Proofs.YtegpcbckiehleaaDoor
open Go.RowKit Go.Eng Go.OrdPure Go.Flt
theorem T.cf65 : CF Tryd.prog 65 := fun _ _ => by kernel_rfl
theorem T.sz9 : SZ Tryd.prog 9 1 := fun _ => by kernel_rfl
theorem T.cf74 : CF Tryd.prog 74 := fun _ _ => by kernel_rfl
theorem T.sz42 : SZ Tryd.prog 42 1 := fun _ => by kernel_rfl
theorem T.cf70 : CF Tryd.prog 70 := fun _ _ => by kernel_rfl
theorem T.sl106 : SL Tryd.prog 106 109 2 48 (.agg #[.slice none 0 0, .slice none 0 0]) := sl_mk Tryd.underlying106 (by kernel_rfl) rfl (by decide)
theorem T.ag109 : AG Tryd.prog 109 2 := fun _ => ⟨by kernel_rfl, by kernel_rfl⟩
theorem T.sz109 : SZ Tryd.prog 109 2 := fun _ => by kernel_rfl
theorem T.cf66 : CF Tryd.prog 66 := fun _ _ => by kernel_rfl
theorem T.cf75 : CF Tryd.prog 75 := fun _ _ => by kernel_rfl

theorem SegOK.mem {α : Type} [Inhabited α] {c : α → α → Int} {w : Nat} {xs F : List α} (h : SegOK c w xs F xs.length) (hl : F.length = xs.length) (hw : 0 < w) {i : Nat} (hi : i < xs.length) : el F i ∈ xs := by
  have h1 : i / w * w + i % w = i := by rw [Nat.mul_comm]; exact Nat.div_add_mod i w
  have h2 := Nat.mod_lt i hw
  have h3 := h (i / w) (by omega)
  have h4 : el F i ∈ seg F (i / w * w) (min (i / w * w + w) xs.length) := by
    rw [← seg_append F (i := i / w * w) (j := i) (k := min (i / w * w + w) xs.length) (by omega) (by omega), seg_cons F (i := i) (by omega) (by omega)]
    simp
  rw [h3, srt_mem] at h4
  exact List.mem_of_mem_take (List.mem_of_mem_drop h4)
theorem ddL_mem {α : Type} [Inhabited α] {c : α → α → Int} (xs : List α) : ∀ y ∈ ddL c xs, y ∈ xs := by
  induction xs using Go.OrdPure.rev_ind with
  | h0 => intro y hy; simp [ddL] at hy
  | h1 xs x ih =>
    intro y hy
    rw [ddL_snoc, ddS] at hy
    split at hy
    · rcases List.mem_append.1 hy with h | h
      · exact List.mem_append_left _ (ih y h)
      · exact List.mem_append_right _ h
    · exact List.mem_append_left _ (ih y hy)
theorem el_mem {α : Type} [Inhabited α] {xs : List α} {i : Nat} (h : i < xs.length) : el xs i ∈ xs := by rw [el_eq h]; exact List.getElem_mem _
def ToldX (g : Value) (fc : Nat) : Prop := ∀ w, Calls Tryd.prog 65 #[g] w fun e w' => e = .returned (.func (.func fc) #[] #[]) ∧ w = w'
theorem flat_repX (n : Nat) : flat enS (List.replicate n (ByteArray.empty : ByteArray)) = (List.replicate n [.string ByteArray.empty]).flatten := by
  induction n with
  | zero => rfl
  | succ n ih => simp only [List.replicate_succ, flat, List.flatMap_cons, List.flatten_cons] at *; rw [ih]; rfl
set_option maxHeartbeats 4000000 in
theorem sort66p (fc : Nat) (c : ByteArray → ByteArray → Int) (hcf : CF Tryd.prog fc) (hL : Lawful c) (g : Value) (hg : ToldX g fc) (G : ByteArray → Prop) (xs : List (ByteArray)) (hG : ∀ x ∈ xs, G x) (vl : Value) (w0 : World) (hcmp : ∀ (x y : ByteArray) (w : World), G x → G y → Below w0.heap.size w0 w → Calls Tryd.prog fc #[.string x, .string y] w fun e w' => e = .returned (.int .i64 (c x y)) ∧ Ext w w') (hl : Src w0.heap vl xs.length 1 (flat enS xs)) (hn : xs.length ≤ 8796093022208) (hpos : 0 < xs.length) : Calls Tryd.prog 66 #[vl, g] w0 fun e w' => ∃ v, e = .returned v ∧ Ext w0 w' ∧ Own w'.heap w0.heap.size 9 1 v xs.length (flat enS (srt c xs)) := by
  have hE0 : Below w0.heap.size w0 w0 := Below.refl _ _
  have hz0 := hE0.le
  obtain ⟨a, ca, rfl, hca, hca1⟩ := hl.form
  refine enter Tryd.func66 rfl 98 Tryd.ntmps66 rfl ?_
  refine seqK fun Q1 kn2 kr3 ke4 => ?_
  refine region ?_
  refine st_q (v := .slice none 0 0) (x_assign rfl) ?_
  refine st_nil ?_
  refine kn2 _ _ ?_
  refine seqK fun Q5 kn6 kr7 ke8 => ?_
  refine region ?_
  refine st_q (v := g) (x_move rfl) ?_
  refine st_c (t_call [g] T.cf65 rfl rfl) (hg _) ?_
  rintro _ _ ⟨rfl, rfl⟩
  refine ⟨_, rfl, ?_⟩
  refine st_q (v := .func (.func fc) #[] #[]) (x_assign rfl) ?_
  refine st_nil ?_
  refine kn6 _ _ ?_
  refine seqLK (n := 98) (ds := []) (α := Nat × Nat × Nat × (List (ByteArray))) (fun x => [(0, .slice a xs.length ca), (1, .func (.func fc) #[] #[]), (5, .slice ((some ⟨x.1, 0, none⟩)) xs.length x.2.2.1), (6, .slice ((some ⟨x.2.1, 0, none⟩)) xs.length xs.length)]) (fun x w9 => Ext w0 w9 ∧ x.1 ≠ x.2.1 ∧ xs.length ≤ x.2.2.1 ∧ xs.length ≤ xs.length ∧ OB w9.heap w0.heap.size 9 1 x.1 x.2.2.1 (flat enS xs) ∧ OB w9.heap w0.heap.size 9 1 x.2.1 xs.length (flat enS x.2.2.2) ∧ xs.length = xs.length ∧ x.2.2.2.length = xs.length) ?_ ?_
  ·
   have hx10 : Ext w0 w0 := Below.refl _ _
   intro Q11 kn12 kr13 ke14
   refine regionD1 [] [0, 2, 3, 5, 6] (.one 0 (.one 2 (.one 3 (.two 1 (.one 5 (.one 4 (.one 6 .done))) 4 (.one 1 (.one 5 (.one 6 .done))))))) (by kernel_rfl) (by kernel_rfl) ?_
   intro w15 hx16 hs17
   have hF18 := hx16.e hx10 (Nat.le_refl _)
   have hE19 : Below w0.heap.size w0 w15 := hx16.e hE0 (Nat.le_refl _)
   have hz20 := hE19.le
   have hs21 := hx16.size
   have hS22 : Ext w15 w15 := Below.refl _ _
   refine d_q (v := .slice a xs.length ca) rfl rfl (fun _ => x_move rfl) ?_
   refine d_q (v := .slice a xs.length ca) rfl rfl (fun _ => x_move rfl) ?_
   refine d_q (v := .int .i64 ((xs.length : Nat) : Int)) rfl rfl (fun _ => x_lenSl rfl Tryd.underlying42 rfl) ?_
   refine d_two ?_ ?_
   ·
    refine id (d_e' rfl rfl (e_append0 (lo := w15.heap.size) T.sl42 rfl rfl (hl.below hE19) (ones (by exact flat_onesS)) (by omega) (by decide) (by omega) ?_))
    intro v23 w24 hO25 hG26 hN27
    have hF28 := hG26.e hF18 (Nat.le_refl _)
    have hE29 : Below w0.heap.size w0 w24 := hG26.e hE19 (Nat.le_refl _)
    have hz30 := hE29.le
    have hs31 := hG26.size
    have hS32 := hS22.trans (hG26.mono hS22.size)
    refine ⟨fun _ => hS32, ?_⟩
    obtain ⟨b33, c34, rfl, hm35, hO36⟩ := hO25.ob (hN27 (by omega))
    have hl38 := hO36.lo
    have hO37 := hO36.weak (lo' := w0.heap.size) (by omega)
    have hl39 := hO37.lo
    have hl40 := hO37.lt
    refine d_q (v := .slice ((some ⟨b33, 0, none⟩)) xs.length c34) rfl rfl (fun _ => x_assign rfl) ?_
    refine d_e (by decide) (d_e' rfl rfl (e_makeSlice T.sl42 rfl rfl (by omega) (by omega) ?_))
    intro w41 hA42
    have hx43 := hA42.ext
    have hs45 := hA42.size
    have hA42x : Al w24 w41 (.cells (flat enS (List.replicate xs.length (ByteArray.empty : ByteArray))).toArray 9) := by rw [flat_repX]; exact hA42
    have hO44 := OB.new (lo := w0.heap.size) (k := 1) (c := xs.length) hA42x (by omega) (by rw [flat_length enS_len]; simp) (by omega)
    have hF46 := hx43.e hF28 (Nat.le_refl _)
    have hF47 := hO37.ext hx43
    have hE48 : Below w0.heap.size w0 w41 := hx43.e hE29 (Nat.le_refl _)
    have hz49 := hE48.le
    have hs50 := hx43.size
    have hS51 := hS32.trans (hx43.mono hS32.size)
    refine ⟨fun _ => hS51, ?_⟩
    obtain ⟨b52, b52e⟩ : ∃ b, b = w24.heap.size := ⟨_, rfl⟩
    rw [← b52e] at hO44
    rw [← b52e]
    have hl53 := hO44.lo
    have hl54 := hO44.lt
    refine d_q (v := .slice ((some ⟨b52, 0, none⟩)) xs.length xs.length) rfl rfl (fun _ => x_assign rfl) ?_
    refine d_done ?_
    refine kn12 _ (b33, b52, c34, (List.replicate xs.length (ByteArray.empty : ByteArray))) _ ⟨rfl, rfl, rfl, rfl, trivial⟩ ⟨hF46, ?_⟩
    try dsimp only
    exact ⟨by omega, hm35, Nat.le_refl _, hF47, hO44, rfl, by simp⟩
   ·
    refine id (d_e' rfl rfl (e_makeSlice T.sl42 rfl rfl (by omega) (by omega) ?_))
    intro w55 hA56
    have hx57 := hA56.ext
    have hs59 := hA56.size
    have hA56x : Al w15 w55 (.cells (flat enS (List.replicate xs.length (ByteArray.empty : ByteArray))).toArray 9) := by rw [flat_repX]; exact hA56
    have hO58 := OB.new (lo := w0.heap.size) (k := 1) (c := xs.length) hA56x (by omega) (by rw [flat_length enS_len]; simp) (by omega)
    have hF60 := hx57.e hF18 (Nat.le_refl _)
    have hE61 : Below w0.heap.size w0 w55 := hx57.e hE19 (Nat.le_refl _)
    have hz62 := hE61.le
    have hs63 := hx57.size
    have hS64 := hS22.trans (hx57.mono hS22.size)
    refine ⟨fun _ => hS64, ?_⟩
    obtain ⟨b65, b65e⟩ : ∃ b, b = w15.heap.size := ⟨_, rfl⟩
    rw [← b65e] at hO58
    rw [← b65e]
    have hl66 := hO58.lo
    have hl67 := hO58.lt
    refine d_e (by decide) (d_e' rfl rfl (e_append0 (lo := w55.heap.size) T.sl42 rfl rfl (hl.below hE61) (ones (by exact flat_onesS)) (by omega) (by decide) (by omega) ?_))
    intro v68 w69 hO70 hG71 hN72
    have hF73 := hG71.e hF60 (Nat.le_refl _)
    have hF74 := hO58.ext hG71
    have hE75 : Below w0.heap.size w0 w69 := hG71.e hE61 (Nat.le_refl _)
    have hz76 := hE75.le
    have hs77 := hG71.size
    have hS78 := hS64.trans (hG71.mono hS64.size)
    refine ⟨fun _ => hS78, ?_⟩
    obtain ⟨b79, c80, rfl, hm81, hO82⟩ := hO70.ob (hN72 (by omega))
    have hl84 := hO82.lo
    have hO83 := hO82.weak (lo' := w0.heap.size) (by omega)
    have hl85 := hO83.lo
    have hl86 := hO83.lt
    refine d_q (v := .slice ((some ⟨b79, 0, none⟩)) xs.length c80) rfl rfl (fun _ => x_assign rfl) ?_
    refine d_q (v := .slice ((some ⟨b65, 0, none⟩)) xs.length xs.length) rfl rfl (fun _ => x_assign rfl) ?_
    refine d_done ?_
    refine kn12 _ (b79, b65, c80, (List.replicate xs.length (ByteArray.empty : ByteArray))) _ ⟨rfl, rfl, rfl, rfl, trivial⟩ ⟨hF73, ?_⟩
    try dsimp only
    exact ⟨by omega, hm81, Nat.le_refl _, hO83, hF74, rfl, by simp⟩
  ·
   rintro τ87 ⟨b1, b2, c1, G_⟩ w88 ⟨hx89, ⟨hne, hc1, hc2, hO1, hO2, hF, hT⟩⟩
   try dsimp only at hne hc1 hc2 hO1 hO2 hF hT
   have hE90 : Below w0.heap.size w0 w88 := hx89.e hE0 (Nat.le_refl _)
   have hz91 := hE90.le
   have hs92 := hx89.size
   have hl93 := hO1.lo
   have hl94 := hO1.lt
   have hl95 := hO2.lo
   have hl96 := hO2.lt
   refine seqK fun Q97 kn98 kr99 ke100 => ?_
   refine seqK fun Q101 kn102 kr103 ke104 => ?_
   refine region ?_
   refine st_q (v := .int .i64 ((1 : Nat) : Int)) (x_assign rfl) ?_
   refine st_nil ?_
   refine kn102 _ _ ?_
   refine blockK fun Q105 kn106 kr107 kx108 kb109 => ?_
   refine loopK (α := Nat × Nat × Nat × Nat × Nat × (List (ByteArray)) × (List (ByteArray))) (fun x => [(0, .slice a xs.length ca), (1, .func (.func fc) #[] #[]), (5, .slice ((some ⟨x.2.1, 0, none⟩)) xs.length x.2.2.2.1), (6, .slice ((some ⟨x.2.2.1, 0, none⟩)) xs.length x.2.2.2.2.1), (7, .int .i64 ((x.1 : Nat) : Int))]) (fun x w110 => Below w0.heap.size w0 w110 ∧ x.2.1 ≠ x.2.2.1 ∧ xs.length ≤ x.2.2.2.1 ∧ xs.length ≤ x.2.2.2.2.1 ∧ OB w110.heap w0.heap.size 9 1 x.2.1 x.2.2.2.1 (flat enS x.2.2.2.2.2.1) ∧ OB w110.heap w0.heap.size 9 1 x.2.2.1 x.2.2.2.2.1 (flat enS x.2.2.2.2.2.2) ∧ x.2.2.2.2.2.1.length = xs.length ∧ x.2.2.2.2.2.2.length = xs.length ∧ 1 ≤ x.1 ∧ x.1 < 2 * xs.length ∧ SegOK c x.1 xs x.2.2.2.2.2.1 xs.length) (fun x => 2 * xs.length - x.1) (1, b1, b2, c1, xs.length, xs, G_) ⟨rfl, rfl, rfl, rfl, rfl, trivial⟩ ?_ ?_
   ·
    refine ⟨hE90, ?_⟩
    try dsimp only
    exact ⟨hne, hc1, Nat.le_refl _, hO1, hO2, hF, hT, Nat.le_refl _, by omega, SegOK.one xs _⟩
   ·
    rintro τ111 ⟨wd, b1, b2, c1, c2, F, G_⟩ w112 ⟨hx113, ⟨hne, hc1, hc2, hO1, hO2, hF, hT, hw1, hw2, hS⟩⟩
    try dsimp only at hne hc1 hc2 hO1 hO2 hF hT hw1 hw2 hS
    have hz114 := hx113.le
    intro Q115 kn116 kr117 ke118
    have hl119 := hO1.lo
    have hl120 := hO1.lt
    have hl121 := hO2.lo
    have hl122 := hO2.lt
    refine seqK fun Q123 kn124 kr125 ke126 => ?_
    refine seqK fun Q127 kn128 kr129 ke130 => ?_
    refine region ?_
    refine st_q (v := .int .i64 ((wd : Nat) : Int)) (x_move rfl) ?_
    refine st_q (v := .slice a xs.length ca) (x_move rfl) ?_
    refine st_q (v := .int .i64 ((xs.length : Nat) : Int)) (x_lenSl rfl Tryd.underlying42 rfl) ?_
    refine st_q (v := .bool (decide (wd < xs.length))) (x_lssN rfl rfl) ?_
    refine st_nil ?_
    refine kn128 _ _ ?_
    refine cnd (p := wd < xs.length) rfl (fun h131 => ?_) (fun h131 => ?_)
    ·
     refine skip ?_
     refine kn124 _ _ ?_
     refine seqK fun Q132 kn133 kr134 ke135 => ?_
     refine blockK fun Q136 kn137 kr138 kx139 kb140 => ?_
     refine seqK fun Q141 kn142 kr143 ke144 => ?_
     refine seqK fun Q145 kn146 kr147 ke148 => ?_
     refine region ?_
     refine st_q (v := .int .i64 ((0 : Nat) : Int)) (x_assign rfl) ?_
     refine st_nil ?_
     refine kn146 _ _ ?_
     refine blockK fun Q149 kn150 kr151 kx152 kb153 => ?_
     refine loopK (α := Nat × (List (ByteArray))) (fun x => [(0, .slice a xs.length ca), (1, .func (.func fc) #[] #[]), (5, .slice ((some ⟨b1, 0, none⟩)) xs.length c1), (6, .slice ((some ⟨b2, 0, none⟩)) xs.length c2), (7, .int .i64 ((wd : Nat) : Int)), (8, .int .i64 ((x.1 : Nat) : Int))]) (fun x w154 => Below w0.heap.size w0 w154 ∧ OB w154.heap w0.heap.size 9 1 b1 c1 (flat enS F) ∧ OB w154.heap w0.heap.size 9 1 b2 c2 (flat enS x.2) ∧ x.2.length = xs.length ∧ x.1 < xs.length + 2 * wd ∧ (∃ m, x.1 = m * (2 * wd)) ∧ SegOK c (2 * wd) xs x.2 x.1) (fun x => xs.length + 2 * wd - x.1) (0, G_) ⟨rfl, rfl, rfl, rfl, rfl, rfl, trivial⟩ ?_ ?_
     ·
      refine ⟨hx113, ?_⟩
      try dsimp only
      exact ⟨hO1, hO2, hT, by omega, ⟨0, by omega⟩, SegOK.zero _ _ _⟩
     ·
      rintro τ155 ⟨p, T2⟩ w156 ⟨hx157, ⟨hO3, hO4, hT2, hp, hm, hS2⟩⟩
      try dsimp only at hO3 hO4 hT2 hp hm hS2
      have hz158 := hx157.le
      intro Q159 kn160 kr161 ke162
      have hl163 := hO3.lo
      have hl164 := hO3.lt
      have hl165 := hO4.lo
      have hl166 := hO4.lt
      refine seqK fun Q167 kn168 kr169 ke170 => ?_
      refine seqK fun Q171 kn172 kr173 ke174 => ?_
      refine region ?_
      refine st_q (v := .int .i64 ((p : Nat) : Int)) (x_move rfl) ?_
      refine st_q (v := .slice a xs.length ca) (x_move rfl) ?_
      refine st_q (v := .int .i64 ((xs.length : Nat) : Int)) (x_lenSl rfl Tryd.underlying42 rfl) ?_
      refine st_q (v := .bool (decide (p < xs.length))) (x_lssN rfl rfl) ?_
      refine st_nil ?_
      refine kn172 _ _ ?_
      refine cnd (p := p < xs.length) rfl (fun h175 => ?_) (fun h175 => ?_)
      ·
       refine skip ?_
       refine kn168 _ _ ?_
       refine seqK fun Q176 kn177 kr178 ke179 => ?_
       refine blockK fun Q180 kn181 kr182 kx183 kb184 => ?_
       refine seqK fun Q185 kn186 kr187 ke188 => ?_
       refine region ?_
       refine st_q (v := .int .i64 ((p : Nat) : Int)) (x_move rfl) ?_
       refine st_q (v := .int .i64 ((wd : Nat) : Int)) (x_move rfl) ?_
       refine st_q (v := .int .i64 (((p + wd) : Nat) : Int)) (x_addN rfl rfl (by omega)) ?_
       refine st_q (v := .slice a xs.length ca) (x_move rfl) ?_
       refine st_q (v := .int .i64 ((xs.length : Nat) : Int)) (x_lenSl rfl Tryd.underlying42 rfl) ?_
       refine st_q (v := .int .i64 (((min ((p + wd)) xs.length) : Nat) : Int)) (x_minN rfl rfl) ?_
       refine st_q (v := .int .i64 ((p : Nat) : Int)) (x_move rfl) ?_
       refine st_q (v := .int .i64 ((wd : Nat) : Int)) (x_move rfl) ?_
       refine st_q (v := .int .i64 (((2 * wd) : Nat) : Int)) (x_mulN rfl rfl (by omega)) ?_
       refine st_q (v := .int .i64 (((p + (2 * wd)) : Nat) : Int)) (x_addN rfl rfl (by omega)) ?_
       refine st_q (v := .slice a xs.length ca) (x_move rfl) ?_
       refine st_q (v := .int .i64 ((xs.length : Nat) : Int)) (x_lenSl rfl Tryd.underlying42 rfl) ?_
       refine st_q (v := .int .i64 (((min ((p + (2 * wd))) xs.length) : Nat) : Int)) (x_minN rfl rfl) ?_
       refine st_q (v := .int .i64 (((min ((p + wd)) xs.length) : Nat) : Int)) (x_assign rfl) ?_
       refine st_q (v := .int .i64 (((min ((p + (2 * wd))) xs.length) : Nat) : Int)) (x_assign rfl) ?_
       refine st_nil ?_
       refine kn186 _ _ ?_
       refine seqK fun Q189 kn190 kr191 ke192 => ?_
       refine region ?_
       refine st_q (v := .int .i64 ((p : Nat) : Int)) (x_move rfl) ?_
       refine st_q (v := .int .i64 (((min ((p + wd)) xs.length) : Nat) : Int)) (x_move rfl) ?_
       refine st_q (v := .int .i64 ((p : Nat) : Int)) (x_move rfl) ?_
       refine st_q (v := .int .i64 ((p : Nat) : Int)) (x_assign rfl) ?_
       refine st_q (v := .int .i64 (((min ((p + wd)) xs.length) : Nat) : Int)) (x_assign rfl) ?_
       refine st_q (v := .int .i64 ((p : Nat) : Int)) (x_assign rfl) ?_
       refine st_nil ?_
       refine kn190 _ _ ?_
       refine blockK fun Q193 kn194 kr195 kx196 kb197 => ?_
       refine loopK (α := Nat × Nat × Nat × (List (ByteArray))) (fun x => [(0, .slice a xs.length ca), (1, .func (.func fc) #[] #[]), (5, .slice ((some ⟨b1, 0, none⟩)) xs.length c1), (6, .slice ((some ⟨b2, 0, none⟩)) xs.length c2), (7, .int .i64 ((wd : Nat) : Int)), (8, .int .i64 ((p : Nat) : Int)), (9, .int .i64 (((min ((p + wd)) xs.length) : Nat) : Int)), (10, .int .i64 (((min ((p + (2 * wd))) xs.length) : Nat) : Int)), (11, .int .i64 ((x.1 : Nat) : Int)), (12, .int .i64 ((x.2.1 : Nat) : Int)), (13, .int .i64 ((x.2.2.1 : Nat) : Int))]) (fun x w198 => Below w0.heap.size w0 w198 ∧ OB w198.heap w0.heap.size 9 1 b1 c1 (flat enS F) ∧ OB w198.heap w0.heap.size 9 1 b2 c2 (flat enS x.2.2.2) ∧ x.2.2.2.length = xs.length ∧ x.2.2.1 + (min (p + wd) xs.length) = x.1 + x.2.1 ∧ p ≤ x.1 ∧ x.1 ≤ min (p + wd) xs.length ∧ min (p + wd) xs.length ≤ x.2.1 ∧ x.2.1 ≤ min (p + 2 * wd) xs.length ∧ SegOK c (2 * wd) xs x.2.2.2 p ∧ seg x.2.2.2 p x.2.2.1 ++ mrg c (seg F x.1 (min (p + wd) xs.length)) (seg F x.2.1 (min (p + 2 * wd) xs.length)) = srt c (seg xs p (min (p + 2 * wd) xs.length))) (fun x => xs.length - x.2.2.1) (p, (min (p + wd) xs.length), p, T2) ⟨rfl, rfl, rfl, rfl, rfl, rfl, rfl, rfl, rfl, rfl, rfl, trivial⟩ ?_ ?_
       ·
        refine ⟨hx157, ?_⟩
        try dsimp only
        exact ⟨hO3, hO4, hT2, by omega, by omega, by omega, by omega, by omega, hS2, by rw [seg_self]; exact merge_start hL hS hm (by omega) (by omega)⟩
       ·
        rintro τ199 ⟨ai, bi, k, T3⟩ w200 ⟨hx201, ⟨hO5, hO6, hT3, hk, ha1, ha2, hb1, hb2, hS3, hM⟩⟩
        try dsimp only at hO5 hO6 hT3 hk ha1 ha2 hb1 hb2 hS3 hM
        have hz202 := hx201.le
        intro Q203 kn204 kr205 ke206
        have hl207 := hO5.lo
        have hl208 := hO5.lt
        have hl209 := hO6.lo
        have hl210 := hO6.lt
        refine seqK fun Q211 kn212 kr213 ke214 => ?_
        refine seqK fun Q215 kn216 kr217 ke218 => ?_
        refine region ?_
        refine st_q (v := .int .i64 ((k : Nat) : Int)) (x_move rfl) ?_
        refine st_q (v := .int .i64 (((min ((p + (2 * wd))) xs.length) : Nat) : Int)) (x_move rfl) ?_
        refine st_q (v := .bool (decide (k < ((min ((p + (2 * wd))) xs.length))))) (x_lssN rfl rfl) ?_
        refine st_nil ?_
        refine kn216 _ _ ?_
        refine cnd (p := k < ((min ((p + (2 * wd))) xs.length))) rfl (fun h219 => ?_) (fun h219 => ?_)
        ·
         refine skip ?_
         refine kn212 _ _ ?_
         refine seqK fun Q220 kn221 kr222 ke223 => ?_
         refine blockK fun Q224 kn225 kr226 kx227 kb228 => ?_
         refine seqK fun Q229 kn230 kr231 ke232 => ?_
         refine regionD1 [12, 16] [0, 1, 2, 3, 4, 5, 6, 7, 8, 9, 10, 11, 12, 13, 14, 15, 16, 18, 19, 20] (.one 0 (.one 1 (.one 2 (.one 3 (.one 4 (.one 5 (.one 6 (.one 7 (.one 8 (.one 9 (.one 10 (.one 11 (.one 12 (.one 13 (.one 14 (.one 15 (.one 16 (.one 17 (.one 18 (.one 19 (.one 20 .done))))))))))))))))))))) (by kernel_rfl) (by kernel_rfl) ?_
         intro w233 hx234 hs235
         have hF236 := hO5.ext hx234
         have hF237 := hO6.ext hx234
         have hE238 : Below w0.heap.size w0 w233 := hx234.e hx201 (Nat.le_refl _)
         have hz239 := hE238.le
         have hs240 := hx234.size
         have hS241 : Ext w233 w233 := Below.refl _ _
         refine d_q (v := .int .i64 ((ai : Nat) : Int)) rfl rfl (fun _ => x_move rfl) ?_
         refine d_q (v := .int .i64 (((min ((p + wd)) xs.length) : Nat) : Int)) rfl rfl (fun _ => x_move rfl) ?_
         refine d_q (v := .bool (decide (ai < ((min ((p + wd)) xs.length))))) rfl rfl (fun _ => x_lssN rfl rfl) ?_
         refine d_if rfl rfl (p := ai < ((min ((p + wd)) xs.length))) (fun _ => x_move rfl) (fun h242 => ?_) (fun h242 => ?_)
         ·
          refine d_gq (v := .int .i64 ((bi : Nat) : Int)) (j := 3) (t := 59) rfl rfl rfl rfl (by decide) (fun _ => x_move rfl) ?_
          refine d_gq (v := .int .i64 (((min ((p + (2 * wd))) xs.length) : Nat) : Int)) (j := 3) (t := 59) rfl rfl rfl rfl (by decide) (fun _ => x_move rfl) ?_
          refine d_gq (v := .bool (decide (bi = ((min ((p + (2 * wd))) xs.length))))) (j := 3) (t := 59) rfl rfl rfl rfl (by decide) (fun _ => x_eqlN rfl rfl) ?_
          refine d_gif (j := 3) (t := 59) rfl rfl rfl rfl (by decide) (p := bi = ((min ((p + (2 * wd))) xs.length))) (fun _ => x_move rfl) (fun h243 => ?_) (fun h243 => ?_)
          ·
           refine d_gn (j := 7) (t := 63) rfl rfl rfl rfl (by decide) rfl ?_
           refine d_gn (j := 7) (t := 63) rfl rfl rfl rfl (by decide) rfl ?_
           refine d_gn (j := 7) (t := 63) rfl rfl rfl rfl (by decide) rfl ?_
           refine d_gn (j := 7) (t := 63) rfl rfl rfl rfl (by decide) rfl ?_
           refine d_gn (j := 7) (t := 63) rfl rfl rfl rfl (by decide) rfl ?_
           refine d_gn (j := 7) (t := 63) rfl rfl rfl rfl (by decide) rfl ?_
           refine d_gn (j := 7) (t := 63) rfl rfl rfl rfl (by decide) rfl ?_
           refine d_gn (j := 7) (t := 63) rfl rfl rfl rfl (by decide) rfl ?_
           refine d_gn (j := 7) (t := 63) rfl rfl rfl rfl (by decide) rfl ?_
           refine d_e (by decide) (wpE_skip (j := 7) (t := 63) rfl rfl rfl (by decide) rfl (fun _ => hS241) ?_)
           refine d_gn (j := 7) (t := 63) rfl rfl rfl rfl (by decide) rfl ?_
           refine d_gq (v := .bool true) (j := 3) (t := 59) rfl rfl rfl rfl (by decide) (fun _ => x_pickT rfl rfl) ?_
           refine d_q (v := .bool true) rfl rfl (fun _ => x_pickT rfl rfl) ?_
           refine d_done ?_
           refine kn230 _ _ ?_
           refine cndT rfl ?_
           refine seqK fun Q244 kn245 kr246 ke247 => ?_
           refine region ?_
           refine st_q (v := .slice ((some ⟨b2, 0, none⟩)) xs.length c2) (x_move rfl) ?_
           refine st_q (v := .int .i64 ((k : Nat) : Int)) (x_move rfl) ?_
           refine st_q (v := .slice ((some ⟨b1, 0, none⟩)) xs.length c1) (x_move rfl) ?_
           refine st_q (v := .int .i64 ((ai : Nat) : Int)) (x_move rfl) ?_
           refine st_q (v := .pointer (some ⟨b1, 0 + ai * 1, none⟩)) (x_index T.sl42 rfl rfl (by omega)) ?_
           refine st_q (v := .string (el F ai)) (x_load1 T.na9 rfl (hF236.cells.elem enS_len (i := ai) (by omega))) ?_
           refine st_q (v := .pointer (some ⟨b2, 0 + k * 1, none⟩)) (x_index T.sl42 rfl rfl (by omega)) ?_
           refine st_s (e_stO (v := .string (el F ai)) (u := el F ai) enS_len T.sz9 rfl rfl rfl hF237 (by first | omega | (rw [List.length_set]; omega)) (by rfl) ?_)
           intro w248 _ hP249 hB250
           have hs251 := hP249.size
           have hF252 := hF236.pt hP249 (by omega)
           have hE253 : Below w0.heap.size w0 w248 := hP249.below hE238 (by omega)
           have hz254 := hE253.le
           refine st_nil ?_
           refine kn245 _ _ ?_
           refine region ?_
           refine st_q (v := .int .i64 ((ai : Nat) : Int)) (x_move rfl) ?_
           refine st_q (v := .int .i64 (((ai + 1) : Nat) : Int)) (x_addN rfl rfl (by omega)) ?_
           refine st_q (v := .int .i64 (((ai + 1) : Nat) : Int)) (x_assign rfl) ?_
           refine st_nil ?_
           refine kn225 _ _ ?_
           refine kn221 _ _ ?_
           refine region ?_
           refine st_q (v := .int .i64 ((k : Nat) : Int)) (x_move rfl) ?_
           refine st_q (v := .int .i64 (((k + 1) : Nat) : Int)) (x_addN rfl rfl (by omega)) ?_
           refine st_q (v := .int .i64 (((k + 1) : Nat) : Int)) (x_assign rfl) ?_
           refine st_nil ?_
           refine kn204 _ ((ai + 1), bi, (k + 1), (T3.set k (el F ai))) _ ⟨rfl, rfl, rfl, rfl, rfl, rfl, rfl, rfl, rfl, rfl, rfl, trivial⟩ ⟨hE253, ?_⟩ ?_
           ·
            try dsimp only
            exact ⟨hF252, hB250, by rw [List.length_set]; exact hT3, by omega, by omega, by omega, by omega, by omega, hS3.set _ (by omega) hm, merge_left hM (by omega) (by first | exact .inl (by omega) | exact .inr ⟨by omega, by omega⟩) (by omega) (by omega) (by omega) (by omega)⟩
           ·
            (try dsimp only); omega
          ·
           refine d_gq (v := .func (.func fc) #[] #[]) (j := 7) (t := 63) rfl rfl rfl rfl (by decide) (fun _ => x_move rfl) ?_
           refine d_gq (v := .slice ((some ⟨b1, 0, none⟩)) xs.length c1) (j := 7) (t := 63) rfl rfl rfl rfl (by decide) (fun _ => x_move rfl) ?_
           refine d_gq (v := .int .i64 ((bi : Nat) : Int)) (j := 7) (t := 63) rfl rfl rfl rfl (by decide) (fun _ => x_move rfl) ?_
           refine d_gq (v := .pointer (some ⟨b1, 0 + bi * 1, none⟩)) (j := 7) (t := 63) rfl rfl rfl rfl (by decide) (fun _ => x_index T.sl42 rfl rfl (by omega)) ?_
           refine d_gl (v := .string (el F bi)) (j := 7) (t := 63) rfl rfl rfl rfl rfl (by decide) (fun v256 hw255 => x_load1 T.na9 rfl ((hF236.cells.elem enS_len (i := bi) (by omega)).ext hw255)) ?_
           refine d_gq (v := .slice ((some ⟨b1, 0, none⟩)) xs.length c1) (j := 7) (t := 63) rfl rfl rfl rfl (by decide) (fun _ => x_move rfl) ?_
           refine d_gq (v := .int .i64 ((ai : Nat) : Int)) (j := 7) (t := 63) rfl rfl rfl rfl (by decide) (fun _ => x_move rfl) ?_
           refine d_gq (v := .pointer (some ⟨b1, 0 + ai * 1, none⟩)) (j := 7) (t := 63) rfl rfl rfl rfl (by decide) (fun _ => x_index T.sl42 rfl rfl (by omega)) ?_
           refine d_gl (v := .string (el F ai)) (j := 7) (t := 63) rfl rfl rfl rfl rfl (by decide) (fun v258 hw257 => x_load1 T.na9 rfl ((hF236.cells.elem enS_len (i := ai) (by omega)).ext hw257)) ?_
           refine d_e (by decide) (d_c' rfl (wanted_true (j := 7) (t := 63) rfl rfl (by decide)) (t_call [.string (el F bi), .string (el F ai)] hcf rfl rfl) (hcmp (el F bi) (el F ai) _ (hG _ (SegOK.mem hS hF (by omega) (i := bi) (by omega))) (hG _ (SegOK.mem hS hF (by omega) (i := ai) (by omega))) hE238) ?_)
           rintro _ w259 ⟨rfl, hx260⟩
           refine ⟨_, rfl, ?_⟩
           have hF261 := hF236.ext hx260
           have hF262 := hF237.ext hx260
           have hE263 : Below w0.heap.size w0 w259 := hx260.e hE238 (Nat.le_refl _)
           have hz264 := hE263.le
           have hs265 := hx260.size
           have hS266 := hS241.trans (hx260.mono hS241.size)
           refine ⟨fun _ => hS266, ?_⟩
           refine d_gq (v := .bool (decide (0 ≤ (c (el F bi) (el F ai))))) (j := 7) (t := 63) rfl rfl rfl rfl (by decide) (fun _ => x_geq rfl rfl) ?_
           refine d_gq (v := .bool (decide (0 ≤ (c (el F bi) (el F ai))))) (j := 3) (t := 59) rfl rfl rfl rfl (by decide) (fun _ => x_pickF rfl rfl) ?_
           refine d_q (v := .bool (decide (0 ≤ (c (el F bi) (el F ai))))) rfl rfl (fun _ => x_pickT rfl rfl) ?_
           refine d_done ?_
           refine kn230 _ _ ?_
           refine cnd (p := 0 ≤ (c (el F bi) (el F ai))) rfl (fun h267 => ?_) (fun h267 => ?_)
           ·
            refine seqK fun Q268 kn269 kr270 ke271 => ?_
            refine region ?_
            refine st_q (v := .slice ((some ⟨b2, 0, none⟩)) xs.length c2) (x_move rfl) ?_
            refine st_q (v := .int .i64 ((k : Nat) : Int)) (x_move rfl) ?_
            refine st_q (v := .slice ((some ⟨b1, 0, none⟩)) xs.length c1) (x_move rfl) ?_
            refine st_q (v := .int .i64 ((ai : Nat) : Int)) (x_move rfl) ?_
            refine st_q (v := .pointer (some ⟨b1, 0 + ai * 1, none⟩)) (x_index T.sl42 rfl rfl (by omega)) ?_
            refine st_q (v := .string (el F ai)) (x_load1 T.na9 rfl (hF261.cells.elem enS_len (i := ai) (by omega))) ?_
            refine st_q (v := .pointer (some ⟨b2, 0 + k * 1, none⟩)) (x_index T.sl42 rfl rfl (by omega)) ?_
            refine st_s (e_stO (v := .string (el F ai)) (u := el F ai) enS_len T.sz9 rfl rfl rfl hF262 (by first | omega | (rw [List.length_set]; omega)) (by rfl) ?_)
            intro w272 _ hP273 hB274
            have hs275 := hP273.size
            have hF276 := hF261.pt hP273 (by omega)
            have hE277 : Below w0.heap.size w0 w272 := hP273.below hE263 (by omega)
            have hz278 := hE277.le
            refine st_nil ?_
            refine kn269 _ _ ?_
            refine region ?_
            refine st_q (v := .int .i64 ((ai : Nat) : Int)) (x_move rfl) ?_
            refine st_q (v := .int .i64 (((ai + 1) : Nat) : Int)) (x_addN rfl rfl (by omega)) ?_
            refine st_q (v := .int .i64 (((ai + 1) : Nat) : Int)) (x_assign rfl) ?_
            refine st_nil ?_
            refine kn225 _ _ ?_
            refine kn221 _ _ ?_
            refine region ?_
            refine st_q (v := .int .i64 ((k : Nat) : Int)) (x_move rfl) ?_
            refine st_q (v := .int .i64 (((k + 1) : Nat) : Int)) (x_addN rfl rfl (by omega)) ?_
            refine st_q (v := .int .i64 (((k + 1) : Nat) : Int)) (x_assign rfl) ?_
            refine st_nil ?_
            refine kn204 _ ((ai + 1), bi, (k + 1), (T3.set k (el F ai))) _ ⟨rfl, rfl, rfl, rfl, rfl, rfl, rfl, rfl, rfl, rfl, rfl, trivial⟩ ⟨hE277, ?_⟩ ?_
            ·
             try dsimp only
             exact ⟨hF276, hB274, by rw [List.length_set]; exact hT3, by omega, by omega, by omega, by omega, by omega, hS3.set _ (by omega) hm, merge_left hM (by omega) (by first | exact .inl (by omega) | exact .inr ⟨by omega, by omega⟩) (by omega) (by omega) (by omega) (by omega)⟩
            ·
             (try dsimp only); omega
           ·
            refine seqK fun Q279 kn280 kr281 ke282 => ?_
            refine region ?_
            refine st_q (v := .slice ((some ⟨b2, 0, none⟩)) xs.length c2) (x_move rfl) ?_
            refine st_q (v := .int .i64 ((k : Nat) : Int)) (x_move rfl) ?_
            refine st_q (v := .slice ((some ⟨b1, 0, none⟩)) xs.length c1) (x_move rfl) ?_
            refine st_q (v := .int .i64 ((bi : Nat) : Int)) (x_move rfl) ?_
            refine st_q (v := .pointer (some ⟨b1, 0 + bi * 1, none⟩)) (x_index T.sl42 rfl rfl (by omega)) ?_
            refine st_q (v := .string (el F bi)) (x_load1 T.na9 rfl (hF261.cells.elem enS_len (i := bi) (by omega))) ?_
            refine st_q (v := .pointer (some ⟨b2, 0 + k * 1, none⟩)) (x_index T.sl42 rfl rfl (by omega)) ?_
            refine st_s (e_stO (v := .string (el F bi)) (u := el F bi) enS_len T.sz9 rfl rfl rfl hF262 (by first | omega | (rw [List.length_set]; omega)) (by rfl) ?_)
            intro w283 _ hP284 hB285
            have hs286 := hP284.size
            have hF287 := hF261.pt hP284 (by omega)
            have hE288 : Below w0.heap.size w0 w283 := hP284.below hE263 (by omega)
            have hz289 := hE288.le
            refine st_nil ?_
            refine kn280 _ _ ?_
            refine region ?_
            refine st_q (v := .int .i64 ((bi : Nat) : Int)) (x_move rfl) ?_
            refine st_q (v := .int .i64 (((bi + 1) : Nat) : Int)) (x_addN rfl rfl (by omega)) ?_
            refine st_q (v := .int .i64 (((bi + 1) : Nat) : Int)) (x_assign rfl) ?_
            refine st_nil ?_
            refine kn225 _ _ ?_
            refine kn221 _ _ ?_
            refine region ?_
            refine st_q (v := .int .i64 ((k : Nat) : Int)) (x_move rfl) ?_
            refine st_q (v := .int .i64 (((k + 1) : Nat) : Int)) (x_addN rfl rfl (by omega)) ?_
            refine st_q (v := .int .i64 (((k + 1) : Nat) : Int)) (x_assign rfl) ?_
            refine st_nil ?_
            refine kn204 _ (ai, (bi + 1), (k + 1), (T3.set k (el F bi))) _ ⟨rfl, rfl, rfl, rfl, rfl, rfl, rfl, rfl, rfl, rfl, rfl, trivial⟩ ⟨hE288, ?_⟩ ?_
            ·
             try dsimp only
             exact ⟨hF287, hB285, by rw [List.length_set]; exact hT3, by omega, by omega, by omega, by omega, by omega, hS3.set _ (by omega) hm, merge_right hM (by omega) (by first | exact .inl (by omega) | exact .inr ⟨by omega, by omega⟩) (by omega) (by omega) (by omega) (by omega)⟩
            ·
             (try dsimp only); omega
         ·
          refine d_gn (j := 3) (t := 59) rfl rfl rfl rfl (by decide) rfl ?_
          refine d_gn (j := 3) (t := 59) rfl rfl rfl rfl (by decide) rfl ?_
          refine d_gn (j := 3) (t := 59) rfl rfl rfl rfl (by decide) rfl ?_
          refine d_gn (j := 3) (t := 59) rfl rfl rfl rfl (by decide) rfl ?_
          refine d_gu (j := 7) (t := 63) rfl rfl rfl rfl (by decide) ?_
          refine d_gu (j := 7) (t := 63) rfl rfl rfl rfl (by decide) ?_
          refine d_gu (j := 7) (t := 63) rfl rfl rfl rfl (by decide) ?_
          refine d_gu (j := 7) (t := 63) rfl rfl rfl rfl (by decide) ?_
          refine d_gu (j := 7) (t := 63) rfl rfl rfl rfl (by decide) ?_
          refine d_gu (j := 7) (t := 63) rfl rfl rfl rfl (by decide) ?_
          refine d_gu (j := 7) (t := 63) rfl rfl rfl rfl (by decide) ?_
          refine d_gu (j := 7) (t := 63) rfl rfl rfl rfl (by decide) ?_
          refine d_gu (j := 7) (t := 63) rfl rfl rfl rfl (by decide) ?_
          refine d_e (by decide) (wpE_undef (j := 7) (t := 63) rfl rfl rfl (by decide) (fun _ => hS241) ?_)
          refine d_gu (j := 7) (t := 63) rfl rfl rfl rfl (by decide) ?_
          refine d_gn (j := 3) (t := 59) rfl rfl rfl rfl (by decide) rfl ?_
          refine d_q (v := .bool false) rfl rfl (fun _ => x_pickF rfl rfl) ?_
          refine d_done ?_
          refine kn230 _ _ ?_
          refine cndF rfl ?_
          refine seqK fun Q290 kn291 kr292 ke293 => ?_
          refine region ?_
          refine st_q (v := .slice ((some ⟨b2, 0, none⟩)) xs.length c2) (x_move rfl) ?_
          refine st_q (v := .int .i64 ((k : Nat) : Int)) (x_move rfl) ?_
          refine st_q (v := .slice ((some ⟨b1, 0, none⟩)) xs.length c1) (x_move rfl) ?_
          refine st_q (v := .int .i64 ((bi : Nat) : Int)) (x_move rfl) ?_
          refine st_q (v := .pointer (some ⟨b1, 0 + bi * 1, none⟩)) (x_index T.sl42 rfl rfl (by omega)) ?_
          refine st_q (v := .string (el F bi)) (x_load1 T.na9 rfl (hF236.cells.elem enS_len (i := bi) (by omega))) ?_
          refine st_q (v := .pointer (some ⟨b2, 0 + k * 1, none⟩)) (x_index T.sl42 rfl rfl (by omega)) ?_
          refine st_s (e_stO (v := .string (el F bi)) (u := el F bi) enS_len T.sz9 rfl rfl rfl hF237 (by first | omega | (rw [List.length_set]; omega)) (by rfl) ?_)
          intro w294 _ hP295 hB296
          have hs297 := hP295.size
          have hF298 := hF236.pt hP295 (by omega)
          have hE299 : Below w0.heap.size w0 w294 := hP295.below hE238 (by omega)
          have hz300 := hE299.le
          refine st_nil ?_
          refine kn291 _ _ ?_
          refine region ?_
          refine st_q (v := .int .i64 ((bi : Nat) : Int)) (x_move rfl) ?_
          refine st_q (v := .int .i64 (((bi + 1) : Nat) : Int)) (x_addN rfl rfl (by omega)) ?_
          refine st_q (v := .int .i64 (((bi + 1) : Nat) : Int)) (x_assign rfl) ?_
          refine st_nil ?_
          refine kn225 _ _ ?_
          refine kn221 _ _ ?_
          refine region ?_
          refine st_q (v := .int .i64 ((k : Nat) : Int)) (x_move rfl) ?_
          refine st_q (v := .int .i64 (((k + 1) : Nat) : Int)) (x_addN rfl rfl (by omega)) ?_
          refine st_q (v := .int .i64 (((k + 1) : Nat) : Int)) (x_assign rfl) ?_
          refine st_nil ?_
          refine kn204 _ (ai, (bi + 1), (k + 1), (T3.set k (el F bi))) _ ⟨rfl, rfl, rfl, rfl, rfl, rfl, rfl, rfl, rfl, rfl, rfl, trivial⟩ ⟨hE299, ?_⟩ ?_
          ·
           try dsimp only
           exact ⟨hF298, hB296, by rw [List.length_set]; exact hT3, by omega, by omega, by omega, by omega, by omega, hS3.set _ (by omega) hm, merge_right hM (by omega) (by first | exact .inl (by omega) | exact .inr ⟨by omega, by omega⟩) (by omega) (by omega) (by omega) (by omega)⟩
          ·
           (try dsimp only); omega
        ·
         refine exit ?_
         refine ke214 _ _ _ ?_
         refine ke206 _ _ _ ?_
         refine kb197 _ _ ?_
         refine kn181 _ _ ?_
         refine kn177 _ _ ?_
         refine region ?_
         refine st_q (v := .int .i64 ((p : Nat) : Int)) (x_move rfl) ?_
         refine st_q (v := .int .i64 ((wd : Nat) : Int)) (x_move rfl) ?_
         refine st_q (v := .int .i64 (((2 * wd) : Nat) : Int)) (x_mulN rfl rfl (by omega)) ?_
         refine st_q (v := .int .i64 (((p + (2 * wd)) : Nat) : Int)) (x_addN rfl rfl (by omega)) ?_
         refine st_q (v := .int .i64 (((p + (2 * wd)) : Nat) : Int)) (x_assign rfl) ?_
         refine st_nil ?_
         refine kn160 _ ((p + 2 * wd), T3) _ ⟨rfl, rfl, rfl, rfl, rfl, rfl, trivial⟩ ⟨hx201, ?_⟩ ?_
         ·
          try dsimp only
          obtain rfl : k = min (p + 2 * wd) xs.length := by omega
          obtain rfl : ai = min (p + wd) xs.length := by omega
          obtain rfl : bi = min (p + 2 * wd) xs.length := by omega
          exact ⟨hO5, hO6, hT3, by omega, ⟨hm.choose + 1, by have := hm.choose_spec; rw [Nat.add_mul]; omega⟩, merge_end hS3 hm (by omega) hM⟩
         ·
          (try dsimp only); omega
      ·
       refine exit ?_
       refine ke170 _ _ _ ?_
       refine ke162 _ _ _ ?_
       refine kb153 _ _ ?_
       refine kn142 _ _ ?_
       refine region ?_
       refine st_q (v := .slice ((some ⟨b2, 0, none⟩)) xs.length c2) (x_move rfl) ?_
       refine st_q (v := .slice ((some ⟨b1, 0, none⟩)) xs.length c1) (x_move rfl) ?_
       refine st_q (v := .slice ((some ⟨b2, 0, none⟩)) xs.length c2) (x_assign rfl) ?_
       refine st_q (v := .slice ((some ⟨b1, 0, none⟩)) xs.length c1) (x_assign rfl) ?_
       refine st_nil ?_
       refine kn137 _ _ ?_
       refine kn133 _ _ ?_
       refine region ?_
       refine st_q (v := .int .i64 ((wd : Nat) : Int)) (x_move rfl) ?_
       refine st_q (v := .int .i64 (((wd * 2) : Nat) : Int)) (x_mulN rfl rfl (by omega)) ?_
       refine st_q (v := .int .i64 (((wd * 2) : Nat) : Int)) (x_assign rfl) ?_
       refine st_nil ?_
       refine kn116 _ ((wd * 2), b2, b1, c2, c1, T2, F) _ ⟨rfl, rfl, rfl, rfl, rfl, trivial⟩ ⟨hx157, ?_⟩ ?_
       ·
        try dsimp only
        exact ⟨Ne.symm hne, hc2, hc1, hO4, hO3, hT2, hF, by omega, by omega, by rw [Nat.mul_comm wd 2]; exact hS2.mono (by omega)⟩
       ·
        (try dsimp only); omega
    ·
     refine exit ?_
     refine ke126 _ _ _ ?_
     refine ke118 _ _ _ ?_
     refine kb109 _ _ ?_
     refine kn98 _ _ ?_
     refine seqK fun Q301 kn302 kr303 ke304 => ?_
     refine region ?_
     refine st_q (v := .slice ((some ⟨b1, 0, none⟩)) xs.length c1) (x_move rfl) ?_
     refine st_q (v := .slice ((some ⟨b1, 0, none⟩)) xs.length c1) (x_assign rfl) ?_
     refine st_nil ?_
     refine kn302 _ _ ?_
     refine ret ?_
     refine leave1 (P := Tryd.prog) (fn := Tryd.f66) (t := 4) (v := .slice ((some ⟨b1, 0, none⟩)) xs.length c1) rfl rfl ?_
     exact ⟨_, rfl, hx113, (hS.done hF (by omega)) ▸ hO1.own hc1 (by rw [flat_length enS_len, hF])⟩

set_option maxHeartbeats 4000000 in
theorem sort66z (fc : Nat) (c : ByteArray → ByteArray → Int) (hcf : CF Tryd.prog fc) (hL : Lawful c) (g : Value) (hg : ToldX g fc) (G : ByteArray → Prop) (xs : List (ByteArray)) (hG : ∀ x ∈ xs, G x) (vl : Value) (w0 : World) (hcmp : ∀ (x y : ByteArray) (w : World), G x → G y → Below w0.heap.size w0 w → Calls Tryd.prog fc #[.string x, .string y] w fun e w' => e = .returned (.int .i64 (c x y)) ∧ Ext w w') (hl : Src w0.heap vl xs.length 1 (flat enS xs)) (hn : xs.length ≤ 8796093022208) (hz : xs.length = 0) : Calls Tryd.prog 66 #[vl, g] w0 fun e w' => ∃ v, e = .returned v ∧ Ext w0 w' ∧ Own w'.heap w0.heap.size 9 1 v xs.length (flat enS (srt c xs)) := by
  have hE0 : Below w0.heap.size w0 w0 := Below.refl _ _
  have hz0 := hE0.le
  obtain ⟨a, ca, rfl, hca, hca1⟩ := hl.form
  refine enter Tryd.func66 rfl 98 Tryd.ntmps66 rfl ?_
  refine seqK fun Q1 kn2 kr3 ke4 => ?_
  refine region ?_
  refine st_q (v := .slice none 0 0) (x_assign rfl) ?_
  refine st_nil ?_
  refine kn2 _ _ ?_
  refine seqK fun Q5 kn6 kr7 ke8 => ?_
  refine region ?_
  refine st_q (v := g) (x_move rfl) ?_
  refine st_c (t_call [g] T.cf65 rfl rfl) (hg _) ?_
  rintro _ _ ⟨rfl, rfl⟩
  refine ⟨_, rfl, ?_⟩
  refine st_q (v := .func (.func fc) #[] #[]) (x_assign rfl) ?_
  refine st_nil ?_
  refine kn6 _ _ ?_
  refine seqK fun Q9 kn10 kr11 ke12 => ?_
  refine regionD1 [] [0, 2, 3, 5, 6] (.one 0 (.one 2 (.one 3 (.two 1 (.one 5 (.one 4 (.one 6 .done))) 4 (.one 1 (.one 5 (.one 6 .done))))))) (by kernel_rfl) (by kernel_rfl) ?_
  intro w13 hx14 hs15
  have hE16 : Below w0.heap.size w0 w13 := hx14.e hE0 (Nat.le_refl _)
  have hz17 := hE16.le
  have hs18 := hx14.size
  have hS19 : Ext w13 w13 := Below.refl _ _
  refine d_q (v := .slice a xs.length ca) rfl rfl (fun _ => x_move rfl) ?_
  refine d_q (v := .slice a xs.length ca) rfl rfl (fun _ => x_move rfl) ?_
  refine d_q (v := .int .i64 ((xs.length : Nat) : Int)) rfl rfl (fun _ => x_lenSl rfl Tryd.underlying42 rfl) ?_
  refine d_two ?_ ?_
  ·
   refine id (d_e' rfl rfl (e_append0 (lo := w13.heap.size) T.sl42 rfl rfl (hl.below hE16) (ones (by exact flat_onesS)) (by omega) (by decide) (by omega) ?_))
   intro v20 w21 hO22 hG23 hN24
   have hE25 : Below w0.heap.size w0 w21 := hG23.e hE16 (Nat.le_refl _)
   have hz26 := hE25.le
   have hs27 := hG23.size
   have hS28 := hS19.trans (hG23.mono hS19.size)
   refine ⟨fun _ => hS28, ?_⟩
   refine d_q (v := v20) rfl rfl (fun _ => x_assign rfl) ?_
   refine d_e (by decide) (d_e' rfl rfl (e_makeSlice T.sl42 rfl rfl (by omega) (by omega) ?_))
   intro w29 hA30
   have hx31 := hA30.ext
   have hs32 := hA30.size
   have hB33 := hA30.new
   have hF34 := hO22.ext hx31
   have hE35 : Below w0.heap.size w0 w29 := hx31.e hE25 (Nat.le_refl _)
   have hz36 := hE35.le
   have hs37 := hx31.size
   have hS38 := hS28.trans (hx31.mono hS28.size)
   refine ⟨fun _ => hS38, ?_⟩
   refine d_q (v := .slice ((some ⟨w21.heap.size, 0, none⟩)) xs.length xs.length) rfl rfl (fun _ => x_assign rfl) ?_
   refine d_done ?_
   refine kn10 _ _ ?_
   refine seqK fun Q39 kn40 kr41 ke42 => ?_
   refine seqK fun Q43 kn44 kr45 ke46 => ?_
   refine region ?_
   refine st_q (v := .int .i64 ((1 : Nat) : Int)) (x_assign rfl) ?_
   refine st_nil ?_
   refine kn44 _ _ ?_
   refine blockK fun Q47 kn48 kr49 kx50 kb51 => ?_
   refine loopK (α := Unit) (fun _ => [(0, .slice a xs.length ca), (1, .func (.func fc) #[] #[]), (5, v20), (6, .slice ((some ⟨w21.heap.size, 0, none⟩)) xs.length xs.length), (7, .int .i64 ((1 : Nat) : Int))]) (fun _ w52 => w29 = w52 ∧ True) (fun _ => 0) () ⟨rfl, rfl, rfl, rfl, rfl, trivial⟩ ?_ ?_
   ·
    refine ⟨rfl, ?_⟩
    try dsimp only
    all_goals exact trivial
   ·
    rintro τ53 _ w54 ⟨rfl, _⟩
    intro Q55 kn56 kr57 ke58
    refine seqK fun Q59 kn60 kr61 ke62 => ?_
    refine seqK fun Q63 kn64 kr65 ke66 => ?_
    refine region ?_
    refine st_q (v := .int .i64 ((1 : Nat) : Int)) (x_move rfl) ?_
    refine st_q (v := .slice a xs.length ca) (x_move rfl) ?_
    refine st_q (v := .int .i64 ((xs.length : Nat) : Int)) (x_lenSl rfl Tryd.underlying42 rfl) ?_
    refine st_q (v := .bool (decide (1 < xs.length))) (x_lssN rfl rfl) ?_
    refine st_nil ?_
    refine kn64 _ _ ?_
    refine cnd (p := 1 < xs.length) rfl (fun h67 => ?_) (fun h67 => ?_)
    ·
     exact absurd h67 (by omega)
    ·
     refine exit ?_
     refine ke62 _ _ _ ?_
     refine ke58 _ _ _ ?_
     refine kb51 _ _ ?_
     refine kn40 _ _ ?_
     refine seqK fun Q68 kn69 kr70 ke71 => ?_
     refine region ?_
     refine st_q (v := v20) (x_move rfl) ?_
     refine st_q (v := v20) (x_assign rfl) ?_
     refine st_nil ?_
     refine kn69 _ _ ?_
     refine ret ?_
     refine leave1 (P := Tryd.prog) (fn := Tryd.f66) (t := 4) (v := v20) rfl rfl ?_
     exact ⟨_, rfl, hE35, by rw [show srt c xs = xs by rw [List.eq_nil_of_length_eq_zero hz]; rfl]; exact hF34.weak (by omega)⟩
  ·
   refine id (d_e' rfl rfl (e_makeSlice T.sl42 rfl rfl (by omega) (by omega) ?_))
   intro w72 hA73
   have hx74 := hA73.ext
   have hs75 := hA73.size
   have hB76 := hA73.new
   have hE77 : Below w0.heap.size w0 w72 := hx74.e hE16 (Nat.le_refl _)
   have hz78 := hE77.le
   have hs79 := hx74.size
   have hS80 := hS19.trans (hx74.mono hS19.size)
   refine ⟨fun _ => hS80, ?_⟩
   refine d_e (by decide) (d_e' rfl rfl (e_append0 (lo := w72.heap.size) T.sl42 rfl rfl (hl.below hE77) (ones (by exact flat_onesS)) (by omega) (by decide) (by omega) ?_))
   intro v81 w82 hO83 hG84 hN85
   have hE86 : Below w0.heap.size w0 w82 := hG84.e hE77 (Nat.le_refl _)
   have hz87 := hE86.le
   have hs88 := hG84.size
   have hS89 := hS80.trans (hG84.mono hS80.size)
   refine ⟨fun _ => hS89, ?_⟩
   refine d_q (v := v81) rfl rfl (fun _ => x_assign rfl) ?_
   refine d_q (v := .slice ((some ⟨w13.heap.size, 0, none⟩)) xs.length xs.length) rfl rfl (fun _ => x_assign rfl) ?_
   refine d_done ?_
   refine kn10 _ _ ?_
   refine seqK fun Q90 kn91 kr92 ke93 => ?_
   refine seqK fun Q94 kn95 kr96 ke97 => ?_
   refine region ?_
   refine st_q (v := .int .i64 ((1 : Nat) : Int)) (x_assign rfl) ?_
   refine st_nil ?_
   refine kn95 _ _ ?_
   refine blockK fun Q98 kn99 kr100 kx101 kb102 => ?_
   refine loopK (α := Unit) (fun _ => [(0, .slice a xs.length ca), (1, .func (.func fc) #[] #[]), (5, v81), (6, .slice ((some ⟨w13.heap.size, 0, none⟩)) xs.length xs.length), (7, .int .i64 ((1 : Nat) : Int))]) (fun _ w103 => w82 = w103 ∧ True) (fun _ => 0) () ⟨rfl, rfl, rfl, rfl, rfl, trivial⟩ ?_ ?_
   ·
    refine ⟨rfl, ?_⟩
    try dsimp only
    all_goals exact trivial
   ·
    rintro τ104 _ w105 ⟨rfl, _⟩
    intro Q106 kn107 kr108 ke109
    refine seqK fun Q110 kn111 kr112 ke113 => ?_
    refine seqK fun Q114 kn115 kr116 ke117 => ?_
    refine region ?_
    refine st_q (v := .int .i64 ((1 : Nat) : Int)) (x_move rfl) ?_
    refine st_q (v := .slice a xs.length ca) (x_move rfl) ?_
    refine st_q (v := .int .i64 ((xs.length : Nat) : Int)) (x_lenSl rfl Tryd.underlying42 rfl) ?_
    refine st_q (v := .bool (decide (1 < xs.length))) (x_lssN rfl rfl) ?_
    refine st_nil ?_
    refine kn115 _ _ ?_
    refine cnd (p := 1 < xs.length) rfl (fun h118 => ?_) (fun h118 => ?_)
    ·
     exact absurd h118 (by omega)
    ·
     refine exit ?_
     refine ke113 _ _ _ ?_
     refine ke109 _ _ _ ?_
     refine kb102 _ _ ?_
     refine kn91 _ _ ?_
     refine seqK fun Q119 kn120 kr121 ke122 => ?_
     refine region ?_
     refine st_q (v := v81) (x_move rfl) ?_
     refine st_q (v := v81) (x_assign rfl) ?_
     refine st_nil ?_
     refine kn120 _ _ ?_
     refine ret ?_
     refine leave1 (P := Tryd.prog) (fn := Tryd.f66) (t := 4) (v := v81) rfl rfl ?_
     exact ⟨_, rfl, hE86, by rw [show srt c xs = xs by rw [List.eq_nil_of_length_eq_zero hz]; rfl]; exact hO83.weak (by omega)⟩

theorem sort66 (fc : Nat) (c : ByteArray → ByteArray → Int) (hcf : CF Tryd.prog fc) (hL : Lawful c) (g : Value) (hg : ToldX g fc) (G : ByteArray → Prop) (xs : List (ByteArray)) (hG : ∀ x ∈ xs, G x) (vl : Value) (w0 : World) (hcmp : ∀ (x y : ByteArray) (w : World), G x → G y → Below w0.heap.size w0 w → Calls Tryd.prog fc #[.string x, .string y] w fun e w' => e = .returned (.int .i64 (c x y)) ∧ Ext w w') (hl : Src w0.heap vl xs.length 1 (flat enS xs)) (hn : xs.length ≤ 8796093022208) : Calls Tryd.prog 66 #[vl, g] w0 fun e w' => ∃ v, e = .returned v ∧ Ext w0 w' ∧ Own w'.heap w0.heap.size 9 1 v xs.length (flat enS (srt c xs)) := by
  rcases Nat.eq_zero_or_pos xs.length with hz | hz
  · exact sort66z fc c hcf hL g hg G xs hG vl w0 hcmp hl hn hz
  · exact sort66p fc c hcf hL g hg G xs hG vl w0 hcmp hl hn hz
set_option maxHeartbeats 4000000 in
theorem told65 (f : Nat) (w0 : World) : Calls Tryd.prog 65 #[.func (.func f) #[] #[]] w0 fun e w' => e = .returned (.func (.func f) #[] #[]) ∧ w0 = w' := by
  refine enter Tryd.func65 rfl 6 Tryd.ntmps65 rfl ?_
  refine seqK fun Q1 kn2 kr3 ke4 => ?_
  refine region ?_
  refine st_q (v := .nilFunc) (x_assign rfl) ?_
  refine st_nil ?_
  refine kn2 _ _ ?_
  refine seqK fun Q5 kn6 kr7 ke8 => ?_
  refine seqK fun Q9 kn10 kr11 ke12 => ?_
  refine region ?_
  refine st_q (v := .func (.func f) #[] #[]) (x_move rfl) ?_
  refine st_q (v := .bool false) (x_eqlFnil Tryd.underlying92 rfl rfl) ?_
  refine st_nil ?_
  refine kn10 _ _ ?_
  refine cndF rfl ?_
  refine skip ?_
  refine kn6 _ _ ?_
  refine seqK fun Q13 kn14 kr15 ke16 => ?_
  refine region ?_
  refine st_q (v := .func (.func f) #[] #[]) (x_move rfl) ?_
  refine st_q (v := .func (.func f) #[] #[]) (x_assign rfl) ?_
  refine st_nil ?_
  refine kn14 _ _ ?_
  refine ret ?_
  refine leave1 (P := Tryd.prog) (fn := Tryd.f65) (t := 2) (v := .func (.func f) #[] #[]) rfl rfl ?_
  exact ⟨rfl, rfl⟩

theorem toldF65 (f : Nat) : ToldX (.func (.func f) #[] #[]) f := fun w => told65 f w
def ToldR (g : Value) (fc : Nat) : Prop := ∀ w, Calls Tryd.prog 74 #[g] w fun e w' => e = .returned (.func (.func fc) #[] #[]) ∧ w = w'
theorem flat_repR (n : Nat) : flat enR (List.replicate n (((none, 0), []) : Row)) = (List.replicate n [.slice none 0 0]).flatten := by
  induction n with
  | zero => rfl
  | succ n ih => simp only [List.replicate_succ, flat, List.flatMap_cons, List.flatten_cons] at *; rw [ih]; rfl
set_option maxHeartbeats 4000000 in
theorem sort75p (fc : Nat) (c : Row → Row → Int) (hcf : CF Tryd.prog fc) (hL : Lawful c) (g : Value) (hg : ToldR g fc) (G : Row → Prop) (xs : List (Row)) (hG : ∀ x ∈ xs, G x) (vl : Value) (w0 : World) (hcmp : ∀ (x y : Row) (w : World), G x → G y → Below w0.heap.size w0 w → Calls Tryd.prog fc #[.slice x.1.1 x.2.length x.1.2, .slice y.1.1 y.2.length y.1.2] w fun e w' => e = .returned (.int .i64 (c x y)) ∧ Ext w w') (hl : Src w0.heap vl xs.length 1 (flat enR xs)) (hn : xs.length ≤ 5864062014805) (hpos : 0 < xs.length) : Calls Tryd.prog 75 #[vl, g] w0 fun e w' => ∃ v, e = .returned v ∧ Ext w0 w' ∧ Own w'.heap w0.heap.size 42 1 v xs.length (flat enR (srt c xs)) := by
  have hE0 : Below w0.heap.size w0 w0 := Below.refl _ _
  have hz0 := hE0.le
  obtain ⟨a, ca, rfl, hca, hca1⟩ := hl.form
  refine enter Tryd.func75 rfl 98 Tryd.ntmps75 rfl ?_
  refine seqK fun Q1 kn2 kr3 ke4 => ?_
  refine region ?_
  refine st_q (v := .slice none 0 0) (x_assign rfl) ?_
  refine st_nil ?_
  refine kn2 _ _ ?_
  refine seqK fun Q5 kn6 kr7 ke8 => ?_
  refine region ?_
  refine st_q (v := g) (x_move rfl) ?_
  refine st_c (t_call [g] T.cf74 rfl rfl) (hg _) ?_
  rintro _ _ ⟨rfl, rfl⟩
  refine ⟨_, rfl, ?_⟩
  refine st_q (v := .func (.func fc) #[] #[]) (x_assign rfl) ?_
  refine st_nil ?_
  refine kn6 _ _ ?_
  refine seqLK (n := 98) (ds := []) (α := Nat × Nat × Nat × (List (Row))) (fun x => [(0, .slice a xs.length ca), (1, .func (.func fc) #[] #[]), (5, .slice ((some ⟨x.1, 0, none⟩)) xs.length x.2.2.1), (6, .slice ((some ⟨x.2.1, 0, none⟩)) xs.length xs.length)]) (fun x w9 => Ext w0 w9 ∧ x.1 ≠ x.2.1 ∧ xs.length ≤ x.2.2.1 ∧ xs.length ≤ xs.length ∧ OB w9.heap w0.heap.size 42 1 x.1 x.2.2.1 (flat enR xs) ∧ OB w9.heap w0.heap.size 42 1 x.2.1 xs.length (flat enR x.2.2.2) ∧ xs.length = xs.length ∧ x.2.2.2.length = xs.length) ?_ ?_
  ·
   have hx10 : Ext w0 w0 := Below.refl _ _
   intro Q11 kn12 kr13 ke14
   refine regionD1 [] [0, 2, 3, 5, 6] (.one 0 (.one 2 (.one 3 (.two 1 (.one 5 (.one 4 (.one 6 .done))) 4 (.one 1 (.one 5 (.one 6 .done))))))) (by kernel_rfl) (by kernel_rfl) ?_
   intro w15 hx16 hs17
   have hF18 := hx16.e hx10 (Nat.le_refl _)
   have hE19 : Below w0.heap.size w0 w15 := hx16.e hE0 (Nat.le_refl _)
   have hz20 := hE19.le
   have hs21 := hx16.size
   have hS22 : Ext w15 w15 := Below.refl _ _
   refine d_q (v := .slice a xs.length ca) rfl rfl (fun _ => x_move rfl) ?_
   refine d_q (v := .slice a xs.length ca) rfl rfl (fun _ => x_move rfl) ?_
   refine d_q (v := .int .i64 ((xs.length : Nat) : Int)) rfl rfl (fun _ => x_lenSl rfl Tryd.underlying27 rfl) ?_
   refine d_two ?_ ?_
   ·
    refine id (d_e' rfl rfl (e_append0 (lo := w15.heap.size) T.sl27 rfl rfl (hl.below hE19) (ones (by exact flat_onesR)) (by omega) (by decide) (by omega) ?_))
    intro v23 w24 hO25 hG26 hN27
    have hF28 := hG26.e hF18 (Nat.le_refl _)
    have hE29 : Below w0.heap.size w0 w24 := hG26.e hE19 (Nat.le_refl _)
    have hz30 := hE29.le
    have hs31 := hG26.size
    have hS32 := hS22.trans (hG26.mono hS22.size)
    refine ⟨fun _ => hS32, ?_⟩
    obtain ⟨b33, c34, rfl, hm35, hO36⟩ := hO25.ob (hN27 (by omega))
    have hl38 := hO36.lo
    have hO37 := hO36.weak (lo' := w0.heap.size) (by omega)
    have hl39 := hO37.lo
    have hl40 := hO37.lt
    refine d_q (v := .slice ((some ⟨b33, 0, none⟩)) xs.length c34) rfl rfl (fun _ => x_assign rfl) ?_
    refine d_e (by decide) (d_e' rfl rfl (e_makeSlice T.sl27 rfl rfl (by omega) (by omega) ?_))
    intro w41 hA42
    have hx43 := hA42.ext
    have hs45 := hA42.size
    have hA42x : Al w24 w41 (.cells (flat enR (List.replicate xs.length (((none, 0), []) : Row))).toArray 42) := by rw [flat_repR]; exact hA42
    have hO44 := OB.new (lo := w0.heap.size) (k := 1) (c := xs.length) hA42x (by omega) (by rw [flat_length enR_len]; simp) (by omega)
    have hF46 := hx43.e hF28 (Nat.le_refl _)
    have hF47 := hO37.ext hx43
    have hE48 : Below w0.heap.size w0 w41 := hx43.e hE29 (Nat.le_refl _)
    have hz49 := hE48.le
    have hs50 := hx43.size
    have hS51 := hS32.trans (hx43.mono hS32.size)
    refine ⟨fun _ => hS51, ?_⟩
    obtain ⟨b52, b52e⟩ : ∃ b, b = w24.heap.size := ⟨_, rfl⟩
    rw [← b52e] at hO44
    rw [← b52e]
    have hl53 := hO44.lo
    have hl54 := hO44.lt
    refine d_q (v := .slice ((some ⟨b52, 0, none⟩)) xs.length xs.length) rfl rfl (fun _ => x_assign rfl) ?_
    refine d_done ?_
    refine kn12 _ (b33, b52, c34, (List.replicate xs.length (((none, 0), []) : Row))) _ ⟨rfl, rfl, rfl, rfl, trivial⟩ ⟨hF46, ?_⟩
    try dsimp only
    exact ⟨by omega, hm35, Nat.le_refl _, hF47, hO44, rfl, by simp⟩
   ·
    refine id (d_e' rfl rfl (e_makeSlice T.sl27 rfl rfl (by omega) (by omega) ?_))
    intro w55 hA56
    have hx57 := hA56.ext
    have hs59 := hA56.size
    have hA56x : Al w15 w55 (.cells (flat enR (List.replicate xs.length (((none, 0), []) : Row))).toArray 42) := by rw [flat_repR]; exact hA56
    have hO58 := OB.new (lo := w0.heap.size) (k := 1) (c := xs.length) hA56x (by omega) (by rw [flat_length enR_len]; simp) (by omega)
    have hF60 := hx57.e hF18 (Nat.le_refl _)
    have hE61 : Below w0.heap.size w0 w55 := hx57.e hE19 (Nat.le_refl _)
    have hz62 := hE61.le
    have hs63 := hx57.size
    have hS64 := hS22.trans (hx57.mono hS22.size)
    refine ⟨fun _ => hS64, ?_⟩
    obtain ⟨b65, b65e⟩ : ∃ b, b = w15.heap.size := ⟨_, rfl⟩
    rw [← b65e] at hO58
    rw [← b65e]
    have hl66 := hO58.lo
    have hl67 := hO58.lt
    refine d_e (by decide) (d_e' rfl rfl (e_append0 (lo := w55.heap.size) T.sl27 rfl rfl (hl.below hE61) (ones (by exact flat_onesR)) (by omega) (by decide) (by omega) ?_))
    intro v68 w69 hO70 hG71 hN72
    have hF73 := hG71.e hF60 (Nat.le_refl _)
    have hF74 := hO58.ext hG71
    have hE75 : Below w0.heap.size w0 w69 := hG71.e hE61 (Nat.le_refl _)
    have hz76 := hE75.le
    have hs77 := hG71.size
    have hS78 := hS64.trans (hG71.mono hS64.size)
    refine ⟨fun _ => hS78, ?_⟩
    obtain ⟨b79, c80, rfl, hm81, hO82⟩ := hO70.ob (hN72 (by omega))
    have hl84 := hO82.lo
    have hO83 := hO82.weak (lo' := w0.heap.size) (by omega)
    have hl85 := hO83.lo
    have hl86 := hO83.lt
    refine d_q (v := .slice ((some ⟨b79, 0, none⟩)) xs.length c80) rfl rfl (fun _ => x_assign rfl) ?_
    refine d_q (v := .slice ((some ⟨b65, 0, none⟩)) xs.length xs.length) rfl rfl (fun _ => x_assign rfl) ?_
    refine d_done ?_
    refine kn12 _ (b79, b65, c80, (List.replicate xs.length (((none, 0), []) : Row))) _ ⟨rfl, rfl, rfl, rfl, trivial⟩ ⟨hF73, ?_⟩
    try dsimp only
    exact ⟨by omega, hm81, Nat.le_refl _, hO83, hF74, rfl, by simp⟩
  ·
   rintro τ87 ⟨b1, b2, c1, G_⟩ w88 ⟨hx89, ⟨hne, hc1, hc2, hO1, hO2, hF, hT⟩⟩
   try dsimp only at hne hc1 hc2 hO1 hO2 hF hT
   have hE90 : Below w0.heap.size w0 w88 := hx89.e hE0 (Nat.le_refl _)
   have hz91 := hE90.le
   have hs92 := hx89.size
   have hl93 := hO1.lo
   have hl94 := hO1.lt
   have hl95 := hO2.lo
   have hl96 := hO2.lt
   refine seqK fun Q97 kn98 kr99 ke100 => ?_
   refine seqK fun Q101 kn102 kr103 ke104 => ?_
   refine region ?_
   refine st_q (v := .int .i64 ((1 : Nat) : Int)) (x_assign rfl) ?_
   refine st_nil ?_
   refine kn102 _ _ ?_
   refine blockK fun Q105 kn106 kr107 kx108 kb109 => ?_
   refine loopK (α := Nat × Nat × Nat × Nat × Nat × (List (Row)) × (List (Row))) (fun x => [(0, .slice a xs.length ca), (1, .func (.func fc) #[] #[]), (5, .slice ((some ⟨x.2.1, 0, none⟩)) xs.length x.2.2.2.1), (6, .slice ((some ⟨x.2.2.1, 0, none⟩)) xs.length x.2.2.2.2.1), (7, .int .i64 ((x.1 : Nat) : Int))]) (fun x w110 => Below w0.heap.size w0 w110 ∧ x.2.1 ≠ x.2.2.1 ∧ xs.length ≤ x.2.2.2.1 ∧ xs.length ≤ x.2.2.2.2.1 ∧ OB w110.heap w0.heap.size 42 1 x.2.1 x.2.2.2.1 (flat enR x.2.2.2.2.2.1) ∧ OB w110.heap w0.heap.size 42 1 x.2.2.1 x.2.2.2.2.1 (flat enR x.2.2.2.2.2.2) ∧ x.2.2.2.2.2.1.length = xs.length ∧ x.2.2.2.2.2.2.length = xs.length ∧ 1 ≤ x.1 ∧ x.1 < 2 * xs.length ∧ SegOK c x.1 xs x.2.2.2.2.2.1 xs.length) (fun x => 2 * xs.length - x.1) (1, b1, b2, c1, xs.length, xs, G_) ⟨rfl, rfl, rfl, rfl, rfl, trivial⟩ ?_ ?_
   ·
    refine ⟨hE90, ?_⟩
    try dsimp only
    exact ⟨hne, hc1, Nat.le_refl _, hO1, hO2, hF, hT, Nat.le_refl _, by omega, SegOK.one xs _⟩
   ·
    rintro τ111 ⟨wd, b1, b2, c1, c2, F, G_⟩ w112 ⟨hx113, ⟨hne, hc1, hc2, hO1, hO2, hF, hT, hw1, hw2, hS⟩⟩
    try dsimp only at hne hc1 hc2 hO1 hO2 hF hT hw1 hw2 hS
    have hz114 := hx113.le
    intro Q115 kn116 kr117 ke118
    have hl119 := hO1.lo
    have hl120 := hO1.lt
    have hl121 := hO2.lo
    have hl122 := hO2.lt
    refine seqK fun Q123 kn124 kr125 ke126 => ?_
    refine seqK fun Q127 kn128 kr129 ke130 => ?_
    refine region ?_
    refine st_q (v := .int .i64 ((wd : Nat) : Int)) (x_move rfl) ?_
    refine st_q (v := .slice a xs.length ca) (x_move rfl) ?_
    refine st_q (v := .int .i64 ((xs.length : Nat) : Int)) (x_lenSl rfl Tryd.underlying27 rfl) ?_
    refine st_q (v := .bool (decide (wd < xs.length))) (x_lssN rfl rfl) ?_
    refine st_nil ?_
    refine kn128 _ _ ?_
    refine cnd (p := wd < xs.length) rfl (fun h131 => ?_) (fun h131 => ?_)
    ·
     refine skip ?_
     refine kn124 _ _ ?_
     refine seqK fun Q132 kn133 kr134 ke135 => ?_
     refine blockK fun Q136 kn137 kr138 kx139 kb140 => ?_
     refine seqK fun Q141 kn142 kr143 ke144 => ?_
     refine seqK fun Q145 kn146 kr147 ke148 => ?_
     refine region ?_
     refine st_q (v := .int .i64 ((0 : Nat) : Int)) (x_assign rfl) ?_
     refine st_nil ?_
     refine kn146 _ _ ?_
     refine blockK fun Q149 kn150 kr151 kx152 kb153 => ?_
     refine loopK (α := Nat × (List (Row))) (fun x => [(0, .slice a xs.length ca), (1, .func (.func fc) #[] #[]), (5, .slice ((some ⟨b1, 0, none⟩)) xs.length c1), (6, .slice ((some ⟨b2, 0, none⟩)) xs.length c2), (7, .int .i64 ((wd : Nat) : Int)), (8, .int .i64 ((x.1 : Nat) : Int))]) (fun x w154 => Below w0.heap.size w0 w154 ∧ OB w154.heap w0.heap.size 42 1 b1 c1 (flat enR F) ∧ OB w154.heap w0.heap.size 42 1 b2 c2 (flat enR x.2) ∧ x.2.length = xs.length ∧ x.1 < xs.length + 2 * wd ∧ (∃ m, x.1 = m * (2 * wd)) ∧ SegOK c (2 * wd) xs x.2 x.1) (fun x => xs.length + 2 * wd - x.1) (0, G_) ⟨rfl, rfl, rfl, rfl, rfl, rfl, trivial⟩ ?_ ?_
     ·
      refine ⟨hx113, ?_⟩
      try dsimp only
      exact ⟨hO1, hO2, hT, by omega, ⟨0, by omega⟩, SegOK.zero _ _ _⟩
     ·
      rintro τ155 ⟨p, T2⟩ w156 ⟨hx157, ⟨hO3, hO4, hT2, hp, hm, hS2⟩⟩
      try dsimp only at hO3 hO4 hT2 hp hm hS2
      have hz158 := hx157.le
      intro Q159 kn160 kr161 ke162
      have hl163 := hO3.lo
      have hl164 := hO3.lt
      have hl165 := hO4.lo
      have hl166 := hO4.lt
      refine seqK fun Q167 kn168 kr169 ke170 => ?_
      refine seqK fun Q171 kn172 kr173 ke174 => ?_
      refine region ?_
      refine st_q (v := .int .i64 ((p : Nat) : Int)) (x_move rfl) ?_
      refine st_q (v := .slice a xs.length ca) (x_move rfl) ?_
      refine st_q (v := .int .i64 ((xs.length : Nat) : Int)) (x_lenSl rfl Tryd.underlying27 rfl) ?_
      refine st_q (v := .bool (decide (p < xs.length))) (x_lssN rfl rfl) ?_
      refine st_nil ?_
      refine kn172 _ _ ?_
      refine cnd (p := p < xs.length) rfl (fun h175 => ?_) (fun h175 => ?_)
      ·
       refine skip ?_
       refine kn168 _ _ ?_
       refine seqK fun Q176 kn177 kr178 ke179 => ?_
       refine blockK fun Q180 kn181 kr182 kx183 kb184 => ?_
       refine seqK fun Q185 kn186 kr187 ke188 => ?_
       refine region ?_
       refine st_q (v := .int .i64 ((p : Nat) : Int)) (x_move rfl) ?_
       refine st_q (v := .int .i64 ((wd : Nat) : Int)) (x_move rfl) ?_
       refine st_q (v := .int .i64 (((p + wd) : Nat) : Int)) (x_addN rfl rfl (by omega)) ?_
       refine st_q (v := .slice a xs.length ca) (x_move rfl) ?_
       refine st_q (v := .int .i64 ((xs.length : Nat) : Int)) (x_lenSl rfl Tryd.underlying27 rfl) ?_
       refine st_q (v := .int .i64 (((min ((p + wd)) xs.length) : Nat) : Int)) (x_minN rfl rfl) ?_
       refine st_q (v := .int .i64 ((p : Nat) : Int)) (x_move rfl) ?_
       refine st_q (v := .int .i64 ((wd : Nat) : Int)) (x_move rfl) ?_
       refine st_q (v := .int .i64 (((2 * wd) : Nat) : Int)) (x_mulN rfl rfl (by omega)) ?_
       refine st_q (v := .int .i64 (((p + (2 * wd)) : Nat) : Int)) (x_addN rfl rfl (by omega)) ?_
       refine st_q (v := .slice a xs.length ca) (x_move rfl) ?_
       refine st_q (v := .int .i64 ((xs.length : Nat) : Int)) (x_lenSl rfl Tryd.underlying27 rfl) ?_
       refine st_q (v := .int .i64 (((min ((p + (2 * wd))) xs.length) : Nat) : Int)) (x_minN rfl rfl) ?_
       refine st_q (v := .int .i64 (((min ((p + wd)) xs.length) : Nat) : Int)) (x_assign rfl) ?_
       refine st_q (v := .int .i64 (((min ((p + (2 * wd))) xs.length) : Nat) : Int)) (x_assign rfl) ?_
       refine st_nil ?_
       refine kn186 _ _ ?_
       refine seqK fun Q189 kn190 kr191 ke192 => ?_
       refine region ?_
       refine st_q (v := .int .i64 ((p : Nat) : Int)) (x_move rfl) ?_
       refine st_q (v := .int .i64 (((min ((p + wd)) xs.length) : Nat) : Int)) (x_move rfl) ?_
       refine st_q (v := .int .i64 ((p : Nat) : Int)) (x_move rfl) ?_
       refine st_q (v := .int .i64 ((p : Nat) : Int)) (x_assign rfl) ?_
       refine st_q (v := .int .i64 (((min ((p + wd)) xs.length) : Nat) : Int)) (x_assign rfl) ?_
       refine st_q (v := .int .i64 ((p : Nat) : Int)) (x_assign rfl) ?_
       refine st_nil ?_
       refine kn190 _ _ ?_
       refine blockK fun Q193 kn194 kr195 kx196 kb197 => ?_
       refine loopK (α := Nat × Nat × Nat × (List (Row))) (fun x => [(0, .slice a xs.length ca), (1, .func (.func fc) #[] #[]), (5, .slice ((some ⟨b1, 0, none⟩)) xs.length c1), (6, .slice ((some ⟨b2, 0, none⟩)) xs.length c2), (7, .int .i64 ((wd : Nat) : Int)), (8, .int .i64 ((p : Nat) : Int)), (9, .int .i64 (((min ((p + wd)) xs.length) : Nat) : Int)), (10, .int .i64 (((min ((p + (2 * wd))) xs.length) : Nat) : Int)), (11, .int .i64 ((x.1 : Nat) : Int)), (12, .int .i64 ((x.2.1 : Nat) : Int)), (13, .int .i64 ((x.2.2.1 : Nat) : Int))]) (fun x w198 => Below w0.heap.size w0 w198 ∧ OB w198.heap w0.heap.size 42 1 b1 c1 (flat enR F) ∧ OB w198.heap w0.heap.size 42 1 b2 c2 (flat enR x.2.2.2) ∧ x.2.2.2.length = xs.length ∧ x.2.2.1 + (min (p + wd) xs.length) = x.1 + x.2.1 ∧ p ≤ x.1 ∧ x.1 ≤ min (p + wd) xs.length ∧ min (p + wd) xs.length ≤ x.2.1 ∧ x.2.1 ≤ min (p + 2 * wd) xs.length ∧ SegOK c (2 * wd) xs x.2.2.2 p ∧ seg x.2.2.2 p x.2.2.1 ++ mrg c (seg F x.1 (min (p + wd) xs.length)) (seg F x.2.1 (min (p + 2 * wd) xs.length)) = srt c (seg xs p (min (p + 2 * wd) xs.length))) (fun x => xs.length - x.2.2.1) (p, (min (p + wd) xs.length), p, T2) ⟨rfl, rfl, rfl, rfl, rfl, rfl, rfl, rfl, rfl, rfl, rfl, trivial⟩ ?_ ?_
       ·
        refine ⟨hx157, ?_⟩
        try dsimp only
        exact ⟨hO3, hO4, hT2, by omega, by omega, by omega, by omega, by omega, hS2, by rw [seg_self]; exact merge_start hL hS hm (by omega) (by omega)⟩
       ·
        rintro τ199 ⟨ai, bi, k, T3⟩ w200 ⟨hx201, ⟨hO5, hO6, hT3, hk, ha1, ha2, hb1, hb2, hS3, hM⟩⟩
        try dsimp only at hO5 hO6 hT3 hk ha1 ha2 hb1 hb2 hS3 hM
        have hz202 := hx201.le
        intro Q203 kn204 kr205 ke206
        have hl207 := hO5.lo
        have hl208 := hO5.lt
        have hl209 := hO6.lo
        have hl210 := hO6.lt
        refine seqK fun Q211 kn212 kr213 ke214 => ?_
        refine seqK fun Q215 kn216 kr217 ke218 => ?_
        refine region ?_
        refine st_q (v := .int .i64 ((k : Nat) : Int)) (x_move rfl) ?_
        refine st_q (v := .int .i64 (((min ((p + (2 * wd))) xs.length) : Nat) : Int)) (x_move rfl) ?_
        refine st_q (v := .bool (decide (k < ((min ((p + (2 * wd))) xs.length))))) (x_lssN rfl rfl) ?_
        refine st_nil ?_
        refine kn216 _ _ ?_
        refine cnd (p := k < ((min ((p + (2 * wd))) xs.length))) rfl (fun h219 => ?_) (fun h219 => ?_)
        ·
         refine skip ?_
         refine kn212 _ _ ?_
         refine seqK fun Q220 kn221 kr222 ke223 => ?_
         refine blockK fun Q224 kn225 kr226 kx227 kb228 => ?_
         refine seqK fun Q229 kn230 kr231 ke232 => ?_
         refine regionD1 [12, 16] [0, 1, 2, 3, 4, 5, 6, 7, 8, 9, 10, 11, 12, 13, 14, 15, 16, 18, 19, 20] (.one 0 (.one 1 (.one 2 (.one 3 (.one 4 (.one 5 (.one 6 (.one 7 (.one 8 (.one 9 (.one 10 (.one 11 (.one 12 (.one 13 (.one 14 (.one 15 (.one 16 (.one 17 (.one 18 (.one 19 (.one 20 .done))))))))))))))))))))) (by kernel_rfl) (by kernel_rfl) ?_
         intro w233 hx234 hs235
         have hF236 := hO5.ext hx234
         have hF237 := hO6.ext hx234
         have hE238 : Below w0.heap.size w0 w233 := hx234.e hx201 (Nat.le_refl _)
         have hz239 := hE238.le
         have hs240 := hx234.size
         have hS241 : Ext w233 w233 := Below.refl _ _
         refine d_q (v := .int .i64 ((ai : Nat) : Int)) rfl rfl (fun _ => x_move rfl) ?_
         refine d_q (v := .int .i64 (((min ((p + wd)) xs.length) : Nat) : Int)) rfl rfl (fun _ => x_move rfl) ?_
         refine d_q (v := .bool (decide (ai < ((min ((p + wd)) xs.length))))) rfl rfl (fun _ => x_lssN rfl rfl) ?_
         refine d_if rfl rfl (p := ai < ((min ((p + wd)) xs.length))) (fun _ => x_move rfl) (fun h242 => ?_) (fun h242 => ?_)
         ·
          refine d_gq (v := .int .i64 ((bi : Nat) : Int)) (j := 3) (t := 59) rfl rfl rfl rfl (by decide) (fun _ => x_move rfl) ?_
          refine d_gq (v := .int .i64 (((min ((p + (2 * wd))) xs.length) : Nat) : Int)) (j := 3) (t := 59) rfl rfl rfl rfl (by decide) (fun _ => x_move rfl) ?_
          refine d_gq (v := .bool (decide (bi = ((min ((p + (2 * wd))) xs.length))))) (j := 3) (t := 59) rfl rfl rfl rfl (by decide) (fun _ => x_eqlN rfl rfl) ?_
          refine d_gif (j := 3) (t := 59) rfl rfl rfl rfl (by decide) (p := bi = ((min ((p + (2 * wd))) xs.length))) (fun _ => x_move rfl) (fun h243 => ?_) (fun h243 => ?_)
          ·
           refine d_gn (j := 7) (t := 63) rfl rfl rfl rfl (by decide) rfl ?_
           refine d_gn (j := 7) (t := 63) rfl rfl rfl rfl (by decide) rfl ?_
           refine d_gn (j := 7) (t := 63) rfl rfl rfl rfl (by decide) rfl ?_
           refine d_gn (j := 7) (t := 63) rfl rfl rfl rfl (by decide) rfl ?_
           refine d_gn (j := 7) (t := 63) rfl rfl rfl rfl (by decide) rfl ?_
           refine d_gn (j := 7) (t := 63) rfl rfl rfl rfl (by decide) rfl ?_
           refine d_gn (j := 7) (t := 63) rfl rfl rfl rfl (by decide) rfl ?_
           refine d_gn (j := 7) (t := 63) rfl rfl rfl rfl (by decide) rfl ?_
           refine d_gn (j := 7) (t := 63) rfl rfl rfl rfl (by decide) rfl ?_
           refine d_e (by decide) (wpE_skip (j := 7) (t := 63) rfl rfl rfl (by decide) rfl (fun _ => hS241) ?_)
           refine d_gn (j := 7) (t := 63) rfl rfl rfl rfl (by decide) rfl ?_
           refine d_gq (v := .bool true) (j := 3) (t := 59) rfl rfl rfl rfl (by decide) (fun _ => x_pickT rfl rfl) ?_
           refine d_q (v := .bool true) rfl rfl (fun _ => x_pickT rfl rfl) ?_
           refine d_done ?_
           refine kn230 _ _ ?_
           refine cndT rfl ?_
           refine seqK fun Q244 kn245 kr246 ke247 => ?_
           refine region ?_
           refine st_q (v := .slice ((some ⟨b2, 0, none⟩)) xs.length c2) (x_move rfl) ?_
           refine st_q (v := .int .i64 ((k : Nat) : Int)) (x_move rfl) ?_
           refine st_q (v := .slice ((some ⟨b1, 0, none⟩)) xs.length c1) (x_move rfl) ?_
           refine st_q (v := .int .i64 ((ai : Nat) : Int)) (x_move rfl) ?_
           refine st_q (v := .pointer (some ⟨b1, 0 + ai * 1, none⟩)) (x_index T.sl27 rfl rfl (by omega)) ?_
           refine st_q (v := .slice ((el F ai).1.1) ((el F ai).2.length) ((el F ai).1.2)) (x_load1 T.na42 rfl (hF236.cells.elem enR_len (i := ai) (by omega))) ?_
           refine st_q (v := .pointer (some ⟨b2, 0 + k * 1, none⟩)) (x_index T.sl27 rfl rfl (by omega)) ?_
           refine st_s (e_stO (v := .slice ((el F ai).1.1) ((el F ai).2.length) ((el F ai).1.2)) (u := el F ai) enR_len T.sz42 rfl rfl rfl hF237 (by first | omega | (rw [List.length_set]; omega)) (by rfl) ?_)
           intro w248 _ hP249 hB250
           have hs251 := hP249.size
           have hF252 := hF236.pt hP249 (by omega)
           have hE253 : Below w0.heap.size w0 w248 := hP249.below hE238 (by omega)
           have hz254 := hE253.le
           refine st_nil ?_
           refine kn245 _ _ ?_
           refine region ?_
           refine st_q (v := .int .i64 ((ai : Nat) : Int)) (x_move rfl) ?_
           refine st_q (v := .int .i64 (((ai + 1) : Nat) : Int)) (x_addN rfl rfl (by omega)) ?_
           refine st_q (v := .int .i64 (((ai + 1) : Nat) : Int)) (x_assign rfl) ?_
           refine st_nil ?_
           refine kn225 _ _ ?_
           refine kn221 _ _ ?_
           refine region ?_
           refine st_q (v := .int .i64 ((k : Nat) : Int)) (x_move rfl) ?_
           refine st_q (v := .int .i64 (((k + 1) : Nat) : Int)) (x_addN rfl rfl (by omega)) ?_
           refine st_q (v := .int .i64 (((k + 1) : Nat) : Int)) (x_assign rfl) ?_
           refine st_nil ?_
           refine kn204 _ ((ai + 1), bi, (k + 1), (T3.set k (el F ai))) _ ⟨rfl, rfl, rfl, rfl, rfl, rfl, rfl, rfl, rfl, rfl, rfl, trivial⟩ ⟨hE253, ?_⟩ ?_
           ·
            try dsimp only
            exact ⟨hF252, hB250, by rw [List.length_set]; exact hT3, by omega, by omega, by omega, by omega, by omega, hS3.set _ (by omega) hm, merge_left hM (by omega) (by first | exact .inl (by omega) | exact .inr ⟨by omega, by omega⟩) (by omega) (by omega) (by omega) (by omega)⟩
           ·
            (try dsimp only); omega
          ·
           refine d_gq (v := .func (.func fc) #[] #[]) (j := 7) (t := 63) rfl rfl rfl rfl (by decide) (fun _ => x_move rfl) ?_
           refine d_gq (v := .slice ((some ⟨b1, 0, none⟩)) xs.length c1) (j := 7) (t := 63) rfl rfl rfl rfl (by decide) (fun _ => x_move rfl) ?_
           refine d_gq (v := .int .i64 ((bi : Nat) : Int)) (j := 7) (t := 63) rfl rfl rfl rfl (by decide) (fun _ => x_move rfl) ?_
           refine d_gq (v := .pointer (some ⟨b1, 0 + bi * 1, none⟩)) (j := 7) (t := 63) rfl rfl rfl rfl (by decide) (fun _ => x_index T.sl27 rfl rfl (by omega)) ?_
           refine d_gl (v := .slice ((el F bi).1.1) ((el F bi).2.length) ((el F bi).1.2)) (j := 7) (t := 63) rfl rfl rfl rfl rfl (by decide) (fun v256 hw255 => x_load1 T.na42 rfl ((hF236.cells.elem enR_len (i := bi) (by omega)).ext hw255)) ?_
           refine d_gq (v := .slice ((some ⟨b1, 0, none⟩)) xs.length c1) (j := 7) (t := 63) rfl rfl rfl rfl (by decide) (fun _ => x_move rfl) ?_
           refine d_gq (v := .int .i64 ((ai : Nat) : Int)) (j := 7) (t := 63) rfl rfl rfl rfl (by decide) (fun _ => x_move rfl) ?_
           refine d_gq (v := .pointer (some ⟨b1, 0 + ai * 1, none⟩)) (j := 7) (t := 63) rfl rfl rfl rfl (by decide) (fun _ => x_index T.sl27 rfl rfl (by omega)) ?_
           refine d_gl (v := .slice ((el F ai).1.1) ((el F ai).2.length) ((el F ai).1.2)) (j := 7) (t := 63) rfl rfl rfl rfl rfl (by decide) (fun v258 hw257 => x_load1 T.na42 rfl ((hF236.cells.elem enR_len (i := ai) (by omega)).ext hw257)) ?_
           refine d_e (by decide) (d_c' rfl (wanted_true (j := 7) (t := 63) rfl rfl (by decide)) (t_call [.slice ((el F bi).1.1) ((el F bi).2.length) ((el F bi).1.2), .slice ((el F ai).1.1) ((el F ai).2.length) ((el F ai).1.2)] hcf rfl rfl) (hcmp (el F bi) (el F ai) _ (hG _ (SegOK.mem hS hF (by omega) (i := bi) (by omega))) (hG _ (SegOK.mem hS hF (by omega) (i := ai) (by omega))) hE238) ?_)
           rintro _ w259 ⟨rfl, hx260⟩
           refine ⟨_, rfl, ?_⟩
           have hF261 := hF236.ext hx260
           have hF262 := hF237.ext hx260
           have hE263 : Below w0.heap.size w0 w259 := hx260.e hE238 (Nat.le_refl _)
           have hz264 := hE263.le
           have hs265 := hx260.size
           have hS266 := hS241.trans (hx260.mono hS241.size)
           refine ⟨fun _ => hS266, ?_⟩
           refine d_gq (v := .bool (decide (0 ≤ (c (el F bi) (el F ai))))) (j := 7) (t := 63) rfl rfl rfl rfl (by decide) (fun _ => x_geq rfl rfl) ?_
           refine d_gq (v := .bool (decide (0 ≤ (c (el F bi) (el F ai))))) (j := 3) (t := 59) rfl rfl rfl rfl (by decide) (fun _ => x_pickF rfl rfl) ?_
           refine d_q (v := .bool (decide (0 ≤ (c (el F bi) (el F ai))))) rfl rfl (fun _ => x_pickT rfl rfl) ?_
           refine d_done ?_
           refine kn230 _ _ ?_
           refine cnd (p := 0 ≤ (c (el F bi) (el F ai))) rfl (fun h267 => ?_) (fun h267 => ?_)
           ·
            refine seqK fun Q268 kn269 kr270 ke271 => ?_
            refine region ?_
            refine st_q (v := .slice ((some ⟨b2, 0, none⟩)) xs.length c2) (x_move rfl) ?_
            refine st_q (v := .int .i64 ((k : Nat) : Int)) (x_move rfl) ?_
            refine st_q (v := .slice ((some ⟨b1, 0, none⟩)) xs.length c1) (x_move rfl) ?_
            refine st_q (v := .int .i64 ((ai : Nat) : Int)) (x_move rfl) ?_
            refine st_q (v := .pointer (some ⟨b1, 0 + ai * 1, none⟩)) (x_index T.sl27 rfl rfl (by omega)) ?_
            refine st_q (v := .slice ((el F ai).1.1) ((el F ai).2.length) ((el F ai).1.2)) (x_load1 T.na42 rfl (hF261.cells.elem enR_len (i := ai) (by omega))) ?_
            refine st_q (v := .pointer (some ⟨b2, 0 + k * 1, none⟩)) (x_index T.sl27 rfl rfl (by omega)) ?_
            refine st_s (e_stO (v := .slice ((el F ai).1.1) ((el F ai).2.length) ((el F ai).1.2)) (u := el F ai) enR_len T.sz42 rfl rfl rfl hF262 (by first | omega | (rw [List.length_set]; omega)) (by rfl) ?_)
            intro w272 _ hP273 hB274
            have hs275 := hP273.size
            have hF276 := hF261.pt hP273 (by omega)
            have hE277 : Below w0.heap.size w0 w272 := hP273.below hE263 (by omega)
            have hz278 := hE277.le
            refine st_nil ?_
            refine kn269 _ _ ?_
            refine region ?_
            refine st_q (v := .int .i64 ((ai : Nat) : Int)) (x_move rfl) ?_
            refine st_q (v := .int .i64 (((ai + 1) : Nat) : Int)) (x_addN rfl rfl (by omega)) ?_
            refine st_q (v := .int .i64 (((ai + 1) : Nat) : Int)) (x_assign rfl) ?_
            refine st_nil ?_
            refine kn225 _ _ ?_
            refine kn221 _ _ ?_
            refine region ?_
            refine st_q (v := .int .i64 ((k : Nat) : Int)) (x_move rfl) ?_
            refine st_q (v := .int .i64 (((k + 1) : Nat) : Int)) (x_addN rfl rfl (by omega)) ?_
            refine st_q (v := .int .i64 (((k + 1) : Nat) : Int)) (x_assign rfl) ?_
            refine st_nil ?_
            refine kn204 _ ((ai + 1), bi, (k + 1), (T3.set k (el F ai))) _ ⟨rfl, rfl, rfl, rfl, rfl, rfl, rfl, rfl, rfl, rfl, rfl, trivial⟩ ⟨hE277, ?_⟩ ?_
            ·
             try dsimp only
             exact ⟨hF276, hB274, by rw [List.length_set]; exact hT3, by omega, by omega, by omega, by omega, by omega, hS3.set _ (by omega) hm, merge_left hM (by omega) (by first | exact .inl (by omega) | exact .inr ⟨by omega, by omega⟩) (by omega) (by omega) (by omega) (by omega)⟩
            ·
             (try dsimp only); omega
           ·
            refine seqK fun Q279 kn280 kr281 ke282 => ?_
            refine region ?_
            refine st_q (v := .slice ((some ⟨b2, 0, none⟩)) xs.length c2) (x_move rfl) ?_
            refine st_q (v := .int .i64 ((k : Nat) : Int)) (x_move rfl) ?_
            refine st_q (v := .slice ((some ⟨b1, 0, none⟩)) xs.length c1) (x_move rfl) ?_
            refine st_q (v := .int .i64 ((bi : Nat) : Int)) (x_move rfl) ?_
            refine st_q (v := .pointer (some ⟨b1, 0 + bi * 1, none⟩)) (x_index T.sl27 rfl rfl (by omega)) ?_
            refine st_q (v := .slice ((el F bi).1.1) ((el F bi).2.length) ((el F bi).1.2)) (x_load1 T.na42 rfl (hF261.cells.elem enR_len (i := bi) (by omega))) ?_
            refine st_q (v := .pointer (some ⟨b2, 0 + k * 1, none⟩)) (x_index T.sl27 rfl rfl (by omega)) ?_
            refine st_s (e_stO (v := .slice ((el F bi).1.1) ((el F bi).2.length) ((el F bi).1.2)) (u := el F bi) enR_len T.sz42 rfl rfl rfl hF262 (by first | omega | (rw [List.length_set]; omega)) (by rfl) ?_)
            intro w283 _ hP284 hB285
            have hs286 := hP284.size
            have hF287 := hF261.pt hP284 (by omega)
            have hE288 : Below w0.heap.size w0 w283 := hP284.below hE263 (by omega)
            have hz289 := hE288.le
            refine st_nil ?_
            refine kn280 _ _ ?_
            refine region ?_
            refine st_q (v := .int .i64 ((bi : Nat) : Int)) (x_move rfl) ?_
            refine st_q (v := .int .i64 (((bi + 1) : Nat) : Int)) (x_addN rfl rfl (by omega)) ?_
            refine st_q (v := .int .i64 (((bi + 1) : Nat) : Int)) (x_assign rfl) ?_
            refine st_nil ?_
            refine kn225 _ _ ?_
            refine kn221 _ _ ?_
            refine region ?_
            refine st_q (v := .int .i64 ((k : Nat) : Int)) (x_move rfl) ?_
            refine st_q (v := .int .i64 (((k + 1) : Nat) : Int)) (x_addN rfl rfl (by omega)) ?_
            refine st_q (v := .int .i64 (((k + 1) : Nat) : Int)) (x_assign rfl) ?_
            refine st_nil ?_
            refine kn204 _ (ai, (bi + 1), (k + 1), (T3.set k (el F bi))) _ ⟨rfl, rfl, rfl, rfl, rfl, rfl, rfl, rfl, rfl, rfl, rfl, trivial⟩ ⟨hE288, ?_⟩ ?_
            ·
             try dsimp only
             exact ⟨hF287, hB285, by rw [List.length_set]; exact hT3, by omega, by omega, by omega, by omega, by omega, hS3.set _ (by omega) hm, merge_right hM (by omega) (by first | exact .inl (by omega) | exact .inr ⟨by omega, by omega⟩) (by omega) (by omega) (by omega) (by omega)⟩
            ·
             (try dsimp only); omega
         ·
          refine d_gn (j := 3) (t := 59) rfl rfl rfl rfl (by decide) rfl ?_
          refine d_gn (j := 3) (t := 59) rfl rfl rfl rfl (by decide) rfl ?_
          refine d_gn (j := 3) (t := 59) rfl rfl rfl rfl (by decide) rfl ?_
          refine d_gn (j := 3) (t := 59) rfl rfl rfl rfl (by decide) rfl ?_
          refine d_gu (j := 7) (t := 63) rfl rfl rfl rfl (by decide) ?_
          refine d_gu (j := 7) (t := 63) rfl rfl rfl rfl (by decide) ?_
          refine d_gu (j := 7) (t := 63) rfl rfl rfl rfl (by decide) ?_
          refine d_gu (j := 7) (t := 63) rfl rfl rfl rfl (by decide) ?_
          refine d_gu (j := 7) (t := 63) rfl rfl rfl rfl (by decide) ?_
          refine d_gu (j := 7) (t := 63) rfl rfl rfl rfl (by decide) ?_
          refine d_gu (j := 7) (t := 63) rfl rfl rfl rfl (by decide) ?_
          refine d_gu (j := 7) (t := 63) rfl rfl rfl rfl (by decide) ?_
          refine d_gu (j := 7) (t := 63) rfl rfl rfl rfl (by decide) ?_
          refine d_e (by decide) (wpE_undef (j := 7) (t := 63) rfl rfl rfl (by decide) (fun _ => hS241) ?_)
          refine d_gu (j := 7) (t := 63) rfl rfl rfl rfl (by decide) ?_
          refine d_gn (j := 3) (t := 59) rfl rfl rfl rfl (by decide) rfl ?_
          refine d_q (v := .bool false) rfl rfl (fun _ => x_pickF rfl rfl) ?_
          refine d_done ?_
          refine kn230 _ _ ?_
          refine cndF rfl ?_
          refine seqK fun Q290 kn291 kr292 ke293 => ?_
          refine region ?_
          refine st_q (v := .slice ((some ⟨b2, 0, none⟩)) xs.length c2) (x_move rfl) ?_
          refine st_q (v := .int .i64 ((k : Nat) : Int)) (x_move rfl) ?_
          refine st_q (v := .slice ((some ⟨b1, 0, none⟩)) xs.length c1) (x_move rfl) ?_
          refine st_q (v := .int .i64 ((bi : Nat) : Int)) (x_move rfl) ?_
          refine st_q (v := .pointer (some ⟨b1, 0 + bi * 1, none⟩)) (x_index T.sl27 rfl rfl (by omega)) ?_
          refine st_q (v := .slice ((el F bi).1.1) ((el F bi).2.length) ((el F bi).1.2)) (x_load1 T.na42 rfl (hF236.cells.elem enR_len (i := bi) (by omega))) ?_
          refine st_q (v := .pointer (some ⟨b2, 0 + k * 1, none⟩)) (x_index T.sl27 rfl rfl (by omega)) ?_
          refine st_s (e_stO (v := .slice ((el F bi).1.1) ((el F bi).2.length) ((el F bi).1.2)) (u := el F bi) enR_len T.sz42 rfl rfl rfl hF237 (by first | omega | (rw [List.length_set]; omega)) (by rfl) ?_)
          intro w294 _ hP295 hB296
          have hs297 := hP295.size
          have hF298 := hF236.pt hP295 (by omega)
          have hE299 : Below w0.heap.size w0 w294 := hP295.below hE238 (by omega)
          have hz300 := hE299.le
          refine st_nil ?_
          refine kn291 _ _ ?_
          refine region ?_
          refine st_q (v := .int .i64 ((bi : Nat) : Int)) (x_move rfl) ?_
          refine st_q (v := .int .i64 (((bi + 1) : Nat) : Int)) (x_addN rfl rfl (by omega)) ?_
          refine st_q (v := .int .i64 (((bi + 1) : Nat) : Int)) (x_assign rfl) ?_
          refine st_nil ?_
          refine kn225 _ _ ?_
          refine kn221 _ _ ?_
          refine region ?_
          refine st_q (v := .int .i64 ((k : Nat) : Int)) (x_move rfl) ?_
          refine st_q (v := .int .i64 (((k + 1) : Nat) : Int)) (x_addN rfl rfl (by omega)) ?_
          refine st_q (v := .int .i64 (((k + 1) : Nat) : Int)) (x_assign rfl) ?_
          refine st_nil ?_
          refine kn204 _ (ai, (bi + 1), (k + 1), (T3.set k (el F bi))) _ ⟨rfl, rfl, rfl, rfl, rfl, rfl, rfl, rfl, rfl, rfl, rfl, trivial⟩ ⟨hE299, ?_⟩ ?_
          ·
           try dsimp only
           exact ⟨hF298, hB296, by rw [List.length_set]; exact hT3, by omega, by omega, by omega, by omega, by omega, hS3.set _ (by omega) hm, merge_right hM (by omega) (by first | exact .inl (by omega) | exact .inr ⟨by omega, by omega⟩) (by omega) (by omega) (by omega) (by omega)⟩
          ·
           (try dsimp only); omega
        ·
         refine exit ?_
         refine ke214 _ _ _ ?_
         refine ke206 _ _ _ ?_
         refine kb197 _ _ ?_
         refine kn181 _ _ ?_
         refine kn177 _ _ ?_
         refine region ?_
         refine st_q (v := .int .i64 ((p : Nat) : Int)) (x_move rfl) ?_
         refine st_q (v := .int .i64 ((wd : Nat) : Int)) (x_move rfl) ?_
         refine st_q (v := .int .i64 (((2 * wd) : Nat) : Int)) (x_mulN rfl rfl (by omega)) ?_
         refine st_q (v := .int .i64 (((p + (2 * wd)) : Nat) : Int)) (x_addN rfl rfl (by omega)) ?_
         refine st_q (v := .int .i64 (((p + (2 * wd)) : Nat) : Int)) (x_assign rfl) ?_
         refine st_nil ?_
         refine kn160 _ ((p + 2 * wd), T3) _ ⟨rfl, rfl, rfl, rfl, rfl, rfl, trivial⟩ ⟨hx201, ?_⟩ ?_
         ·
          try dsimp only
          obtain rfl : k = min (p + 2 * wd) xs.length := by omega
          obtain rfl : ai = min (p + wd) xs.length := by omega
          obtain rfl : bi = min (p + 2 * wd) xs.length := by omega
          exact ⟨hO5, hO6, hT3, by omega, ⟨hm.choose + 1, by have := hm.choose_spec; rw [Nat.add_mul]; omega⟩, merge_end hS3 hm (by omega) hM⟩
         ·
          (try dsimp only); omega
      ·
       refine exit ?_
       refine ke170 _ _ _ ?_
       refine ke162 _ _ _ ?_
       refine kb153 _ _ ?_
       refine kn142 _ _ ?_
       refine region ?_
       refine st_q (v := .slice ((some ⟨b2, 0, none⟩)) xs.length c2) (x_move rfl) ?_
       refine st_q (v := .slice ((some ⟨b1, 0, none⟩)) xs.length c1) (x_move rfl) ?_
       refine st_q (v := .slice ((some ⟨b2, 0, none⟩)) xs.length c2) (x_assign rfl) ?_
       refine st_q (v := .slice ((some ⟨b1, 0, none⟩)) xs.length c1) (x_assign rfl) ?_
       refine st_nil ?_
       refine kn137 _ _ ?_
       refine kn133 _ _ ?_
       refine region ?_
       refine st_q (v := .int .i64 ((wd : Nat) : Int)) (x_move rfl) ?_
       refine st_q (v := .int .i64 (((wd * 2) : Nat) : Int)) (x_mulN rfl rfl (by omega)) ?_
       refine st_q (v := .int .i64 (((wd * 2) : Nat) : Int)) (x_assign rfl) ?_
       refine st_nil ?_
       refine kn116 _ ((wd * 2), b2, b1, c2, c1, T2, F) _ ⟨rfl, rfl, rfl, rfl, rfl, trivial⟩ ⟨hx157, ?_⟩ ?_
       ·
        try dsimp only
        exact ⟨Ne.symm hne, hc2, hc1, hO4, hO3, hT2, hF, by omega, by omega, by rw [Nat.mul_comm wd 2]; exact hS2.mono (by omega)⟩
       ·
        (try dsimp only); omega
    ·
     refine exit ?_
     refine ke126 _ _ _ ?_
     refine ke118 _ _ _ ?_
     refine kb109 _ _ ?_
     refine kn98 _ _ ?_
     refine seqK fun Q301 kn302 kr303 ke304 => ?_
     refine region ?_
     refine st_q (v := .slice ((some ⟨b1, 0, none⟩)) xs.length c1) (x_move rfl) ?_
     refine st_q (v := .slice ((some ⟨b1, 0, none⟩)) xs.length c1) (x_assign rfl) ?_
     refine st_nil ?_
     refine kn302 _ _ ?_
     refine ret ?_
     refine leave1 (P := Tryd.prog) (fn := Tryd.f75) (t := 4) (v := .slice ((some ⟨b1, 0, none⟩)) xs.length c1) rfl rfl ?_
     exact ⟨_, rfl, hx113, (hS.done hF (by omega)) ▸ hO1.own hc1 (by rw [flat_length enR_len, hF])⟩

set_option maxHeartbeats 4000000 in
theorem sort75z (fc : Nat) (c : Row → Row → Int) (hcf : CF Tryd.prog fc) (hL : Lawful c) (g : Value) (hg : ToldR g fc) (G : Row → Prop) (xs : List (Row)) (hG : ∀ x ∈ xs, G x) (vl : Value) (w0 : World) (hcmp : ∀ (x y : Row) (w : World), G x → G y → Below w0.heap.size w0 w → Calls Tryd.prog fc #[.slice x.1.1 x.2.length x.1.2, .slice y.1.1 y.2.length y.1.2] w fun e w' => e = .returned (.int .i64 (c x y)) ∧ Ext w w') (hl : Src w0.heap vl xs.length 1 (flat enR xs)) (hn : xs.length ≤ 5864062014805) (hz : xs.length = 0) : Calls Tryd.prog 75 #[vl, g] w0 fun e w' => ∃ v, e = .returned v ∧ Ext w0 w' ∧ Own w'.heap w0.heap.size 42 1 v xs.length (flat enR (srt c xs)) := by
  have hE0 : Below w0.heap.size w0 w0 := Below.refl _ _
  have hz0 := hE0.le
  obtain ⟨a, ca, rfl, hca, hca1⟩ := hl.form
  refine enter Tryd.func75 rfl 98 Tryd.ntmps75 rfl ?_
  refine seqK fun Q1 kn2 kr3 ke4 => ?_
  refine region ?_
  refine st_q (v := .slice none 0 0) (x_assign rfl) ?_
  refine st_nil ?_
  refine kn2 _ _ ?_
  refine seqK fun Q5 kn6 kr7 ke8 => ?_
  refine region ?_
  refine st_q (v := g) (x_move rfl) ?_
  refine st_c (t_call [g] T.cf74 rfl rfl) (hg _) ?_
  rintro _ _ ⟨rfl, rfl⟩
  refine ⟨_, rfl, ?_⟩
  refine st_q (v := .func (.func fc) #[] #[]) (x_assign rfl) ?_
  refine st_nil ?_
  refine kn6 _ _ ?_
  refine seqK fun Q9 kn10 kr11 ke12 => ?_
  refine regionD1 [] [0, 2, 3, 5, 6] (.one 0 (.one 2 (.one 3 (.two 1 (.one 5 (.one 4 (.one 6 .done))) 4 (.one 1 (.one 5 (.one 6 .done))))))) (by kernel_rfl) (by kernel_rfl) ?_
  intro w13 hx14 hs15
  have hE16 : Below w0.heap.size w0 w13 := hx14.e hE0 (Nat.le_refl _)
  have hz17 := hE16.le
  have hs18 := hx14.size
  have hS19 : Ext w13 w13 := Below.refl _ _
  refine d_q (v := .slice a xs.length ca) rfl rfl (fun _ => x_move rfl) ?_
  refine d_q (v := .slice a xs.length ca) rfl rfl (fun _ => x_move rfl) ?_
  refine d_q (v := .int .i64 ((xs.length : Nat) : Int)) rfl rfl (fun _ => x_lenSl rfl Tryd.underlying27 rfl) ?_
  refine d_two ?_ ?_
  ·
   refine id (d_e' rfl rfl (e_append0 (lo := w13.heap.size) T.sl27 rfl rfl (hl.below hE16) (ones (by exact flat_onesR)) (by omega) (by decide) (by omega) ?_))
   intro v20 w21 hO22 hG23 hN24
   have hE25 : Below w0.heap.size w0 w21 := hG23.e hE16 (Nat.le_refl _)
   have hz26 := hE25.le
   have hs27 := hG23.size
   have hS28 := hS19.trans (hG23.mono hS19.size)
   refine ⟨fun _ => hS28, ?_⟩
   refine d_q (v := v20) rfl rfl (fun _ => x_assign rfl) ?_
   refine d_e (by decide) (d_e' rfl rfl (e_makeSlice T.sl27 rfl rfl (by omega) (by omega) ?_))
   intro w29 hA30
   have hx31 := hA30.ext
   have hs32 := hA30.size
   have hB33 := hA30.new
   have hF34 := hO22.ext hx31
   have hE35 : Below w0.heap.size w0 w29 := hx31.e hE25 (Nat.le_refl _)
   have hz36 := hE35.le
   have hs37 := hx31.size
   have hS38 := hS28.trans (hx31.mono hS28.size)
   refine ⟨fun _ => hS38, ?_⟩
   refine d_q (v := .slice ((some ⟨w21.heap.size, 0, none⟩)) xs.length xs.length) rfl rfl (fun _ => x_assign rfl) ?_
   refine d_done ?_
   refine kn10 _ _ ?_
   refine seqK fun Q39 kn40 kr41 ke42 => ?_
   refine seqK fun Q43 kn44 kr45 ke46 => ?_
   refine region ?_
   refine st_q (v := .int .i64 ((1 : Nat) : Int)) (x_assign rfl) ?_
   refine st_nil ?_
   refine kn44 _ _ ?_
   refine blockK fun Q47 kn48 kr49 kx50 kb51 => ?_
   refine loopK (α := Unit) (fun _ => [(0, .slice a xs.length ca), (1, .func (.func fc) #[] #[]), (5, v20), (6, .slice ((some ⟨w21.heap.size, 0, none⟩)) xs.length xs.length), (7, .int .i64 ((1 : Nat) : Int))]) (fun _ w52 => w29 = w52 ∧ True) (fun _ => 0) () ⟨rfl, rfl, rfl, rfl, rfl, trivial⟩ ?_ ?_
   ·
    refine ⟨rfl, ?_⟩
    try dsimp only
    all_goals exact trivial
   ·
    rintro τ53 _ w54 ⟨rfl, _⟩
    intro Q55 kn56 kr57 ke58
    refine seqK fun Q59 kn60 kr61 ke62 => ?_
    refine seqK fun Q63 kn64 kr65 ke66 => ?_
    refine region ?_
    refine st_q (v := .int .i64 ((1 : Nat) : Int)) (x_move rfl) ?_
    refine st_q (v := .slice a xs.length ca) (x_move rfl) ?_
    refine st_q (v := .int .i64 ((xs.length : Nat) : Int)) (x_lenSl rfl Tryd.underlying27 rfl) ?_
    refine st_q (v := .bool (decide (1 < xs.length))) (x_lssN rfl rfl) ?_
    refine st_nil ?_
    refine kn64 _ _ ?_
    refine cnd (p := 1 < xs.length) rfl (fun h67 => ?_) (fun h67 => ?_)
    ·
     exact absurd h67 (by omega)
    ·
     refine exit ?_
     refine ke62 _ _ _ ?_
     refine ke58 _ _ _ ?_
     refine kb51 _ _ ?_
     refine kn40 _ _ ?_
     refine seqK fun Q68 kn69 kr70 ke71 => ?_
     refine region ?_
     refine st_q (v := v20) (x_move rfl) ?_
     refine st_q (v := v20) (x_assign rfl) ?_
     refine st_nil ?_
     refine kn69 _ _ ?_
     refine ret ?_
     refine leave1 (P := Tryd.prog) (fn := Tryd.f75) (t := 4) (v := v20) rfl rfl ?_
     exact ⟨_, rfl, hE35, by rw [show srt c xs = xs by rw [List.eq_nil_of_length_eq_zero hz]; rfl]; exact hF34.weak (by omega)⟩
  ·
   refine id (d_e' rfl rfl (e_makeSlice T.sl27 rfl rfl (by omega) (by omega) ?_))
   intro w72 hA73
   have hx74 := hA73.ext
   have hs75 := hA73.size
   have hB76 := hA73.new
   have hE77 : Below w0.heap.size w0 w72 := hx74.e hE16 (Nat.le_refl _)
   have hz78 := hE77.le
   have hs79 := hx74.size
   have hS80 := hS19.trans (hx74.mono hS19.size)
   refine ⟨fun _ => hS80, ?_⟩
   refine d_e (by decide) (d_e' rfl rfl (e_append0 (lo := w72.heap.size) T.sl27 rfl rfl (hl.below hE77) (ones (by exact flat_onesR)) (by omega) (by decide) (by omega) ?_))
   intro v81 w82 hO83 hG84 hN85
   have hE86 : Below w0.heap.size w0 w82 := hG84.e hE77 (Nat.le_refl _)
   have hz87 := hE86.le
   have hs88 := hG84.size
   have hS89 := hS80.trans (hG84.mono hS80.size)
   refine ⟨fun _ => hS89, ?_⟩
   refine d_q (v := v81) rfl rfl (fun _ => x_assign rfl) ?_
   refine d_q (v := .slice ((some ⟨w13.heap.size, 0, none⟩)) xs.length xs.length) rfl rfl (fun _ => x_assign rfl) ?_
   refine d_done ?_
   refine kn10 _ _ ?_
   refine seqK fun Q90 kn91 kr92 ke93 => ?_
   refine seqK fun Q94 kn95 kr96 ke97 => ?_
   refine region ?_
   refine st_q (v := .int .i64 ((1 : Nat) : Int)) (x_assign rfl) ?_
   refine st_nil ?_
   refine kn95 _ _ ?_
   refine blockK fun Q98 kn99 kr100 kx101 kb102 => ?_
   refine loopK (α := Unit) (fun _ => [(0, .slice a xs.length ca), (1, .func (.func fc) #[] #[]), (5, v81), (6, .slice ((some ⟨w13.heap.size, 0, none⟩)) xs.length xs.length), (7, .int .i64 ((1 : Nat) : Int))]) (fun _ w103 => w82 = w103 ∧ True) (fun _ => 0) () ⟨rfl, rfl, rfl, rfl, rfl, trivial⟩ ?_ ?_
   ·
    refine ⟨rfl, ?_⟩
    try dsimp only
    all_goals exact trivial
   ·
    rintro τ104 _ w105 ⟨rfl, _⟩
    intro Q106 kn107 kr108 ke109
    refine seqK fun Q110 kn111 kr112 ke113 => ?_
    refine seqK fun Q114 kn115 kr116 ke117 => ?_
    refine region ?_
    refine st_q (v := .int .i64 ((1 : Nat) : Int)) (x_move rfl) ?_
    refine st_q (v := .slice a xs.length ca) (x_move rfl) ?_
    refine st_q (v := .int .i64 ((xs.length : Nat) : Int)) (x_lenSl rfl Tryd.underlying27 rfl) ?_
    refine st_q (v := .bool (decide (1 < xs.length))) (x_lssN rfl rfl) ?_
    refine st_nil ?_
    refine kn115 _ _ ?_
    refine cnd (p := 1 < xs.length) rfl (fun h118 => ?_) (fun h118 => ?_)
    ·
     exact absurd h118 (by omega)
    ·
     refine exit ?_
     refine ke113 _ _ _ ?_
     refine ke109 _ _ _ ?_
     refine kb102 _ _ ?_
     refine kn91 _ _ ?_
     refine seqK fun Q119 kn120 kr121 ke122 => ?_
     refine region ?_
     refine st_q (v := v81) (x_move rfl) ?_
     refine st_q (v := v81) (x_assign rfl) ?_
     refine st_nil ?_
     refine kn120 _ _ ?_
     refine ret ?_
     refine leave1 (P := Tryd.prog) (fn := Tryd.f75) (t := 4) (v := v81) rfl rfl ?_
     exact ⟨_, rfl, hE86, by rw [show srt c xs = xs by rw [List.eq_nil_of_length_eq_zero hz]; rfl]; exact hO83.weak (by omega)⟩

theorem sort75 (fc : Nat) (c : Row → Row → Int) (hcf : CF Tryd.prog fc) (hL : Lawful c) (g : Value) (hg : ToldR g fc) (G : Row → Prop) (xs : List (Row)) (hG : ∀ x ∈ xs, G x) (vl : Value) (w0 : World) (hcmp : ∀ (x y : Row) (w : World), G x → G y → Below w0.heap.size w0 w → Calls Tryd.prog fc #[.slice x.1.1 x.2.length x.1.2, .slice y.1.1 y.2.length y.1.2] w fun e w' => e = .returned (.int .i64 (c x y)) ∧ Ext w w') (hl : Src w0.heap vl xs.length 1 (flat enR xs)) (hn : xs.length ≤ 5864062014805) : Calls Tryd.prog 75 #[vl, g] w0 fun e w' => ∃ v, e = .returned v ∧ Ext w0 w' ∧ Own w'.heap w0.heap.size 42 1 v xs.length (flat enR (srt c xs)) := by
  rcases Nat.eq_zero_or_pos xs.length with hz | hz
  · exact sort75z fc c hcf hL g hg G xs hG vl w0 hcmp hl hn hz
  · exact sort75p fc c hcf hL g hg G xs hG vl w0 hcmp hl hn hz
set_option maxHeartbeats 4000000 in
theorem told74 (f : Nat) (w0 : World) : Calls Tryd.prog 74 #[.func (.func f) #[] #[]] w0 fun e w' => e = .returned (.func (.func f) #[] #[]) ∧ w0 = w' := by
  refine enter Tryd.func74 rfl 6 Tryd.ntmps74 rfl ?_
  refine seqK fun Q1 kn2 kr3 ke4 => ?_
  refine region ?_
  refine st_q (v := .nilFunc) (x_assign rfl) ?_
  refine st_nil ?_
  refine kn2 _ _ ?_
  refine seqK fun Q5 kn6 kr7 ke8 => ?_
  refine seqK fun Q9 kn10 kr11 ke12 => ?_
  refine region ?_
  refine st_q (v := .func (.func f) #[] #[]) (x_move rfl) ?_
  refine st_q (v := .bool false) (x_eqlFnil Tryd.underlying93 rfl rfl) ?_
  refine st_nil ?_
  refine kn10 _ _ ?_
  refine cndF rfl ?_
  refine skip ?_
  refine kn6 _ _ ?_
  refine seqK fun Q13 kn14 kr15 ke16 => ?_
  refine region ?_
  refine st_q (v := .func (.func f) #[] #[]) (x_move rfl) ?_
  refine st_q (v := .func (.func f) #[] #[]) (x_assign rfl) ?_
  refine st_nil ?_
  refine kn14 _ _ ?_
  refine ret ?_
  refine leave1 (P := Tryd.prog) (fn := Tryd.f74) (t := 2) (v := .func (.func f) #[] #[]) rfl rfl ?_
  exact ⟨rfl, rfl⟩

theorem toldF74 (f : Nat) : ToldR (.func (.func f) #[] #[]) f := fun w => told74 f w
def ToldK (g : Value) (fc : Nat) : Prop := ∀ w, Calls Tryd.prog 70 #[g] w fun e w' => e = .returned (.func (.func fc) #[] #[]) ∧ w = w'
theorem flat_repK (n : Nat) : flat enK (List.replicate n ((((none, 0), []), ((none, 0), [])) : Row × Row)) = (List.replicate n [.slice none 0 0, .slice none 0 0]).flatten := by
  induction n with
  | zero => rfl
  | succ n ih => simp only [List.replicate_succ, flat, List.flatMap_cons, List.flatten_cons] at *; rw [ih]; rfl
set_option maxHeartbeats 4000000 in
theorem sort52p (fc : Nat) (c : (Row × Row) → (Row × Row) → Int) (hcf : CF Tryd.prog fc) (hL : Lawful c) (g : Value) (hg : ToldK g fc) (G : (Row × Row) → Prop) (xs : List (Row × Row)) (hG : ∀ x ∈ xs, G x) (vl : Value) (w0 : World) (hcmp : ∀ (x y : Row × Row) (w : World), G x → G y → Below w0.heap.size w0 w → Calls Tryd.prog fc #[.agg (enK x).toArray, .agg (enK y).toArray] w fun e w' => e = .returned (.int .i64 (c x y)) ∧ Ext w w') (hl : Src w0.heap vl xs.length 2 (flat enK xs)) (hn : xs.length ≤ 2932031007402) (hpos : 0 < xs.length) : Calls Tryd.prog 52 #[vl, g] w0 fun e w' => ∃ v, e = .returned v ∧ Ext w0 w' ∧ Own w'.heap w0.heap.size 109 2 v xs.length (flat enK (srt c xs)) := by
  have hE0 : Below w0.heap.size w0 w0 := Below.refl _ _
  have hz0 := hE0.le
  obtain ⟨a, ca, rfl, hca, hca1⟩ := hl.form
  refine enter Tryd.func52 rfl 98 Tryd.ntmps52 rfl ?_
  refine seqK fun Q1 kn2 kr3 ke4 => ?_
  refine region ?_
  refine st_q (v := .slice none 0 0) (x_assign rfl) ?_
  refine st_nil ?_
  refine kn2 _ _ ?_
  refine seqK fun Q5 kn6 kr7 ke8 => ?_
  refine region ?_
  refine st_q (v := g) (x_move rfl) ?_
  refine st_c (t_call [g] T.cf70 rfl rfl) (hg _) ?_
  rintro _ _ ⟨rfl, rfl⟩
  refine ⟨_, rfl, ?_⟩
  refine st_q (v := .func (.func fc) #[] #[]) (x_assign rfl) ?_
  refine st_nil ?_
  refine kn6 _ _ ?_
  refine seqLK (n := 98) (ds := []) (α := Nat × Nat × Nat × (List (Row × Row))) (fun x => [(0, .slice a xs.length ca), (1, .func (.func fc) #[] #[]), (5, .slice ((some ⟨x.1, 0, none⟩)) xs.length x.2.2.1), (6, .slice ((some ⟨x.2.1, 0, none⟩)) xs.length xs.length)]) (fun x w9 => Ext w0 w9 ∧ x.1 ≠ x.2.1 ∧ xs.length ≤ x.2.2.1 ∧ xs.length ≤ xs.length ∧ OB w9.heap w0.heap.size 109 2 x.1 x.2.2.1 (flat enK xs) ∧ OB w9.heap w0.heap.size 109 2 x.2.1 xs.length (flat enK x.2.2.2) ∧ xs.length = xs.length ∧ x.2.2.2.length = xs.length) ?_ ?_
  ·
   have hx10 : Ext w0 w0 := Below.refl _ _
   intro Q11 kn12 kr13 ke14
   refine regionD1 [] [0, 2, 3, 5, 6] (.one 0 (.one 2 (.one 3 (.two 1 (.one 5 (.one 4 (.one 6 .done))) 4 (.one 1 (.one 5 (.one 6 .done))))))) (by kernel_rfl) (by kernel_rfl) ?_
   intro w15 hx16 hs17
   have hF18 := hx16.e hx10 (Nat.le_refl _)
   have hE19 : Below w0.heap.size w0 w15 := hx16.e hE0 (Nat.le_refl _)
   have hz20 := hE19.le
   have hs21 := hx16.size
   have hS22 : Ext w15 w15 := Below.refl _ _
   refine d_q (v := .slice a xs.length ca) rfl rfl (fun _ => x_move rfl) ?_
   refine d_q (v := .slice a xs.length ca) rfl rfl (fun _ => x_move rfl) ?_
   refine d_q (v := .int .i64 ((xs.length : Nat) : Int)) rfl rfl (fun _ => x_lenSl rfl Tryd.underlying106 rfl) ?_
   refine d_two ?_ ?_
   ·
    refine id (d_e' rfl rfl (e_append0 (lo := w15.heap.size) T.sl106 rfl rfl (hl.below hE19) (ones (by exact flat_onesK)) (by omega) (by decide) (by omega) ?_))
    intro v23 w24 hO25 hG26 hN27
    have hF28 := hG26.e hF18 (Nat.le_refl _)
    have hE29 : Below w0.heap.size w0 w24 := hG26.e hE19 (Nat.le_refl _)
    have hz30 := hE29.le
    have hs31 := hG26.size
    have hS32 := hS22.trans (hG26.mono hS22.size)
    refine ⟨fun _ => hS32, ?_⟩
    obtain ⟨b33, c34, rfl, hm35, hO36⟩ := hO25.ob (hN27 (by omega))
    have hl38 := hO36.lo
    have hO37 := hO36.weak (lo' := w0.heap.size) (by omega)
    have hl39 := hO37.lo
    have hl40 := hO37.lt
    refine d_q (v := .slice ((some ⟨b33, 0, none⟩)) xs.length c34) rfl rfl (fun _ => x_assign rfl) ?_
    refine d_e (by decide) (d_e' rfl rfl (e_makeSlice T.sl106 rfl rfl (by omega) (by omega) ?_))
    intro w41 hA42
    have hx43 := hA42.ext
    have hs45 := hA42.size
    have hA42x : Al w24 w41 (.cells (flat enK (List.replicate xs.length ((((none, 0), []), ((none, 0), [])) : Row × Row))).toArray 109) := by rw [flat_repK]; exact hA42
    have hO44 := OB.new (lo := w0.heap.size) (k := 2) (c := xs.length) hA42x (by omega) (by rw [flat_length enK_len]; simp) (by omega)
    have hF46 := hx43.e hF28 (Nat.le_refl _)
    have hF47 := hO37.ext hx43
    have hE48 : Below w0.heap.size w0 w41 := hx43.e hE29 (Nat.le_refl _)
    have hz49 := hE48.le
    have hs50 := hx43.size
    have hS51 := hS32.trans (hx43.mono hS32.size)
    refine ⟨fun _ => hS51, ?_⟩
    obtain ⟨b52, b52e⟩ : ∃ b, b = w24.heap.size := ⟨_, rfl⟩
    rw [← b52e] at hO44
    rw [← b52e]
    have hl53 := hO44.lo
    have hl54 := hO44.lt
    refine d_q (v := .slice ((some ⟨b52, 0, none⟩)) xs.length xs.length) rfl rfl (fun _ => x_assign rfl) ?_
    refine d_done ?_
    refine kn12 _ (b33, b52, c34, (List.replicate xs.length ((((none, 0), []), ((none, 0), [])) : Row × Row))) _ ⟨rfl, rfl, rfl, rfl, trivial⟩ ⟨hF46, ?_⟩
    try dsimp only
    exact ⟨by omega, hm35, Nat.le_refl _, hF47, hO44, rfl, by simp⟩
   ·
    refine id (d_e' rfl rfl (e_makeSlice T.sl106 rfl rfl (by omega) (by omega) ?_))
    intro w55 hA56
    have hx57 := hA56.ext
    have hs59 := hA56.size
    have hA56x : Al w15 w55 (.cells (flat enK (List.replicate xs.length ((((none, 0), []), ((none, 0), [])) : Row × Row))).toArray 109) := by rw [flat_repK]; exact hA56
    have hO58 := OB.new (lo := w0.heap.size) (k := 2) (c := xs.length) hA56x (by omega) (by rw [flat_length enK_len]; simp) (by omega)
    have hF60 := hx57.e hF18 (Nat.le_refl _)
    have hE61 : Below w0.heap.size w0 w55 := hx57.e hE19 (Nat.le_refl _)
    have hz62 := hE61.le
    have hs63 := hx57.size
    have hS64 := hS22.trans (hx57.mono hS22.size)
    refine ⟨fun _ => hS64, ?_⟩
    obtain ⟨b65, b65e⟩ : ∃ b, b = w15.heap.size := ⟨_, rfl⟩
    rw [← b65e] at hO58
    rw [← b65e]
    have hl66 := hO58.lo
    have hl67 := hO58.lt
    refine d_e (by decide) (d_e' rfl rfl (e_append0 (lo := w55.heap.size) T.sl106 rfl rfl (hl.below hE61) (ones (by exact flat_onesK)) (by omega) (by decide) (by omega) ?_))
    intro v68 w69 hO70 hG71 hN72
    have hF73 := hG71.e hF60 (Nat.le_refl _)
    have hF74 := hO58.ext hG71
    have hE75 : Below w0.heap.size w0 w69 := hG71.e hE61 (Nat.le_refl _)
    have hz76 := hE75.le
    have hs77 := hG71.size
    have hS78 := hS64.trans (hG71.mono hS64.size)
    refine ⟨fun _ => hS78, ?_⟩
    obtain ⟨b79, c80, rfl, hm81, hO82⟩ := hO70.ob (hN72 (by omega))
    have hl84 := hO82.lo
    have hO83 := hO82.weak (lo' := w0.heap.size) (by omega)
    have hl85 := hO83.lo
    have hl86 := hO83.lt
    refine d_q (v := .slice ((some ⟨b79, 0, none⟩)) xs.length c80) rfl rfl (fun _ => x_assign rfl) ?_
    refine d_q (v := .slice ((some ⟨b65, 0, none⟩)) xs.length xs.length) rfl rfl (fun _ => x_assign rfl) ?_
    refine d_done ?_
    refine kn12 _ (b79, b65, c80, (List.replicate xs.length ((((none, 0), []), ((none, 0), [])) : Row × Row))) _ ⟨rfl, rfl, rfl, rfl, trivial⟩ ⟨hF73, ?_⟩
    try dsimp only
    exact ⟨by omega, hm81, Nat.le_refl _, hO83, hF74, rfl, by simp⟩
  ·
   rintro τ87 ⟨b1, b2, c1, G_⟩ w88 ⟨hx89, ⟨hne, hc1, hc2, hO1, hO2, hF, hT⟩⟩
   try dsimp only at hne hc1 hc2 hO1 hO2 hF hT
   have hE90 : Below w0.heap.size w0 w88 := hx89.e hE0 (Nat.le_refl _)
   have hz91 := hE90.le
   have hs92 := hx89.size
   have hl93 := hO1.lo
   have hl94 := hO1.lt
   have hl95 := hO2.lo
   have hl96 := hO2.lt
   refine seqK fun Q97 kn98 kr99 ke100 => ?_
   refine seqK fun Q101 kn102 kr103 ke104 => ?_
   refine region ?_
   refine st_q (v := .int .i64 ((1 : Nat) : Int)) (x_assign rfl) ?_
   refine st_nil ?_
   refine kn102 _ _ ?_
   refine blockK fun Q105 kn106 kr107 kx108 kb109 => ?_
   refine loopK (α := Nat × Nat × Nat × Nat × Nat × (List (Row × Row)) × (List (Row × Row))) (fun x => [(0, .slice a xs.length ca), (1, .func (.func fc) #[] #[]), (5, .slice ((some ⟨x.2.1, 0, none⟩)) xs.length x.2.2.2.1), (6, .slice ((some ⟨x.2.2.1, 0, none⟩)) xs.length x.2.2.2.2.1), (7, .int .i64 ((x.1 : Nat) : Int))]) (fun x w110 => Below w0.heap.size w0 w110 ∧ x.2.1 ≠ x.2.2.1 ∧ xs.length ≤ x.2.2.2.1 ∧ xs.length ≤ x.2.2.2.2.1 ∧ OB w110.heap w0.heap.size 109 2 x.2.1 x.2.2.2.1 (flat enK x.2.2.2.2.2.1) ∧ OB w110.heap w0.heap.size 109 2 x.2.2.1 x.2.2.2.2.1 (flat enK x.2.2.2.2.2.2) ∧ x.2.2.2.2.2.1.length = xs.length ∧ x.2.2.2.2.2.2.length = xs.length ∧ 1 ≤ x.1 ∧ x.1 < 2 * xs.length ∧ SegOK c x.1 xs x.2.2.2.2.2.1 xs.length) (fun x => 2 * xs.length - x.1) (1, b1, b2, c1, xs.length, xs, G_) ⟨rfl, rfl, rfl, rfl, rfl, trivial⟩ ?_ ?_
   ·
    refine ⟨hE90, ?_⟩
    try dsimp only
    exact ⟨hne, hc1, Nat.le_refl _, hO1, hO2, hF, hT, Nat.le_refl _, by omega, SegOK.one xs _⟩
   ·
    rintro τ111 ⟨wd, b1, b2, c1, c2, F, G_⟩ w112 ⟨hx113, ⟨hne, hc1, hc2, hO1, hO2, hF, hT, hw1, hw2, hS⟩⟩
    try dsimp only at hne hc1 hc2 hO1 hO2 hF hT hw1 hw2 hS
    have hz114 := hx113.le
    intro Q115 kn116 kr117 ke118
    have hl119 := hO1.lo
    have hl120 := hO1.lt
    have hl121 := hO2.lo
    have hl122 := hO2.lt
    refine seqK fun Q123 kn124 kr125 ke126 => ?_
    refine seqK fun Q127 kn128 kr129 ke130 => ?_
    refine region ?_
    refine st_q (v := .int .i64 ((wd : Nat) : Int)) (x_move rfl) ?_
    refine st_q (v := .slice a xs.length ca) (x_move rfl) ?_
    refine st_q (v := .int .i64 ((xs.length : Nat) : Int)) (x_lenSl rfl Tryd.underlying106 rfl) ?_
    refine st_q (v := .bool (decide (wd < xs.length))) (x_lssN rfl rfl) ?_
    refine st_nil ?_
    refine kn128 _ _ ?_
    refine cnd (p := wd < xs.length) rfl (fun h131 => ?_) (fun h131 => ?_)
    ·
     refine skip ?_
     refine kn124 _ _ ?_
     refine seqK fun Q132 kn133 kr134 ke135 => ?_
     refine blockK fun Q136 kn137 kr138 kx139 kb140 => ?_
     refine seqK fun Q141 kn142 kr143 ke144 => ?_
     refine seqK fun Q145 kn146 kr147 ke148 => ?_
     refine region ?_
     refine st_q (v := .int .i64 ((0 : Nat) : Int)) (x_assign rfl) ?_
     refine st_nil ?_
     refine kn146 _ _ ?_
     refine blockK fun Q149 kn150 kr151 kx152 kb153 => ?_
     refine loopK (α := Nat × (List (Row × Row))) (fun x => [(0, .slice a xs.length ca), (1, .func (.func fc) #[] #[]), (5, .slice ((some ⟨b1, 0, none⟩)) xs.length c1), (6, .slice ((some ⟨b2, 0, none⟩)) xs.length c2), (7, .int .i64 ((wd : Nat) : Int)), (8, .int .i64 ((x.1 : Nat) : Int))]) (fun x w154 => Below w0.heap.size w0 w154 ∧ OB w154.heap w0.heap.size 109 2 b1 c1 (flat enK F) ∧ OB w154.heap w0.heap.size 109 2 b2 c2 (flat enK x.2) ∧ x.2.length = xs.length ∧ x.1 < xs.length + 2 * wd ∧ (∃ m, x.1 = m * (2 * wd)) ∧ SegOK c (2 * wd) xs x.2 x.1) (fun x => xs.length + 2 * wd - x.1) (0, G_) ⟨rfl, rfl, rfl, rfl, rfl, rfl, trivial⟩ ?_ ?_
     ·
      refine ⟨hx113, ?_⟩
      try dsimp only
      exact ⟨hO1, hO2, hT, by omega, ⟨0, by omega⟩, SegOK.zero _ _ _⟩
     ·
      rintro τ155 ⟨p, T2⟩ w156 ⟨hx157, ⟨hO3, hO4, hT2, hp, hm, hS2⟩⟩
      try dsimp only at hO3 hO4 hT2 hp hm hS2
      have hz158 := hx157.le
      intro Q159 kn160 kr161 ke162
      have hl163 := hO3.lo
      have hl164 := hO3.lt
      have hl165 := hO4.lo
      have hl166 := hO4.lt
      refine seqK fun Q167 kn168 kr169 ke170 => ?_
      refine seqK fun Q171 kn172 kr173 ke174 => ?_
      refine region ?_
      refine st_q (v := .int .i64 ((p : Nat) : Int)) (x_move rfl) ?_
      refine st_q (v := .slice a xs.length ca) (x_move rfl) ?_
      refine st_q (v := .int .i64 ((xs.length : Nat) : Int)) (x_lenSl rfl Tryd.underlying106 rfl) ?_
      refine st_q (v := .bool (decide (p < xs.length))) (x_lssN rfl rfl) ?_
      refine st_nil ?_
      refine kn172 _ _ ?_
      refine cnd (p := p < xs.length) rfl (fun h175 => ?_) (fun h175 => ?_)
      ·
       refine skip ?_
       refine kn168 _ _ ?_
       refine seqK fun Q176 kn177 kr178 ke179 => ?_
       refine blockK fun Q180 kn181 kr182 kx183 kb184 => ?_
       refine seqK fun Q185 kn186 kr187 ke188 => ?_
       refine region ?_
       refine st_q (v := .int .i64 ((p : Nat) : Int)) (x_move rfl) ?_
       refine st_q (v := .int .i64 ((wd : Nat) : Int)) (x_move rfl) ?_
       refine st_q (v := .int .i64 (((p + wd) : Nat) : Int)) (x_addN rfl rfl (by omega)) ?_
       refine st_q (v := .slice a xs.length ca) (x_move rfl) ?_
       refine st_q (v := .int .i64 ((xs.length : Nat) : Int)) (x_lenSl rfl Tryd.underlying106 rfl) ?_
       refine st_q (v := .int .i64 (((min ((p + wd)) xs.length) : Nat) : Int)) (x_minN rfl rfl) ?_
       refine st_q (v := .int .i64 ((p : Nat) : Int)) (x_move rfl) ?_
       refine st_q (v := .int .i64 ((wd : Nat) : Int)) (x_move rfl) ?_
       refine st_q (v := .int .i64 (((2 * wd) : Nat) : Int)) (x_mulN rfl rfl (by omega)) ?_
       refine st_q (v := .int .i64 (((p + (2 * wd)) : Nat) : Int)) (x_addN rfl rfl (by omega)) ?_
       refine st_q (v := .slice a xs.length ca) (x_move rfl) ?_
       refine st_q (v := .int .i64 ((xs.length : Nat) : Int)) (x_lenSl rfl Tryd.underlying106 rfl) ?_
       refine st_q (v := .int .i64 (((min ((p + (2 * wd))) xs.length) : Nat) : Int)) (x_minN rfl rfl) ?_
       refine st_q (v := .int .i64 (((min ((p + wd)) xs.length) : Nat) : Int)) (x_assign rfl) ?_
       refine st_q (v := .int .i64 (((min ((p + (2 * wd))) xs.length) : Nat) : Int)) (x_assign rfl) ?_
       refine st_nil ?_
       refine kn186 _ _ ?_
       refine seqK fun Q189 kn190 kr191 ke192 => ?_
       refine region ?_
       refine st_q (v := .int .i64 ((p : Nat) : Int)) (x_move rfl) ?_
       refine st_q (v := .int .i64 (((min ((p + wd)) xs.length) : Nat) : Int)) (x_move rfl) ?_
       refine st_q (v := .int .i64 ((p : Nat) : Int)) (x_move rfl) ?_
       refine st_q (v := .int .i64 ((p : Nat) : Int)) (x_assign rfl) ?_
       refine st_q (v := .int .i64 (((min ((p + wd)) xs.length) : Nat) : Int)) (x_assign rfl) ?_
       refine st_q (v := .int .i64 ((p : Nat) : Int)) (x_assign rfl) ?_
       refine st_nil ?_
       refine kn190 _ _ ?_
       refine blockK fun Q193 kn194 kr195 kx196 kb197 => ?_
       refine loopK (α := Nat × Nat × Nat × (List (Row × Row))) (fun x => [(0, .slice a xs.length ca), (1, .func (.func fc) #[] #[]), (5, .slice ((some ⟨b1, 0, none⟩)) xs.length c1), (6, .slice ((some ⟨b2, 0, none⟩)) xs.length c2), (7, .int .i64 ((wd : Nat) : Int)), (8, .int .i64 ((p : Nat) : Int)), (9, .int .i64 (((min ((p + wd)) xs.length) : Nat) : Int)), (10, .int .i64 (((min ((p + (2 * wd))) xs.length) : Nat) : Int)), (11, .int .i64 ((x.1 : Nat) : Int)), (12, .int .i64 ((x.2.1 : Nat) : Int)), (13, .int .i64 ((x.2.2.1 : Nat) : Int))]) (fun x w198 => Below w0.heap.size w0 w198 ∧ OB w198.heap w0.heap.size 109 2 b1 c1 (flat enK F) ∧ OB w198.heap w0.heap.size 109 2 b2 c2 (flat enK x.2.2.2) ∧ x.2.2.2.length = xs.length ∧ x.2.2.1 + (min (p + wd) xs.length) = x.1 + x.2.1 ∧ p ≤ x.1 ∧ x.1 ≤ min (p + wd) xs.length ∧ min (p + wd) xs.length ≤ x.2.1 ∧ x.2.1 ≤ min (p + 2 * wd) xs.length ∧ SegOK c (2 * wd) xs x.2.2.2 p ∧ seg x.2.2.2 p x.2.2.1 ++ mrg c (seg F x.1 (min (p + wd) xs.length)) (seg F x.2.1 (min (p + 2 * wd) xs.length)) = srt c (seg xs p (min (p + 2 * wd) xs.length))) (fun x => xs.length - x.2.2.1) (p, (min (p + wd) xs.length), p, T2) ⟨rfl, rfl, rfl, rfl, rfl, rfl, rfl, rfl, rfl, rfl, rfl, trivial⟩ ?_ ?_
       ·
        refine ⟨hx157, ?_⟩
        try dsimp only
        exact ⟨hO3, hO4, hT2, by omega, by omega, by omega, by omega, by omega, hS2, by rw [seg_self]; exact merge_start hL hS hm (by omega) (by omega)⟩
       ·
        rintro τ199 ⟨ai, bi, k, T3⟩ w200 ⟨hx201, ⟨hO5, hO6, hT3, hk, ha1, ha2, hb1, hb2, hS3, hM⟩⟩
        try dsimp only at hO5 hO6 hT3 hk ha1 ha2 hb1 hb2 hS3 hM
        have hz202 := hx201.le
        intro Q203 kn204 kr205 ke206
        have hl207 := hO5.lo
        have hl208 := hO5.lt
        have hl209 := hO6.lo
        have hl210 := hO6.lt
        refine seqK fun Q211 kn212 kr213 ke214 => ?_
        refine seqK fun Q215 kn216 kr217 ke218 => ?_
        refine region ?_
        refine st_q (v := .int .i64 ((k : Nat) : Int)) (x_move rfl) ?_
        refine st_q (v := .int .i64 (((min ((p + (2 * wd))) xs.length) : Nat) : Int)) (x_move rfl) ?_
        refine st_q (v := .bool (decide (k < ((min ((p + (2 * wd))) xs.length))))) (x_lssN rfl rfl) ?_
        refine st_nil ?_
        refine kn216 _ _ ?_
        refine cnd (p := k < ((min ((p + (2 * wd))) xs.length))) rfl (fun h219 => ?_) (fun h219 => ?_)
        ·
         refine skip ?_
         refine kn212 _ _ ?_
         refine seqK fun Q220 kn221 kr222 ke223 => ?_
         refine blockK fun Q224 kn225 kr226 kx227 kb228 => ?_
         refine seqK fun Q229 kn230 kr231 ke232 => ?_
         refine regionD1 [12, 16] [0, 1, 2, 3, 4, 5, 6, 7, 8, 9, 10, 11, 12, 13, 14, 15, 16, 18, 19, 20] (.one 0 (.one 1 (.one 2 (.one 3 (.one 4 (.one 5 (.one 6 (.one 7 (.one 8 (.one 9 (.one 10 (.one 11 (.one 12 (.one 13 (.one 14 (.one 15 (.one 16 (.one 17 (.one 18 (.one 19 (.one 20 .done))))))))))))))))))))) (by kernel_rfl) (by kernel_rfl) ?_
         intro w233 hx234 hs235
         have hF236 := hO5.ext hx234
         have hF237 := hO6.ext hx234
         have hE238 : Below w0.heap.size w0 w233 := hx234.e hx201 (Nat.le_refl _)
         have hz239 := hE238.le
         have hs240 := hx234.size
         have hS241 : Ext w233 w233 := Below.refl _ _
         refine d_q (v := .int .i64 ((ai : Nat) : Int)) rfl rfl (fun _ => x_move rfl) ?_
         refine d_q (v := .int .i64 (((min ((p + wd)) xs.length) : Nat) : Int)) rfl rfl (fun _ => x_move rfl) ?_
         refine d_q (v := .bool (decide (ai < ((min ((p + wd)) xs.length))))) rfl rfl (fun _ => x_lssN rfl rfl) ?_
         refine d_if rfl rfl (p := ai < ((min ((p + wd)) xs.length))) (fun _ => x_move rfl) (fun h242 => ?_) (fun h242 => ?_)
         ·
          refine d_gq (v := .int .i64 ((bi : Nat) : Int)) (j := 3) (t := 59) rfl rfl rfl rfl (by decide) (fun _ => x_move rfl) ?_
          refine d_gq (v := .int .i64 (((min ((p + (2 * wd))) xs.length) : Nat) : Int)) (j := 3) (t := 59) rfl rfl rfl rfl (by decide) (fun _ => x_move rfl) ?_
          refine d_gq (v := .bool (decide (bi = ((min ((p + (2 * wd))) xs.length))))) (j := 3) (t := 59) rfl rfl rfl rfl (by decide) (fun _ => x_eqlN rfl rfl) ?_
          refine d_gif (j := 3) (t := 59) rfl rfl rfl rfl (by decide) (p := bi = ((min ((p + (2 * wd))) xs.length))) (fun _ => x_move rfl) (fun h243 => ?_) (fun h243 => ?_)
          ·
           refine d_gn (j := 7) (t := 63) rfl rfl rfl rfl (by decide) rfl ?_
           refine d_gn (j := 7) (t := 63) rfl rfl rfl rfl (by decide) rfl ?_
           refine d_gn (j := 7) (t := 63) rfl rfl rfl rfl (by decide) rfl ?_
           refine d_gn (j := 7) (t := 63) rfl rfl rfl rfl (by decide) rfl ?_
           refine d_gn (j := 7) (t := 63) rfl rfl rfl rfl (by decide) rfl ?_
           refine d_gn (j := 7) (t := 63) rfl rfl rfl rfl (by decide) rfl ?_
           refine d_gn (j := 7) (t := 63) rfl rfl rfl rfl (by decide) rfl ?_
           refine d_gn (j := 7) (t := 63) rfl rfl rfl rfl (by decide) rfl ?_
           refine d_gn (j := 7) (t := 63) rfl rfl rfl rfl (by decide) rfl ?_
           refine d_e (by decide) (wpE_skip (j := 7) (t := 63) rfl rfl rfl (by decide) rfl (fun _ => hS241) ?_)
           refine d_gn (j := 7) (t := 63) rfl rfl rfl rfl (by decide) rfl ?_
           refine d_gq (v := .bool true) (j := 3) (t := 59) rfl rfl rfl rfl (by decide) (fun _ => x_pickT rfl rfl) ?_
           refine d_q (v := .bool true) rfl rfl (fun _ => x_pickT rfl rfl) ?_
           refine d_done ?_
           refine kn230 _ _ ?_
           refine cndT rfl ?_
           refine seqK fun Q244 kn245 kr246 ke247 => ?_
           refine region ?_
           refine st_q (v := .slice ((some ⟨b2, 0, none⟩)) xs.length c2) (x_move rfl) ?_
           refine st_q (v := .int .i64 ((k : Nat) : Int)) (x_move rfl) ?_
           refine st_q (v := .slice ((some ⟨b1, 0, none⟩)) xs.length c1) (x_move rfl) ?_
           refine st_q (v := .int .i64 ((ai : Nat) : Int)) (x_move rfl) ?_
           refine st_q (v := .pointer (some ⟨b1, 0 + ai * 2, none⟩)) (x_index T.sl106 rfl rfl (by omega)) ?_
           refine st_q (v := .agg #[.slice ((el F ai).1.1.1) ((el F ai).1.2.length) ((el F ai).1.1.2), .slice ((el F ai).2.1.1) ((el F ai).2.2.length) ((el F ai).2.1.2)]) (x_loadA [.slice ((el F ai).1.1.1) ((el F ai).1.2.length) ((el F ai).1.1.2), .slice ((el F ai).2.1.1) ((el F ai).2.2.length) ((el F ai).2.1.2)] T.ag109 rfl (hF236.cells.elem enK_len (i := ai) (by omega))) ?_
           refine st_q (v := .pointer (some ⟨b2, 0 + k * 2, none⟩)) (x_index T.sl106 rfl rfl (by omega)) ?_
           refine st_s (e_stO (v := .agg #[.slice ((el F ai).1.1.1) ((el F ai).1.2.length) ((el F ai).1.1.2), .slice ((el F ai).2.1.1) ((el F ai).2.2.length) ((el F ai).2.1.2)]) (u := el F ai) enK_len T.sz109 rfl rfl rfl hF237 (by first | omega | (rw [List.length_set]; omega)) (by rfl) ?_)
           intro w248 _ hP249 hB250
           have hs251 := hP249.size
           have hF252 := hF236.pt hP249 (by omega)
           have hE253 : Below w0.heap.size w0 w248 := hP249.below hE238 (by omega)
           have hz254 := hE253.le
           refine st_nil ?_
           refine kn245 _ _ ?_
           refine region ?_
           refine st_q (v := .int .i64 ((ai : Nat) : Int)) (x_move rfl) ?_
           refine st_q (v := .int .i64 (((ai + 1) : Nat) : Int)) (x_addN rfl rfl (by omega)) ?_
           refine st_q (v := .int .i64 (((ai + 1) : Nat) : Int)) (x_assign rfl) ?_
           refine st_nil ?_
           refine kn225 _ _ ?_
           refine kn221 _ _ ?_
           refine region ?_
           refine st_q (v := .int .i64 ((k : Nat) : Int)) (x_move rfl) ?_
           refine st_q (v := .int .i64 (((k + 1) : Nat) : Int)) (x_addN rfl rfl (by omega)) ?_
           refine st_q (v := .int .i64 (((k + 1) : Nat) : Int)) (x_assign rfl) ?_
           refine st_nil ?_
           refine kn204 _ ((ai + 1), bi, (k + 1), (T3.set k (el F ai))) _ ⟨rfl, rfl, rfl, rfl, rfl, rfl, rfl, rfl, rfl, rfl, rfl, trivial⟩ ⟨hE253, ?_⟩ ?_
           ·
            try dsimp only
            exact ⟨hF252, hB250, by rw [List.length_set]; exact hT3, by omega, by omega, by omega, by omega, by omega, hS3.set _ (by omega) hm, merge_left hM (by omega) (by first | exact .inl (by omega) | exact .inr ⟨by omega, by omega⟩) (by omega) (by omega) (by omega) (by omega)⟩
           ·
            (try dsimp only); omega
          ·
           refine d_gq (v := .func (.func fc) #[] #[]) (j := 7) (t := 63) rfl rfl rfl rfl (by decide) (fun _ => x_move rfl) ?_
           refine d_gq (v := .slice ((some ⟨b1, 0, none⟩)) xs.length c1) (j := 7) (t := 63) rfl rfl rfl rfl (by decide) (fun _ => x_move rfl) ?_
           refine d_gq (v := .int .i64 ((bi : Nat) : Int)) (j := 7) (t := 63) rfl rfl rfl rfl (by decide) (fun _ => x_move rfl) ?_
           refine d_gq (v := .pointer (some ⟨b1, 0 + bi * 2, none⟩)) (j := 7) (t := 63) rfl rfl rfl rfl (by decide) (fun _ => x_index T.sl106 rfl rfl (by omega)) ?_
           refine d_gl (v := .agg #[.slice ((el F bi).1.1.1) ((el F bi).1.2.length) ((el F bi).1.1.2), .slice ((el F bi).2.1.1) ((el F bi).2.2.length) ((el F bi).2.1.2)]) (j := 7) (t := 63) rfl rfl rfl rfl rfl (by decide) (fun v256 hw255 => x_loadA [.slice ((el F bi).1.1.1) ((el F bi).1.2.length) ((el F bi).1.1.2), .slice ((el F bi).2.1.1) ((el F bi).2.2.length) ((el F bi).2.1.2)] T.ag109 rfl ((hF236.cells.elem enK_len (i := bi) (by omega)).ext hw255)) ?_
           refine d_gq (v := .slice ((some ⟨b1, 0, none⟩)) xs.length c1) (j := 7) (t := 63) rfl rfl rfl rfl (by decide) (fun _ => x_move rfl) ?_
           refine d_gq (v := .int .i64 ((ai : Nat) : Int)) (j := 7) (t := 63) rfl rfl rfl rfl (by decide) (fun _ => x_move rfl) ?_
           refine d_gq (v := .pointer (some ⟨b1, 0 + ai * 2, none⟩)) (j := 7) (t := 63) rfl rfl rfl rfl (by decide) (fun _ => x_index T.sl106 rfl rfl (by omega)) ?_
           refine d_gl (v := .agg #[.slice ((el F ai).1.1.1) ((el F ai).1.2.length) ((el F ai).1.1.2), .slice ((el F ai).2.1.1) ((el F ai).2.2.length) ((el F ai).2.1.2)]) (j := 7) (t := 63) rfl rfl rfl rfl rfl (by decide) (fun v258 hw257 => x_loadA [.slice ((el F ai).1.1.1) ((el F ai).1.2.length) ((el F ai).1.1.2), .slice ((el F ai).2.1.1) ((el F ai).2.2.length) ((el F ai).2.1.2)] T.ag109 rfl ((hF236.cells.elem enK_len (i := ai) (by omega)).ext hw257)) ?_
           refine d_e (by decide) (d_c' rfl (wanted_true (j := 7) (t := 63) rfl rfl (by decide)) (t_call [.agg #[.slice ((el F bi).1.1.1) ((el F bi).1.2.length) ((el F bi).1.1.2), .slice ((el F bi).2.1.1) ((el F bi).2.2.length) ((el F bi).2.1.2)], .agg #[.slice ((el F ai).1.1.1) ((el F ai).1.2.length) ((el F ai).1.1.2), .slice ((el F ai).2.1.1) ((el F ai).2.2.length) ((el F ai).2.1.2)]] hcf rfl rfl) (hcmp (el F bi) (el F ai) _ (hG _ (SegOK.mem hS hF (by omega) (i := bi) (by omega))) (hG _ (SegOK.mem hS hF (by omega) (i := ai) (by omega))) hE238) ?_)
           rintro _ w259 ⟨rfl, hx260⟩
           refine ⟨_, rfl, ?_⟩
           have hF261 := hF236.ext hx260
           have hF262 := hF237.ext hx260
           have hE263 : Below w0.heap.size w0 w259 := hx260.e hE238 (Nat.le_refl _)
           have hz264 := hE263.le
           have hs265 := hx260.size
           have hS266 := hS241.trans (hx260.mono hS241.size)
           refine ⟨fun _ => hS266, ?_⟩
           refine d_gq (v := .bool (decide (0 ≤ (c (el F bi) (el F ai))))) (j := 7) (t := 63) rfl rfl rfl rfl (by decide) (fun _ => x_geq rfl rfl) ?_
           refine d_gq (v := .bool (decide (0 ≤ (c (el F bi) (el F ai))))) (j := 3) (t := 59) rfl rfl rfl rfl (by decide) (fun _ => x_pickF rfl rfl) ?_
           refine d_q (v := .bool (decide (0 ≤ (c (el F bi) (el F ai))))) rfl rfl (fun _ => x_pickT rfl rfl) ?_
           refine d_done ?_
           refine kn230 _ _ ?_
           refine cnd (p := 0 ≤ (c (el F bi) (el F ai))) rfl (fun h267 => ?_) (fun h267 => ?_)
           ·
            refine seqK fun Q268 kn269 kr270 ke271 => ?_
            refine region ?_
            refine st_q (v := .slice ((some ⟨b2, 0, none⟩)) xs.length c2) (x_move rfl) ?_
            refine st_q (v := .int .i64 ((k : Nat) : Int)) (x_move rfl) ?_
            refine st_q (v := .slice ((some ⟨b1, 0, none⟩)) xs.length c1) (x_move rfl) ?_
            refine st_q (v := .int .i64 ((ai : Nat) : Int)) (x_move rfl) ?_
            refine st_q (v := .pointer (some ⟨b1, 0 + ai * 2, none⟩)) (x_index T.sl106 rfl rfl (by omega)) ?_
            refine st_q (v := .agg #[.slice ((el F ai).1.1.1) ((el F ai).1.2.length) ((el F ai).1.1.2), .slice ((el F ai).2.1.1) ((el F ai).2.2.length) ((el F ai).2.1.2)]) (x_loadA [.slice ((el F ai).1.1.1) ((el F ai).1.2.length) ((el F ai).1.1.2), .slice ((el F ai).2.1.1) ((el F ai).2.2.length) ((el F ai).2.1.2)] T.ag109 rfl (hF261.cells.elem enK_len (i := ai) (by omega))) ?_
            refine st_q (v := .pointer (some ⟨b2, 0 + k * 2, none⟩)) (x_index T.sl106 rfl rfl (by omega)) ?_
            refine st_s (e_stO (v := .agg #[.slice ((el F ai).1.1.1) ((el F ai).1.2.length) ((el F ai).1.1.2), .slice ((el F ai).2.1.1) ((el F ai).2.2.length) ((el F ai).2.1.2)]) (u := el F ai) enK_len T.sz109 rfl rfl rfl hF262 (by first | omega | (rw [List.length_set]; omega)) (by rfl) ?_)
            intro w272 _ hP273 hB274
            have hs275 := hP273.size
            have hF276 := hF261.pt hP273 (by omega)
            have hE277 : Below w0.heap.size w0 w272 := hP273.below hE263 (by omega)
            have hz278 := hE277.le
            refine st_nil ?_
            refine kn269 _ _ ?_
            refine region ?_
            refine st_q (v := .int .i64 ((ai : Nat) : Int)) (x_move rfl) ?_
            refine st_q (v := .int .i64 (((ai + 1) : Nat) : Int)) (x_addN rfl rfl (by omega)) ?_
            refine st_q (v := .int .i64 (((ai + 1) : Nat) : Int)) (x_assign rfl) ?_
            refine st_nil ?_
            refine kn225 _ _ ?_
            refine kn221 _ _ ?_
            refine region ?_
            refine st_q (v := .int .i64 ((k : Nat) : Int)) (x_move rfl) ?_
            refine st_q (v := .int .i64 (((k + 1) : Nat) : Int)) (x_addN rfl rfl (by omega)) ?_
            refine st_q (v := .int .i64 (((k + 1) : Nat) : Int)) (x_assign rfl) ?_
            refine st_nil ?_
            refine kn204 _ ((ai + 1), bi, (k + 1), (T3.set k (el F ai))) _ ⟨rfl, rfl, rfl, rfl, rfl, rfl, rfl, rfl, rfl, rfl, rfl, trivial⟩ ⟨hE277, ?_⟩ ?_
            ·
             try dsimp only
             exact ⟨hF276, hB274, by rw [List.length_set]; exact hT3, by omega, by omega, by omega, by omega, by omega, hS3.set _ (by omega) hm, merge_left hM (by omega) (by first | exact .inl (by omega) | exact .inr ⟨by omega, by omega⟩) (by omega) (by omega) (by omega) (by omega)⟩
            ·
             (try dsimp only); omega
           ·
            refine seqK fun Q279 kn280 kr281 ke282 => ?_
            refine region ?_
            refine st_q (v := .slice ((some ⟨b2, 0, none⟩)) xs.length c2) (x_move rfl) ?_
            refine st_q (v := .int .i64 ((k : Nat) : Int)) (x_move rfl) ?_
            refine st_q (v := .slice ((some ⟨b1, 0, none⟩)) xs.length c1) (x_move rfl) ?_
            refine st_q (v := .int .i64 ((bi : Nat) : Int)) (x_move rfl) ?_
            refine st_q (v := .pointer (some ⟨b1, 0 + bi * 2, none⟩)) (x_index T.sl106 rfl rfl (by omega)) ?_
            refine st_q (v := .agg #[.slice ((el F bi).1.1.1) ((el F bi).1.2.length) ((el F bi).1.1.2), .slice ((el F bi).2.1.1) ((el F bi).2.2.length) ((el F bi).2.1.2)]) (x_loadA [.slice ((el F bi).1.1.1) ((el F bi).1.2.length) ((el F bi).1.1.2), .slice ((el F bi).2.1.1) ((el F bi).2.2.length) ((el F bi).2.1.2)] T.ag109 rfl (hF261.cells.elem enK_len (i := bi) (by omega))) ?_
            refine st_q (v := .pointer (some ⟨b2, 0 + k * 2, none⟩)) (x_index T.sl106 rfl rfl (by omega)) ?_
            refine st_s (e_stO (v := .agg #[.slice ((el F bi).1.1.1) ((el F bi).1.2.length) ((el F bi).1.1.2), .slice ((el F bi).2.1.1) ((el F bi).2.2.length) ((el F bi).2.1.2)]) (u := el F bi) enK_len T.sz109 rfl rfl rfl hF262 (by first | omega | (rw [List.length_set]; omega)) (by rfl) ?_)
            intro w283 _ hP284 hB285
            have hs286 := hP284.size
            have hF287 := hF261.pt hP284 (by omega)
            have hE288 : Below w0.heap.size w0 w283 := hP284.below hE263 (by omega)
            have hz289 := hE288.le
            refine st_nil ?_
            refine kn280 _ _ ?_
            refine region ?_
            refine st_q (v := .int .i64 ((bi : Nat) : Int)) (x_move rfl) ?_
            refine st_q (v := .int .i64 (((bi + 1) : Nat) : Int)) (x_addN rfl rfl (by omega)) ?_
            refine st_q (v := .int .i64 (((bi + 1) : Nat) : Int)) (x_assign rfl) ?_
            refine st_nil ?_
            refine kn225 _ _ ?_
            refine kn221 _ _ ?_
            refine region ?_
            refine st_q (v := .int .i64 ((k : Nat) : Int)) (x_move rfl) ?_
            refine st_q (v := .int .i64 (((k + 1) : Nat) : Int)) (x_addN rfl rfl (by omega)) ?_
            refine st_q (v := .int .i64 (((k + 1) : Nat) : Int)) (x_assign rfl) ?_
            refine st_nil ?_
            refine kn204 _ (ai, (bi + 1), (k + 1), (T3.set k (el F bi))) _ ⟨rfl, rfl, rfl, rfl, rfl, rfl, rfl, rfl, rfl, rfl, rfl, trivial⟩ ⟨hE288, ?_⟩ ?_
            ·
             try dsimp only
             exact ⟨hF287, hB285, by rw [List.length_set]; exact hT3, by omega, by omega, by omega, by omega, by omega, hS3.set _ (by omega) hm, merge_right hM (by omega) (by first | exact .inl (by omega) | exact .inr ⟨by omega, by omega⟩) (by omega) (by omega) (by omega) (by omega)⟩
            ·
             (try dsimp only); omega
         ·
          refine d_gn (j := 3) (t := 59) rfl rfl rfl rfl (by decide) rfl ?_
          refine d_gn (j := 3) (t := 59) rfl rfl rfl rfl (by decide) rfl ?_
          refine d_gn (j := 3) (t := 59) rfl rfl rfl rfl (by decide) rfl ?_
          refine d_gn (j := 3) (t := 59) rfl rfl rfl rfl (by decide) rfl ?_
          refine d_gu (j := 7) (t := 63) rfl rfl rfl rfl (by decide) ?_
          refine d_gu (j := 7) (t := 63) rfl rfl rfl rfl (by decide) ?_
          refine d_gu (j := 7) (t := 63) rfl rfl rfl rfl (by decide) ?_
          refine d_gu (j := 7) (t := 63) rfl rfl rfl rfl (by decide) ?_
          refine d_gu (j := 7) (t := 63) rfl rfl rfl rfl (by decide) ?_
          refine d_gu (j := 7) (t := 63) rfl rfl rfl rfl (by decide) ?_
          refine d_gu (j := 7) (t := 63) rfl rfl rfl rfl (by decide) ?_
          refine d_gu (j := 7) (t := 63) rfl rfl rfl rfl (by decide) ?_
          refine d_gu (j := 7) (t := 63) rfl rfl rfl rfl (by decide) ?_
          refine d_e (by decide) (wpE_undef (j := 7) (t := 63) rfl rfl rfl (by decide) (fun _ => hS241) ?_)
          refine d_gu (j := 7) (t := 63) rfl rfl rfl rfl (by decide) ?_
          refine d_gn (j := 3) (t := 59) rfl rfl rfl rfl (by decide) rfl ?_
          refine d_q (v := .bool false) rfl rfl (fun _ => x_pickF rfl rfl) ?_
          refine d_done ?_
          refine kn230 _ _ ?_
          refine cndF rfl ?_
          refine seqK fun Q290 kn291 kr292 ke293 => ?_
          refine region ?_
          refine st_q (v := .slice ((some ⟨b2, 0, none⟩)) xs.length c2) (x_move rfl) ?_
          refine st_q (v := .int .i64 ((k : Nat) : Int)) (x_move rfl) ?_
          refine st_q (v := .slice ((some ⟨b1, 0, none⟩)) xs.length c1) (x_move rfl) ?_
          refine st_q (v := .int .i64 ((bi : Nat) : Int)) (x_move rfl) ?_
          refine st_q (v := .pointer (some ⟨b1, 0 + bi * 2, none⟩)) (x_index T.sl106 rfl rfl (by omega)) ?_
          refine st_q (v := .agg #[.slice ((el F bi).1.1.1) ((el F bi).1.2.length) ((el F bi).1.1.2), .slice ((el F bi).2.1.1) ((el F bi).2.2.length) ((el F bi).2.1.2)]) (x_loadA [.slice ((el F bi).1.1.1) ((el F bi).1.2.length) ((el F bi).1.1.2), .slice ((el F bi).2.1.1) ((el F bi).2.2.length) ((el F bi).2.1.2)] T.ag109 rfl (hF236.cells.elem enK_len (i := bi) (by omega))) ?_
          refine st_q (v := .pointer (some ⟨b2, 0 + k * 2, none⟩)) (x_index T.sl106 rfl rfl (by omega)) ?_
          refine st_s (e_stO (v := .agg #[.slice ((el F bi).1.1.1) ((el F bi).1.2.length) ((el F bi).1.1.2), .slice ((el F bi).2.1.1) ((el F bi).2.2.length) ((el F bi).2.1.2)]) (u := el F bi) enK_len T.sz109 rfl rfl rfl hF237 (by first | omega | (rw [List.length_set]; omega)) (by rfl) ?_)
          intro w294 _ hP295 hB296
          have hs297 := hP295.size
          have hF298 := hF236.pt hP295 (by omega)
          have hE299 : Below w0.heap.size w0 w294 := hP295.below hE238 (by omega)
          have hz300 := hE299.le
          refine st_nil ?_
          refine kn291 _ _ ?_
          refine region ?_
          refine st_q (v := .int .i64 ((bi : Nat) : Int)) (x_move rfl) ?_
          refine st_q (v := .int .i64 (((bi + 1) : Nat) : Int)) (x_addN rfl rfl (by omega)) ?_
          refine st_q (v := .int .i64 (((bi + 1) : Nat) : Int)) (x_assign rfl) ?_
          refine st_nil ?_
          refine kn225 _ _ ?_
          refine kn221 _ _ ?_
          refine region ?_
          refine st_q (v := .int .i64 ((k : Nat) : Int)) (x_move rfl) ?_
          refine st_q (v := .int .i64 (((k + 1) : Nat) : Int)) (x_addN rfl rfl (by omega)) ?_
          refine st_q (v := .int .i64 (((k + 1) : Nat) : Int)) (x_assign rfl) ?_
          refine st_nil ?_
          refine kn204 _ (ai, (bi + 1), (k + 1), (T3.set k (el F bi))) _ ⟨rfl, rfl, rfl, rfl, rfl, rfl, rfl, rfl, rfl, rfl, rfl, trivial⟩ ⟨hE299, ?_⟩ ?_
          ·
           try dsimp only
           exact ⟨hF298, hB296, by rw [List.length_set]; exact hT3, by omega, by omega, by omega, by omega, by omega, hS3.set _ (by omega) hm, merge_right hM (by omega) (by first | exact .inl (by omega) | exact .inr ⟨by omega, by omega⟩) (by omega) (by omega) (by omega) (by omega)⟩
          ·
           (try dsimp only); omega
        ·
         refine exit ?_
         refine ke214 _ _ _ ?_
         refine ke206 _ _ _ ?_
         refine kb197 _ _ ?_
         refine kn181 _ _ ?_
         refine kn177 _ _ ?_
         refine region ?_
         refine st_q (v := .int .i64 ((p : Nat) : Int)) (x_move rfl) ?_
         refine st_q (v := .int .i64 ((wd : Nat) : Int)) (x_move rfl) ?_
         refine st_q (v := .int .i64 (((2 * wd) : Nat) : Int)) (x_mulN rfl rfl (by omega)) ?_
         refine st_q (v := .int .i64 (((p + (2 * wd)) : Nat) : Int)) (x_addN rfl rfl (by omega)) ?_
         refine st_q (v := .int .i64 (((p + (2 * wd)) : Nat) : Int)) (x_assign rfl) ?_
         refine st_nil ?_
         refine kn160 _ ((p + 2 * wd), T3) _ ⟨rfl, rfl, rfl, rfl, rfl, rfl, trivial⟩ ⟨hx201, ?_⟩ ?_
         ·
          try dsimp only
          obtain rfl : k = min (p + 2 * wd) xs.length := by omega
          obtain rfl : ai = min (p + wd) xs.length := by omega
          obtain rfl : bi = min (p + 2 * wd) xs.length := by omega
          exact ⟨hO5, hO6, hT3, by omega, ⟨hm.choose + 1, by have := hm.choose_spec; rw [Nat.add_mul]; omega⟩, merge_end hS3 hm (by omega) hM⟩
         ·
          (try dsimp only); omega
      ·
       refine exit ?_
       refine ke170 _ _ _ ?_
       refine ke162 _ _ _ ?_
       refine kb153 _ _ ?_
       refine kn142 _ _ ?_
       refine region ?_
       refine st_q (v := .slice ((some ⟨b2, 0, none⟩)) xs.length c2) (x_move rfl) ?_
       refine st_q (v := .slice ((some ⟨b1, 0, none⟩)) xs.length c1) (x_move rfl) ?_
       refine st_q (v := .slice ((some ⟨b2, 0, none⟩)) xs.length c2) (x_assign rfl) ?_
       refine st_q (v := .slice ((some ⟨b1, 0, none⟩)) xs.length c1) (x_assign rfl) ?_
       refine st_nil ?_
       refine kn137 _ _ ?_
       refine kn133 _ _ ?_
       refine region ?_
       refine st_q (v := .int .i64 ((wd : Nat) : Int)) (x_move rfl) ?_
       refine st_q (v := .int .i64 (((wd * 2) : Nat) : Int)) (x_mulN rfl rfl (by omega)) ?_
       refine st_q (v := .int .i64 (((wd * 2) : Nat) : Int)) (x_assign rfl) ?_
       refine st_nil ?_
       refine kn116 _ ((wd * 2), b2, b1, c2, c1, T2, F) _ ⟨rfl, rfl, rfl, rfl, rfl, trivial⟩ ⟨hx157, ?_⟩ ?_
       ·
        try dsimp only
        exact ⟨Ne.symm hne, hc2, hc1, hO4, hO3, hT2, hF, by omega, by omega, by rw [Nat.mul_comm wd 2]; exact hS2.mono (by omega)⟩
       ·
        (try dsimp only); omega
    ·
     refine exit ?_
     refine ke126 _ _ _ ?_
     refine ke118 _ _ _ ?_
     refine kb109 _ _ ?_
     refine kn98 _ _ ?_
     refine seqK fun Q301 kn302 kr303 ke304 => ?_
     refine region ?_
     refine st_q (v := .slice ((some ⟨b1, 0, none⟩)) xs.length c1) (x_move rfl) ?_
     refine st_q (v := .slice ((some ⟨b1, 0, none⟩)) xs.length c1) (x_assign rfl) ?_
     refine st_nil ?_
     refine kn302 _ _ ?_
     refine ret ?_
     refine leave1 (P := Tryd.prog) (fn := Tryd.f52) (t := 4) (v := .slice ((some ⟨b1, 0, none⟩)) xs.length c1) rfl rfl ?_
     exact ⟨_, rfl, hx113, (hS.done hF (by omega)) ▸ hO1.own hc1 (by rw [flat_length enK_len, hF])⟩

set_option maxHeartbeats 4000000 in
theorem sort52z (fc : Nat) (c : (Row × Row) → (Row × Row) → Int) (hcf : CF Tryd.prog fc) (hL : Lawful c) (g : Value) (hg : ToldK g fc) (G : (Row × Row) → Prop) (xs : List (Row × Row)) (hG : ∀ x ∈ xs, G x) (vl : Value) (w0 : World) (hcmp : ∀ (x y : Row × Row) (w : World), G x → G y → Below w0.heap.size w0 w → Calls Tryd.prog fc #[.agg (enK x).toArray, .agg (enK y).toArray] w fun e w' => e = .returned (.int .i64 (c x y)) ∧ Ext w w') (hl : Src w0.heap vl xs.length 2 (flat enK xs)) (hn : xs.length ≤ 2932031007402) (hz : xs.length = 0) : Calls Tryd.prog 52 #[vl, g] w0 fun e w' => ∃ v, e = .returned v ∧ Ext w0 w' ∧ Own w'.heap w0.heap.size 109 2 v xs.length (flat enK (srt c xs)) := by
  have hE0 : Below w0.heap.size w0 w0 := Below.refl _ _
  have hz0 := hE0.le
  obtain ⟨a, ca, rfl, hca, hca1⟩ := hl.form
  refine enter Tryd.func52 rfl 98 Tryd.ntmps52 rfl ?_
  refine seqK fun Q1 kn2 kr3 ke4 => ?_
  refine region ?_
  refine st_q (v := .slice none 0 0) (x_assign rfl) ?_
  refine st_nil ?_
  refine kn2 _ _ ?_
  refine seqK fun Q5 kn6 kr7 ke8 => ?_
  refine region ?_
  refine st_q (v := g) (x_move rfl) ?_
  refine st_c (t_call [g] T.cf70 rfl rfl) (hg _) ?_
  rintro _ _ ⟨rfl, rfl⟩
  refine ⟨_, rfl, ?_⟩
  refine st_q (v := .func (.func fc) #[] #[]) (x_assign rfl) ?_
  refine st_nil ?_
  refine kn6 _ _ ?_
  refine seqK fun Q9 kn10 kr11 ke12 => ?_
  refine regionD1 [] [0, 2, 3, 5, 6] (.one 0 (.one 2 (.one 3 (.two 1 (.one 5 (.one 4 (.one 6 .done))) 4 (.one 1 (.one 5 (.one 6 .done))))))) (by kernel_rfl) (by kernel_rfl) ?_
  intro w13 hx14 hs15
  have hE16 : Below w0.heap.size w0 w13 := hx14.e hE0 (Nat.le_refl _)
  have hz17 := hE16.le
  have hs18 := hx14.size
  have hS19 : Ext w13 w13 := Below.refl _ _
  refine d_q (v := .slice a xs.length ca) rfl rfl (fun _ => x_move rfl) ?_
  refine d_q (v := .slice a xs.length ca) rfl rfl (fun _ => x_move rfl) ?_
  refine d_q (v := .int .i64 ((xs.length : Nat) : Int)) rfl rfl (fun _ => x_lenSl rfl Tryd.underlying106 rfl) ?_
  refine d_two ?_ ?_
  ·
   refine id (d_e' rfl rfl (e_append0 (lo := w13.heap.size) T.sl106 rfl rfl (hl.below hE16) (ones (by exact flat_onesK)) (by omega) (by decide) (by omega) ?_))
   intro v20 w21 hO22 hG23 hN24
   have hE25 : Below w0.heap.size w0 w21 := hG23.e hE16 (Nat.le_refl _)
   have hz26 := hE25.le
   have hs27 := hG23.size
   have hS28 := hS19.trans (hG23.mono hS19.size)
   refine ⟨fun _ => hS28, ?_⟩
   refine d_q (v := v20) rfl rfl (fun _ => x_assign rfl) ?_
   refine d_e (by decide) (d_e' rfl rfl (e_makeSlice T.sl106 rfl rfl (by omega) (by omega) ?_))
   intro w29 hA30
   have hx31 := hA30.ext
   have hs32 := hA30.size
   have hB33 := hA30.new
   have hF34 := hO22.ext hx31
   have hE35 : Below w0.heap.size w0 w29 := hx31.e hE25 (Nat.le_refl _)
   have hz36 := hE35.le
   have hs37 := hx31.size
   have hS38 := hS28.trans (hx31.mono hS28.size)
   refine ⟨fun _ => hS38, ?_⟩
   refine d_q (v := .slice ((some ⟨w21.heap.size, 0, none⟩)) xs.length xs.length) rfl rfl (fun _ => x_assign rfl) ?_
   refine d_done ?_
   refine kn10 _ _ ?_
   refine seqK fun Q39 kn40 kr41 ke42 => ?_
   refine seqK fun Q43 kn44 kr45 ke46 => ?_
   refine region ?_
   refine st_q (v := .int .i64 ((1 : Nat) : Int)) (x_assign rfl) ?_
   refine st_nil ?_
   refine kn44 _ _ ?_
   refine blockK fun Q47 kn48 kr49 kx50 kb51 => ?_
   refine loopK (α := Unit) (fun _ => [(0, .slice a xs.length ca), (1, .func (.func fc) #[] #[]), (5, v20), (6, .slice ((some ⟨w21.heap.size, 0, none⟩)) xs.length xs.length), (7, .int .i64 ((1 : Nat) : Int))]) (fun _ w52 => w29 = w52 ∧ True) (fun _ => 0) () ⟨rfl, rfl, rfl, rfl, rfl, trivial⟩ ?_ ?_
   ·
    refine ⟨rfl, ?_⟩
    try dsimp only
    all_goals exact trivial
   ·
    rintro τ53 _ w54 ⟨rfl, _⟩
    intro Q55 kn56 kr57 ke58
    refine seqK fun Q59 kn60 kr61 ke62 => ?_
    refine seqK fun Q63 kn64 kr65 ke66 => ?_
    refine region ?_
    refine st_q (v := .int .i64 ((1 : Nat) : Int)) (x_move rfl) ?_
    refine st_q (v := .slice a xs.length ca) (x_move rfl) ?_
    refine st_q (v := .int .i64 ((xs.length : Nat) : Int)) (x_lenSl rfl Tryd.underlying106 rfl) ?_
    refine st_q (v := .bool (decide (1 < xs.length))) (x_lssN rfl rfl) ?_
    refine st_nil ?_
    refine kn64 _ _ ?_
    refine cnd (p := 1 < xs.length) rfl (fun h67 => ?_) (fun h67 => ?_)
    ·
     exact absurd h67 (by omega)
    ·
     refine exit ?_
     refine ke62 _ _ _ ?_
     refine ke58 _ _ _ ?_
     refine kb51 _ _ ?_
     refine kn40 _ _ ?_
     refine seqK fun Q68 kn69 kr70 ke71 => ?_
     refine region ?_
     refine st_q (v := v20) (x_move rfl) ?_
     refine st_q (v := v20) (x_assign rfl) ?_
     refine st_nil ?_
     refine kn69 _ _ ?_
     refine ret ?_
     refine leave1 (P := Tryd.prog) (fn := Tryd.f52) (t := 4) (v := v20) rfl rfl ?_
     exact ⟨_, rfl, hE35, by rw [show srt c xs = xs by rw [List.eq_nil_of_length_eq_zero hz]; rfl]; exact hF34.weak (by omega)⟩
  ·
   refine id (d_e' rfl rfl (e_makeSlice T.sl106 rfl rfl (by omega) (by omega) ?_))
   intro w72 hA73
   have hx74 := hA73.ext
   have hs75 := hA73.size
   have hB76 := hA73.new
   have hE77 : Below w0.heap.size w0 w72 := hx74.e hE16 (Nat.le_refl _)
   have hz78 := hE77.le
   have hs79 := hx74.size
   have hS80 := hS19.trans (hx74.mono hS19.size)
   refine ⟨fun _ => hS80, ?_⟩
   refine d_e (by decide) (d_e' rfl rfl (e_append0 (lo := w72.heap.size) T.sl106 rfl rfl (hl.below hE77) (ones (by exact flat_onesK)) (by omega) (by decide) (by omega) ?_))
   intro v81 w82 hO83 hG84 hN85
   have hE86 : Below w0.heap.size w0 w82 := hG84.e hE77 (Nat.le_refl _)
   have hz87 := hE86.le
   have hs88 := hG84.size
   have hS89 := hS80.trans (hG84.mono hS80.size)
   refine ⟨fun _ => hS89, ?_⟩
   refine d_q (v := v81) rfl rfl (fun _ => x_assign rfl) ?_
   refine d_q (v := .slice ((some ⟨w13.heap.size, 0, none⟩)) xs.length xs.length) rfl rfl (fun _ => x_assign rfl) ?_
   refine d_done ?_
   refine kn10 _ _ ?_
   refine seqK fun Q90 kn91 kr92 ke93 => ?_
   refine seqK fun Q94 kn95 kr96 ke97 => ?_
   refine region ?_
   refine st_q (v := .int .i64 ((1 : Nat) : Int)) (x_assign rfl) ?_
   refine st_nil ?_
   refine kn95 _ _ ?_
   refine blockK fun Q98 kn99 kr100 kx101 kb102 => ?_
   refine loopK (α := Unit) (fun _ => [(0, .slice a xs.length ca), (1, .func (.func fc) #[] #[]), (5, v81), (6, .slice ((some ⟨w13.heap.size, 0, none⟩)) xs.length xs.length), (7, .int .i64 ((1 : Nat) : Int))]) (fun _ w103 => w82 = w103 ∧ True) (fun _ => 0) () ⟨rfl, rfl, rfl, rfl, rfl, trivial⟩ ?_ ?_
   ·
    refine ⟨rfl, ?_⟩
    try dsimp only
    all_goals exact trivial
   ·
    rintro τ104 _ w105 ⟨rfl, _⟩
    intro Q106 kn107 kr108 ke109
    refine seqK fun Q110 kn111 kr112 ke113 => ?_
    refine seqK fun Q114 kn115 kr116 ke117 => ?_
    refine region ?_
    refine st_q (v := .int .i64 ((1 : Nat) : Int)) (x_move rfl) ?_
    refine st_q (v := .slice a xs.length ca) (x_move rfl) ?_
    refine st_q (v := .int .i64 ((xs.length : Nat) : Int)) (x_lenSl rfl Tryd.underlying106 rfl) ?_
    refine st_q (v := .bool (decide (1 < xs.length))) (x_lssN rfl rfl) ?_
    refine st_nil ?_
    refine kn115 _ _ ?_
    refine cnd (p := 1 < xs.length) rfl (fun h118 => ?_) (fun h118 => ?_)
    ·
     exact absurd h118 (by omega)
    ·
     refine exit ?_
     refine ke113 _ _ _ ?_
     refine ke109 _ _ _ ?_
     refine kb102 _ _ ?_
     refine kn91 _ _ ?_
     refine seqK fun Q119 kn120 kr121 ke122 => ?_
     refine region ?_
     refine st_q (v := v81) (x_move rfl) ?_
     refine st_q (v := v81) (x_assign rfl) ?_
     refine st_nil ?_
     refine kn120 _ _ ?_
     refine ret ?_
     refine leave1 (P := Tryd.prog) (fn := Tryd.f52) (t := 4) (v := v81) rfl rfl ?_
     exact ⟨_, rfl, hE86, by rw [show srt c xs = xs by rw [List.eq_nil_of_length_eq_zero hz]; rfl]; exact hO83.weak (by omega)⟩

theorem sort52 (fc : Nat) (c : (Row × Row) → (Row × Row) → Int) (hcf : CF Tryd.prog fc) (hL : Lawful c) (g : Value) (hg : ToldK g fc) (G : (Row × Row) → Prop) (xs : List (Row × Row)) (hG : ∀ x ∈ xs, G x) (vl : Value) (w0 : World) (hcmp : ∀ (x y : Row × Row) (w : World), G x → G y → Below w0.heap.size w0 w → Calls Tryd.prog fc #[.agg (enK x).toArray, .agg (enK y).toArray] w fun e w' => e = .returned (.int .i64 (c x y)) ∧ Ext w w') (hl : Src w0.heap vl xs.length 2 (flat enK xs)) (hn : xs.length ≤ 2932031007402) : Calls Tryd.prog 52 #[vl, g] w0 fun e w' => ∃ v, e = .returned v ∧ Ext w0 w' ∧ Own w'.heap w0.heap.size 109 2 v xs.length (flat enK (srt c xs)) := by
  rcases Nat.eq_zero_or_pos xs.length with hz | hz
  · exact sort52z fc c hcf hL g hg G xs hG vl w0 hcmp hl hn hz
  · exact sort52p fc c hcf hL g hg G xs hG vl w0 hcmp hl hn hz
set_option maxHeartbeats 4000000 in
theorem told70 (f : Nat) (w0 : World) : Calls Tryd.prog 70 #[.func (.func f) #[] #[]] w0 fun e w' => e = .returned (.func (.func f) #[] #[]) ∧ w0 = w' := by
  refine enter Tryd.func70 rfl 6 Tryd.ntmps70 rfl ?_
  refine seqK fun Q1 kn2 kr3 ke4 => ?_
  refine region ?_
  refine st_q (v := .nilFunc) (x_assign rfl) ?_
  refine st_nil ?_
  refine kn2 _ _ ?_
  refine seqK fun Q5 kn6 kr7 ke8 => ?_
  refine seqK fun Q9 kn10 kr11 ke12 => ?_
  refine region ?_
  refine st_q (v := .func (.func f) #[] #[]) (x_move rfl) ?_
  refine st_q (v := .bool false) (x_eqlFnil Tryd.underlying111 rfl rfl) ?_
  refine st_nil ?_
  refine kn10 _ _ ?_
  refine cndF rfl ?_
  refine skip ?_
  refine kn6 _ _ ?_
  refine seqK fun Q13 kn14 kr15 ke16 => ?_
  refine region ?_
  refine st_q (v := .func (.func f) #[] #[]) (x_move rfl) ?_
  refine st_q (v := .func (.func f) #[] #[]) (x_assign rfl) ?_
  refine st_nil ?_
  refine kn14 _ _ ?_
  refine ret ?_
  refine leave1 (P := Tryd.prog) (fn := Tryd.f70) (t := 2) (v := .func (.func f) #[] #[]) rfl rfl ?_
  exact ⟨rfl, rfl⟩

theorem toldF70 (f : Nat) : ToldK (.func (.func f) #[] #[]) f := fun w => told70 f w
set_option maxHeartbeats 4000000 in
theorem set42 (fc : Nat) (c : ByteArray → ByteArray → Int) (hcf : CF Tryd.prog fc) (hL : Lawful c) (g : Value) (hg : ToldX g fc) (G : ByteArray → Prop) (xs : List (ByteArray)) (hG : ∀ x ∈ xs, G x) (vl : Value) (w0 : World) (hcmp : ∀ (x y : ByteArray) (w : World), G x → G y → Below w0.heap.size w0 w → Calls Tryd.prog fc #[.string x, .string y] w fun e w' => e = .returned (.int .i64 (c x y)) ∧ Ext w w') (hl : Src w0.heap vl xs.length 1 (flat enS xs)) (hn : xs.length ≤ 8796093022208) : Calls Tryd.prog 42 #[vl, g] w0 fun e w' => ∃ v, e = .returned v ∧ Ext w0 w' ∧ Own w'.heap w0.heap.size 9 1 v (ddL c (srt c xs)).length (flat enS (ddL c (srt c xs))) := by
  have hE0 : Below w0.heap.size w0 w0 := Below.refl _ _
  have hz0 := hE0.le
  obtain ⟨a, ca, rfl, hca, hca1⟩ := hl.form
  obtain ⟨Y, hY⟩ : ∃ Y, Y = srt c xs := ⟨_, rfl⟩
  have hYl : Y.length = xs.length := by rw [hY, srt_length]
  refine enter Tryd.func42 rfl 39 Tryd.ntmps42 rfl ?_
  refine seqK fun Q1 kn2 kr3 ke4 => ?_
  refine region ?_
  refine st_q (v := .slice none 0 0) (x_assign rfl) ?_
  refine st_nil ?_
  refine kn2 _ _ ?_
  refine seqK fun Q5 kn6 kr7 ke8 => ?_
  refine region ?_
  refine st_q (v := g) (x_move rfl) ?_
  refine st_c (t_call [g] T.cf65 rfl rfl) (hg _) ?_
  rintro _ _ ⟨rfl, rfl⟩
  refine ⟨_, rfl, ?_⟩
  refine st_q (v := .func (.func fc) #[] #[]) (x_assign rfl) ?_
  refine st_nil ?_
  refine kn6 _ _ ?_
  refine seqK fun Q9 kn10 kr11 ke12 => ?_
  refine region ?_
  refine st_q (v := .slice none 0 0) (x_assign rfl) ?_
  refine st_nil ?_
  refine kn10 _ _ ?_
  refine seqK fun Q13 kn14 kr15 ke16 => ?_
  refine seqK fun Q17 kn18 kr19 ke20 => ?_
  refine region ?_
  refine st_q (v := .slice a xs.length ca) (x_move rfl) ?_
  refine st_q (v := .func (.func fc) #[] #[]) (x_move rfl) ?_
  refine st_c (t_call [.slice a xs.length ca, .func (.func fc) #[] #[]] T.cf66 rfl rfl) (sort66 fc c hcf hL (.func (.func fc) #[] #[]) (toldF65 fc) G xs hG _ _ (fun x y w hx hy hb => hcmp x y w hx hy (Ext.trans' hE0 (Nat.le_refl _) (hb.mono (by omega)))) (hl.below hE0) (by omega)) ?_
  rintro _ w21 ⟨vS, rfl, hx22, hO23⟩
  rw [← hY, ← hYl] at hO23
  refine ⟨_, rfl, ?_⟩
  have hE24 : Below w0.heap.size w0 w21 := hx22.e hE0 (Nat.le_refl _)
  have hz25 := hE24.le
  have hs26 := hx22.size
  have hO27 := hO23.weak (lo' := w0.heap.size) (by omega)
  obtain ⟨aS, cS, rfl, hcS, hcS1⟩ := hO27.src.form
  have hvS : ∀ k, Value.ownBlock (.slice aS Y.length cS) = some k → k < w21.heap.size := fun k e => (hO27.lt e).2
  obtain ⟨lo, hlo, hlo2⟩ : ∃ lo, lo = w21.heap.size ∧ w0.heap.size ≤ lo := ⟨_, rfl, by omega⟩
  rw [← hlo] at hvS
  refine st_q (v := .int .i64 ((Y.length : Nat) : Int)) (x_lenSl rfl Tryd.underlying42 rfl) ?_
  refine st_q (v := .int .i64 ((0 : Nat) : Int)) (x_move rfl) ?_
  refine st_nil ?_
  refine kn18 _ _ ?_
  refine blockK fun Q28 kn29 kr30 kx31 kb32 => ?_
  refine loopK (α := Nat × Value) (fun x => [(1, .func (.func fc) #[] #[]), (5, x.2), (12, .slice aS Y.length cS), (13, .int .i64 ((Y.length : Nat) : Int)), (14, .int .i64 ((x.1 : Nat) : Int))]) (fun x w33 => Below w0.heap.size w0 w33 ∧ x.1 ≤ Y.length ∧ lo ≤ w33.heap.size ∧ Own w33.heap w0.heap.size 9 1 (.slice aS Y.length cS) Y.length (flat enS Y) ∧ Own w33.heap lo 9 1 x.2 (ddL c (Y.take x.1)).length (flat enS (ddL c (Y.take x.1)))) (fun x => Y.length - x.1) (0, .slice none 0 0) ⟨rfl, rfl, rfl, rfl, rfl, trivial⟩ ?_ ?_
  ·
   refine ⟨hE24, ?_⟩
   try dsimp only
   exact ⟨Nat.zero_le _, by omega, hO27, Own.nil _ _ _ _⟩
  ·
   rintro τ34 ⟨i, v⟩ w35 ⟨hx36, ⟨hi, hlo3, hS, hO⟩⟩
   try dsimp only at hi hlo3 hS hO
   have hz37 := hx36.le
   intro Q38 kn39 kr40 ke41
   have hm : (ddL c (Y.take i)).length ≤ i := by have := ddL_len (c := c) (Y.take i); rw [List.length_take] at this; omega
   have hDm : ∀ y ∈ ddL c (Y.take i), y ∈ xs := fun y hy => by have := List.mem_of_mem_take (ddL_mem _ y hy); rw [hY, srt_mem] at this; exact this
   obtain ⟨D, hD⟩ : ∃ D, D = ddL c (Y.take i) := ⟨_, rfl⟩
   rw [← hD] at hO hm hDm
   obtain ⟨aD, cD, rfl, hcD, hcD1⟩ := hO.src.form
   refine seqK fun Q42 kn43 kr44 ke45 => ?_
   refine region ?_
   refine st_q (v := .bool (decide (i < Y.length))) (x_lssN rfl rfl) ?_
   refine st_nil ?_
   refine kn43 _ _ ?_
   refine seqK fun Q46 kn47 kr48 ke49 => ?_
   refine cnd (p := i < Y.length) rfl (fun h50 => ?_) (fun h50 => ?_)
   ·
    refine skip ?_
    refine kn47 _ _ ?_
    refine seqK fun Q51 kn52 kr53 ke54 => ?_
    refine blockK fun Q55 kn56 kr57 kx58 kb59 => ?_
    refine seqK fun Q60 kn61 kr62 ke63 => ?_
    refine region ?_
    obtain ⟨b64, o65, ha66, hc67⟩ := hS.src.at (by omega)
    refine st_q (v := .pointer (some ⟨b64, o65 + i * 1, none⟩)) (x_index' T.sl42 rfl ha66 rfl (by omega)) ?_
    refine st_q (v := .string (el Y i)) (x_load1 T.na9 rfl (hc67.elem enS_len (i := i) (by omega))) ?_
    refine st_q (v := .string (el Y i)) (x_assign rfl) ?_
    refine st_nil ?_
    refine kn61 _ _ ?_
    refine seqK fun Q68 kn69 kr70 ke71 => ?_
    refine region ?_
    refine st_q (v := .slice aD D.length cD) (x_move rfl) ?_
    refine st_q (v := .int .i64 ((D.length : Nat) : Int)) (x_lenSl rfl Tryd.underlying42 rfl) ?_
    refine st_q (v := .bool (decide (D.length = 0))) (x_eqlN rfl rfl) ?_
    refine st_if (p := D.length = 0) (x_move rfl) (fun h72 => ?_) (fun h72 => ?_)
    ·
     refine st_gn 3 21 rfl rfl (by decide) rfl ?_
     refine st_gn 3 21 rfl rfl (by decide) rfl ?_
     refine st_gn 3 21 rfl rfl (by decide) rfl ?_
     refine st_gn 3 21 rfl rfl (by decide) rfl ?_
     refine st_gn 3 21 rfl rfl (by decide) rfl ?_
     refine st_gn 3 21 rfl rfl (by decide) rfl ?_
     refine st_gn 3 21 rfl rfl (by decide) rfl ?_
     refine st_gn 3 21 rfl rfl (by decide) rfl ?_
     refine st_gn 3 21 rfl rfl (by decide) rfl ?_
     refine st_gn 3 21 rfl rfl (by decide) rfl ?_
     refine st_q (v := .bool true) (x_pickT rfl rfl) ?_
     refine st_nil ?_
     refine kn69 _ _ ?_
     refine cndT rfl ?_
     refine region ?_
     refine st_q (v := .slice aD D.length cD) (x_move rfl) ?_
     refine st_q (v := .string (el Y i)) (x_move rfl) ?_
     refine st_e (e_buildSlice (cs := [.string (el Y i)]) (e := 9) (fun _ => by kernel_rfl) ?_)
     intro w73 hA74
     have hx75 := hA74.ext
     have hs76 := hA74.size
     have hB77 : Blk w73.heap w35.heap.size [.string (el Y i)] 9 := hA74.new
     have hF78 := hS.ext hx75
     have hF79 := hO.ext hx75
     have hF80 := hc67.ext hx75
     have hE81 : Below w0.heap.size w0 w73 := hx75.e hx36 (Nat.le_refl _)
     have hz82 := hE81.le
     have hs83 := hx75.size
     refine st_e (e_appendX T.sl42 rfl rfl hF79 (hB77.src1 (k := 1) (m := 1) rfl (by omega)) (ones (by rfl)) (by omega) (by decide) (by omega) ?_)
     intro v84 w85 hO86 hG87 hN88 hW89
     have hF90 := hF78.grown hG87 (fun b hb e => by have := (hF79.lt e); have := (hF78.lt hb); first | (clear e hb; omega) | (have := hvS _ hb; clear e hb; omega))
     have hE92 : Below w0.heap.size w0 w85 := grown_below hG87 hE81 (Nat.le_refl _) (fun b hb => (by have := (hF79.lt hb).1; clear hb; omega))
     have hz93 := hE92.le
     have hs94 := hG87.size
     have hO95 := Own.snoc (enc := enS) (u := el Y i) hO86
     obtain ⟨a96, c97, rfl, hm98, hm99⟩ := hO95.src.form
     refine st_q (v := .slice a96 ((D.length + 1)) c97) (x_assign rfl) ?_
     refine st_nil ?_
     refine kn56 _ _ ?_
     refine kn52 _ _ ?_
     refine region ?_
     refine st_q (v := .int .i64 (((i + 1) : Nat) : Int)) (x_addN rfl rfl (by omega)) ?_
     refine st_q (v := .int .i64 (((i + 1) : Nat) : Int)) (x_move rfl) ?_
     refine st_nil ?_
     refine kn39 _ ((i + 1), .slice a96 ((D.length + 1)) c97) _ ⟨rfl, rfl, rfl, rfl, rfl, trivial⟩ ⟨hE92, ?_⟩ ?_
     ·
      try dsimp only
      have e : ddL c (Y.take (i + 1)) = (D ++ [el Y i]) := by rw [take_succ_el (by omega), ddL_snoc, ← hD, ddS, if_pos (by first | exact .inl (by omega) | exact .inr (by assumption) | skip)]
      exact ⟨by omega, by omega, hF90, by rw [e]; simpa using hO95⟩
     ·
      (try dsimp only); omega
    ·
     refine st_gq 3 21 rfl rfl (by decide) ?_
     refine st_q (v := .func (.func fc) #[] #[]) (x_move rfl) ?_
     refine st_gq 3 21 rfl rfl (by decide) ?_
     refine st_q (v := .slice aD D.length cD) (x_move rfl) ?_
     refine st_gq 3 21 rfl rfl (by decide) ?_
     refine st_q (v := .slice aD D.length cD) (x_move rfl) ?_
     refine st_gq 3 21 rfl rfl (by decide) ?_
     refine st_q (v := .int .i64 ((D.length : Nat) : Int)) (x_lenSl rfl Tryd.underlying42 rfl) ?_
     refine st_gq 3 21 rfl rfl (by decide) ?_
     refine st_q (v := .int .i64 (((D.length - 1) : Nat) : Int)) (x_subN rfl rfl (by omega) (by omega)) ?_
     refine st_gq 3 21 rfl rfl (by decide) ?_
     obtain ⟨b100, o101, ha102, hc103⟩ := hO.src.at (by omega)
     refine st_q (v := .pointer (some ⟨b100, o101 + ((D.length - 1)) * 1, none⟩)) (x_index' T.sl42 rfl ha102 rfl (by omega)) ?_
     refine st_gq 3 21 rfl rfl (by decide) ?_
     refine st_q (v := .string (el D ((D.length - 1)))) (x_load1 T.na9 rfl (hc103.elem enS_len (i := (D.length - 1)) (by omega))) ?_
     refine st_gq 3 21 rfl rfl (by decide) ?_
     refine st_q (v := .string (el Y i)) (x_move rfl) ?_
     refine st_gq 3 21 rfl rfl (by decide) ?_
     refine st_c (t_call [.string (el D ((D.length - 1))), .string (el Y i)] hcf rfl rfl) (hcmp (el D (D.length - 1)) (el Y i) _ (hG _ (hDm _ (el_mem (by omega)))) (hG _ (by have := el_mem (xs := Y) (i := i) (by omega); rw [hY, srt_mem] at this; rw [hY]; exact this)) hx36) ?_
     rintro _ w104 ⟨rfl, hx105⟩
     refine ⟨_, rfl, ?_⟩
     have hF106 := hS.ext hx105
     have hF107 := hO.ext hx105
     have hF108 := hc67.ext hx105
     have hF109 := hc103.ext hx105
     have hE110 : Below w0.heap.size w0 w104 := hx105.e hx36 (Nat.le_refl _)
     have hz111 := hE110.le
     have hs112 := hx105.size
     refine st_gq 3 21 rfl rfl (by decide) ?_
     refine st_q (v := .bool (decide ((c (el D (D.length - 1)) (el Y i)) ≠ 0))) (x_neq rfl rfl) ?_
     refine st_q (v := .bool (decide ((c (el D (D.length - 1)) (el Y i)) ≠ 0))) (x_pickF rfl rfl) ?_
     refine st_nil ?_
     refine kn69 _ _ ?_
     refine cnd (p := (c (el D (D.length - 1)) (el Y i)) ≠ 0) rfl (fun h113 => ?_) (fun h113 => ?_)
     ·
      refine region ?_
      refine st_q (v := .slice aD D.length cD) (x_move rfl) ?_
      refine st_q (v := .string (el Y i)) (x_move rfl) ?_
      refine st_e (e_buildSlice (cs := [.string (el Y i)]) (e := 9) (fun _ => by kernel_rfl) ?_)
      intro w114 hA115
      have hx116 := hA115.ext
      have hs117 := hA115.size
      have hB118 : Blk w114.heap w104.heap.size [.string (el Y i)] 9 := hA115.new
      have hF119 := hF106.ext hx116
      have hF120 := hF107.ext hx116
      have hF121 := hF108.ext hx116
      have hF122 := hF109.ext hx116
      have hE123 : Below w0.heap.size w0 w114 := hx116.e hE110 (Nat.le_refl _)
      have hz124 := hE123.le
      have hs125 := hx116.size
      refine st_e (e_appendX T.sl42 rfl rfl hF120 (hB118.src1 (k := 1) (m := 1) rfl (by omega)) (ones (by rfl)) (by omega) (by decide) (by omega) ?_)
      intro v126 w127 hO128 hG129 hN130 hW131
      have hF132 := hF119.grown hG129 (fun b hb e => by have := (hF120.lt e); have := (hF119.lt hb); first | (clear e hb; omega) | (have := hvS _ hb; clear e hb; omega))
      have hE135 : Below w0.heap.size w0 w127 := grown_below hG129 hE123 (Nat.le_refl _) (fun b hb => (by have := (hF120.lt hb).1; clear hb; omega))
      have hz136 := hE135.le
      have hs137 := hG129.size
      have hO138 := Own.snoc (enc := enS) (u := el Y i) hO128
      obtain ⟨a139, c140, rfl, hm141, hm142⟩ := hO138.src.form
      refine st_q (v := .slice a139 ((D.length + 1)) c140) (x_assign rfl) ?_
      refine st_nil ?_
      refine kn56 _ _ ?_
      refine kn52 _ _ ?_
      refine region ?_
      refine st_q (v := .int .i64 (((i + 1) : Nat) : Int)) (x_addN rfl rfl (by omega)) ?_
      refine st_q (v := .int .i64 (((i + 1) : Nat) : Int)) (x_move rfl) ?_
      refine st_nil ?_
      refine kn39 _ ((i + 1), .slice a139 ((D.length + 1)) c140) _ ⟨rfl, rfl, rfl, rfl, rfl, trivial⟩ ⟨hE135, ?_⟩ ?_
      ·
       try dsimp only
       have e : ddL c (Y.take (i + 1)) = (D ++ [el Y i]) := by rw [take_succ_el (by omega), ddL_snoc, ← hD, ddS, if_pos (by first | exact .inl (by omega) | exact .inr (by assumption) | skip)]
       exact ⟨by omega, by omega, hF132, by rw [e]; simpa using hO138⟩
      ·
       (try dsimp only); omega
     ·
      refine skip ?_
      refine kn56 _ _ ?_
      refine kn52 _ _ ?_
      refine region ?_
      refine st_q (v := .int .i64 (((i + 1) : Nat) : Int)) (x_addN rfl rfl (by omega)) ?_
      refine st_q (v := .int .i64 (((i + 1) : Nat) : Int)) (x_move rfl) ?_
      refine st_nil ?_
      refine kn39 _ ((i + 1), .slice aD D.length cD) _ ⟨rfl, rfl, rfl, rfl, rfl, trivial⟩ ⟨hE110, ?_⟩ ?_
      ·
       try dsimp only
       have e : ddL c (Y.take (i + 1)) = D := by rw [take_succ_el (by omega), ddL_snoc, ← hD, ddS, if_neg (fun e => e.elim (by assumption) (by assumption))]
       exact ⟨by omega, by omega, hF106, by rw [e]; exact hF107⟩
      ·
       (try dsimp only); omega
   ·
    refine exit ?_
    refine ke49 _ _ _ ?_
    refine ke41 _ _ _ ?_
    refine kb32 _ _ ?_
    refine kn14 _ _ ?_
    refine seqK fun Q143 kn144 kr145 ke146 => ?_
    refine region ?_
    refine st_q (v := .slice aD D.length cD) (x_move rfl) ?_
    refine st_q (v := .slice aD D.length cD) (x_assign rfl) ?_
    refine st_nil ?_
    refine kn144 _ _ ?_
    refine ret ?_
    refine leave1 (P := Tryd.prog) (fn := Tryd.f42) (t := 4) (v := .slice aD D.length cD) rfl rfl ?_
    have e : ddL c (srt c xs) = D := by rw [← hY, hD, List.take_of_length_le (by omega)]
    rw [e]
    exact ⟨_, rfl, hx36, hO.weak (by omega)⟩

set_option maxHeartbeats 4000000 in
theorem set69 (fc : Nat) (c : Row → Row → Int) (hcf : CF Tryd.prog fc) (hL : Lawful c) (g : Value) (hg : ToldR g fc) (G : Row → Prop) (xs : List (Row)) (hG : ∀ x ∈ xs, G x) (vl : Value) (w0 : World) (hcmp : ∀ (x y : Row) (w : World), G x → G y → Below w0.heap.size w0 w → Calls Tryd.prog fc #[.slice x.1.1 x.2.length x.1.2, .slice y.1.1 y.2.length y.1.2] w fun e w' => e = .returned (.int .i64 (c x y)) ∧ Ext w w') (hl : Src w0.heap vl xs.length 1 (flat enR xs)) (hn : xs.length ≤ 5864062014805) : Calls Tryd.prog 69 #[vl, g] w0 fun e w' => ∃ v, e = .returned v ∧ Ext w0 w' ∧ Own w'.heap w0.heap.size 42 1 v (ddL c (srt c xs)).length (flat enR (ddL c (srt c xs))) := by
  have hE0 : Below w0.heap.size w0 w0 := Below.refl _ _
  have hz0 := hE0.le
  obtain ⟨a, ca, rfl, hca, hca1⟩ := hl.form
  obtain ⟨Y, hY⟩ : ∃ Y, Y = srt c xs := ⟨_, rfl⟩
  have hYl : Y.length = xs.length := by rw [hY, srt_length]
  refine enter Tryd.func69 rfl 39 Tryd.ntmps69 rfl ?_
  refine seqK fun Q1 kn2 kr3 ke4 => ?_
  refine region ?_
  refine st_q (v := .slice none 0 0) (x_assign rfl) ?_
  refine st_nil ?_
  refine kn2 _ _ ?_
  refine seqK fun Q5 kn6 kr7 ke8 => ?_
  refine region ?_
  refine st_q (v := g) (x_move rfl) ?_
  refine st_c (t_call [g] T.cf74 rfl rfl) (hg _) ?_
  rintro _ _ ⟨rfl, rfl⟩
  refine ⟨_, rfl, ?_⟩
  refine st_q (v := .func (.func fc) #[] #[]) (x_assign rfl) ?_
  refine st_nil ?_
  refine kn6 _ _ ?_
  refine seqK fun Q9 kn10 kr11 ke12 => ?_
  refine region ?_
  refine st_q (v := .slice none 0 0) (x_assign rfl) ?_
  refine st_nil ?_
  refine kn10 _ _ ?_
  refine seqK fun Q13 kn14 kr15 ke16 => ?_
  refine seqK fun Q17 kn18 kr19 ke20 => ?_
  refine region ?_
  refine st_q (v := .slice a xs.length ca) (x_move rfl) ?_
  refine st_q (v := .func (.func fc) #[] #[]) (x_move rfl) ?_
  refine st_c (t_call [.slice a xs.length ca, .func (.func fc) #[] #[]] T.cf75 rfl rfl) (sort75 fc c hcf hL (.func (.func fc) #[] #[]) (toldF74 fc) G xs hG _ _ (fun x y w hx hy hb => hcmp x y w hx hy (Ext.trans' hE0 (Nat.le_refl _) (hb.mono (by omega)))) (hl.below hE0) (by omega)) ?_
  rintro _ w21 ⟨vS, rfl, hx22, hO23⟩
  rw [← hY, ← hYl] at hO23
  refine ⟨_, rfl, ?_⟩
  have hE24 : Below w0.heap.size w0 w21 := hx22.e hE0 (Nat.le_refl _)
  have hz25 := hE24.le
  have hs26 := hx22.size
  have hO27 := hO23.weak (lo' := w0.heap.size) (by omega)
  obtain ⟨aS, cS, rfl, hcS, hcS1⟩ := hO27.src.form
  have hvS : ∀ k, Value.ownBlock (.slice aS Y.length cS) = some k → k < w21.heap.size := fun k e => (hO27.lt e).2
  obtain ⟨lo, hlo, hlo2⟩ : ∃ lo, lo = w21.heap.size ∧ w0.heap.size ≤ lo := ⟨_, rfl, by omega⟩
  rw [← hlo] at hvS
  refine st_q (v := .int .i64 ((Y.length : Nat) : Int)) (x_lenSl rfl Tryd.underlying27 rfl) ?_
  refine st_q (v := .int .i64 ((0 : Nat) : Int)) (x_move rfl) ?_
  refine st_nil ?_
  refine kn18 _ _ ?_
  refine blockK fun Q28 kn29 kr30 kx31 kb32 => ?_
  refine loopK (α := Nat × Value) (fun x => [(1, .func (.func fc) #[] #[]), (5, x.2), (12, .slice aS Y.length cS), (13, .int .i64 ((Y.length : Nat) : Int)), (14, .int .i64 ((x.1 : Nat) : Int))]) (fun x w33 => Below w0.heap.size w0 w33 ∧ x.1 ≤ Y.length ∧ lo ≤ w33.heap.size ∧ Own w33.heap w0.heap.size 42 1 (.slice aS Y.length cS) Y.length (flat enR Y) ∧ Own w33.heap lo 42 1 x.2 (ddL c (Y.take x.1)).length (flat enR (ddL c (Y.take x.1)))) (fun x => Y.length - x.1) (0, .slice none 0 0) ⟨rfl, rfl, rfl, rfl, rfl, trivial⟩ ?_ ?_
  ·
   refine ⟨hE24, ?_⟩
   try dsimp only
   exact ⟨Nat.zero_le _, by omega, hO27, Own.nil _ _ _ _⟩
  ·
   rintro τ34 ⟨i, v⟩ w35 ⟨hx36, ⟨hi, hlo3, hS, hO⟩⟩
   try dsimp only at hi hlo3 hS hO
   have hz37 := hx36.le
   intro Q38 kn39 kr40 ke41
   have hm : (ddL c (Y.take i)).length ≤ i := by have := ddL_len (c := c) (Y.take i); rw [List.length_take] at this; omega
   have hDm : ∀ y ∈ ddL c (Y.take i), y ∈ xs := fun y hy => by have := List.mem_of_mem_take (ddL_mem _ y hy); rw [hY, srt_mem] at this; exact this
   obtain ⟨D, hD⟩ : ∃ D, D = ddL c (Y.take i) := ⟨_, rfl⟩
   rw [← hD] at hO hm hDm
   obtain ⟨aD, cD, rfl, hcD, hcD1⟩ := hO.src.form
   refine seqK fun Q42 kn43 kr44 ke45 => ?_
   refine region ?_
   refine st_q (v := .bool (decide (i < Y.length))) (x_lssN rfl rfl) ?_
   refine st_nil ?_
   refine kn43 _ _ ?_
   refine seqK fun Q46 kn47 kr48 ke49 => ?_
   refine cnd (p := i < Y.length) rfl (fun h50 => ?_) (fun h50 => ?_)
   ·
    refine skip ?_
    refine kn47 _ _ ?_
    refine seqK fun Q51 kn52 kr53 ke54 => ?_
    refine blockK fun Q55 kn56 kr57 kx58 kb59 => ?_
    refine seqK fun Q60 kn61 kr62 ke63 => ?_
    refine region ?_
    obtain ⟨b64, o65, ha66, hc67⟩ := hS.src.at (by omega)
    refine st_q (v := .pointer (some ⟨b64, o65 + i * 1, none⟩)) (x_index' T.sl27 rfl ha66 rfl (by omega)) ?_
    refine st_q (v := .slice ((el Y i).1.1) ((el Y i).2.length) ((el Y i).1.2)) (x_load1 T.na42 rfl (hc67.elem enR_len (i := i) (by omega))) ?_
    refine st_q (v := .slice ((el Y i).1.1) ((el Y i).2.length) ((el Y i).1.2)) (x_assign rfl) ?_
    refine st_nil ?_
    refine kn61 _ _ ?_
    refine seqK fun Q68 kn69 kr70 ke71 => ?_
    refine region ?_
    refine st_q (v := .slice aD D.length cD) (x_move rfl) ?_
    refine st_q (v := .int .i64 ((D.length : Nat) : Int)) (x_lenSl rfl Tryd.underlying27 rfl) ?_
    refine st_q (v := .bool (decide (D.length = 0))) (x_eqlN rfl rfl) ?_
    refine st_if (p := D.length = 0) (x_move rfl) (fun h72 => ?_) (fun h72 => ?_)
    ·
     refine st_gn 3 21 rfl rfl (by decide) rfl ?_
     refine st_gn 3 21 rfl rfl (by decide) rfl ?_
     refine st_gn 3 21 rfl rfl (by decide) rfl ?_
     refine st_gn 3 21 rfl rfl (by decide) rfl ?_
     refine st_gn 3 21 rfl rfl (by decide) rfl ?_
     refine st_gn 3 21 rfl rfl (by decide) rfl ?_
     refine st_gn 3 21 rfl rfl (by decide) rfl ?_
     refine st_gn 3 21 rfl rfl (by decide) rfl ?_
     refine st_gn 3 21 rfl rfl (by decide) rfl ?_
     refine st_gn 3 21 rfl rfl (by decide) rfl ?_
     refine st_q (v := .bool true) (x_pickT rfl rfl) ?_
     refine st_nil ?_
     refine kn69 _ _ ?_
     refine cndT rfl ?_
     refine region ?_
     refine st_q (v := .slice aD D.length cD) (x_move rfl) ?_
     refine st_q (v := .slice ((el Y i).1.1) ((el Y i).2.length) ((el Y i).1.2)) (x_move rfl) ?_
     refine st_e (e_buildSlice (cs := [.slice ((el Y i).1.1) ((el Y i).2.length) ((el Y i).1.2)]) (e := 42) (fun _ => by kernel_rfl) ?_)
     intro w73 hA74
     have hx75 := hA74.ext
     have hs76 := hA74.size
     have hB77 : Blk w73.heap w35.heap.size [.slice ((el Y i).1.1) ((el Y i).2.length) ((el Y i).1.2)] 42 := hA74.new
     have hF78 := hS.ext hx75
     have hF79 := hO.ext hx75
     have hF80 := hc67.ext hx75
     have hE81 : Below w0.heap.size w0 w73 := hx75.e hx36 (Nat.le_refl _)
     have hz82 := hE81.le
     have hs83 := hx75.size
     refine st_e (e_appendX T.sl27 rfl rfl hF79 (hB77.src1 (k := 1) (m := 1) rfl (by omega)) (ones (by rfl)) (by omega) (by decide) (by omega) ?_)
     intro v84 w85 hO86 hG87 hN88 hW89
     have hF90 := hF78.grown hG87 (fun b hb e => by have := (hF79.lt e); have := (hF78.lt hb); first | (clear e hb; omega) | (have := hvS _ hb; clear e hb; omega))
     have hE92 : Below w0.heap.size w0 w85 := grown_below hG87 hE81 (Nat.le_refl _) (fun b hb => (by have := (hF79.lt hb).1; clear hb; omega))
     have hz93 := hE92.le
     have hs94 := hG87.size
     have hO95 := Own.snoc (enc := enR) (u := el Y i) hO86
     obtain ⟨a96, c97, rfl, hm98, hm99⟩ := hO95.src.form
     refine st_q (v := .slice a96 ((D.length + 1)) c97) (x_assign rfl) ?_
     refine st_nil ?_
     refine kn56 _ _ ?_
     refine kn52 _ _ ?_
     refine region ?_
     refine st_q (v := .int .i64 (((i + 1) : Nat) : Int)) (x_addN rfl rfl (by omega)) ?_
     refine st_q (v := .int .i64 (((i + 1) : Nat) : Int)) (x_move rfl) ?_
     refine st_nil ?_
     refine kn39 _ ((i + 1), .slice a96 ((D.length + 1)) c97) _ ⟨rfl, rfl, rfl, rfl, rfl, trivial⟩ ⟨hE92, ?_⟩ ?_
     ·
      try dsimp only
      have e : ddL c (Y.take (i + 1)) = (D ++ [el Y i]) := by rw [take_succ_el (by omega), ddL_snoc, ← hD, ddS, if_pos (by first | exact .inl (by omega) | exact .inr (by assumption) | skip)]
      exact ⟨by omega, by omega, hF90, by rw [e]; simpa using hO95⟩
     ·
      (try dsimp only); omega
    ·
     refine st_gq 3 21 rfl rfl (by decide) ?_
     refine st_q (v := .func (.func fc) #[] #[]) (x_move rfl) ?_
     refine st_gq 3 21 rfl rfl (by decide) ?_
     refine st_q (v := .slice aD D.length cD) (x_move rfl) ?_
     refine st_gq 3 21 rfl rfl (by decide) ?_
     refine st_q (v := .slice aD D.length cD) (x_move rfl) ?_
     refine st_gq 3 21 rfl rfl (by decide) ?_
     refine st_q (v := .int .i64 ((D.length : Nat) : Int)) (x_lenSl rfl Tryd.underlying27 rfl) ?_
     refine st_gq 3 21 rfl rfl (by decide) ?_
     refine st_q (v := .int .i64 (((D.length - 1) : Nat) : Int)) (x_subN rfl rfl (by omega) (by omega)) ?_
     refine st_gq 3 21 rfl rfl (by decide) ?_
     obtain ⟨b100, o101, ha102, hc103⟩ := hO.src.at (by omega)
     refine st_q (v := .pointer (some ⟨b100, o101 + ((D.length - 1)) * 1, none⟩)) (x_index' T.sl27 rfl ha102 rfl (by omega)) ?_
     refine st_gq 3 21 rfl rfl (by decide) ?_
     refine st_q (v := .slice ((el D ((D.length - 1))).1.1) ((el D ((D.length - 1))).2.length) ((el D ((D.length - 1))).1.2)) (x_load1 T.na42 rfl (hc103.elem enR_len (i := (D.length - 1)) (by omega))) ?_
     refine st_gq 3 21 rfl rfl (by decide) ?_
     refine st_q (v := .slice ((el Y i).1.1) ((el Y i).2.length) ((el Y i).1.2)) (x_move rfl) ?_
     refine st_gq 3 21 rfl rfl (by decide) ?_
     refine st_c (t_call [.slice ((el D ((D.length - 1))).1.1) ((el D ((D.length - 1))).2.length) ((el D ((D.length - 1))).1.2), .slice ((el Y i).1.1) ((el Y i).2.length) ((el Y i).1.2)] hcf rfl rfl) (hcmp (el D (D.length - 1)) (el Y i) _ (hG _ (hDm _ (el_mem (by omega)))) (hG _ (by have := el_mem (xs := Y) (i := i) (by omega); rw [hY, srt_mem] at this; rw [hY]; exact this)) hx36) ?_
     rintro _ w104 ⟨rfl, hx105⟩
     refine ⟨_, rfl, ?_⟩
     have hF106 := hS.ext hx105
     have hF107 := hO.ext hx105
     have hF108 := hc67.ext hx105
     have hF109 := hc103.ext hx105
     have hE110 : Below w0.heap.size w0 w104 := hx105.e hx36 (Nat.le_refl _)
     have hz111 := hE110.le
     have hs112 := hx105.size
     refine st_gq 3 21 rfl rfl (by decide) ?_
     refine st_q (v := .bool (decide ((c (el D (D.length - 1)) (el Y i)) ≠ 0))) (x_neq rfl rfl) ?_
     refine st_q (v := .bool (decide ((c (el D (D.length - 1)) (el Y i)) ≠ 0))) (x_pickF rfl rfl) ?_
     refine st_nil ?_
     refine kn69 _ _ ?_
     refine cnd (p := (c (el D (D.length - 1)) (el Y i)) ≠ 0) rfl (fun h113 => ?_) (fun h113 => ?_)
     ·
      refine region ?_
      refine st_q (v := .slice aD D.length cD) (x_move rfl) ?_
      refine st_q (v := .slice ((el Y i).1.1) ((el Y i).2.length) ((el Y i).1.2)) (x_move rfl) ?_
      refine st_e (e_buildSlice (cs := [.slice ((el Y i).1.1) ((el Y i).2.length) ((el Y i).1.2)]) (e := 42) (fun _ => by kernel_rfl) ?_)
      intro w114 hA115
      have hx116 := hA115.ext
      have hs117 := hA115.size
      have hB118 : Blk w114.heap w104.heap.size [.slice ((el Y i).1.1) ((el Y i).2.length) ((el Y i).1.2)] 42 := hA115.new
      have hF119 := hF106.ext hx116
      have hF120 := hF107.ext hx116
      have hF121 := hF108.ext hx116
      have hF122 := hF109.ext hx116
      have hE123 : Below w0.heap.size w0 w114 := hx116.e hE110 (Nat.le_refl _)
      have hz124 := hE123.le
      have hs125 := hx116.size
      refine st_e (e_appendX T.sl27 rfl rfl hF120 (hB118.src1 (k := 1) (m := 1) rfl (by omega)) (ones (by rfl)) (by omega) (by decide) (by omega) ?_)
      intro v126 w127 hO128 hG129 hN130 hW131
      have hF132 := hF119.grown hG129 (fun b hb e => by have := (hF120.lt e); have := (hF119.lt hb); first | (clear e hb; omega) | (have := hvS _ hb; clear e hb; omega))
      have hE135 : Below w0.heap.size w0 w127 := grown_below hG129 hE123 (Nat.le_refl _) (fun b hb => (by have := (hF120.lt hb).1; clear hb; omega))
      have hz136 := hE135.le
      have hs137 := hG129.size
      have hO138 := Own.snoc (enc := enR) (u := el Y i) hO128
      obtain ⟨a139, c140, rfl, hm141, hm142⟩ := hO138.src.form
      refine st_q (v := .slice a139 ((D.length + 1)) c140) (x_assign rfl) ?_
      refine st_nil ?_
      refine kn56 _ _ ?_
      refine kn52 _ _ ?_
      refine region ?_
      refine st_q (v := .int .i64 (((i + 1) : Nat) : Int)) (x_addN rfl rfl (by omega)) ?_
      refine st_q (v := .int .i64 (((i + 1) : Nat) : Int)) (x_move rfl) ?_
      refine st_nil ?_
      refine kn39 _ ((i + 1), .slice a139 ((D.length + 1)) c140) _ ⟨rfl, rfl, rfl, rfl, rfl, trivial⟩ ⟨hE135, ?_⟩ ?_
      ·
       try dsimp only
       have e : ddL c (Y.take (i + 1)) = (D ++ [el Y i]) := by rw [take_succ_el (by omega), ddL_snoc, ← hD, ddS, if_pos (by first | exact .inl (by omega) | exact .inr (by assumption) | skip)]
       exact ⟨by omega, by omega, hF132, by rw [e]; simpa using hO138⟩
      ·
       (try dsimp only); omega
     ·
      refine skip ?_
      refine kn56 _ _ ?_
      refine kn52 _ _ ?_
      refine region ?_
      refine st_q (v := .int .i64 (((i + 1) : Nat) : Int)) (x_addN rfl rfl (by omega)) ?_
      refine st_q (v := .int .i64 (((i + 1) : Nat) : Int)) (x_move rfl) ?_
      refine st_nil ?_
      refine kn39 _ ((i + 1), .slice aD D.length cD) _ ⟨rfl, rfl, rfl, rfl, rfl, trivial⟩ ⟨hE110, ?_⟩ ?_
      ·
       try dsimp only
       have e : ddL c (Y.take (i + 1)) = D := by rw [take_succ_el (by omega), ddL_snoc, ← hD, ddS, if_neg (fun e => e.elim (by assumption) (by assumption))]
       exact ⟨by omega, by omega, hF106, by rw [e]; exact hF107⟩
      ·
       (try dsimp only); omega
   ·
    refine exit ?_
    refine ke49 _ _ _ ?_
    refine ke41 _ _ _ ?_
    refine kb32 _ _ ?_
    refine kn14 _ _ ?_
    refine seqK fun Q143 kn144 kr145 ke146 => ?_
    refine region ?_
    refine st_q (v := .slice aD D.length cD) (x_move rfl) ?_
    refine st_q (v := .slice aD D.length cD) (x_assign rfl) ?_
    refine st_nil ?_
    refine kn144 _ _ ?_
    refine ret ?_
    refine leave1 (P := Tryd.prog) (fn := Tryd.f69) (t := 4) (v := .slice aD D.length cD) rfl rfl ?_
    have e : ddL c (srt c xs) = D := by rw [← hY, hD, List.take_of_length_le (by omega)]
    rw [e]
    exact ⟨_, rfl, hx36, hO.weak (by omega)⟩

end Go.Proofs.YtegpcbckiehleaaDoor
