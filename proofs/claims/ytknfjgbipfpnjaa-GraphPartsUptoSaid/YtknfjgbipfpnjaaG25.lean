import Derived.Test.YtknfjgbipfpnjaaG24
import Derived.Test.YtknfjgbipfpnjaaGTu
namespace Go.Proofs.Ytknfjgbipfpnjaa
open Go.RowKit Go.Eng Go.OrdPure
open Go.Knot Go.HeapPure
theorem T.cf12 : CF Try.prog 12 := fun _ _ => by kernel_rfl

theorem own_addr {b o m c : Nat} {a : Option Addr} (ha : a = some ⟨b, o, none⟩) : (Value.slice a m c).ownBlock = some b := by rw [ha]; rfl
theorem PartsIn.lt {h : Array Obj} {lo : Nat} {us : List Value} {P : List (List ByteArray)} (hp : PartsIn h lo us P) {i z : Nat} (hi : i < P.length) (hz : (el us i).ownBlock = some z) : lo ≤ z ∧ z < h.size := by
  obtain ⟨_, _, b, e, hl, R, hB⟩ := hp.row i hi
  rw [e] at hz
  obtain rfl : b = z := Option.some.inj hz
  exact ⟨hl, hB.lt⟩
structure Spo (P Q : List (List ByteArray)) (i k : Nat) : Prop where
  len : Q.length = P.length
  rl : ∀ j, (el Q j).length = (el P j).length
  dn : ∀ j, j < i → ∀ t, t < (el P j).length → el (el Q j) t = (ByteArray.mk #[120])
  cur : ∀ t, t < k → el (el Q i) t = (ByteArray.mk #[120])
theorem Spo.start (P : List (List ByteArray)) : Spo P P 0 0 := ⟨rfl, fun _ => rfl, fun j hj => absurd hj (by omega), fun t ht => absurd ht (by omega)⟩
theorem Spo.step {P Q : List (List ByteArray)} {i k : Nat} (h : Spo P Q i k) (hi : i < P.length) (hk : k < (el P i).length) : Spo P (Q.set i ((el Q i).set k (ByteArray.mk #[120]))) i (k + 1) := by
  have hl := h.len
  have hrl := h.rl i
  refine ⟨by rw [List.length_set]; exact hl, fun j => ?_, fun j hj t ht => ?_, fun t ht => ?_⟩
  · by_cases e : i = j
    · subst e; rw [el_set_same (by omega), List.length_set]; exact hrl
    · rw [el_set_ne e]; exact h.rl j
  · rw [el_set_ne (by omega)]; exact h.dn j hj t ht
  · rw [el_set_same (by omega)]
    by_cases e : k = t
    · subst e; rw [el_set_same (by omega)]
    · rw [el_set_ne e]; exact h.cur t (by omega)
theorem Spo.next {P Q : List (List ByteArray)} {i : Nat} (h : Spo P Q i (el P i).length) : Spo P Q (i + 1) 0 := by
  refine ⟨h.len, h.rl, fun j hj t ht => ?_, fun t ht => absurd ht (by omega)⟩
  by_cases e : j = i
  · subst e; exact h.cur t ht
  · exact h.dn j (by omega) t ht
def AllX (l : List ByteArray) : Prop := ∀ t, t < l.length → el l t = (ByteArray.mk #[120])
theorem AllX.snoc {l : List ByteArray} (h : AllX l) : AllX (l ++ [(ByteArray.mk #[120])]) := by
  intro t ht
  rw [List.length_append, List.length_singleton] at ht
  by_cases e : t < l.length
  · rw [el_append_left e]; exact h t e
  · have : t = l.length := by omega
    subst this; exact el_mark
theorem AllX.rows {dm : List (List ByteArray)} {yl : List ByteArray} (h : ∀ j, j < dm.length → AllX (el dm j)) (hy : AllX yl) : ∀ j, j < (dm ++ [yl]).length → AllX (el (dm ++ [yl]) j) := by
  intro j hj
  rw [List.length_append, List.length_singleton] at hj
  by_cases e : j < dm.length
  · rw [el_append_left e]; exact h j e
  · have : j = dm.length := by omega
    subst this; rw [el_mark]; exact hy
theorem Gre.row_le {xs : List ByteArray} {es : List Edge} {P : List (List ByteArray)} (h : Gre es (nodesL xs es) P) {i : Nat} (hi : i < P.length) : (el P i).length ≤ (nodesL xs es).length := by
  obtain ⟨h1, s, h2, h3⟩ := h.part _ (el_memL hi)
  exact nodup_le h1.nodup fun z hz => nodes_closed s h2 z ((h3 z).1 hz)
theorem Gre.len_le {xs : List ByteArray} {es : List Edge} {P : List (List ByteArray)} (h : Gre es (nodesL xs es) P) : P.length ≤ (nodesL xs es).length := by
  have key : ∀ {left : List ByteArray} {P : List (List ByteArray)}, Gre es left P → P.length ≤ left.length := by
    intro left P h
    induction h with
    | nil => exact Nat.le_refl _
    | @step left left' p s R h1 h2 _ _ _ h6 h7 h8 _ ih =>
      have := nodup_le (K := s :: left') (L := left) (List.nodup_cons.2 ⟨fun hm => ((h8 _).1 hm).2 ((h6 _).2 (Mut.refl _ _)), h7.nodup⟩) fun z hz => by
        rcases List.mem_cons.1 hz with rfl | hz
        · exact h2
        · exact ((h8 _).1 hz).1
      simp only [List.length_cons] at this ⊢; omega
  exact key h
set_option maxHeartbeats 4000000 in
theorem parts3L (xs : List ByteArray) (es : List Edge) (va vb : Value) (w0 : World) (ha : Src w0.heap va xs.length 1 (flat enS xs)) (hb : Src w0.heap vb es.length 3 (flat enE es)) (hfx : FitS xs) (hfe : FitE es) (hn1 : xs.length + 4 * es.length + 2 ≤ 1048576) : Calls Try.prog 3 #[va, vb] w0 fun e w' => e = .returned (.bool true) ∧ Below w0.heap.size w0 w' := by
  have hE0 : Below w0.heap.size w0 w0 := Below.refl _ _
  have hz0 := hE0.le
  obtain ⟨a, ca, rfl, hca, hca1⟩ := ha.form
  obtain ⟨b, cb, rfl, hcb, hcb1⟩ := hb.form
  have hn : xs.length + 2 * es.length ≤ 2097152 := by omega
  refine enter Try.func3 rfl 134 Try.ntmps3 rfl ?_
  refine seqK fun Q1 kn2 kr3 ke4 => ?_
  refine region ?_
  refine st_q (v := .bool false) (x_assign rfl) ?_
  refine st_nil ?_
  refine kn2 _ _ ?_
  refine seqK fun Q5 kn6 kr7 ke8 => ?_
  refine region ?_
  refine st_q (v := .slice a xs.length ca) (x_move rfl) ?_
  refine st_c (t_call [.slice a xs.length ca] T.cf9 rfl rfl) (lentNames9 xs _ _ (ha.below hE0) (by omega)) ?_
  rintro _ w9 ⟨am, cm, rfl, hx10, hmc, hO_m, hmc2⟩
  refine ⟨_, rfl, ?_⟩
  have hE11 : Below w0.heap.size w0 w9 := hx10.e hE0 (Nat.le_refl _)
  have hz12 := hE11.le
  have hs13 := hx10.size
  have hlo_m : ∀ b, (.slice am (xs.length + 1) cm : Value).ownBlock = some b → w0.heap.size ≤ b ∧ b < w9.heap.size := fun b hb => hO_m.lt hb
  refine st_q (v := .slice b es.length cb) (x_move rfl) ?_
  refine st_c (t_call [.slice b es.length cb] T.cf10 rfl rfl) (lentEdges10 es _ _ (hb.below hE11) (by omega)) ?_
  rintro _ w14 ⟨ax, cx, rfl, hx15, hxc, hO_x, hxc2⟩
  refine ⟨_, rfl, ?_⟩
  have hF16 := hO_m.ext hx15
  have hE17 : Below w0.heap.size w0 w14 := hx15.e hE11 (Nat.le_refl _)
  have hz18 := hE17.le
  have hs19 := hx15.size
  have hlo_x : ∀ b, (.slice ax (es.length + 1) cx : Value).ownBlock = some b → w9.heap.size ≤ b ∧ b < w14.heap.size := fun b hb => hO_x.lt hb
  refine st_q (v := .slice am xs.length cm) (x_assign rfl) ?_
  refine st_q (v := .slice ax es.length cx) (x_assign rfl) ?_
  refine st_nil ?_
  refine kn6 _ _ ?_
  refine seqK fun Q20 kn21 kr22 ke23 => ?_
  refine region ?_
  refine st_q (v := .slice am xs.length cm) (x_move rfl) ?_
  refine st_q (v := .slice ax es.length cx) (x_move rfl) ?_
  refine st_c (t_call [.slice am xs.length cm, .slice ax es.length cx] T.cf11 rfl rfl) (parts11 xs es _ _ _ (Src.front enS_len hF16.src) (Src.front enE_len hO_x.src) hfx hfe hn) ?_
  rintro _ w24 ⟨v26, usa, P, rfl, hx25, hGa, hO27, hPIa⟩
  refine ⟨_, rfl, ?_⟩
  have hF28 := hF16.ext hx25
  have hF29 := hO_x.ext hx25
  have hE30 : Below w0.heap.size w0 w24 := hx25.e hE17 (Nat.le_refl _)
  have hz31 := hE30.le
  have hs32 := hx25.size
  obtain ⟨aa, ca_, rfl, _, _⟩ := hO27.src.form
  have hub : ∀ i, i < P.length → ∀ z, (el usa i).ownBlock = some z → w14.heap.size ≤ z ∧ z < w24.heap.size := fun i hi z hz => hPIa.lt hi hz
  have hvA : ∀ z, (Value.slice aa P.length ca_).ownBlock = some z → w14.heap.size ≤ z ∧ z < w24.heap.size := fun z hz => hO27.lt hz
  have hvS : ∀ z, (Value.slice aa P.length ca_).ownBlock = some z → z < w24.heap.size := fun z hz => (hvA z hz).2
  refine st_q (v := .slice am xs.length cm) (x_move rfl) ?_
  refine st_q (v := .slice ax es.length cx) (x_move rfl) ?_
  refine st_c (t_call [.slice am xs.length cm, .slice ax es.length cx] T.cf11 rfl rfl) (parts11 xs es _ _ _ (Src.front enS_len hF28.src) (Src.front enE_len hF29.src) hfx hfe hn) ?_
  rintro _ w33 ⟨v35, usb, Pb, rfl, hx34, hGb, hO36, hPIb⟩
  have eb := hGa.uniq hGb
  subst eb
  refine ⟨_, rfl, ?_⟩
  have hF37 := hF28.ext hx34
  have hF38 := hF29.ext hx34
  have hF39 := hO27.ext hx34
  have hF40 := PartsIn.ext hPIa hx34
  have hE41 : Below w0.heap.size w0 w33 := hx34.e hE30 (Nat.le_refl _)
  have hz42 := hE41.le
  have hs43 := hx34.size
  obtain ⟨bb, cb_, rfl, _, _⟩ := hO36.src.form
  refine st_q (v := .slice aa P.length ca_) (x_assign rfl) ?_
  refine st_q (v := .slice bb P.length cb_) (x_assign rfl) ?_
  refine st_nil ?_
  refine kn21 _ _ ?_
  refine seqK fun Q44 kn45 kr46 ke47 => ?_
  refine region ?_
  refine st_q (v := .slice a xs.length ca) (x_move rfl) ?_
  refine st_q (v := .slice b es.length cb) (x_move rfl) ?_
  refine st_c (t_call [.slice a xs.length ca, .slice b es.length cb] T.cf12 rfl rfl) (refparts12 xs es P _ _ _ (ha.below hE41) (hb.below hE41) hn hGa) ?_
  rintro _ w48 ⟨v50, usw, rfl, hx49, hO51, hRw⟩
  refine ⟨_, rfl, ?_⟩
  have hF52 := hF37.ext hx49
  have hF53 := hF38.ext hx49
  have hF54 := hF39.ext hx49
  have hF55 := PartsIn.ext hF40 hx49
  have hF56 := hO36.ext hx49
  have hF57 := PartsIn.ext hPIb hx49
  have hE58 : Below w0.heap.size w0 w48 := hx49.e hE41 (Nat.le_refl _)
  have hz59 := hE58.le
  have hs60 := hx49.size
  obtain ⟨ww, cw_, rfl, _, _⟩ := hO51.src.form
  refine st_q (v := .slice ww P.length cw_) (x_assign rfl) ?_
  refine st_nil ?_
  refine kn45 _ _ ?_
  refine seqK fun Q61 kn62 kr63 ke64 => ?_
  refine seqK fun Q65 kn66 kr67 ke68 => ?_
  refine region ?_
  refine st_q (v := .slice aa P.length ca_) (x_move rfl) ?_
  refine st_q (v := .slice ww P.length cw_) (x_move rfl) ?_
  refine st_c (t_call [.slice aa P.length ca_, .slice ww P.length cw_] T.cf13 rfl rfl) (sameParts13 P P usa usw _ _ _ (RowsIn.of hF54 hF55) (RowsIn.ofO hRw hO51.src)) ?_
  rintro _ w69 ⟨e71, hx70⟩
  rw [decide_eq_true rfl] at e71
  subst e71
  refine ⟨_, rfl, ?_⟩
  have hF72 := hF52.ext hx70
  have hF73 := hF53.ext hx70
  have hF74 := hF54.ext hx70
  have hF75 := PartsIn.ext hF55 hx70
  have hF76 := hF56.ext hx70
  have hF77 := PartsIn.ext hF57 hx70
  have hF78 := hO51.ext hx70
  have hF79 := RowsO.ext hRw hx70
  have hE80 : Below w0.heap.size w0 w69 := hx70.e hE58 (Nat.le_refl _)
  have hz81 := hE80.le
  have hs82 := hx70.size
  refine st_q (v := .bool false) (x_notB (b := true) rfl) ?_
  refine st_q (v := .bool false) (x_move rfl) ?_
  refine st_gq 4 36 rfl rfl (by decide) ?_
  refine st_q (v := .slice bb P.length cb_) (x_move rfl) ?_
  refine st_gq 4 36 rfl rfl (by decide) ?_
  refine st_q (v := .slice ww P.length cw_) (x_move rfl) ?_
  refine st_gq 4 36 rfl rfl (by decide) ?_
  refine st_c (t_call [.slice bb P.length cb_, .slice ww P.length cw_] T.cf13 rfl rfl) (sameParts13 P P usb usw _ _ _ (RowsIn.of hF76 hF77) (RowsIn.ofO hF79 hF78.src)) ?_
  rintro _ w83 ⟨e85, hx84⟩
  rw [decide_eq_true rfl] at e85
  subst e85
  refine ⟨_, rfl, ?_⟩
  have hF86 := hF72.ext hx84
  have hF87 := hF73.ext hx84
  have hF88 := hF74.ext hx84
  have hF89 := PartsIn.ext hF75 hx84
  have hF90 := hF76.ext hx84
  have hF91 := PartsIn.ext hF77 hx84
  have hF92 := hF78.ext hx84
  have hF93 := RowsO.ext hF79 hx84
  have hE94 : Below w0.heap.size w0 w83 := hx84.e hE80 (Nat.le_refl _)
  have hz95 := hE94.le
  have hs96 := hx84.size
  refine st_gq 4 36 rfl rfl (by decide) ?_
  refine st_q (v := .bool false) (x_notB (b := true) rfl) ?_
  refine st_q (v := .bool false) (x_pickF rfl rfl) ?_
  refine st_q (v := .bool false) (x_move rfl) ?_
  refine st_gq 10 42 rfl rfl (by decide) ?_
  refine st_q (v := .slice am xs.length cm) (x_move rfl) ?_
  refine st_gq 10 42 rfl rfl (by decide) ?_
  refine st_q (v := .slice a xs.length ca) (x_move rfl) ?_
  refine st_gq 10 42 rfl rfl (by decide) ?_
  refine st_q (v := .slice ax es.length cx) (x_move rfl) ?_
  refine st_gq 10 42 rfl rfl (by decide) ?_
  refine st_q (v := .slice b es.length cb) (x_move rfl) ?_
  refine st_gq 10 42 rfl rfl (by decide) ?_
  refine st_c (t_call [.slice am xs.length cm, .slice a xs.length ca, .slice ax es.length cx, .slice b es.length cb] T.cf14 rfl rfl) (left14 xs es _ _ _ _ _ _ _ hF86.src (ha.below hE94) hF87.src (hb.below hE94)) ?_
  rintro _ w97 ⟨rfl, hx98⟩
  refine ⟨_, rfl, ?_⟩
  have hF99 := hF86.ext hx98
  have hF100 := hF87.ext hx98
  have hF101 := hF88.ext hx98
  have hF102 := PartsIn.ext hF89 hx98
  have hF103 := hF90.ext hx98
  have hF104 := PartsIn.ext hF91 hx98
  have hF105 := hF92.ext hx98
  have hF106 := RowsO.ext hF93 hx98
  have hE107 : Below w0.heap.size w0 w97 := hx98.e hE94 (Nat.le_refl _)
  have hz108 := hE107.le
  have hs109 := hx98.size
  refine st_gq 10 42 rfl rfl (by decide) ?_
  refine st_q (v := .bool false) (x_notB (b := true) rfl) ?_
  refine st_q (v := .bool false) (x_pickF rfl rfl) ?_
  refine st_nil ?_
  refine kn66 _ _ ?_
  refine cndF rfl ?_
  refine skip ?_
  refine kn62 _ _ ?_
  refine seqK fun Q110 kn111 kr112 ke113 => ?_
  refine seqK fun Q114 kn115 kr116 ke117 => ?_
  refine region ?_
  have hSlow : ∀ z, (fun z => w14.heap.size ≤ z ∧ z < w24.heap.size) z → w0.heap.size ≤ z := fun z hz => by have := hz.1; omega
  have hU1 : w24.heap.size ≤ w97.heap.size := by omega
  have hU0 : w14.heap.size ≤ w24.heap.size := by omega
  have hM118 : Mod (fun z => w14.heap.size ≤ z ∧ z < w24.heap.size) w97 w97 := Mod.refl _ _
  have hz119 := hM118.le
  refine st_q (v := .int .i64 ((0 : Nat) : Int)) (x_assign rfl) ?_
  refine st_nil ?_
  refine kn115 _ _ ?_
  refine blockK fun Q120 kn121 kr122 kx123 kb124 => ?_
  refine loopK (α := Nat × (List (List ByteArray))) (fun x => [(7, .slice aa P.length ca_), (8, .slice bb P.length cb_), (9, .slice ww P.length cw_), (10, .int .i64 ((x.1 : Nat) : Int))]) (fun x w125 => Mod (fun z => w14.heap.size ≤ z ∧ z < w24.heap.size) w97 w125 ∧ x.1 ≤ P.length ∧ Spo P x.2 x.1 0 ∧ Own w125.heap w14.heap.size 22 1 (.slice aa P.length ca_) P.length (flat enV usa) ∧ PartsIn w125.heap w14.heap.size usa x.2) (fun x => P.length - x.1) (0, P) ⟨rfl, rfl, rfl, rfl, trivial⟩ ?_ ?_
  ·
    refine ⟨hM118, ?_⟩
    try dsimp only
    exact ⟨Nat.zero_le _, Spo.start P, hF101, hF102⟩
  ·
    rintro τ126 ⟨i, Q⟩ w127 ⟨hx128, ⟨hi, hS, hOa, hPA⟩⟩
    try dsimp only at hi hS hOa hPA
    have hz129 := hx128.le
    intro Q130 kn131 kr132 ke133
    have hqlhS := hS.len
    have hrlhS := hS.rl i
    have hal := hPA.len
    refine seqK fun Q134 kn135 kr136 ke137 => ?_
    refine seqK fun Q138 kn139 kr140 ke141 => ?_
    refine region ?_
    refine st_q (v := .int .i64 ((i : Nat) : Int)) (x_move rfl) ?_
    refine st_q (v := .slice aa P.length ca_) (x_move rfl) ?_
    refine st_q (v := .int .i64 ((P.length : Nat) : Int)) (x_lenSl rfl Try.underlying26 rfl) ?_
    refine st_q (v := .bool (decide (i < P.length))) (x_lssN rfl rfl) ?_
    refine st_nil ?_
    refine kn139 _ _ ?_
    refine cnd (p := i < P.length) rfl (fun h142 => ?_) (fun h142 => ?_)
    ·
      refine skip ?_
      refine kn135 _ _ ?_
      refine seqK fun Q143 kn144 kr145 ke146 => ?_
      refine blockK fun Q147 kn148 kr149 kx150 kb151 => ?_
      refine seqK fun Q152 kn153 kr154 ke155 => ?_
      refine region ?_
      refine st_q (v := .int .i64 ((0 : Nat) : Int)) (x_assign rfl) ?_
      refine st_nil ?_
      refine kn153 _ _ ?_
      refine blockK fun Q156 kn157 kr158 kx159 kb160 => ?_
      refine loopK (α := Nat × (List (List ByteArray))) (fun x => [(7, .slice aa P.length ca_), (8, .slice bb P.length cb_), (9, .slice ww P.length cw_), (10, .int .i64 ((i : Nat) : Int)), (11, .int .i64 ((x.1 : Nat) : Int))]) (fun x w161 => Mod (fun z => w14.heap.size ≤ z ∧ z < w24.heap.size) w97 w161 ∧ x.1 ≤ (el P i).length ∧ Spo P x.2 i x.1 ∧ Own w161.heap w14.heap.size 22 1 (.slice aa P.length ca_) P.length (flat enV usa) ∧ PartsIn w161.heap w14.heap.size usa x.2) (fun x => (el P i).length - x.1) (0, Q) ⟨rfl, rfl, rfl, rfl, rfl, trivial⟩ ?_ ?_
      ·
        refine ⟨hx128, ?_⟩
        try dsimp only
        exact ⟨Nat.zero_le _, hS, hOa, hPA⟩
      ·
        rintro τ162 ⟨k, Q2⟩ w163 ⟨hx164, ⟨hk, hS2, hOa2, hPA2⟩⟩
        try dsimp only at hk hS2 hOa2 hPA2
        have hz165 := hx164.le
        intro Q166 kn167 kr168 ke169
        have hqlhS2 := hS2.len
        have hrlhS2 := hS2.rl i
        have hal := hPA2.len
        refine seqK fun Q170 kn171 kr172 ke173 => ?_
        refine seqK fun Q174 kn175 kr176 ke177 => ?_
        refine region ?_
        refine st_q (v := .int .i64 ((k : Nat) : Int)) (x_move rfl) ?_
        refine st_q (v := .slice aa P.length ca_) (x_move rfl) ?_
        refine st_q (v := .int .i64 ((i : Nat) : Int)) (x_move rfl) ?_
        obtain ⟨b178, o179, ha180, hc181⟩ := hOa2.src.at (by omega)
        refine st_q (v := .pointer (some ⟨b178, o179 + i * 1, none⟩)) (x_index' T.sl26 rfl ha180 rfl (by omega)) ?_
        obtain ⟨h0182, hm183, bz184, ez185, hl186, R187, hB188⟩ := hPA2.row i (by omega)
        simp only [maxLen] at hm183
        refine st_q (v := .slice ((some ⟨bz184, 0, none⟩)) ((el Q2 i).length) ((el Q2 i).length)) (x_load1 T.na22 rfl (Cells.conv (hc181.elem enV_len (i := i) (by omega)) ez185)) ?_
        refine st_q (v := .int .i64 (((el Q2 i).length : Nat) : Int)) (x_lenSl rfl Try.underlying22 rfl) ?_
        refine st_q (v := .bool (decide (k < ((el Q2 i).length)))) (x_lssN rfl rfl) ?_
        refine st_nil ?_
        refine kn175 _ _ ?_
        refine cnd (p := k < ((el Q2 i).length)) rfl (fun h189 => ?_) (fun h189 => ?_)
        ·
          refine skip ?_
          refine kn171 _ _ ?_
          refine seqK fun Q190 kn191 kr192 ke193 => ?_
          refine blockK fun Q194 kn195 kr196 kx197 kb198 => ?_
          refine region ?_
          refine st_q (v := .slice aa P.length ca_) (x_move rfl) ?_
          refine st_q (v := .int .i64 ((i : Nat) : Int)) (x_move rfl) ?_
          obtain ⟨b199, o200, ha201, hc202⟩ := hOa2.src.at (by omega)
          refine st_q (v := .pointer (some ⟨b199, o200 + i * 1, none⟩)) (x_index' T.sl26 rfl ha201 rfl (by omega)) ?_
          obtain ⟨h0203, hm204, bz205, ez206, hl207, R208, hB209⟩ := hPA2.row i (by omega)
          simp only [maxLen] at hm204
          refine st_q (v := .slice ((some ⟨bz205, 0, none⟩)) ((el Q2 i).length) ((el Q2 i).length)) (x_load1 T.na22 rfl (Cells.conv (hc202.elem enV_len (i := i) (by omega)) ez206)) ?_
          refine st_q (v := .int .i64 ((k : Nat) : Int)) (x_move rfl) ?_
          refine st_q (v := .pointer (some ⟨bz205, 0 + k * 1, none⟩)) (x_index T.sl22 rfl rfl (by omega)) ?_
          have hSb := hub i (by omega) bz205 (by rw [ez206]; rfl)
          refine st_s (e_stE (u := (ByteArray.mk #[120])) enS_len T.sz9 rfl rfl rfl hB209 (by omega) (by rfl) ?_)
          intro w210 hP211
          have hPA212 := PartsIn.set hPA2 (by omega) ez206 hP211 hP211.new
          have hF213 := hOa2.gk hP211.grownBy hB209.rowk (by decide)
          have hM214 : Mod (fun z => w14.heap.size ≤ z ∧ z < w24.heap.size) w97 w210 := hx164.pt hP211 (.inl hSb)
          have hz215 := hM214.le
          refine st_nil ?_
          refine kn195 _ _ ?_
          refine kn191 _ _ ?_
          refine region ?_
          refine st_q (v := .int .i64 ((k : Nat) : Int)) (x_move rfl) ?_
          refine st_q (v := .int .i64 (((k + 1) : Nat) : Int)) (x_addN rfl rfl (by omega)) ?_
          refine st_q (v := .int .i64 (((k + 1) : Nat) : Int)) (x_assign rfl) ?_
          refine st_nil ?_
          refine kn167 _ ((k + 1), (Q2.set i ((el Q2 i).set k (ByteArray.mk #[120])))) _ ⟨rfl, rfl, rfl, rfl, rfl, trivial⟩ ⟨hM214, ?_⟩ ?_
          ·
            try dsimp only
            exact ⟨by omega, hS2.step (by omega) (by omega), hF213, hPA212⟩
          ·
            (try dsimp only); omega
        ·
          refine exit ?_
          refine ke173 _ _ _ ?_
          refine ke169 _ _ _ ?_
          refine kb160 _ _ ?_
          refine kn148 _ _ ?_
          refine kn144 _ _ ?_
          refine region ?_
          refine st_q (v := .int .i64 ((i : Nat) : Int)) (x_move rfl) ?_
          refine st_q (v := .int .i64 (((i + 1) : Nat) : Int)) (x_addN rfl rfl (by omega)) ?_
          refine st_q (v := .int .i64 (((i + 1) : Nat) : Int)) (x_assign rfl) ?_
          refine st_nil ?_
          refine kn131 _ ((i + 1), Q2) _ ⟨rfl, rfl, rfl, rfl, trivial⟩ ⟨hx164, ?_⟩ ?_
          ·
            try dsimp only
            obtain rfl : k = (el P i).length := by omega
            exact ⟨by omega, hS2.next, hOa2, hPA2⟩
          ·
            (try dsimp only); omega
    ·
      refine exit ?_
      refine ke137 _ _ _ ?_
      refine ke133 _ _ _ ?_
      refine kb124 _ _ ?_
      refine kn111 _ _ ?_
      refine seqK fun Q216 kn217 kr218 ke219 => ?_
      refine region ?_
      refine st_q (v := .slice none 0 0) (x_assign rfl) ?_
      refine st_nil ?_
      refine kn217 _ _ ?_
      refine seqK fun Q220 kn221 kr222 ke223 => ?_
      refine seqK fun Q224 kn225 kr226 ke227 => ?_
      refine region ?_
      refine st_q (v := .int .i64 ((0 : Nat) : Int)) (x_assign rfl) ?_
      refine st_nil ?_
      refine kn225 _ _ ?_
      refine blockK fun Q228 kn229 kr230 kx231 kb232 => ?_
      refine loopK (α := Nat × Value × (List Value) × (List (List ByteArray))) (fun x => [(7, .slice aa P.length ca_), (8, .slice bb P.length cb_), (9, .slice ww P.length cw_), (12, x.2.1), (13, .int .i64 ((x.1 : Nat) : Int))]) (fun x w233 => Mod (fun z => w14.heap.size ≤ z ∧ z < w24.heap.size) w97 w233 ∧ x.1 ≤ P.length ∧ x.2.2.2.length = x.1 ∧ (∀ j, j < x.2.2.2.length → AllX (el x.2.2.2 j)) ∧ Own w233.heap w97.heap.size 22 1 x.2.1 x.1 (flat enV x.2.2.1) ∧ RowsO w233.heap w97.heap.size x.2.2.1 x.2.2.2 ∧ Own w233.heap w14.heap.size 22 1 (.slice aa P.length ca_) P.length (flat enV usa) ∧ PartsIn w233.heap w14.heap.size usa Q) (fun x => P.length - x.1) (0, .slice none 0 0, [], []) ⟨rfl, rfl, rfl, rfl, rfl, trivial⟩ ?_ ?_
      ·
        refine ⟨hx128, ?_⟩
        try dsimp only
        obtain rfl : i = P.length := by omega
        exact ⟨Nat.zero_le _, rfl, fun j hj => absurd hj (by simp), Own.nil _ _ _ _, RowsO.nil _ _, hOa, hPA⟩
      ·
        rintro τ234 ⟨i2, vm, um, dm⟩ w235 ⟨hx236, ⟨hi2, hdm, hAx, hOm, hROm, hOa3, hPA3⟩⟩
        try dsimp only at hi2 hdm hAx hOm hROm hOa3 hPA3
        have hz237 := hx236.le
        intro Q238 kn239 kr240 ke241
        obtain ⟨a242, c243, rfl, hm244, hm245⟩ := hOm.src.form
        have hEb_ : Ext w235 w235 := Below.refl _ _
        have hal := hPA3.len
        have hql := hS.len
        have hrl := hS.rl i2
        refine seqK fun Q246 kn247 kr248 ke249 => ?_
        refine seqK fun Q250 kn251 kr252 ke253 => ?_
        refine region ?_
        refine st_q (v := .int .i64 ((i2 : Nat) : Int)) (x_move rfl) ?_
        refine st_q (v := .slice aa P.length ca_) (x_move rfl) ?_
        refine st_q (v := .int .i64 ((P.length : Nat) : Int)) (x_lenSl rfl Try.underlying26 rfl) ?_
        refine st_q (v := .bool (decide (i2 < P.length))) (x_lssN rfl rfl) ?_
        refine st_nil ?_
        refine kn251 _ _ ?_
        refine cnd (p := i2 < P.length) rfl (fun h254 => ?_) (fun h254 => ?_)
        ·
          refine skip ?_
          refine kn247 _ _ ?_
          refine seqK fun Q255 kn256 kr257 ke258 => ?_
          refine blockK fun Q259 kn260 kr261 kx262 kb263 => ?_
          refine seqK fun Q264 kn265 kr266 ke267 => ?_
          refine region ?_
          refine st_q (v := .slice aa P.length ca_) (x_move rfl) ?_
          refine st_q (v := .int .i64 ((i2 : Nat) : Int)) (x_move rfl) ?_
          obtain ⟨b268, o269, ha270, hc271⟩ := hOa3.src.at (by omega)
          refine st_q (v := .pointer (some ⟨b268, o269 + i2 * 1, none⟩)) (x_index' T.sl26 rfl ha270 rfl (by omega)) ?_
          refine st_q (v := el usa i2) (x_load1 T.na22 rfl (hc271.elem enV_len (i := i2) (by omega))) ?_
          refine st_q (v := el usa i2) (x_assign rfl) ?_
          refine st_nil ?_
          refine kn265 _ _ ?_
          refine seqK fun Q272 kn273 kr274 ke275 => ?_
          refine seqK fun Q276 kn277 kr278 ke279 => ?_
          refine region ?_
          refine st_q (v := .int .i64 ((0 : Nat) : Int)) (x_assign rfl) ?_
          refine st_nil ?_
          refine kn277 _ _ ?_
          refine blockK fun Q280 kn281 kr282 kx283 kb284 => ?_
          refine loopK (α := Nat × Value × (List ByteArray)) (fun x => [(7, .slice aa P.length ca_), (8, .slice bb P.length cb_), (9, .slice ww P.length cw_), (12, .slice a242 i2 c243), (13, .int .i64 ((i2 : Nat) : Int)), (14, x.2.1), (15, .int .i64 ((x.1 : Nat) : Int))]) (fun x w285 => Ext w235 w285 ∧ x.1 ≤ 20 ∧ x.2.2.length = (el P i2).length + x.1 ∧ AllX x.2.2 ∧ ((x.1 = 0 ∧ x.2.1 = el usa i2 ∧ x.2.2 = el Q i2) ∨ (0 < x.1 ∧ Own w285.heap w235.heap.size 9 1 x.2.1 x.2.2.length (flat enS x.2.2)))) (fun x => 20 - x.1) (0, el usa i2, (el Q i2)) ⟨rfl, rfl, rfl, rfl, rfl, rfl, rfl, trivial⟩ ?_ ?_
          ·
            refine ⟨Below.refl _ _, ?_⟩
            try dsimp only
            exact ⟨by omega, by omega, fun t ht => hS.dn i2 (by omega) t (by omega), .inl ⟨rfl, rfl, rfl⟩⟩
          ·
            rintro τ286 ⟨k2, vl, yl⟩ w287 ⟨hx288, ⟨hk2, hyl, hyx, hcs⟩⟩
            try dsimp only at hk2 hyl hyx hcs
            have hF289 := hOa3.ext hx288
            have hF290 := hOm.ext hx288
            have hF291 := hx288.e hEb_ (Nat.le_refl _)
            have hF292 := hc271.ext hx288
            have hE293 : Mod (fun z => w14.heap.size ≤ z ∧ z < w24.heap.size) w97 w287 := hx236.ext hx288
            have hz294 := hE293.le
            have hs295 := hx288.size
            intro Q296 kn297 kr298 ke299
            have hEl_ : Ext w287 w287 := Below.refl _ _
            refine seqK fun Q300 kn301 kr302 ke303 => ?_
            refine seqK fun Q304 kn305 kr306 ke307 => ?_
            refine region ?_
            refine st_q (v := .int .i64 ((k2 : Nat) : Int)) (x_move rfl) ?_
            refine st_q (v := .bool (decide (k2 < 20))) (x_lssN rfl rfl) ?_
            refine st_nil ?_
            refine kn305 _ _ ?_
            refine cnd (p := k2 < 20) rfl (fun h308 => ?_) (fun h308 => ?_)
            ·
              refine skip ?_
              refine kn301 _ _ ?_
              refine seqK fun Q309 kn310 kr311 ke312 => ?_
              refine blockK fun Q313 kn314 kr315 kx316 kb317 => ?_
              refine region ?_
              refine st_q (v := vl) (x_move rfl) ?_
              refine st_e (e_buildSlice (cs := [.string ((ByteArray.mk #[120]))]) (e := 9) (fun _ => by kernel_rfl) ?_)
              intro w318 hA319
              have hx320 := hA319.ext
              have hs321 := hA319.size
              have hB322 : Blk w318.heap w287.heap.size [.string ((ByteArray.mk #[120]))] 9 := hA319.new
              have hF323 := hF289.ext hx320
              have hF324 := hF290.ext hx320
              have hF325 := hx320.e hF291 (Nat.le_refl _)
              have hF326 := hF292.ext hx320
              have hF327 := hx320.e hx288 (Nat.le_refl _)
              have hF328 := hx320.e hEl_ (Nat.le_refl _)
              have hE329 : Mod (fun z => w14.heap.size ≤ z ∧ z < w24.heap.size) w97 w318 := hE293.ext hx320
              have hz330 := hE329.le
              have hs331 := hx320.size
              have hrw := hGa.row_le (show i2 < P.length by omega)
              have hnl := nodesL_len xs es
              rcases hcs with ⟨e0, rfl, rfl⟩ | ⟨hk0, hOl0⟩
              ·
                obtain ⟨h0332, hm333, bz334, ez335, hl336, R337, hB338⟩ := (hPA3.ext hF325).row i2 (by omega)
                refine st_e (e_appendC (k := 1) T.sl22 ez335 rfl (flat_length enS_len _) (Blk.flat hB338) (hB322.src1 (k := 1) (m := 1) rfl (by omega)) (by decide) (by omega) (by decide) ?_)
                intro v339 w340 hO341 hG342
                have hF343 := hF323.ext hG342
                have hF344 := hF324.ext hG342
                have hF345 := hG342.e hF325 (Nat.le_refl _)
                have hF346 := hF326.ext hG342
                have hF347 := hG342.e hF327 (Nat.le_refl _)
                have hF348 := hG342.e hF328 (Nat.le_refl _)
                have hE349 : Mod (fun z => w14.heap.size ≤ z ∧ z < w24.heap.size) w97 w340 := hE329.ext hG342
                have hz350 := hE349.le
                have hs351 := hG342.size
                have hO352 := (Own.snoc (enc := enS) (u := (ByteArray.mk #[120])) hO341).weak (show w235.heap.size ≤ _ by omega)
                obtain ⟨a353, c354, rfl, hm355, hm356⟩ := hO352.src.form
                refine st_q (v := .slice a353 (((el Q i2).length + 1)) c354) (x_assign rfl) ?_
                refine st_nil ?_
                refine kn314 _ _ ?_
                refine kn310 _ _ ?_
                refine region ?_
                refine st_q (v := .int .i64 ((k2 : Nat) : Int)) (x_move rfl) ?_
                refine st_q (v := .int .i64 (((k2 + 1) : Nat) : Int)) (x_addN rfl rfl (by omega)) ?_
                refine st_q (v := .int .i64 (((k2 + 1) : Nat) : Int)) (x_assign rfl) ?_
                refine st_nil ?_
                refine kn297 _ ((k2 + 1), .slice a353 (((el Q i2).length + 1)) c354, (el Q i2 ++ [(ByteArray.mk #[120])])) _ ⟨rfl, rfl, rfl, rfl, rfl, rfl, rfl, trivial⟩ ⟨hF347, ?_⟩ ?_
                ·
                  try dsimp only
                  exact ⟨by omega, by rw [List.length_append]; simp only [List.length_singleton]; omega, AllX.snoc hyx, .inr ⟨by omega, Own.len hO352 (by simp)⟩⟩
                ·
                  (try dsimp only); omega
              ·
                have hOl := hOl0.ext hF328
                obtain ⟨a357, c358, rfl, hm359, hm360⟩ := hOl.src.form
                refine st_e (e_appendX T.sl22 rfl rfl hOl (hB322.src1 (k := 1) (m := 1) rfl (by omega)) (ones (by rfl)) (by omega) (by decide) (by omega) ?_)
                intro v361 w362 hO363 hG364 hN365 hW366
                have hF367 := hF323.gk (hG364) (hOl.rowk) (by decide)
                have hF368 := hF324.gk (hG364) (hOl.rowk) (by decide)
                have hF369 := grown_below hG364 hF325 (Nat.le_refl _) (fun b hb => (by have := (hOl.lt hb).1; clear hb; omega))
                have hF371 := grown_below hG364 hF327 (Nat.le_refl _) (fun b hb => (by have := (hOl.lt hb).1; clear hb; omega))
                have hE372 : Mod (fun z => w14.heap.size ≤ z ∧ z < w24.heap.size) w97 w362 := hE329.grown hG364 (fun z hz => .inr (by have := (hOl.lt hz).1; omega))
                have hz373 := hE372.le
                have hs374 := hG364.size
                have hO375 := Own.snoc (enc := enS) (u := (ByteArray.mk #[120])) hO363
                obtain ⟨a376, c377, rfl, hm378, hm379⟩ := hO375.src.form
                refine st_q (v := .slice a376 ((yl.length + 1)) c377) (x_assign rfl) ?_
                refine st_nil ?_
                refine kn314 _ _ ?_
                refine kn310 _ _ ?_
                refine region ?_
                refine st_q (v := .int .i64 ((k2 : Nat) : Int)) (x_move rfl) ?_
                refine st_q (v := .int .i64 (((k2 + 1) : Nat) : Int)) (x_addN rfl rfl (by omega)) ?_
                refine st_q (v := .int .i64 (((k2 + 1) : Nat) : Int)) (x_assign rfl) ?_
                refine st_nil ?_
                refine kn297 _ ((k2 + 1), .slice a376 ((yl.length + 1)) c377, (yl ++ [(ByteArray.mk #[120])])) _ ⟨rfl, rfl, rfl, rfl, rfl, rfl, rfl, trivial⟩ ⟨hF371, ?_⟩ ?_
                ·
                  try dsimp only
                  exact ⟨by omega, by rw [List.length_append]; simp only [List.length_singleton]; omega, AllX.snoc hyx, .inr ⟨by omega, Own.len hO375 (by simp)⟩⟩
                ·
                  (try dsimp only); omega
            ·
              refine exit ?_
              refine ke303 _ _ _ ?_
              refine ke299 _ _ _ ?_
              refine kb284 _ _ ?_
              refine kn273 _ _ ?_
              refine region ?_
              have hOl : Own w287.heap w235.heap.size 9 1 vl yl.length (flat enS yl) := hcs.elim (fun h => absurd h.1 (by omega)) (fun h => h.2)
              obtain ⟨alv, clv, rfl, _, _⟩ := hOl.src.form
              have hROm2 := hROm.ext hF291
              have hPA4 := hPA3.ext hF291
              refine st_q (v := .slice a242 i2 c243) (x_move rfl) ?_
              refine st_q (v := .slice alv yl.length clv) (x_move rfl) ?_
              refine st_e (e_buildSlice (cs := [.slice alv yl.length clv]) (e := 22) (fun _ => by kernel_rfl) ?_)
              intro w380 hA381
              have hx382 := hA381.ext
              have hs383 := hA381.size
              have hB384 : Blk w380.heap w287.heap.size [.slice alv yl.length clv] 22 := hA381.new
              have hF385 := hF289.ext hx382
              have hF386 := hF290.ext hx382
              have hF387 := hF292.ext hx382
              have hF388 := hOl.ext hx382
              have hF389 := RowsO.ext hROm2 hx382
              have hF390 := PartsIn.ext hPA4 hx382
              have hE391 : Mod (fun z => w14.heap.size ≤ z ∧ z < w24.heap.size) w97 w380 := hE293.ext hx382
              have hz392 := hE391.le
              have hs393 := hx382.size
              have hPl := hGa.len_le
              have hnl := nodesL_len xs es
              refine st_e (e_appendX T.sl26 rfl rfl hF386 (hB384.src1 (k := 1) (m := 1) rfl (by omega)) (ones (by rfl)) (by omega) (by decide) (by omega) ?_)
              intro v394 w395 hO396 hG397 hN398 hW399
              have hF400 := hF385.grown hG397 (fun b hb e => by have := (hF386.lt e); have := (hF385.lt hb); first | (clear e hb; omega) | (have := hvS _ hb; clear e hb; omega))
              have hF402 := hF388.gk (hG397) (hF386.rowk) (by decide)
              have hF403 := RowsO.gk hF389 (hG397) (hF386.rowk) (by decide)
              have hF404 := PartsIn.gk hF390 (hG397) (hF386.rowk) (by decide)
              have hE405 : Mod (fun z => w14.heap.size ≤ z ∧ z < w24.heap.size) w97 w395 := hE391.grown hG397 (fun z hz => .inr (hF386.lt hz).1)
              have hz406 := hE405.le
              have hs407 := hG397.size
              have hO408 := Own.snoc (enc := enV) (u := .slice alv yl.length clv) hO396
              obtain ⟨a409, c410, rfl, hm411, hm412⟩ := hO408.src.form
              refine st_q (v := .slice a409 ((i2 + 1)) c410) (x_assign rfl) ?_
              refine st_nil ?_
              refine kn260 _ _ ?_
              refine kn256 _ _ ?_
              refine region ?_
              refine st_q (v := .int .i64 ((i2 : Nat) : Int)) (x_move rfl) ?_
              refine st_q (v := .int .i64 (((i2 + 1) : Nat) : Int)) (x_addN rfl rfl (by omega)) ?_
              refine st_q (v := .int .i64 (((i2 + 1) : Nat) : Int)) (x_assign rfl) ?_
              refine st_nil ?_
              refine kn239 _ ((i2 + 1), .slice a409 ((i2 + 1)) c410, (um ++ [.slice alv yl.length clv]), (dm ++ [yl])) _ ⟨rfl, rfl, rfl, rfl, rfl, trivial⟩ ⟨hE405, ?_⟩ ?_
              ·
                try dsimp only
                exact ⟨by omega, by rw [List.length_append]; simp only [List.length_singleton]; omega, AllX.rows hAx hyx, hO408, RowsO.snoc hF403 (hF402.weak (by omega)), hF400, hF404⟩
              ·
                (try dsimp only); omega
        ·
          refine exit ?_
          refine ke249 _ _ _ ?_
          refine ke241 _ _ _ ?_
          refine kb232 _ _ ?_
          refine kn221 _ _ ?_
          refine seqK fun Q413 kn414 kr415 ke416 => ?_
          refine seqK fun Q417 kn418 kr419 ke420 => ?_
          refine region ?_
          obtain rfl : i2 = dm.length := hdm.symm
          have hwc : w97.heap.size ≤ w235.heap.size := by omega
          have hM421 : Mod (fun z => w14.heap.size ≤ z ∧ z < w24.heap.size) w235 w235 := Mod.refl _ _
          have hz422 := hM421.le
          refine st_q (v := .int .i64 ((0 : Nat) : Int)) (x_assign rfl) ?_
          refine st_nil ?_
          refine kn418 _ _ ?_
          refine blockK fun Q423 kn424 kr425 kx426 kb427 => ?_
          refine loopK (α := Nat × Value × (List Value)) (fun x => [(7, x.2.1), (8, .slice bb P.length cb_), (9, .slice ww P.length cw_), (12, .slice a242 dm.length c243), (16, .int .i64 ((x.1 : Nat) : Int))]) (fun x w428 => Mod (fun z => w14.heap.size ≤ z ∧ z < w24.heap.size) w235 w428 ∧ x.1 ≤ 20 ∧ Own w428.heap w14.heap.size 22 1 x.2.1 (P.length + x.1) (flat enV x.2.2) ∧ (∀ z, x.2.1.ownBlock = some z → (fun z => w14.heap.size ≤ z ∧ z < w24.heap.size) z ∨ w235.heap.size ≤ z)) (fun x => 20 - x.1) (0, .slice aa P.length ca_, usa) ⟨rfl, rfl, rfl, rfl, rfl, trivial⟩ ?_ ?_
          ·
            refine ⟨hM421, ?_⟩
            try dsimp only
            exact ⟨by omega, hOa3, fun z hz => .inl (hvA z hz)⟩
          ·
            rintro τ429 ⟨i3, va, ua⟩ w430 ⟨hx431, ⟨hi3, hOa5, hwh⟩⟩
            try dsimp only at hi3 hOa5 hwh
            have hz432 := hx431.le
            intro Q433 kn434 kr435 ke436
            obtain ⟨a437, c438, rfl, hm439, hm440⟩ := hOa5.src.form
            refine seqK fun Q441 kn442 kr443 ke444 => ?_
            refine seqK fun Q445 kn446 kr447 ke448 => ?_
            refine region ?_
            refine st_q (v := .int .i64 ((i3 : Nat) : Int)) (x_move rfl) ?_
            refine st_q (v := .bool (decide (i3 < 20))) (x_lssN rfl rfl) ?_
            refine st_nil ?_
            refine kn446 _ _ ?_
            refine cnd (p := i3 < 20) rfl (fun h449 => ?_) (fun h449 => ?_)
            ·
              refine skip ?_
              refine kn442 _ _ ?_
              refine seqK fun Q450 kn451 kr452 ke453 => ?_
              refine blockK fun Q454 kn455 kr456 kx457 kb458 => ?_
              refine region ?_
              refine st_q (v := .slice a437 ((P.length + i3)) c438) (x_move rfl) ?_
              refine st_e (e_buildSlice (cs := [.string ((ByteArray.mk #[120]))]) (e := 9) (fun _ => by kernel_rfl) ?_)
              intro w459 hA460
              have hx461 := hA460.ext
              have hs462 := hA460.size
              have hB463 : Blk w459.heap w430.heap.size [.string ((ByteArray.mk #[120]))] 9 := hA460.new
              have hF464 := hOa5.ext hx461
              have hE465 : Mod (fun z => w14.heap.size ≤ z ∧ z < w24.heap.size) w235 w459 := hx431.ext hx461
              have hz466 := hE465.le
              have hs467 := hx461.size
              refine st_e (e_buildSlice (cs := [.slice ((some ⟨w430.heap.size, 0, none⟩)) 1 1]) (e := 22) (fun _ => by kernel_rfl) ?_)
              intro w468 hA469
              have hx470 := hA469.ext
              have hs471 := hA469.size
              have hB472 : Blk w468.heap w459.heap.size [.slice ((some ⟨w430.heap.size, 0, none⟩)) 1 1] 22 := hA469.new
              have hB473 := hB463.ext hx470
              have hF474 := hF464.ext hx470
              have hE475 : Mod (fun z => w14.heap.size ≤ z ∧ z < w24.heap.size) w235 w468 := hE465.ext hx470
              have hz476 := hE475.le
              have hs477 := hx470.size
              have hPl := hGa.len_le
              have hnl := nodesL_len xs es
              refine st_e (e_appendX T.sl26 rfl rfl hF474 (hB472.src1 (k := 1) (m := 1) rfl (by omega)) (ones (by rfl)) (by omega) (by decide) (by omega) ?_)
              intro v478 w479 hO480 hG481 hN482 hW483
              have hB484 := hB473.gk (hG481) (hF474.rowk) (by decide)
              have hE485 : Mod (fun z => w14.heap.size ≤ z ∧ z < w24.heap.size) w235 w479 := hE475.grown hG481 (fun z hz => hwh z hz)
              have hz486 := hE485.le
              have hs487 := hG481.size
              have hO488 := Own.snoc (enc := enV) (u := .slice ((some ⟨w430.heap.size, 0, none⟩)) 1 1) hO480
              obtain ⟨a489, c490, rfl, hm491, hm492⟩ := hO488.src.form
              have hwh493 : ∀ z, (.slice a489 (((P.length + i3) + 1)) c490 : Value).ownBlock = some z → (fun z => w14.heap.size ≤ z ∧ z < w24.heap.size) z ∨ w235.heap.size ≤ z := fun z hz => by
                rcases hW483 with e | ⟨_, e⟩
                · exact hwh z (e ▸ hz)
                · exact .inr (by have := e z hz; omega)
              refine st_q (v := .slice a489 (((P.length + i3) + 1)) c490) (x_assign rfl) ?_
              refine st_nil ?_
              refine kn455 _ _ ?_
              refine kn451 _ _ ?_
              refine region ?_
              refine st_q (v := .int .i64 ((i3 : Nat) : Int)) (x_move rfl) ?_
              refine st_q (v := .int .i64 (((i3 + 1) : Nat) : Int)) (x_addN rfl rfl (by omega)) ?_
              refine st_q (v := .int .i64 (((i3 + 1) : Nat) : Int)) (x_assign rfl) ?_
              refine st_nil ?_
              refine kn434 _ ((i3 + 1), .slice a489 (((P.length + i3) + 1)) c490, (ua ++ [.slice ((some ⟨w430.heap.size, 0, none⟩)) 1 1])) _ ⟨rfl, rfl, rfl, rfl, rfl, trivial⟩ ⟨hE485, ?_⟩ ?_
              ·
                try dsimp only
                exact ⟨by omega, hO488, hwh493⟩
              ·
                (try dsimp only); omega
            ·
              refine exit ?_
              refine ke444 _ _ _ ?_
              refine ke436 _ _ _ ?_
              refine kb427 _ _ ?_
              refine kn414 _ _ ?_
              refine seqK fun Q494 kn495 kr496 ke497 => ?_
              refine seqK fun Q498 kn499 kr500 ke501 => ?_
              refine region ?_
              have hOmd := hOm.mod hx431 (fun z hz hs => by have h1 := (hOm.lt hz).1; have h2 := hs.2; omega)
              have hROd := hROm.mod hx431 (fun z hz hs => by have h2 := hs.2; omega)
              have hRIm : RowsIn w430.heap (.slice a242 dm.length c243) um dm := RowsIn.ofO hROd hOmd.src
              have hEd_ : Ext w430 w430 := Below.refl _ _
              have huml := hRIm.len
              refine st_q (v := .int .i64 ((0 : Nat) : Int)) (x_assign rfl) ?_
              refine st_nil ?_
              refine kn499 _ _ ?_
              refine blockK fun Q502 kn503 kr504 kx505 kb506 => ?_
              refine loopK (α := Nat) (fun x => [(7, .slice a437 ((P.length + i3)) c438), (8, .slice bb P.length cb_), (9, .slice ww P.length cw_), (12, .slice a242 dm.length c243), (17, .int .i64 ((x : Nat) : Int))]) (fun x w507 => Ext w430 w507 ∧ x ≤ dm.length) (fun x => dm.length - x) (0) ⟨rfl, rfl, rfl, rfl, rfl, trivial⟩ ?_ ?_
              ·
                refine ⟨Below.refl _ _, ?_⟩
                try dsimp only
                exact Nat.zero_le _
              ·
                rintro τ508 i4 w509 ⟨hx510, hi4⟩
                try dsimp only at hi4
                have hF511 := hOa5.ext hx510
                have hF512 := hx510.e hEd_ (Nat.le_refl _)
                have hE513 : Mod (fun z => w14.heap.size ≤ z ∧ z < w24.heap.size) w235 w509 := hx431.ext hx510
                have hz514 := hE513.le
                have hs515 := hx510.size
                intro Q516 kn517 kr518 ke519
                refine seqK fun Q520 kn521 kr522 ke523 => ?_
                refine seqK fun Q524 kn525 kr526 ke527 => ?_
                refine region ?_
                refine st_q (v := .int .i64 ((i4 : Nat) : Int)) (x_move rfl) ?_
                refine st_q (v := .slice a242 dm.length c243) (x_move rfl) ?_
                refine st_q (v := .int .i64 ((dm.length : Nat) : Int)) (x_lenSl rfl Try.underlying26 rfl) ?_
                refine st_q (v := .bool (decide (i4 < dm.length))) (x_lssN rfl rfl) ?_
                refine st_nil ?_
                refine kn525 _ _ ?_
                refine cnd (p := i4 < dm.length) rfl (fun h528 => ?_) (fun h528 => ?_)
                ·
                  refine skip ?_
                  refine kn521 _ _ ?_
                  refine seqK fun Q529 kn530 kr531 ke532 => ?_
                  refine blockK fun Q533 kn534 kr535 kx536 kb537 => ?_
                  refine seqK fun Q538 kn539 kr540 ke541 => ?_
                  refine region ?_
                  refine st_q (v := .int .i64 ((0 : Nat) : Int)) (x_assign rfl) ?_
                  refine st_nil ?_
                  refine kn539 _ _ ?_
                  refine blockK fun Q542 kn543 kr544 kx545 kb546 => ?_
                  refine loopK (α := Nat) (fun x => [(7, .slice a437 ((P.length + i3)) c438), (8, .slice bb P.length cb_), (9, .slice ww P.length cw_), (12, .slice a242 dm.length c243), (17, .int .i64 ((i4 : Nat) : Int)), (18, .int .i64 ((x : Nat) : Int))]) (fun x w547 => Ext w509 w547 ∧ x ≤ (el dm i4).length) (fun x => (el dm i4).length - x) (0) ⟨rfl, rfl, rfl, rfl, rfl, rfl, trivial⟩ ?_ ?_
                  ·
                    refine ⟨Below.refl _ _, ?_⟩
                    try dsimp only
                    exact Nat.zero_le _
                  ·
                    rintro τ548 k4 w549 ⟨hx550, hk4⟩
                    try dsimp only at hk4
                    have hF551 := hF511.ext hx550
                    have hF552 := hx550.e hF512 (Nat.le_refl _)
                    have hF553 := hx550.e hx510 (Nat.le_refl _)
                    have hE554 : Mod (fun z => w14.heap.size ≤ z ∧ z < w24.heap.size) w235 w549 := hE513.ext hx550
                    have hz555 := hE554.le
                    have hs556 := hx550.size
                    intro Q557 kn558 kr559 ke560
                    refine seqK fun Q561 kn562 kr563 ke564 => ?_
                    refine seqK fun Q565 kn566 kr567 ke568 => ?_
                    refine region ?_
                    refine st_q (v := .int .i64 ((k4 : Nat) : Int)) (x_move rfl) ?_
                    refine st_q (v := .slice a242 dm.length c243) (x_move rfl) ?_
                    refine st_q (v := .int .i64 ((i4 : Nat) : Int)) (x_move rfl) ?_
                    obtain ⟨b569, o570, ha571, hc572⟩ := hRIm.src.at (by omega)
                    refine st_q (v := .pointer (some ⟨b569, o570 + i4 * 1, none⟩)) (x_index' T.sl26 rfl ha571 rfl (by omega)) ?_
                    obtain ⟨q573, c574, e575, hs576⟩ := hRIm.row i4 (by omega)
                    have hcp577 := hs576.capl
                    refine st_q (v := .slice q573 ((el dm i4).length) c574) (x_load1 T.na22 rfl (Cells.conv ((hc572.below hF552).elem enV_len (i := i4) (by omega)) e575)) ?_
                    refine st_q (v := .int .i64 (((el dm i4).length : Nat) : Int)) (x_lenSl rfl Try.underlying22 rfl) ?_
                    refine st_q (v := .bool (decide (k4 < ((el dm i4).length)))) (x_lssN rfl rfl) ?_
                    refine st_nil ?_
                    refine kn566 _ _ ?_
                    refine cnd (p := k4 < ((el dm i4).length)) rfl (fun h578 => ?_) (fun h578 => ?_)
                    ·
                      refine skip ?_
                      refine kn562 _ _ ?_
                      refine seqK fun Q579 kn580 kr581 ke582 => ?_
                      refine blockK fun Q583 kn584 kr585 kx586 kb587 => ?_
                      refine seqK fun Q588 kn589 kr590 ke591 => ?_
                      refine region ?_
                      refine st_q (v := .slice a242 dm.length c243) (x_move rfl) ?_
                      refine st_q (v := .int .i64 ((i4 : Nat) : Int)) (x_move rfl) ?_
                      refine st_q (v := .pointer (some ⟨b569, o570 + i4 * 1, none⟩)) (x_index' T.sl26 rfl ha571 rfl (by omega)) ?_
                      obtain ⟨q592, c593, e594, hs595⟩ := hRIm.row i4 (by omega)
                      have hcp596 := hs595.capl
                      refine st_q (v := .slice q592 ((el dm i4).length) c593) (x_load1 T.na22 rfl (Cells.conv ((hc572.below hF552).elem enV_len (i := i4) (by omega)) e594)) ?_
                      refine st_q (v := .int .i64 ((k4 : Nat) : Int)) (x_move rfl) ?_
                      obtain ⟨b597, o598, ha599, hc600⟩ := hs595.at (by omega)
                      refine st_q (v := .pointer (some ⟨b597, o598 + k4 * 1, none⟩)) (x_index' T.sl22 rfl ha599 rfl (by omega)) ?_
                      refine st_q (v := .string (el (el dm i4) k4)) (x_load1 T.na9 rfl ((hc600.below hF552).elem enS_len (i := k4) (by omega))) ?_
                      refine st_q (v := .bool (decide ((el (el dm i4) k4).toList ≠ ((ByteArray.mk #[120])).toList))) (x_neqS rfl rfl) ?_
                      refine st_nil ?_
                      refine kn589 _ _ ?_
                      refine cnd (p := (el (el dm i4) k4).toList ≠ ((ByteArray.mk #[120])).toList) rfl (fun h601 => ?_) (fun h601 => ?_)
                      ·
                        exact absurd h601 (not_not_intro (by rw [hAx i4 (by omega) k4 (by omega)]))
                      ·
                        refine skip ?_
                        refine kn584 _ _ ?_
                        refine kn580 _ _ ?_
                        refine region ?_
                        refine st_q (v := .int .i64 ((k4 : Nat) : Int)) (x_move rfl) ?_
                        refine st_q (v := .int .i64 (((k4 + 1) : Nat) : Int)) (x_addN rfl rfl (by omega)) ?_
                        refine st_q (v := .int .i64 (((k4 + 1) : Nat) : Int)) (x_assign rfl) ?_
                        refine st_nil ?_
                        refine kn558 _ ((k4 + 1)) _ ⟨rfl, rfl, rfl, rfl, rfl, rfl, trivial⟩ ⟨hx550, ?_⟩ ?_
                        ·
                          try dsimp only
                          exact (by omega)
                        ·
                          (try dsimp only); omega
                    ·
                      refine exit ?_
                      refine ke564 _ _ _ ?_
                      refine ke560 _ _ _ ?_
                      refine kb546 _ _ ?_
                      refine kn534 _ _ ?_
                      refine kn530 _ _ ?_
                      refine region ?_
                      refine st_q (v := .int .i64 ((i4 : Nat) : Int)) (x_move rfl) ?_
                      refine st_q (v := .int .i64 (((i4 + 1) : Nat) : Int)) (x_addN rfl rfl (by omega)) ?_
                      refine st_q (v := .int .i64 (((i4 + 1) : Nat) : Int)) (x_assign rfl) ?_
                      refine st_nil ?_
                      refine kn517 _ ((i4 + 1)) _ ⟨rfl, rfl, rfl, rfl, rfl, trivial⟩ ⟨hF553, ?_⟩ ?_
                      ·
                        try dsimp only
                        exact (by omega)
                      ·
                        (try dsimp only); omega
                ·
                  refine exit ?_
                  refine ke523 _ _ _ ?_
                  refine ke519 _ _ _ ?_
                  refine kb506 _ _ ?_
                  refine kn495 _ _ ?_
                  refine seqK fun Q602 kn603 kr604 ke605 => ?_
                  refine region ?_
                  refine st_q (v := .slice bb P.length cb_) (x_move rfl) ?_
                  refine st_q (v := .slice ww P.length cw_) (x_move rfl) ?_
                  have hMM := (Mod.trans' hx236 hE513 (fun _ h => .inl h))
                  refine st_c (t_call [.slice bb P.length cb_, .slice ww P.length cw_] T.cf13 rfl rfl) (sameParts13 P P usb usw _ _ _ (RowsIn.of (hF103.mod hMM (fun z hz hs => by have h1 := (hF103.lt hz).1; have h2 := hs.2; omega)) (hF104.mod hMM (fun z hz hs => by have h2 := hs.2; omega))) (RowsIn.ofO (hF106.mod hMM (fun z hz hs => by have h2 := hs.2; omega)) (hF105.mod hMM (fun z hz hs => by have h1 := (hF105.lt hz).1; have h2 := hs.2; omega)).src)) ?_
                  rintro _ w606 ⟨e608, hx607⟩
                  rw [decide_eq_true rfl] at e608
                  subst e608
                  refine ⟨_, rfl, ?_⟩
                  have hF609 := hF511.ext hx607
                  have hF610 := hx607.e hF512 (Nat.le_refl _)
                  have hF611 := hx607.e hx510 (Nat.le_refl _)
                  have hE612 : Mod (fun z => w14.heap.size ≤ z ∧ z < w24.heap.size) w235 w606 := hE513.ext hx607
                  have hz613 := hE612.le
                  have hs614 := hx607.size
                  refine st_q (v := .bool true) (x_move rfl) ?_
                  refine st_gq 3 126 rfl rfl (by decide) ?_
                  refine st_q (v := .slice a437 ((P.length + i3)) c438) (x_move rfl) ?_
                  refine st_gq 3 126 rfl rfl (by decide) ?_
                  refine st_q (v := .int .i64 (((P.length + i3) : Nat) : Int)) (x_lenSl rfl Try.underlying26 rfl) ?_
                  refine st_gq 3 126 rfl rfl (by decide) ?_
                  refine st_q (v := .bool (decide (20 ≤ ((P.length + i3))))) (x_geqN rfl rfl) ?_
                  refine st_q (v := .bool (decide (20 ≤ ((P.length + i3))))) (x_pickT rfl rfl) ?_
                  refine st_if (p := 20 ≤ ((P.length + i3))) (x_move rfl) (fun h615 => ?_) (fun h615 => ?_)
                  ·
                    refine st_gq 8 131 rfl rfl (by decide) ?_
                    refine st_c (t_call [] T.cf15 rfl rfl) (known15 _) ?_
                    rintro _ w616 ⟨rfl, hx617⟩
                    refine ⟨_, rfl, ?_⟩
                    have hF618 := hF609.ext hx617
                    have hF619 := hx617.e hF610 (Nat.le_refl _)
                    have hF620 := hx617.e hF611 (Nat.le_refl _)
                    have hE621 : Mod (fun z => w14.heap.size ≤ z ∧ z < w24.heap.size) w235 w616 := hE612.ext hx617
                    have hz622 := hE621.le
                    have hs623 := hx617.size
                    refine st_q (v := .bool true) (x_pickT rfl rfl) ?_
                    refine st_q (v := .bool true) (x_assign rfl) ?_
                    refine st_nil ?_
                    refine kn603 _ _ ?_
                    refine ret ?_
                    refine leave1 (P := Try.prog) (fn := Try.f3) (t := 4) (v := .bool true) rfl rfl ?_
                    exact ⟨rfl, Go.Eng.Below.mod' hE107 (Mod.trans' hx236 hE621 (fun _ h => .inl h)) hSlow (Nat.le_refl _)⟩
                  ·
                    exact absurd h615 (not_not_intro (by omega))

end Go.Proofs.Ytknfjgbipfpnjaa
