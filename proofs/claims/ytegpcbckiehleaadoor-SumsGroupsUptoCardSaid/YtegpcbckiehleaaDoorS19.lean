import Derived.Test.YtegpcbckiehleaaDoorS18
import Derived.Test.YtegpcbckiehleaaDoorSAll
namespace Go.Proofs.YtegpcbckiehleaaDoor
open Go.RowKit Go.Eng Go.OrdPure Go.Flt
theorem T.cf12 : CF Tryd.prog 12 := fun _ _ => by kernel_rfl
theorem T.cf20 : CF Tryd.prog 20 := fun _ _ => by kernel_rfl
theorem T.cf18 : CF Tryd.prog 18 := fun _ _ => by kernel_rfl

theorem size_tp {L M : List Row} (h : tp M = tp L) (hs : SizeL L) : SizeL M := fun x hx s hm => by
  have h1 : x.2 ∈ tp L := h ▸ List.mem_map_of_mem hx
  obtain ⟨y, hy, e⟩ := List.mem_map.1 h1
  exact hs y hy s (by rw [e]; exact hm)
theorem len_tp {L M : List Row} (h : tp M = tp L) : M.length = L.length := by have := congrArg List.length h; rwa [tp_len, tp_len] at this
theorem groups13m (pr : ByteArray) (ar : Int) (L M : List Row) (hMP : tp M = tp L) (va : Value) (ls : List Int) (vb : Value) (w0 : World) (ha : Src w0.heap va M.length 1 (flat enR M)) (hL : RowsP w0.heap M) (hb : Src w0.heap vb ls.length 1 (flat enI ls)) (hls : ls.length ≤ 140737488355328) (hn : M.length ≤ 1466015503701) :
    Calls Tryd.prog 13 #[.agg #[.string pr, .int .i64 ar, va], vb] w0 fun e w' => ∃ (vg : Value) (A : Acc), e = .returned (.tuple #[vg, .int .i64 (gE ar ls (tp L))]) ∧ Ext w0 w' ∧ Own w'.heap w0.heap.size 44 8 vg A.length (flat enG (A.map toG)) ∧ KOK w'.heap w0.heap.size (A.map (·.1)) ∧ GA ar ls (tp L) A := by
  unfold gE GA
  by_cases h : okB ar ls (tp L)
  · rw [if_pos h]
    have := groups13 pr ar M va ls vb w0 ha hL hb hls (by rw [hMP]; exact h) hn
    rw [hMP] at this
    exact this.mono fun e w' ⟨vg, A, h1, h2, h3, h4, h5⟩ => ⟨vg, A, h1, h2, h3, h4, by rw [if_pos h]; exact h5⟩
  · rw [if_neg h]
    exact (groups13e pr ar M va ls vb w0 ha hL hb hls (by rw [hMP]; exact h)).mono fun e w' ⟨h1, h2⟩ => ⟨_, [], h1, h2, Own.nil _ _ _ _, KOK.nil _ _, by rw [if_neg h]⟩
theorem bad_nat {ar c : Int} (h : badC ar c = false) : ∃ n : Nat, c = ((n : Nat) : Int) := by
  unfold badC at h
  have h2 := of_decide_eq_false h
  exact ⟨c.toNat, by omega⟩
theorem right_bad {ar c : Int} {P : List Tup} (hR : RightR ar P) : rightB ar P [c] ↔ badC ar c = false := by
  refine ⟨fun h => h.2 0 (by simp), fun h => ⟨hR, fun i hi => ?_⟩⟩
  have : i = 0 := by have h : i < 1 := hi; omega
  subst this; exact h
theorem cols_bad {ar c : Int} : ColsOK ar [c] ↔ badC ar c = false := by
  refine ⟨fun h => (h 0 (by simp)).1, fun h i hi => ?_⟩
  have : i = 0 := by have h : i < 1 := hi; omega
  subst this; exact ⟨h, fun k hk => by omega⟩
theorem sums15m (pr : ByteArray) (ar : Int) (L M : List Row) (hMP : tp M = tp L) (va : Value) (c : Int) (ls : List Int) (vb : Value) (w0 : World) (ha : Src w0.heap va M.length 1 (flat enR M)) (hL : RowsP w0.heap M) (hb : Src w0.heap vb ls.length 1 (flat enI ls)) (hls : ls.length ≤ 140737488355328) (hn : M.length ≤ 1466015503701) (hsz : SizeL M) (hT : Laid w0) :
    Calls Tryd.prog 15 #[.agg #[.string pr, .int .i64 ar, va], .int .i64 c, vb] w0 fun e w' => ∃ (vg : Value) (A : Acc) (GL : List Grp), e = .returned (.tuple #[vg, .int .i64 (sE ar c ls (tp L))]) ∧ Ext w0 w' ∧ Own w'.heap w0.heap.size 44 8 vg GL.length (flat enG GL) ∧ KOK w'.heap w0.heap.size (A.map (·.1)) ∧ SA ar c ls (tp L) A GL := by
  unfold sE SA
  by_cases h : okB ar ls (tp L)
  · by_cases hc : badC ar c = false
    · obtain ⟨n, rfl⟩ := bad_nat hc
      rw [if_pos ⟨h, hc⟩]
      refine (sums15 pr ar M va ls vb n w0 ha hL hb hls (by rw [hMP]; exact h) hn hc hsz hT).mono fun e w' ⟨vg, A, GL, h1, h2, h3, h4, h5, h6, h7, _⟩ => ⟨vg, A, GL, h1, h2, by rw [h6]; exact h3, h4, ?_⟩
      rw [if_pos ⟨h, hc⟩]
      rw [hMP] at h5
      exact ⟨h5, h6, h7⟩
    · rw [if_neg (fun e => hc e.2)]
      refine (sums15b pr ar M va ls vb c w0 ha hL hb hls (by rw [hMP]; exact h) hn (by rw [hMP, right_bad h.1]; exact hc)).mono fun e w' ⟨h1, h2⟩ => ⟨_, [], [], h1, h2, Own.nil _ _ _ _, KOK.nil _ _, ?_⟩
      rw [if_neg (fun e => hc e.2)]; exact ⟨rfl, rfl⟩
  · rw [if_neg (fun e => h e.1)]
    refine (sums15a pr ar M va ls vb c w0 ha hL hb hls (by rw [hMP]; exact h)).mono fun e w' ⟨h1, h2⟩ => ⟨_, [], [], h1, h2, Own.nil _ _ _ _, KOK.nil _ _, ?_⟩
    rw [if_neg (fun e => h e.1)]; exact ⟨rfl, rfl⟩
set_option maxHeartbeats 4000000 in
theorem refsums14e (pr : ByteArray) (ar : Int) (L : List Row) (va : Value) (ls : List Int) (vb : Value) (c : Int) (w0 : World) (ha : Src w0.heap va L.length 1 (flat enR L)) (hL : RowsP w0.heap L) (hb : Src w0.heap vb ls.length 1 (flat enI ls)) (hbad : ¬ (okB ar ls (tp L) ∧ (c = -1 ∨ badC ar c = false))) : Calls Tryd.prog 14 #[.agg #[.string pr, .int .i64 ar, va], .int .i64 c, vb] w0 fun e w' => e = .returned (.tuple #[.slice none 0 0, .int .i64 2]) ∧ Ext w0 w' := by
  have hE0 : Below w0.heap.size w0 w0 := Below.refl _ _
  have hz0 := hE0.le
  obtain ⟨a, ca, rfl, hca, hca1⟩ := ha.form
  obtain ⟨b, cb, rfl, hcb, hcb1⟩ := hb.form
  refine enter Tryd.func14 rfl 103 Tryd.ntmps14 rfl ?_
  refine seqK fun Q1 kn2 kr3 ke4 => ?_
  refine region ?_
  refine st_e (e_box (v := .agg #[.string pr, .int .i64 ar, .slice a L.length ca]) rfl ?_)
  intro w5 hA6
  have hx7 := hA6.ext
  have hs8 := hA6.size
  have hB9 : Blk w5.heap w0.heap.size [.string pr, .int .i64 ar, .slice a L.length ca] 29 := hA6.new
  have hE10 : Below w0.heap.size w0 w5 := hx7.e hE0 (Nat.le_refl _)
  have hz11 := hE10.le
  have hs12 := hx7.size
  refine st_q (v := .slice none 0 0) (x_assign rfl) ?_
  refine st_q (v := .int .i64 ((0 : Nat) : Int)) (x_assign rfl) ?_
  refine st_nil ?_
  refine kn2 _ _ ?_
  refine seqK fun Q13 kn14 kr15 ke16 => ?_
  refine seqK fun Q17 kn18 kr19 ke20 => ?_
  refine region ?_
  refine st_q (v := .agg #[.string pr, .int .i64 ar, .slice a L.length ca]) (x_loadA [.string pr, .int .i64 ar, .slice a L.length ca] T.ag29 rfl (hB9.cells 0 [.string pr, .int .i64 ar, .slice a L.length ca] (cells_at rfl))) ?_
  refine st_c (t_call [.agg #[.string pr, .int .i64 ar, .slice a L.length ca]] T.cf34 rfl rfl) (right34 pr ar L _ _ (ha.below hE10) (RowsP.below hL hE10)) ?_
  rintro _ w21 ⟨rfl, hx22⟩
  refine ⟨_, rfl, ?_⟩
  have hB23 := hB9.ext hx22
  have hE24 : Below w0.heap.size w0 w21 := hx22.e hE10 (Nat.le_refl _)
  have hz25 := hE24.le
  have hs26 := hx22.size
  refine st_q (v := .bool (decide (¬ (RightR ar (tp L))))) (x_notP rfl) ?_
  refine st_if (p := ¬ (RightR ar (tp L))) (x_move rfl) (fun h27 => ?_) (fun h27 => ?_)
  ·
    refine st_gn 3 19 rfl rfl (by decide) rfl ?_
    refine st_gn 3 19 rfl rfl (by decide) rfl ?_
    refine st_gn 3 19 rfl rfl (by decide) rfl ?_
    refine st_gn 3 19 rfl rfl (by decide) rfl ?_
    refine st_q (v := .bool true) (x_pickT rfl rfl) ?_
    refine st_q (v := .bool true) (x_move rfl) ?_
    refine st_gn 9 25 rfl rfl (by decide) rfl ?_
    refine st_gn 9 25 rfl rfl (by decide) rfl ?_
    refine st_gn 9 25 rfl rfl (by decide) rfl ?_
    refine st_gu 12 28 rfl rfl (by decide) ?_
    refine st_gu 12 28 rfl rfl (by decide) ?_
    refine st_gu 12 28 rfl rfl (by decide) ?_
    refine st_gu 12 28 rfl rfl (by decide) ?_
    refine st_gu 12 28 rfl rfl (by decide) ?_
    refine st_gn 9 25 rfl rfl (by decide) rfl ?_
    refine st_q (v := .bool true) (x_pickT rfl rfl) ?_
    refine st_nil ?_
    refine kn18 _ _ ?_
    refine cndT rfl ?_
    refine seqK fun Q28 kn29 kr30 ke31 => ?_
    refine region ?_
    refine st_q (v := .slice none 0 0) (x_assign rfl) ?_
    refine st_q (v := .int .i64 ((2 : Nat) : Int)) (x_assign rfl) ?_
    refine st_nil ?_
    refine kn29 _ _ ?_
    refine ret ?_
    refine kr15 _ _ ?_
    refine leave2 (P := Tryd.prog) (fn := Tryd.f14) (t := 6) (u := 7) (v := .slice none 0 0) (v' := .int .i64 ((2 : Nat) : Int)) rfl rfl rfl ?_
    exact ⟨rfl, hE24⟩
  ·
    refine st_gq 3 19 rfl rfl (by decide) ?_
    refine st_q (v := .agg #[.string pr, .int .i64 ar, .slice a L.length ca]) (x_loadA [.string pr, .int .i64 ar, .slice a L.length ca] T.ag29 rfl (hB23.cells 0 [.string pr, .int .i64 ar, .slice a L.length ca] (cells_at rfl))) ?_
    refine st_gq 3 19 rfl rfl (by decide) ?_
    refine st_q (v := .slice b ls.length cb) (x_move rfl) ?_
    refine st_gq 3 19 rfl rfl (by decide) ?_
    refine st_c (t_call [.agg #[.string pr, .int .i64 ar, .slice a L.length ca], .slice b ls.length cb] T.cf35 rfl rfl) (columns35 pr ar _ ls _ _ (hb.below hE24)) ?_
    rintro _ w32 ⟨rfl, hx33⟩
    refine ⟨_, rfl, ?_⟩
    have hB34 := hB23.ext hx33
    have hE35 : Below w0.heap.size w0 w32 := hx33.e hE24 (Nat.le_refl _)
    have hz36 := hE35.le
    have hs37 := hx33.size
    refine st_gq 3 19 rfl rfl (by decide) ?_
    refine st_q (v := .bool (decide (¬ (ColsOK ar ls)))) (x_notP rfl) ?_
    refine st_q (v := .bool (decide (¬ (ColsOK ar ls)))) (x_pickF rfl rfl) ?_
    refine st_if (p := ¬ (ColsOK ar ls)) (x_move rfl) (fun h38 => ?_) (fun h38 => ?_)
    ·
      refine st_gn 9 25 rfl rfl (by decide) rfl ?_
      refine st_gn 9 25 rfl rfl (by decide) rfl ?_
      refine st_gn 9 25 rfl rfl (by decide) rfl ?_
      refine st_gu 12 28 rfl rfl (by decide) ?_
      refine st_gu 12 28 rfl rfl (by decide) ?_
      refine st_gu 12 28 rfl rfl (by decide) ?_
      refine st_gu 12 28 rfl rfl (by decide) ?_
      refine st_gu 12 28 rfl rfl (by decide) ?_
      refine st_gn 9 25 rfl rfl (by decide) rfl ?_
      refine st_q (v := .bool true) (x_pickT rfl rfl) ?_
      refine st_nil ?_
      refine kn18 _ _ ?_
      refine cndT rfl ?_
      refine seqK fun Q39 kn40 kr41 ke42 => ?_
      refine region ?_
      refine st_q (v := .slice none 0 0) (x_assign rfl) ?_
      refine st_q (v := .int .i64 ((2 : Nat) : Int)) (x_assign rfl) ?_
      refine st_nil ?_
      refine kn40 _ _ ?_
      refine ret ?_
      refine kr15 _ _ ?_
      refine leave2 (P := Tryd.prog) (fn := Tryd.f14) (t := 6) (u := 7) (v := .slice none 0 0) (v' := .int .i64 ((2 : Nat) : Int)) rfl rfl rfl ?_
      exact ⟨rfl, hE35⟩
    ·
      refine st_gq 9 25 rfl rfl (by decide) ?_
      refine st_q (v := .int .i64 c) (x_move rfl) ?_
      refine st_gq 9 25 rfl rfl (by decide) ?_
      refine st_q (v := .bool (decide (c ≠ (-1)))) (x_neq rfl rfl) ?_
      refine st_gq 9 25 rfl rfl (by decide) ?_
      refine st_if (p := c ≠ (-1)) (x_move rfl) (fun h43 => ?_) (fun h43 => ?_)
      ·
        refine st_gq 12 28 rfl rfl (by decide) ?_
        refine st_q (v := .agg #[.string pr, .int .i64 ar, .slice a L.length ca]) (x_loadA [.string pr, .int .i64 ar, .slice a L.length ca] T.ag29 rfl (hB34.cells 0 [.string pr, .int .i64 ar, .slice a L.length ca] (cells_at rfl))) ?_
        refine st_gq 12 28 rfl rfl (by decide) ?_
        refine st_q (v := .int .i64 c) (x_move rfl) ?_
        refine st_gq 12 28 rfl rfl (by decide) ?_
        refine st_e (e_buildSlice (cs := [.int .i64 c]) (e := 3) (fun _ => by kernel_rfl) ?_)
        intro w44 hA45
        have hx46 := hA45.ext
        have hs47 := hA45.size
        have hB48 : Blk w44.heap w32.heap.size [.int .i64 c] 3 := hA45.new
        have hB49 := hB34.ext hx46
        have hE50 : Below w0.heap.size w0 w44 := hx46.e hE35 (Nat.le_refl _)
        have hz51 := hE50.le
        have hs52 := hx46.size
        refine st_gq 12 28 rfl rfl (by decide) ?_
        refine st_c (t_call [.agg #[.string pr, .int .i64 ar, .slice a L.length ca], .slice ((some ⟨w32.heap.size, 0, none⟩)) 1 1] T.cf35 rfl rfl) (columns35 pr ar _ ([c]) _ _ (hB48.src1 (k := 1) (m := 1) rfl (by omega))) ?_
        rintro _ w53 ⟨rfl, hx54⟩
        refine ⟨_, rfl, ?_⟩
        have hB55 := hB49.ext hx54
        have hB56 := hB48.ext hx54
        have hE57 : Below w0.heap.size w0 w53 := hx54.e hE50 (Nat.le_refl _)
        have hz58 := hE57.le
        have hs59 := hx54.size
        refine st_gq 12 28 rfl rfl (by decide) ?_
        refine st_q (v := .bool (decide (¬ (ColsOK ar [c])))) (x_notP rfl) ?_
        refine st_gq 9 25 rfl rfl (by decide) ?_
        refine st_q (v := .bool (decide (¬ (ColsOK ar [c])))) (x_pickT rfl rfl) ?_
        refine st_q (v := .bool (decide (¬ (ColsOK ar [c])))) (x_pickF rfl rfl) ?_
        refine st_nil ?_
        refine kn18 _ _ ?_
        refine cnd (p := ¬ (ColsOK ar [c])) rfl (fun h60 => ?_) (fun h60 => ?_)
        ·
          refine seqK fun Q61 kn62 kr63 ke64 => ?_
          refine region ?_
          refine st_q (v := .slice none 0 0) (x_assign rfl) ?_
          refine st_q (v := .int .i64 ((2 : Nat) : Int)) (x_assign rfl) ?_
          refine st_nil ?_
          refine kn62 _ _ ?_
          refine ret ?_
          refine kr15 _ _ ?_
          refine leave2 (P := Tryd.prog) (fn := Tryd.f14) (t := 6) (u := 7) (v := .slice none 0 0) (v' := .int .i64 ((2 : Nat) : Int)) rfl rfl rfl ?_
          exact ⟨rfl, hE57⟩
        ·
          exact absurd h60 (not_not_intro fun hc => hbad ⟨⟨Decidable.of_not_not (by assumption), Decidable.of_not_not (by assumption)⟩, .inr (cols_bad.1 hc)⟩)
      ·
        refine st_gn 12 28 rfl rfl (by decide) rfl ?_
        refine st_gn 12 28 rfl rfl (by decide) rfl ?_
        refine st_gn 12 28 rfl rfl (by decide) rfl ?_
        refine st_gn 12 28 rfl rfl (by decide) rfl ?_
        refine st_gn 12 28 rfl rfl (by decide) rfl ?_
        refine st_gq 9 25 rfl rfl (by decide) ?_
        refine st_q (v := .bool false) (x_pickF rfl rfl) ?_
        refine st_q (v := .bool false) (x_pickF rfl rfl) ?_
        refine st_nil ?_
        refine kn18 _ _ ?_
        refine cndF rfl ?_
        refine skip ?_
        refine kn14 _ _ ?_
        refine seqK fun Q65 kn66 kr67 ke68 => ?_
        refine region ?_
        exact absurd (show okB ar ls (tp L) ∧ (c = -1 ∨ badC ar c = false) from ⟨⟨Decidable.of_not_not (by assumption), Decidable.of_not_not (by assumption)⟩, .inl (Decidable.of_not_not (by assumption))⟩) hbad

theorem refsums14m (pr : ByteArray) (ar : Int) (L : List Row) (va : Value) (ls : List Int) (vb : Value) (c : Int) (w0 : World) (ha : Src w0.heap va L.length 1 (flat enR L)) (hL : RowsP w0.heap L) (hb : Src w0.heap vb ls.length 1 (flat enI ls)) (hn : L.length ≤ 1466015503701) (hsz : SizeL L) :
    Calls Tryd.prog 14 #[.agg #[.string pr, .int .i64 ar, va], .int .i64 c, vb] w0 fun e w' => ∃ (v : Value) (A : List Row) (G : List Grp), e = .returned (.tuple #[v, .int .i64 (rE ar c ls (tp L))]) ∧ Ext w0 w' ∧ Own w'.heap w0.heap.size 44 8 v G.length (flat enG G) ∧ RowsW w'.heap w0.heap.size A ∧ RB ar c ls (tp L) A G := by
  unfold rE RB
  by_cases h : okB ar ls (tp L) ∧ (c = -1 ∨ badC ar c = false)
  · rw [if_pos h]
    by_cases hc : c = -1
    · subst hc
      refine (refsums14g pr ar L va ls vb w0 ha hL hb h.1 hn hsz).mono fun e w' ⟨v, A, G, h1, h2, h3, h4, h5, h6, h7⟩ => ⟨v, A, G, h1, h2, h3, h5, ?_⟩
      rw [if_pos h]
      exact ⟨h4, h6, fun j hj => by rw [if_pos rfl]; exact h7 j hj⟩
    · have hb' := h.2.resolve_left hc
      obtain ⟨n, rfl⟩ := bad_nat hb'
      refine (refsums14c pr ar L va ls vb n w0 ha hL hb h.1 hn hsz hb').mono fun e w' ⟨v, A, G, h1, h2, h3, h4, h5, h6, h7⟩ => ⟨v, A, G, h1, h2, h3, h5, ?_⟩
      rw [if_pos h]
      exact ⟨h4, h6, fun j hj => by rw [if_neg hc]; exact h7 j hj⟩
  · rw [if_neg h]
    refine (refsums14e pr ar L va ls vb c w0 ha hL hb h).mono fun e w' ⟨h1, h2⟩ => ⟨_, [], [], h1, h2, Own.nil _ _ _ _, RowsW.nil _ _, ?_⟩
    rw [if_neg h]
end Go.Proofs.YtegpcbckiehleaaDoor
