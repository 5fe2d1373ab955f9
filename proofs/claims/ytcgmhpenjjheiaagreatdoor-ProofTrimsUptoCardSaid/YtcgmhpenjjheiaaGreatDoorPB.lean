/- A part of the engine: steps over the model. Over any program. -/
import Derived.Test.YtcgmhpenjjheiaaGreatDoorPT
import Derived.Test.YtcgmhpenjjheiaaGreatDoorV3
import Derived.Test.YtcgmhpenjjheiaaGreatDoorProg
import Derived.Test.YtcgmhpenjjheiaaGreatDoorPA
namespace Go.Proofs.YtcgmhpenjjheiaaGreatDoor
open Go.RowKit Go.Eng Go.PT
theorem T.cf9 : CF Tryz.prog 9 := fun _ _ => by kernel_rfl
theorem T.cf21 : CF Tryz.prog 21 := fun _ _ => by kernel_rfl
theorem kept10 (xs zs : List Rw) (zm : Rw) (a b : Option Addr) (m c d : Nat) (w0 : World) (hz : Lnt w0.heap mkR a m c zs zm) (hb : Sts w0.heap b m d xs) (hE : ∀ i, i < m → (el xs i).1 = (el zs i).1) :
    Calls Tryz.prog 10 #[.slice a m c, .slice b m d] w0 fun e w' => e = .returned (.bool true) ∧ Ext w0 w' := by
  have hc := hz.row.cap
  have hd := hb.1.cap
  have hl := hz.len
  refine enter Tryz.func10 rfl 88 Tryz.ntmps10 rfl <| ?_
  refine sr fun Q1 k2 => qt asg <| nl <| k2 _ _ <| seqK fun Q3 kn4 kr5 ke6 => ?_
  refine sr fun Q7 k8 => qt mv <| qt mv <| ?_
  refine cl T.cf9 (same9 _ _ _ _ _ _ _ _ (hz.ext (Hp.start No w0).x).sts (hb.ext (Hp.start No w0).x) (fun i hi => (hE i hi).symm)) rfl fun _ w10 ⟨er, x9⟩ => ⟨_, er, ?_⟩
  have H11 := (Hp.start No w0).ext x9
  refine qt (x_notB (b := true) rfl) <| qt mv <| st_gq 4 12 rfl rfl (by decide) <| qt mv <| st_gq 4 12 rfl rfl (by decide) <| qt mv <| st_gq 4 12 rfl rfl (by decide) <| qt (x_lenSl rfl Tryz.underlying22 rfl) <| st_gq 4 12 rfl rfl (by decide) <| qt (addN (b := 1) rfl rfl) <| st_gq 4 12 rfl rfl (by decide) <| qt (x_sliceHi T.sl22 rfl rfl (by omega)) <| st_gq 4 12 rfl rfl (by decide) <| qt mv <| st_gq 4 12 rfl rfl (by decide) <| qt (x_lenSl rfl Tryz.underlying22 rfl) <| st_gq 4 12 rfl rfl (by decide) <| qt (x_index' T.sl22 rfl (hz.row.addr (by omega)) rfl (by omega)) <| st_gq 4 12 rfl rfl (by decide) <| qt (x_field (o := (ao a) + m * 5) T.fa65_1 rfl) <| st_gq 4 12 rfl rfl (by decide) <| qt (x_load1 T.na3 rfl (((hz.ext H11.x).m77).fld 2 rfl)) <| st_gq 4 12 rfl rfl (by decide) <| qt (x_neq rfl rfl) <| qt (pkF rfl) <| nl <| k8 _ _ <| cndN (p := (-77 : Int) ≠ (-77 : Int)) rfl (fun h => h rfl) <| skip <| kn4 _ _ <| seqK fun Q12 kn13 kr14 ke15 => ?_
  refine sr fun Q16 k17 => qt asg <| nl <| k17 _ _ <| blockK fun Q18 kn19 kr20 kx21 kb22 => ?_
  refine loopK (α := Nat) (fun x => [(0, .slice a m c), (1, .slice b m d), (5, .int .i64 ((x : Nat) : Int))]) (fun x w23 => Hp No w0 w23 [] ∧ x ≤ m) (fun x => m - x) (0) ⟨rfl, rfl, rfl, trivial⟩ ?_ ?_
  · refine ⟨H11, ?_⟩
    try dsimp only
    exact Nat.zero_le _
  · rintro τ24 i w25 ⟨hx26, hi⟩
    try dsimp only at hi
    have hz27 := hx26.le
    intro Q28 kn29 kr30 ke31
    refine seqK fun Q32 kn33 kr34 ke35 => ?_
    refine sr fun Q36 k37 => qt mv <| qt mv <| qt (x_lenSl rfl Tryz.underlying22 rfl) <| qt (x_lssN rfl rfl) <| nl <| k37 _ _ <| cnd (p := i < m) rfl (fun h38 => ?_) (fun h38 => ?_)
    · refine skip <| kn33 _ _ <| seqK fun Q39 kn40 kr41 ke42 => blockK fun Q43 kn44 kr45 kx46 kb47 => ?_
      refine sr fun Q48 k49 => ?_
      have hf := ((hz.ext hx26.x).f2 hE (i := i) (by omega)).cap
      refine qt mv <| qt mv <| qt (x_index' T.sl22 rfl ((hb.1.ext hx26.x).addr (by omega)) rfl (by omega)) <| qt (x_field (o := (ao b) + i * 5) T.fa65_3 rfl) <| qt (x_load1 T.na63 rfl (((hb.1.ext hx26.x).cell (i := i) (by omega)).fld 4 rfl)) <| qt (x_lenSl rfl Tryz.underlying63 rfl) <| qt asg <| nl <| k49 _ _ <| ?_
      refine sr fun Q50 k51 => qt mv <| qt mv <| qt (x_index' T.sl22 rfl (hz.row.addr (by omega)) rfl (by omega)) <| qt (x_field (o := (ao a) + i * 5) T.fa65_3 rfl) <| qt (x_load1 T.na63 rfl (((hz.ext hx26.x).sts.cell2 hE (i := i) (by omega)).fld 4 rfl)) <| qt mv <| qt (addN (b := 2) rfl rfl) <| qt (x_sliceHi T.sl63 rfl rfl (by omega)) <| qt asg <| nl <| k51 _ _ <| seqK fun Q52 kn53 kr54 ke55 => regionD1 [5, 11, 19, 24, 32, 40] [0, 1, 2, 3, 4, 5, 6, 7, 8, 9, 10, 11, 13, 14, 15, 16, 17, 18, 19, 20, 21, 22, 23, 24, 26, 27, 28, 29, 30, 31, 32, 33, 34, 35, 36, 37, 38, 39, 40, 41, 42] (.one 0 (.one 1 (.one 2 (.one 3 (.one 4 (.one 5 (.one 6 (.one 7 (.one 8 (.one 9 (.one 10 (.one 11 (.one 12 (.one 13 (.one 14 (.one 15 (.one 16 (.one 17 (.one 18 (.one 19 (.one 20 (.one 21 (.one 22 (.one 23 (.one 24 (.one 25 (.one 26 (.one 27 (.one 28 (.one 29 (.one 30 (.one 31 (.one 32 (.one 33 (.one 34 (.one 35 (.one 36 (.one 37 (.one 38 (.one 39 (.one 40 (.one 41 (.one 42 .done))))))))))))))))))))))))))))))))))))))))))) (by kernel_rfl) (by kernel_rfl) fun w56 x57 s58 => ?_
      have H59 := hx26.ext x57
      have S60 : Ext w56 w56 := Below.refl _ _
      refine d_q rfl rfl (fun _ => mv) <| d_q rfl rfl (fun _ => mv) <| d_q rfl rfl (fun _ => x_index' T.sl22 rfl (hz.row.addr (by omega)) rfl (by omega)) <| d_q rfl rfl (fun _ => x_field (o := (ao a) + i * 5) T.fa65_0 rfl) <| d_q rfl rfl (fun _ => x_field (o := (ao a) + i * 5) T.fa62_1 rfl) <| d_l rfl rfl rfl (fun _ y61 => x_load1 T.na56 rfl ((((hz.ext H59.x).sts.cell2 hE (i := i) (by omega)).fld 1 rfl).ext y61)) <| d_q rfl rfl (fun _ => mv) <| d_q rfl rfl (fun _ => mv) <| d_q rfl rfl (fun _ => x_index' T.sl22 rfl ((hb.1.ext H59.x).addr (by omega)) rfl (by omega)) <| d_q rfl rfl (fun _ => x_field (o := (ao b) + i * 5) T.fa65_0 rfl) <| d_q rfl rfl (fun _ => x_field (o := (ao b) + i * 5) T.fa62_1 rfl) <| d_l rfl rfl rfl (fun _ y62 => x_load1 T.na56 rfl ((((hb.1.ext H59.x).cell (i := i) (by omega)).fld 1 rfl).ext y62)) <| d_e (by decide) <| d_c' rfl rfl (t_call _ T.cf21 rfl rfl) (kept21 _ _ _ _ _ _ _ ((hz.ext H59.x).t2 hE (i := i) (by omega)) ((hb.ext H59.x).2 i (by omega)).1) fun _ w64 ⟨er, x63⟩ => ⟨_, er, ?_⟩
      have H65 := H59.ext x63
      have S66 := S60.trans (x63.mono S60.size)
      refine ⟨fun _ => S66, ?_⟩
      refine d_q rfl rfl (fun _ => x_notB (b := true) rfl) <| d_q rfl rfl (fun _ => mv) <| d_gq (j := 14) (t := 59) rfl rfl rfl rfl (by decide) (fun _ => mv) <| d_gq (j := 14) (t := 59) rfl rfl rfl rfl (by decide) (fun _ => mv) <| d_gq (j := 14) (t := 59) rfl rfl rfl rfl (by decide) (fun _ => x_index' T.sl22 rfl (hz.row.addr (by omega)) rfl (by omega)) <| d_gq (j := 14) (t := 59) rfl rfl rfl rfl (by decide) (fun _ => x_field (o := (ao a) + i * 5) T.fa65_2 rfl) <| d_gl (j := 14) (t := 59) rfl rfl rfl rfl rfl (by decide) (fun _ y67 => x_load1 T.na56 rfl ((((hz.ext H59.x).sts.cell2 hE (i := i) (by omega)).fld 3 rfl).ext y67)) <| d_gq (j := 14) (t := 59) rfl rfl rfl rfl (by decide) (fun _ => mv) <| d_gq (j := 14) (t := 59) rfl rfl rfl rfl (by decide) (fun _ => mv) <| d_gq (j := 14) (t := 59) rfl rfl rfl rfl (by decide) (fun _ => x_index' T.sl22 rfl ((hb.1.ext H59.x).addr (by omega)) rfl (by omega)) <| d_gq (j := 14) (t := 59) rfl rfl rfl rfl (by decide) (fun _ => x_field (o := (ao b) + i * 5) T.fa65_2 rfl) <| d_gl (j := 14) (t := 59) rfl rfl rfl rfl rfl (by decide) (fun _ y68 => x_load1 T.na56 rfl ((((hb.1.ext H59.x).cell (i := i) (by omega)).fld 3 rfl).ext y68)) <| d_e (by decide) <| d_c' rfl (wanted_true (j := 14) (t := 59) rfl rfl (by decide)) (t_call _ T.cf21 rfl rfl) (kept21 _ _ _ _ _ _ _ ((hz.ext H65.x).v2 hE (i := i) (by omega)) ((hb.ext H65.x).2 i (by omega)).2.1) fun _ w70 ⟨er, x69⟩ => ⟨_, er, ?_⟩
      have H71 := H65.ext x69
      have S72 := S66.trans (x69.mono S66.size)
      refine ⟨fun _ => S72, ?_⟩
      refine d_gq (j := 14) (t := 59) rfl rfl rfl rfl (by decide) (fun _ => x_notB (b := true) rfl) <| d_q rfl rfl (fun _ => pkF rfl) <| d_q rfl rfl (fun _ => mv) <| d_gq (j := 28) (t := 73) rfl rfl rfl rfl (by decide) (fun _ => mv) <| d_gq (j := 28) (t := 73) rfl rfl rfl rfl (by decide) (fun _ => mv) <| d_gq (j := 28) (t := 73) rfl rfl rfl rfl (by decide) (fun _ => x_index' T.sl63 rfl (((hz.ext H59.x).f2 hE (i := i) (by omega)).addr (by omega)) rfl (by omega)) <| d_gl (j := 28) (t := 73) rfl rfl rfl rfl rfl (by decide) (fun _ y73 => x_load1 T.na3 rfl ((m70 ((hz.ext H59.x).f2 hE (i := i) (by omega))).ext y73)) <| d_gq (j := 28) (t := 73) rfl rfl rfl rfl (by decide) (fun _ => x_neq rfl rfl) <| d_q rfl rfl (fun _ => pkF rfl) <| d_if rfl rfl (p := (-70 : Int) ≠ (-70 : Int)) (fun _ => mv) (fun h74 => ?_) (fun h74 => ?_)
      · exact absurd h74 (fun h => h rfl)
      · refine d_gq (j := 35) (t := 80) rfl rfl rfl rfl (by decide) (fun _ => mv) <| d_gq (j := 35) (t := 80) rfl rfl rfl rfl (by decide) (fun _ => mv) <| d_gq (j := 35) (t := 80) rfl rfl rfl rfl (by decide) (fun _ => addN (b := 1) rfl rfl) <| d_gq (j := 35) (t := 80) rfl rfl rfl rfl (by decide) (fun _ => x_index' T.sl63 rfl (((hz.ext H59.x).f2 hE (i := i) (by omega)).addr (by omega)) rfl (by omega)) <| d_gl (j := 35) (t := 80) rfl rfl rfl rfl rfl (by decide) (fun _ y75 => x_load1 T.na3 rfl ((m71 ((hz.ext H59.x).f2 hE (i := i) (by omega))).ext y75)) <| d_gq (j := 35) (t := 80) rfl rfl rfl rfl (by decide) (fun _ => x_neq rfl rfl) <| d_q rfl rfl (fun _ => pkF rfl) <| d_done <| kn53 _ _ <| cndN (p := (-71 : Int) ≠ (-71 : Int)) rfl (fun h => h rfl) <| skip <| kn44 _ _ <| kn40 _ _ <| region <| qt mv <| qt (addN (b := 1) rfl rfl) <| qt asg <| nl <| kn29 _ ((i + 1)) _ ⟨rfl, rfl, rfl, trivial⟩ ⟨H71, ?_⟩ ?_
        · try dsimp only
          exact (by omega)
        · (try dsimp only); omega
    · refine exit <| ke35 _ _ _ <| ke31 _ _ _ <| kb22 _ _ <| kn13 _ _ <| ?_
      exact sr fun Q76 k77 => qt asg <| nl <| k77 _ _ <| ret <| leave1 (P := Tryz.prog) (fn := Tryz.f10) (t := 4) (v := .bool true) rfl rfl <| ⟨rfl, hx26.x⟩
end Go.Proofs.YtcgmhpenjjheiaaGreatDoor
namespace Go.Proofs.YtcgmhpenjjheiaaGreatDoor
open Go.RowKit Go.Eng Go.PT
theorem T.cf17 : CF Tryz.prog 17 := fun _ _ => by kernel_rfl
theorem lend5 (xs : List Rw) (a : Option Addr) (m c : Nat) (w0 : World) (hs : Sts w0.heap a m c xs) (hm : m ≤ 1048576) (hbd : ∀ i, i < m → (el xs i).1.t.length ≤ 1048576 ∧ (el xs i).1.v.length ≤ 1048576 ∧ (el xs i).1.f.length ≤ 1048576) :
    Calls Tryz.prog 5 #[.slice a m c] w0 fun e w' => ∃ a' c' zs zm, e = .returned (.slice a' m c') ∧ Hp No w0 w' [cQ 65 eR a' (m + 1) c' (zs ++ [zm]), cF m (fun k => pL 9 3 mkR (el zs k))] ∧ zm.1.r = -77 ∧ zs.length = m ∧ ∀ i, i < m → (el zs i).1 = (el xs i).1 := by
  have hc := hs.1.cap
  have hl := hs.1.len
  refine enter Tryz.func5 rfl 67 Tryz.ntmps5 rfl <| ?_
  refine sr fun Q1 k2 => qt asg <| nl <| k2 _ _ <| ?_
  refine sr fun Q3 k4 => qt asg <| nl <| k4 _ _ <| seqK fun Q5 kn6 kr7 ke8 => ?_
  refine sr fun Q9 k10 => qt asg <| nl <| k10 _ _ <| blockK fun Q11 kn12 kr13 kx14 kb15 => ?_
  refine loopK (α := Nat × (Option Addr) × Nat × (List Rw)) (fun x => [(0, .slice a m c), (3, .slice x.2.1 x.1 x.2.2.1), (4, .int .i64 ((x.1 : Nat) : Int))]) (fun x w16 => Hp No w0 w16 [cQ 65 eR x.2.1 x.1 x.2.2.1 x.2.2.2, cF x.1 (fun k => pL 9 3 mkR (el x.2.2.2 k))] ∧ x.1 ≤ m ∧ x.2.2.2.length = x.1 ∧ ∀ j, j < x.1 → (el x.2.2.2 j).1 = (el xs j).1) (fun x => m - x.1) (0, none, 0, []) ⟨rfl, rfl, rfl, trivial⟩ ?_ ?_
  · refine ⟨(((Hp.start No w0).fnil _).nilQ 65 eR), ?_⟩
    try dsimp only
    exact ⟨Nat.zero_le _, rfl, fun j h => by omega⟩
  · rintro τ17 ⟨i, a2, c2, zs⟩ w18 ⟨hx19, ⟨hi, hzl, hE⟩⟩
    try dsimp only at hi hzl hE
    have hz20 := hx19.le
    intro Q21 kn22 kr23 ke24
    dsimp only at hx19 ⊢
    refine seqK fun Q25 kn26 kr27 ke28 => ?_
    refine sr fun Q29 k30 => qt mv <| qt mv <| qt (x_lenSl rfl Tryz.underlying22 rfl) <| qt (x_lssN rfl rfl) <| nl <| k30 _ _ <| cnd (p := i < m) rfl (fun h31 => ?_) (fun h31 => ?_)
    · refine skip <| kn26 _ _ <| seqK fun Q32 kn33 kr34 ke35 => blockK fun Q36 kn37 kr38 kx39 kb40 => ?_
      refine sr fun Q41 k42 => ?_
      refine st_e <| Ebs (cs := []) (e := 3) hx19 (fun _ => by kernel_rfl) fun b43 w44 H45 x46 => ?_
      have hbi := hbd i (by omega)
      refine qt mv <| qt mv <| qt (x_index' T.sl22 rfl ((hs.1.ext H45.x).addr (by omega)) rfl (by omega)) <| qt (x_field (o := (ao a) + i * 5) T.fa65_3 rfl) <| qt (x_load1 T.na63 rfl (((hs.1.ext H45.x).cell (i := i) (by omega)).fld 4 rfl)) <| ?_
      refine st_e <| EapQ (H45.noneQ 3 eI (some ⟨b43, 0, none⟩)) 0 T.sl63 rfl rfl rfl ((hs.ext (H45.noneQ 3 eI (some ⟨b43, 0, none⟩)).x).2 i (by omega)).2.2 (by omega) rfl rfl fun a47 c48 w49 H50 => qt asg <| nl <| k42 _ _ <| ?_
      refine sr fun Q51 k52 => qt mv <| ?_
      refine st_e <| Ebs (cs := [.int .i64 (-70), .int .i64 (-71)]) (e := 3) H50 (fun _ => by kernel_rfl) fun b53 w54 H55 x56 => ?_
      refine st_e <| EapQ (H55.toQ eI 0 [-70, -71] rfl rfl (by decide)) 1 T.sl63 rfl rfl rfl ((H55.toQ eI 0 [-70, -71] rfl rfl (by decide)).srQ 0 rfl) (by omega) rfl rfl fun a57 c58 w59 H60 => qt asg <| nl <| k52 _ _ <| regionD1 [6, 12, 19, 24, 31] [0, 1, 2, 3, 4, 5, 6, 7, 8, 9, 10, 11, 12, 14, 15, 16, 17, 18, 19, 20, 21, 22, 23, 24, 26, 27, 28, 29, 30, 31, 32, 33, 34, 37] (.one 0 (.one 1 (.one 2 (.one 3 (.one 4 (.one 5 (.one 6 (.one 7 (.one 8 (.one 9 (.one 10 (.one 11 (.one 12 (.one 15 (.one 16 (.one 17 (.one 18 (.one 19 (.one 20 (.one 21 (.one 22 (.one 23 (.one 24 (.one 26 (.one 27 (.one 28 (.one 29 (.one 30 (.one 31 (.one 32 (.one 33 (.one 13 (.one 14 (.one 25 (.one 34 (.one 35 (.one 36 (.one 37 .done)))))))))))))))))))))))))))))))))))))) (by kernel_rfl) (by kernel_rfl) fun w61 x62 s63 => ?_
      have H64 := H60.ext x62
      have S65 : Ext w61 w61 := Below.refl _ _
      refine d_q rfl rfl (fun _ => mv) <| d_q rfl rfl (fun _ => mv) <| d_q rfl rfl (fun _ => mv) <| d_q rfl rfl (fun _ => x_index' T.sl22 rfl ((hs.1.ext H64.x).addr (by omega)) rfl (by omega)) <| d_q rfl rfl (fun _ => x_field (o := (ao a) + i * 5) T.fa65_0 rfl) <| d_q rfl rfl (fun _ => x_field (o := (ao a) + i * 5) T.fa62_0 rfl) <| d_l rfl rfl rfl (fun _ y66 => x_load1 T.na9 rfl ((((hs.1.ext H64.x).cell (i := i) (by omega)).fld 0 rfl).ext y66)) <| d_q rfl rfl (fun _ => mv) <| d_q rfl rfl (fun _ => mv) <| d_q rfl rfl (fun _ => x_index' T.sl22 rfl ((hs.1.ext H64.x).addr (by omega)) rfl (by omega)) <| d_q rfl rfl (fun _ => x_field (o := (ao a) + i * 5) T.fa65_0 rfl) <| d_q rfl rfl (fun _ => x_field (o := (ao a) + i * 5) T.fa62_1 rfl) <| d_l rfl rfl rfl (fun _ y67 => x_load1 T.na56 rfl ((((hs.1.ext H64.x).cell (i := i) (by omega)).fld 1 rfl).ext y67)) <| d_q rfl rfl (fun _ => mv) <| d_q rfl rfl (fun _ => mv) <| d_q rfl rfl (fun _ => x_index' T.sl22 rfl ((hs.1.ext H64.x).addr (by omega)) rfl (by omega)) <| d_q rfl rfl (fun _ => x_field (o := (ao a) + i * 5) T.fa65_1 rfl) <| d_l rfl rfl rfl (fun _ y68 => x_load1 T.na3 rfl ((((hs.1.ext H64.x).cell (i := i) (by omega)).fld 2 rfl).ext y68)) <| d_q rfl rfl (fun _ => mv) <| d_q rfl rfl (fun _ => mv) <| d_q rfl rfl (fun _ => x_index' T.sl22 rfl ((hs.1.ext H64.x).addr (by omega)) rfl (by omega)) <| d_q rfl rfl (fun _ => x_field (o := (ao a) + i * 5) T.fa65_2 rfl) <| d_l rfl rfl rfl (fun _ y69 => x_load1 T.na56 rfl ((((hs.1.ext H64.x).cell (i := i) (by omega)).fld 3 rfl).ext y69)) <| d_q rfl rfl (fun _ => mv) <| d_q rfl rfl (fun _ => mv) <| d_q rfl rfl (fun _ => mv) <| d_q rfl rfl (fun _ => x_index' T.sl22 rfl ((hs.1.ext H64.x).addr (by omega)) rfl (by omega)) <| d_q rfl rfl (fun _ => x_field (o := (ao a) + i * 5) T.fa65_3 rfl) <| d_l rfl rfl rfl (fun _ y70 => x_load1 T.na63 rfl ((((hs.1.ext H64.x).cell (i := i) (by omega)).fld 4 rfl).ext y70)) <| d_q rfl rfl (fun _ => x_lenSl rfl Tryz.underlying63 rfl) <| d_q rfl rfl (fun _ => x_sliceHi T.sl63 rfl rfl (by have := (H64.srQ 1 rfl).cap; omega)) <| d_e (by decide) <| d_c' rfl rfl (t_call _ T.cf17 rfl rfl) (lend17 ((el xs i).1.t) _ _ _ _ ((hs.ext H64.x).2 i (by omega)).1 (by omega)) fun _ w74 ⟨a71, c72, er, K73⟩ => ⟨_, er, ?_⟩
      have H75 := H64.app' K73
      have S76 := S65.trans (K73.x.mono S65.size)
      refine ⟨fun _ => S76, ?_⟩
      refine d_q (v := .agg #[.string ((el xs i).1.p), .slice a71 ((el xs i).1.t.length) c72]) rfl rfl (fun _ => x_build (fun _ => by kernel_rfl)) <| d_e (by decide) <| d_c' rfl rfl (t_call _ T.cf17 rfl rfl) (lend17 ((el xs i).1.v) _ _ _ _ ((hs.ext H75.x).2 i (by omega)).2.1 (by omega)) fun _ w80 ⟨a77, c78, er, K79⟩ => ⟨_, er, ?_⟩
      have H81 := H75.app' K79
      have S82 := S76.trans (K79.x.mono S76.size)
      refine ⟨fun _ => S82, ?_⟩
      refine d_q (v := .agg #[.string ((el xs i).1.p), .slice a71 ((el xs i).1.t.length) c72, .int .i64 ((el xs i).1.r), .slice a77 ((el xs i).1.v.length) c78, .slice a57 ((el xs i).1.f.length) c58]) rfl rfl (fun _ => x_build (fun _ => by kernel_rfl)) <| d_e (by decide) <| d_e' rfl rfl <| Ebs (cs := [.string ((el xs i).1.p), .slice a71 ((el xs i).1.t.length) c72, .int .i64 ((el xs i).1.r), .slice a77 ((el xs i).1.v.length) c78, .slice a57 ((el xs i).1.f.length) c58]) (e := 65) H81 (fun _ => by kernel_rfl) fun b83 w84 H85 x86 => ?_
      have S87 := S82.trans (x86.mono S82.size)
      refine ⟨fun _ => S87, ?_⟩
      refine d_e (by decide) <| d_e' rfl rfl <| EapQ H85 6 T.sl22 rfl rfl rfl (H85.lst (E := eR) 0 rfl ((el xs i).1, ⟨a71, c72, a77, c78, a57, c58⟩) rfl) (by omega) rfl rfl fun a88 c89 w90 H91 => ⟨need_no (by kernel_rfl), ?_⟩
      have H93 : Hp No w0 w90 [cQ 9 eS a71 ((el xs i).1.t.length + 3) c72 ((el xs i).1.t ++ [mkR, mkR, mkR]), cQ 9 eS a77 ((el xs i).1.v.length + 3) c78 ((el xs i).1.v ++ [mkR, mkR, mkR]), cQ 3 eI a57 ((0 + (el xs i).1.f.length) + 2) c58 (([] ++ (el xs i).1.f) ++ [-70, -71]), cQ 65 eR a88 (i + 1) c89 (zs ++ [((el xs i).1, ⟨a71, c72, a77, c78, a57, c58⟩)]), cF i (fun k => pL 9 3 mkR (el zs k))] := (H91.pick [2, 1, 4, 6, 7] (by decide))
      have H92 : Hp No w0 w90 [cQ 9 eS a71 ((el xs i).1.t.length + 3) c72 ((el xs i).1.t ++ [mkR, mkR, mkR]), cQ 9 eS a77 ((el xs i).1.v.length + 3) c78 ((el xs i).1.v ++ [mkR, mkR, mkR]), cQ 3 eI a57 ((el xs i).1.f.length + 2) c58 ((el xs i).1.f ++ [-70, -71]), cQ 65 eR a88 (i + 1) c89 (zs ++ [((el xs i).1, ⟨a71, c72, a77, c78, a57, c58⟩)]), cF i (fun k => pL 9 3 mkR (el zs k))] := by simpa only [Nat.zero_add, List.nil_append] using H93
      refine d_q rfl rfl (fun _ => asg) <| d_done <| kn37 _ _ <| kn33 _ _ <| region <| qt mv <| qt (addN (b := 1) rfl rfl) <| qt asg <| nl <| kn22 _ ((i + 1), a88, c89, (zs ++ [((el xs i).1, ⟨a71, c72, a77, c78, a57, c58⟩)])) _ ⟨rfl, rfl, rfl, trivial⟩ ⟨(H92.push3 (p := pL 9 3 mkR) hzl rfl), ?_⟩ ?_
      · try dsimp only
        exact ⟨by omega, by rw [List.length_append, hzl]; rfl, fun j hj => by
          rw [el_app1]
          split
          · rename_i e; rw [e, hzl]
          · exact hE j (by omega)⟩
      · (try dsimp only); omega
    · refine exit <| ke28 _ _ _ <| ke24 _ _ _ <| kb15 _ _ <| kn6 _ _ <| ?_
      refine sr fun Q94 k95 => qt mv <| qt (v := .agg #[.string ByteArray.empty, .slice none 0 0, .int .i64 (-77), .slice none 0 0, .slice none 0 0]) (x_build (fun _ => by kernel_rfl)) <| ?_
      refine st_e <| Ebs (cs := [.string ByteArray.empty, .slice none 0 0, .int .i64 (-77), .slice none 0 0, .slice none 0 0]) (e := 65) hx19 (fun _ => by kernel_rfl) fun b96 w97 H98 x99 => ?_
      refine st_e <| EapQ H98 1 T.sl22 rfl rfl rfl (H98.lst (E := eR) 0 rfl ((⟨ByteArray.empty, [], -77, [], []⟩ : Stp), (⟨none, 0, none, 0, none, 0⟩ : Hd)) rfl) (by omega) rfl rfl fun a100 c101 w102 H103 => qt asg <| nl <| k95 _ _ <| ?_
      refine sr fun Q104 k105 => qt mv <| qt mv <| qt (x_lenSl rfl Tryz.underlying22 rfl) <| qt (x_sliceHi T.sl22 rfl rfl (by have := (H103.srQ 1 rfl).cap; omega)) <| qt asg <| nl <| k105 _ _ <| ret <| leave1 (P := Tryz.prog) (fn := Tryz.f5) (t := 2) (v := .slice a100 m c101) rfl rfl <| ?_
      obtain rfl : i = m := by omega
      exact ⟨_, _, zs, _, rfl, (H103.pick [1, 2] (by decide)), rfl, hzl, hE⟩
end Go.Proofs.YtcgmhpenjjheiaaGreatDoor
namespace Go.Proofs.YtcgmhpenjjheiaaGreatDoor
open Go.RowKit Go.Eng Go.PT
theorem T.fa36_0 : FA Tryz.prog 36 0 0 := fun _ _ => by kernel_rfl
theorem T.na32 : NA Tryz.prog 32 := fun _ => by kernel_rfl
theorem T.sl32 : SL Tryz.prog 32 56 1 24 (.slice none 0 0) := sl_mk Tryz.underlying32 (by kernel_rfl) rfl (by decide)
theorem T.sz32 : SZ Tryz.prog 32 1 := fun _ => by kernel_rfl
theorem T.fa36_1 : FA Tryz.prog 36 1 1 := fun _ _ => by kernel_rfl
theorem T.na33 : NA Tryz.prog 33 := fun _ => by kernel_rfl
theorem T.sl33 : SL Tryz.prog 33 63 1 24 (.slice none 0 0) := sl_mk Tryz.underlying33 (by kernel_rfl) rfl (by decide)
theorem T.sz33 : SZ Tryz.prog 33 1 := fun _ => by kernel_rfl
theorem T.cf22 : CF Tryz.prog 22 := fun _ _ => by kernel_rfl
theorem T.cf23 : CF Tryz.prog 23 := fun _ _ => by kernel_rfl
abbrev hT (x : Rw) : Hdr := (x.2.ta, x.1.t.length, x.2.tc)
abbrev hV (x : Rw) : Hdr := (x.2.va, x.1.v.length, x.2.vc)
abbrev hF (x : Rw) : Hdr := (x.2.fa, x.1.f.length, x.2.fc)
def hTs (xs : List Rw) : Nat → List Hdr
  | 0 => []
  | i + 1 => hTs xs i ++ [hT (el xs i), hV (el xs i)]
def hFs (xs : List Rw) : Nat → List Hdr
  | 0 => []
  | i + 1 => hFs xs i ++ [hF (el xs i)]
theorem texts22 (S : Nat → Prop) (bk : Nat) (ta la : Option Addr) (tm tc lm lc : Nat) (hs ls : List Hdr) (nv lv : Value) (w0 : World) (H0 : Hp S w0 w0 [cB bk 36 [.slice ta tm tc, nv, lv], cQ 56 eL ta tm tc hs]) (hl : Srm eL w0.heap la lm lc ls) (hm : tm + lm ≤ 1099511627776) :
    Calls Tryz.prog 22 #[.pointer (some ⟨bk, 0, none⟩), .slice la lm lc] w0 fun e w' => ∃ ta' tc', e = .returned (.tuple #[]) ∧ Hp S w0 w' [cB bk 36 [.slice ta' (tm + lm) tc', nv, lv], cQ 56 eL ta' (tm + lm) tc' (hs ++ ls)] := by
  refine enter Tryz.func22 rfl 13 Tryz.ntmps22 rfl <| region <| qt mv <| qt mv <| qt (x_nilCheck rfl) <| qt (x_field (o := 0) T.fa36_0 rfl) <| qt (x_load1 T.na32 rfl (H0.ld 0 rfl 0 rfl)) <| qt mv <| ?_
  refine st_e <| EapQ H0 1 T.sl32 rfl rfl rfl hl (by omega) rfl rfl fun a1 c2 w3 H4 => qt (x_nilCheck rfl) <| qt (x_field (o := 0) T.fa36_0 rfl) <| ?_
  exact st_s <| Est (v := .slice a1 (tm + lm) c2) H4 0 T.sz32 rfl rfl rfl rfl rfl rfl fun w5 H6 => nl <| leave0' (P := Tryz.prog) (fn := Tryz.f22) rfl <| ⟨_, _, rfl, H6⟩
theorem ints23 (S : Nat → Prop) (bk : Nat) (ta la : Option Addr) (tm tc lm lc : Nat) (hs ls : List Hdr) (nv lv : Value) (w0 : World) (H0 : Hp S w0 w0 [cB bk 36 [nv, .slice ta tm tc, lv], cQ 63 eL ta tm tc hs]) (hl : Srm eL w0.heap la lm lc ls) (hm : tm + lm ≤ 1099511627776) :
    Calls Tryz.prog 23 #[.pointer (some ⟨bk, 0, none⟩), .slice la lm lc] w0 fun e w' => ∃ ta' tc', e = .returned (.tuple #[]) ∧ Hp S w0 w' [cB bk 36 [nv, .slice ta' (tm + lm) tc', lv], cQ 63 eL ta' (tm + lm) tc' (hs ++ ls)] := by
  refine enter Tryz.func23 rfl 13 Tryz.ntmps23 rfl <| region <| qt mv <| qt mv <| qt (x_nilCheck rfl) <| qt (x_field (o := 0) T.fa36_1 rfl) <| qt (x_load1 T.na33 rfl (H0.ld 0 rfl 1 rfl)) <| qt mv <| ?_
  refine st_e <| EapQ H0 1 T.sl33 rfl rfl rfl hl (by omega) rfl rfl fun a1 c2 w3 H4 => qt (x_nilCheck rfl) <| qt (x_field (o := 0) T.fa36_1 rfl) <| ?_
  exact st_s <| Est (v := .slice a1 (tm + lm) c2) H4 0 T.sz33 rfl rfl rfl rfl rfl rfl fun w5 H6 => nl <| leave0' (P := Tryz.prog) (fn := Tryz.f23) rfl <| ⟨_, _, rfl, H6⟩
theorem put11 (S : Nat → Prop) (bk : Nat) (ta na a : Option Addr) (tm tc nm nc m c : Nat) (hs ns : List Hdr) (xs : List Rw) (lv : Value) (w0 : World) (H0 : Hp S w0 w0 [cB bk 36 [.slice ta tm tc, .slice na nm nc, lv], cQ 56 eL ta tm tc hs, cQ 63 eL na nm nc ns, cQ 65 eR a m c xs]) (hm : tm + 2 * m ≤ 1099511627776) (hn : nm + m ≤ 1099511627776) :
    Calls Tryz.prog 11 #[.pointer (some ⟨bk, 0, none⟩), .slice a m c] w0 fun e w' => ∃ ta' tc' na' nc', e = .returned (.tuple #[]) ∧ Hp S w0 w' [cB bk 36 [.slice ta' (tm + 2 * m) tc', .slice na' (nm + m) nc', lv], cQ 56 eL ta' (tm + 2 * m) tc' (hs ++ hTs xs m), cQ 63 eL na' (nm + m) nc' (ns ++ hFs xs m), cQ 65 eR a m c xs] := by
  refine enter Tryz.func11 rfl 33 Tryz.ntmps11 rfl <| ?_
  refine sr fun Q1 k2 => qt asg <| nl <| k2 _ _ <| blockK fun Q3 kn4 kr5 kx6 kb7 => ?_
  refine loopK (α := Nat × (Option Addr) × Nat × (Option Addr) × Nat) (fun x => [(0, .pointer (some ⟨bk, 0, none⟩)), (1, .slice a m c), (4, .int .i64 ((x.1 : Nat) : Int))]) (fun x w8 => Hp S w0 w8 [cB bk 36 [.slice x.2.1 (tm + 2 * x.1) x.2.2.1, .slice x.2.2.2.1 (nm + x.1) x.2.2.2.2, lv], cQ 56 eL x.2.1 (tm + 2 * x.1) x.2.2.1 (hs ++ hTs xs x.1), cQ 63 eL x.2.2.2.1 (nm + x.1) x.2.2.2.2 (ns ++ hFs xs x.1), cQ 65 eR a m c xs] ∧ x.1 ≤ m) (fun x => m - x.1) (0, ta, tc, na, nc) ⟨rfl, rfl, rfl, trivial⟩ ?_ ?_
  · refine ⟨(by simpa only [hTs, hFs, Nat.mul_zero, Nat.add_zero, List.append_nil] using H0), ?_⟩
    try dsimp only
    exact Nat.zero_le _
  · rintro τ9 ⟨i, ta2, tc2, na2, nc2⟩ w10 ⟨hx11, hi⟩
    try dsimp only at hi
    have hz12 := hx11.le
    intro Q13 kn14 kr15 ke16
    dsimp only at hx11 ⊢
    refine seqK fun Q17 kn18 kr19 ke20 => ?_
    refine sr fun Q21 k22 => qt mv <| qt mv <| qt (x_lenSl rfl Tryz.underlying22 rfl) <| qt (x_lssN rfl rfl) <| nl <| k22 _ _ <| cnd (p := i < m) rfl (fun h23 => ?_) (fun h23 => ?_)
    · refine skip <| kn18 _ _ <| seqK fun Q24 kn25 kr26 ke27 => blockK fun Q28 kn29 kr30 kx31 kb32 => seqK fun Q33 kn34 kr35 ke36 => regionD1 [6, 11] [0, 1, 2, 3, 4, 5, 6, 7, 8, 9, 10, 11] (.one 0 (.one 1 (.one 2 (.one 3 (.one 4 (.one 5 (.one 6 (.one 7 (.one 8 (.one 9 (.one 10 (.one 11 (.one 12 (.one 13 .done)))))))))))))) (by kernel_rfl) (by kernel_rfl) fun w37 x38 s39 => ?_
      have H40 := hx11.ext x38
      have S41 : Ext w37 w37 := Below.refl _ _
      refine d_q rfl rfl (fun _ => mv) <| d_q rfl rfl (fun _ => mv) <| d_q rfl rfl (fun _ => mv) <| d_q rfl rfl (fun _ => x_index' T.sl22 rfl ((H40.srQ 3 rfl).addr (by omega)) rfl (by omega)) <| d_q rfl rfl (fun _ => x_field (o := (ao a) + i * 5) T.fa65_0 rfl) <| d_q rfl rfl (fun _ => x_field (o := (ao a) + i * 5) T.fa62_1 rfl) <| d_l rfl rfl rfl (fun _ y42 => x_load1 T.na56 rfl ((((H40.srQ 3 rfl).cell (i := i) (by omega)).fld 1 rfl).ext y42)) <| d_q rfl rfl (fun _ => mv) <| d_q rfl rfl (fun _ => mv) <| d_q rfl rfl (fun _ => x_index' T.sl22 rfl ((H40.srQ 3 rfl).addr (by omega)) rfl (by omega)) <| d_q rfl rfl (fun _ => x_field (o := (ao a) + i * 5) T.fa65_2 rfl) <| d_l rfl rfl rfl (fun _ y43 => x_load1 T.na56 rfl ((((H40.srQ 3 rfl).cell (i := i) (by omega)).fld 3 rfl).ext y43)) <| d_e (by decide) <| d_e' rfl rfl <| Ebs (cs := [.slice ((el xs i).2.ta) ((el xs i).1.t.length) ((el xs i).2.tc), .slice ((el xs i).2.va) ((el xs i).1.v.length) ((el xs i).2.vc)]) (e := 56) H40 (fun _ => by kernel_rfl) fun b44 w45 H46 x47 => ?_
      have S48 := S41.trans (x47.mono S41.size)
      refine ⟨fun _ => S48, ?_⟩
      have H52 : Hp S w0 w45 ([cB bk 36 [.slice ta2 (tm + 2 * i) tc2, .slice na2 (nm + i) nc2, lv], cQ 56 eL ta2 (tm + 2 * i) tc2 (hs ++ hTs xs i)] ++ [cQ 56 eL (some ⟨b44, 0, none⟩) 2 2 ([hT (el xs i), hV (el xs i)]), cQ 63 eL na2 (nm + i) nc2 (ns ++ hFs xs i), cQ 65 eR a m c xs]) := ((H46.toQ eL 0 [hT (el xs i), hV (el xs i)] rfl rfl (Nat.le_of_ble_eq_true rfl)).pick [1, 2, 0, 3, 4] (by decide))
      refine d_e (by decide) <| d_c' rfl rfl (t_call _ T.cf22 rfl rfl) (texts22 _ _ _ _ _ _ _ _ _ _ _ _ _ H52.startL (H52.srQ 2 rfl) (by omega)) fun _ w53 ⟨a49, c50, er, K51⟩ => ⟨_, er, ?_⟩
      have H54 := H52.callL K51
      refine ⟨need_no (by kernel_rfl), ?_⟩
      refine d_done <| kn34 _ _ <| region <| qt mv <| qt mv <| qt mv <| qt (x_index' T.sl22 rfl ((H54.srQ 4 rfl).addr (by omega)) rfl (by omega)) <| qt (x_field (o := (ao a) + i * 5) T.fa65_3 rfl) <| qt (x_load1 T.na63 rfl (((H54.srQ 4 rfl).cell (i := i) (by omega)).fld 4 rfl)) <| ?_
      refine st_e <| Ebs (cs := [.slice ((el xs i).2.fa) ((el xs i).1.f.length) ((el xs i).2.fc)]) (e := 63) H54 (fun _ => by kernel_rfl) fun b55 w56 H57 x58 => ?_
      have H62 : Hp S w0 w56 ([cB bk 36 [.slice a49 ((tm + 2 * i) + 2) c50, .slice na2 (nm + i) nc2, lv], cQ 63 eL na2 (nm + i) nc2 (ns ++ hFs xs i)] ++ [cQ 63 eL (some ⟨b55, 0, none⟩) 1 1 ([hF (el xs i)]), cQ 56 eL a49 ((tm + 2 * i) + 2) c50 ((hs ++ hTs xs i) ++ [hT (el xs i), hV (el xs i)]), cQ 56 eL (some ⟨b44, 0, none⟩) 2 2 ([hT (el xs i), hV (el xs i)]), cQ 65 eR a m c xs]) := ((H57.toQ eL 0 [hF (el xs i)] rfl rfl (Nat.le_of_ble_eq_true rfl)).pick [1, 4, 0, 2, 3, 5] (by decide))
      refine cl T.cf23 (ints23 _ _ _ _ _ _ _ _ _ _ _ _ _ H62.startL (H62.srQ 2 rfl) (by omega)) rfl fun _ w63 ⟨a59, c60, er, K61⟩ => ⟨_, er, ?_⟩
      have H64 := H62.callL K61
      have H65 : Hp S w0 w63 [cB bk 36 [.slice a49 ((tm + 2 * i) + 2) c50, .slice a59 ((nm + i) + 1) c60, lv], cQ 56 eL a49 ((tm + 2 * i) + 2) c50 ((hs ++ hTs xs i) ++ [hT (el xs i), hV (el xs i)]), cQ 63 eL a59 ((nm + i) + 1) c60 ((ns ++ hFs xs i) ++ [hF (el xs i)]), cQ 65 eR a m c xs] := (H64.pick [0, 3, 1, 5] (by decide))
      refine nl <| kn29 _ _ <| kn25 _ _ <| region <| qt mv <| qt (addN (b := 1) rfl rfl) <| qt asg <| nl <| kn14 _ ((i + 1), a49, c50, a59, c60) _ ⟨rfl, rfl, rfl, trivial⟩ ⟨(by simpa only [hTs, hFs, Nat.mul_add, Nat.mul_one, Nat.add_assoc, List.append_assoc] using H65), ?_⟩ ?_
      · try dsimp only
        exact (by omega)
      · (try dsimp only); omega
    · refine exit <| ke20 _ _ _ <| ke16 _ _ _ <| kb7 _ _ <| leave0' (P := Tryz.prog) (fn := Tryz.f11) rfl <| ?_
      obtain rfl : i = m := by omega
      exact ⟨_, _, _, _, rfl, hx11⟩
end Go.Proofs.YtcgmhpenjjheiaaGreatDoor
