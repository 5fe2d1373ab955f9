import Derived.Test.YtegpcbckiehleaaDoorS5
import Derived.Test.YtegpcbckiehleaaDoorSGr2
namespace Go.Proofs.YtegpcbckiehleaaDoor
open Go.RowKit Go.Eng Go.OrdPure Go.Flt
theorem T.ag29 : AG Tryd.prog 29 3 := fun _ => ⟨by kernel_rfl, by kernel_rfl⟩
theorem T.cf39 : CF Tryd.prog 39 := fun _ _ => by kernel_rfl
theorem T.fa109_0 : FA Tryd.prog 109 0 0 := fun _ _ => by kernel_rfl

theorem zeroB (u : World) : (zeroValue 4).run Tryd.prog u = .ok (.bool false) u := by kernel_rfl
theorem wfC {ar a : Int} (h : badC ar a = false) (h2 : ar ≤ 16) : (Lit.int .i64 a).wf = true := by
  unfold badC at h
  have h3 := of_decide_eq_false h
  have h1 : IntKind.min .i64 ≤ a := Int.le_trans (by decide) (show 0 ≤ a by omega)
  simp [Lit.wf, h1]; omega
set_option maxHeartbeats 4000000 in
theorem grouped33e (pr : ByteArray) (ar : Int) (L : List Row) (va : Value) (ls : List Int) (vb : Value) (w0 : World) (ha : Src w0.heap va L.length 1 (flat enR L)) (hL : RowsP w0.heap L) (hb : Src w0.heap vb ls.length 1 (flat enI ls)) (hls : ls.length ≤ 140737488355328) (hbad : ¬ (RightR ar (tp L) ∧ ColsOK ar ls)) : Calls Tryd.prog 33 #[.agg #[.string pr, .int .i64 ar, va], vb] w0 fun e w' => e = .returned (.tuple #[.slice none 0 0, .slice none 0 0, .int .i64 2]) ∧ Ext w0 w' := by
  have hE0 : Below w0.heap.size w0 w0 := Below.refl _ _
  have hz0 := hE0.le
  obtain ⟨a, ca, rfl, hca, hca1⟩ := ha.form
  obtain ⟨b, cb, rfl, hcb, hcb1⟩ := hb.form
  refine enter Tryd.func33 rfl 129 Tryd.ntmps33 rfl ?_
  refine seqK fun Q1 kn2 kr3 ke4 => ?_
  refine region ?_
  refine st_e (e_box (v := .agg #[.string pr, .int .i64 ar, .slice a L.length ca]) rfl ?_)
  intro w5 hA6
  have hx7 := hA6.ext
  have hs8 := hA6.size
  have hB9 : Blk w5.heap w0.heap.size [.string pr, .int .i64 ar, .slice a L.length ca] 29 := hA6.new
  have hE10 : Below w0.heap.size w0 w5 := hx7.e hE0 (Nat.le_refl _)
  have hz11 := hE10.le
  have hs12 := hx7.size
  refine st_q (v := .slice none 0 0) (x_assign rfl) ?_
  refine st_q (v := .slice none 0 0) (x_assign rfl) ?_
  refine st_q (v := .int .i64 ((0 : Nat) : Int)) (x_assign rfl) ?_
  refine st_nil ?_
  refine kn2 _ _ ?_
  refine seqK fun Q13 kn14 kr15 ke16 => ?_
  refine seqK fun Q17 kn18 kr19 ke20 => ?_
  refine region ?_
  refine st_q (v := .agg #[.string pr, .int .i64 ar, .slice a L.length ca]) (x_loadA [.string pr, .int .i64 ar, .slice a L.length ca] T.ag29 rfl (hB9.cells 0 [.string pr, .int .i64 ar, .slice a L.length ca] (cells_at rfl))) ?_
  refine st_q (v := .slice b ls.length cb) (x_move rfl) ?_
  refine st_c (t_call [.agg #[.string pr, .int .i64 ar, .slice a L.length ca], .slice b ls.length cb] T.cf39 rfl rfl) (right39 pr ar L _ ls _ _ (ha.below hE10) (hL.below hE10) (hb.below hE10)) ?_
  rintro _ w21 ⟨rfl, hx22⟩
  refine ⟨_, rfl, ?_⟩
  have hB23 := hB9.ext hx22
  have hE24 : Below w0.heap.size w0 w21 := hx22.e hE10 (Nat.le_refl _)
  have hz25 := hE24.le
  have hs26 := hx22.size
  refine st_q (v := .bool (decide (¬ (rightB ar (tp L) ls)))) (x_notP rfl) ?_
  refine st_nil ?_
  refine kn18 _ _ ?_
  refine cnd (p := ¬ (rightB ar (tp L) ls)) rfl (fun h27 => ?_) (fun h27 => ?_)
  ·
   refine seqK fun Q28 kn29 kr30 ke31 => ?_
   refine region ?_
   refine st_q (v := .slice none 0 0) (x_assign rfl) ?_
   refine st_q (v := .slice none 0 0) (x_assign rfl) ?_
   refine st_q (v := .int .i64 ((2 : Nat) : Int)) (x_assign rfl) ?_
   refine st_nil ?_
   refine kn29 _ _ ?_
   refine ret ?_
   refine kr15 _ _ ?_
   refine leave3 (P := Tryd.prog) (fn := Tryd.f33) (t := 4) (u := 5) (s := 6) (v := .slice none 0 0) (v' := .slice none 0 0) (v'' := .int .i64 ((2 : Nat) : Int)) rfl rfl rfl rfl ?_
   exact ⟨rfl, hE24⟩
  ·
   have hR : rightB ar (tp L) ls := Decidable.of_not_not h27
   refine skip ?_
   refine kn14 _ _ ?_
   refine seqK fun Q32 kn33 kr34 ke35 => ?_
   refine region ?_
   refine st_e (e_makeMap ?_)
   intro w36 hA37
   have hx38 := hA37.ext
   have hs40 := hA37.size
   have hM39 := IMap.al (P := Tryd.prog) (k := 3) (e := 4) hA37
   have hlo_m : w0.heap.size ≤ w21.heap.size := by omega
   have hB41 := hB23.ext hx38
   have hE42 : Below w0.heap.size w0 w36 := hx38.e hE24 (Nat.le_refl _)
   have hz43 := hE42.le
   have hs44 := hx38.size
   refine st_q (v := .map (some w21.heap.size)) (x_assign rfl) ?_
   refine st_nil ?_
   refine kn33 _ _ ?_
   refine seqK fun Q45 kn46 kr47 ke48 => ?_
   refine seqK fun Q49 kn50 kr51 ke52 => ?_
   refine region ?_
   refine st_q (v := .slice b ls.length cb) (x_move rfl) ?_
   refine st_q (v := .int .i64 ((ls.length : Nat) : Int)) (x_lenSl rfl Tryd.underlying30 rfl) ?_
   refine st_q (v := .int .i64 ((0 : Nat) : Int)) (x_move rfl) ?_
   refine st_nil ?_
   refine kn50 _ _ ?_
   refine blockK fun Q53 kn54 kr55 kx56 kb57 => ?_
   refine loopK (α := Nat) (fun x => [(1, .slice b ls.length cb), (2, .pointer (some ⟨w0.heap.size, 0, none⟩)), (7, .map (some w21.heap.size)), (26, .slice b ls.length cb), (27, .int .i64 ((ls.length : Nat) : Int)), (28, .int .i64 ((x : Nat) : Int))]) (fun x w58 => Below w0.heap.size w0 w58 ∧ x ≤ ls.length ∧ Blk w58.heap w0.heap.size [.string pr, .int .i64 ar, .slice a L.length ca] 29 ∧ IMap Tryd.prog 3 4 w58 w21.heap.size x (seenB ls x) ∧ ∀ j, j < x → ∀ k, k < j → el ls k ≠ el ls j) (fun x => ls.length - x) (0) ⟨rfl, rfl, rfl, rfl, rfl, rfl, trivial⟩ ?_ ?_
   ·
    refine ⟨hE42, ?_⟩
    try dsimp only
    exact ⟨Nat.zero_le _, hB41, by rw [seenB_zero]; exact hM39, fun j h => by omega⟩
   ·
    rintro τ59 i w60 ⟨hx61, ⟨hi, hBx, hM, hI⟩⟩
    try dsimp only at hi hBx hM hI
    have hz62 := hx61.le
    intro Q63 kn64 kr65 ke66
    refine seqK fun Q67 kn68 kr69 ke70 => ?_
    refine region ?_
    refine st_q (v := .bool (decide (i < ls.length))) (x_lssN rfl rfl) ?_
    refine st_nil ?_
    refine kn68 _ _ ?_
    refine seqK fun Q71 kn72 kr73 ke74 => ?_
    refine cnd (p := i < ls.length) rfl (fun h75 => ?_) (fun h75 => ?_)
    ·
     refine skip ?_
     refine kn72 _ _ ?_
     refine seqK fun Q76 kn77 kr78 ke79 => ?_
     refine blockK fun Q80 kn81 kr82 kx83 kb84 => ?_
     refine seqK fun Q85 kn86 kr87 ke88 => ?_
     refine region ?_
     obtain ⟨b89, o90, ha91, hc92⟩ := hb.at (by omega)
     refine st_q (v := .pointer (some ⟨b89, o90 + i * 1, none⟩)) (x_index' T.sl30 rfl ha91 rfl (by omega)) ?_
     refine st_q (v := .int .i64 ((el ls i))) (x_load1 T.na3 rfl ((hc92.below hx61).elem enI_len (i := i) (by omega))) ?_
     refine st_q (v := .int .i64 ((el ls i))) (x_assign rfl) ?_
     refine st_nil ?_
     refine kn86 _ _ ?_
     refine seqK fun Q93 kn94 kr95 ke96 => ?_
     refine seqK fun Q97 kn98 kr99 ke100 => ?_
     refine region ?_
     refine st_q (v := .map (some w21.heap.size)) (x_move rfl) ?_
     refine st_q (v := .int .i64 ((el ls i))) (x_move rfl) ?_
     refine st_q (v := .bool (decide (∃ j, j < i ∧ el ls j = el ls i))) (x_lookupI rfl rfl Tryd.underlying3 Tryd.underlying4 Tryd.underlying105 zeroB hM (wfC (hR.2 i (by omega)) hR.1.2.2)) ?_
     refine st_nil ?_
     refine kn98 _ _ ?_
     refine cnd (p := ∃ j, j < i ∧ el ls j = el ls i) rfl (fun h101 => ?_) (fun h101 => ?_)
     ·
      refine seqK fun Q102 kn103 kr104 ke105 => ?_
      refine region ?_
      refine st_q (v := .slice none 0 0) (x_assign rfl) ?_
      refine st_q (v := .slice none 0 0) (x_assign rfl) ?_
      refine st_q (v := .int .i64 ((2 : Nat) : Int)) (x_assign rfl) ?_
      refine st_nil ?_
      refine kn103 _ _ ?_
      refine ret ?_
      refine kr95 _ _ ?_
      refine kr82 _ _ ?_
      refine kr78 _ _ ?_
      refine kr65 _ _ ?_
      refine kr55 _ _ ?_
      refine kr47 _ _ ?_
      refine leave3 (P := Tryd.prog) (fn := Tryd.f33) (t := 4) (u := 5) (s := 6) (v := .slice none 0 0) (v' := .slice none 0 0) (v'' := .int .i64 ((2 : Nat) : Int)) rfl rfl rfl rfl ?_
      exact ⟨rfl, hx61⟩
     ·
      refine skip ?_
      refine kn94 _ _ ?_
      refine region ?_
      refine st_q (v := .map (some w21.heap.size)) (x_move rfl) ?_
      refine st_q (v := .int .i64 ((el ls i))) (x_move rfl) ?_
      refine st_s (e_mapUpdateI rfl rfl rfl Tryd.underlying3 Tryd.underlying4 Tryd.underlying105 hM (wfC (hR.2 i (by omega)) hR.1.2.2) (by unfold maxLen; omega) ?_)
      intro w106 hM107 hG108
      have hB109 := hBx.gk (hG108) (hM.rowk) (by decide)
      have hE110 : Below w0.heap.size w0 w106 := grown_below hG108 hx61 (Nat.le_refl _) (fun b e => by have e := Option.some.inj e; have := hlo_m; omega)
      have hz111 := hE110.le
      have hs112 := hG108.size
      refine st_nil ?_
      refine kn81 _ _ ?_
      refine kn77 _ _ ?_
      refine region ?_
      refine st_q (v := .int .i64 (((i + 1) : Nat) : Int)) (x_addN rfl rfl (by omega)) ?_
      refine st_q (v := .int .i64 (((i + 1) : Nat) : Int)) (x_move rfl) ?_
      refine st_nil ?_
      refine kn64 _ ((i + 1)) _ ⟨rfl, rfl, rfl, rfl, rfl, rfl, trivial⟩ ⟨hE110, ?_⟩ ?_
      ·
       try dsimp only
       exact ⟨by omega, hB109, by rw [seenB_succ]; exact hM107, fun j h => by
         by_cases he : j = i
         · subst he; exact fun k hk e => (by assumption : ¬ ∃ q, q < j ∧ el ls q = el ls j) ⟨k, hk, e⟩
         · exact hI j (by omega)⟩
      ·
       (try dsimp only); omega
    ·
     exact absurd h75 (not_not_intro (absurd (And.intro hR.1 (show ColsOK ar ls from fun i hi => And.intro (hR.2 i hi) fun k hk => hI i (by omega) k hk)) hbad))

def GK (w0 : World) (x : Row × Row) : Prop := GR w0 x.1
set_option maxHeartbeats 4000000 in
theorem cmpK53a (x y : Row × Row) (w0 : World) (hx : GR w0 x.1) (hy : GR w0 y.1) : Calls Tryd.prog 53 #[.agg (enK x).toArray, .agg (enK y).toArray] w0 fun e w' => e = .returned (.int .i64 (tups x.1.2 y.1.2)) ∧ Ext w0 w' := by
  have hE0 : Below w0.heap.size w0 w0 := Below.refl _ _
  have hz0 := hE0.le
  refine enter Tryd.func53 rfl 10 Tryd.ntmps53 rfl ?_
  refine seqK fun Q1 kn2 kr3 ke4 => ?_
  refine region ?_
  refine st_e (e_box (v := .agg #[.slice x.1.1.1 x.1.2.length x.1.1.2, .slice x.2.1.1 x.2.2.length x.2.1.2]) rfl ?_)
  intro w5 hA6
  have hx7 := hA6.ext
  have hs8 := hA6.size
  have hB9 : Blk w5.heap w0.heap.size [.slice x.1.1.1 x.1.2.length x.1.1.2, .slice x.2.1.1 x.2.2.length x.2.1.2] 109 := hA6.new
  have hE10 : Below w0.heap.size w0 w5 := hx7.e hE0 (Nat.le_refl _)
  have hz11 := hE10.le
  have hs12 := hx7.size
  refine st_e (e_box (v := .agg #[.slice y.1.1.1 y.1.2.length y.1.1.2, .slice y.2.1.1 y.2.2.length y.2.1.2]) rfl ?_)
  intro w13 hA14
  have hx15 := hA14.ext
  have hs16 := hA14.size
  have hB17 : Blk w13.heap w5.heap.size [.slice y.1.1.1 y.1.2.length y.1.1.2, .slice y.2.1.1 y.2.2.length y.2.1.2] 109 := hA14.new
  have hB18 := hB9.ext hx15
  have hE19 : Below w0.heap.size w0 w13 := hx15.e hE10 (Nat.le_refl _)
  have hz20 := hE19.le
  have hs21 := hx15.size
  refine st_q (v := .int .i64 ((0 : Nat) : Int)) (x_assign rfl) ?_
  refine st_nil ?_
  refine kn2 _ _ ?_
  refine seqK fun Q22 kn23 kr24 ke25 => ?_
  refine region ?_
  refine st_q (v := .pointer (some ⟨w0.heap.size, 0, none⟩)) (x_field (o := 0) T.fa109_0 rfl) ?_
  refine st_q (v := .slice x.1.1.1 x.1.2.length x.1.1.2) (x_load1 T.na42 rfl (hB18.one 0 rfl)) ?_
  refine st_q (v := .pointer (some ⟨w5.heap.size, 0, none⟩)) (x_field (o := 0) T.fa109_0 rfl) ?_
  refine st_q (v := .slice y.1.1.1 y.1.2.length y.1.1.2) (x_load1 T.na42 rfl (hB17.one 0 rfl)) ?_
  refine st_c (t_call [.slice x.1.1.1 x.1.2.length x.1.1.2, .slice y.1.1.1 y.1.2.length y.1.1.2] T.cf54 rfl rfl) (cmpR54 w0 x.1 y.1 _ hx hy hE19) ?_
  rintro _ w26 ⟨rfl, hx27⟩
  refine ⟨_, rfl, ?_⟩
  have hB28 := hB18.ext hx27
  have hB29 := hB17.ext hx27
  have hE30 : Below w0.heap.size w0 w26 := hx27.e hE19 (Nat.le_refl _)
  have hz31 := hE30.le
  have hs32 := hx27.size
  refine st_q (v := .int .i64 ((tups x.1.2 y.1.2))) (x_assign rfl) ?_
  refine st_nil ?_
  refine kn23 _ _ ?_
  refine ret ?_
  refine leave1 (P := Tryd.prog) (fn := Tryd.f53) (t := 4) (v := .int .i64 ((tups x.1.2 y.1.2))) rfl rfl ?_
  exact ⟨rfl, hE30⟩

theorem cmpK53 (w0 : World) (x y : Row × Row) (w : World) (hx : GK w0 x) (hy : GK w0 y) (hb : Below w0.heap.size w0 w) : Calls Tryd.prog 53 #[.agg (enK x).toArray, .agg (enK y).toArray] w fun e w' => e = .returned (.int .i64 (tups x.1.2 y.1.2)) ∧ Ext w w' := cmpK53a x y w (Src.below hx hb) (Src.below hy hb)
end Go.Proofs.YtegpcbckiehleaaDoor
