/- A part of the engine: steps over the model. Over any program. -/
import Derived.Test.YtcgmhpenjjheiaaGreatDoorPT
import Derived.Test.YtcgmhpenjjheiaaGreatDoorV3
import Derived.Test.YtcgmhpenjjheiaaGreatDoorProg
import Derived.Test.YtcgmhpenjjheiaaGreatDoorPE
import Derived.Test.YtcgmhpenjjheiaaGreatDoorHkW
namespace Go.Proofs.YtcgmhpenjjheiaaGreatDoor
open Go.RowKit Go.Eng Go.PT
theorem T.cf4 : CF Tryz.prog 4 := fun _ _ => by kernel_rfl
theorem T.cf5 : CF Tryz.prog 5 := fun _ _ => by kernel_rfl
theorem T.cf6 : CF Tryz.prog 6 := fun _ _ => by kernel_rfl
theorem T.cf7 : CF Tryz.prog 7 := fun _ _ => by kernel_rfl
theorem T.cf8 : CF Tryz.prog 8 := fun _ _ => by kernel_rfl
theorem T.cf10 : CF Tryz.prog 10 := fun _ _ => by kernel_rfl
theorem T.zv36 : ZV Tryz.prog 36 (.agg #[.slice none 0 0, .slice none 0 0, .slice none 0 0]) := fun _ => by kernel_rfl
theorem T.cf11 : CF Tryz.prog 11 := fun _ _ => by kernel_rfl
theorem T.cf12 : CF Tryz.prog 12 := fun _ _ => by kernel_rfl
theorem num8 (n : Int) (w0 : World) :
    Calls Tryz.prog 8 #[.int .i64 n] w0 fun e w' => e = .returned (.int .i64 n) ∧ w0 = w' := by
  refine enter Tryz.func8 rfl 4 Tryz.ntmps8 rfl <| ?_
  refine sr fun Q1 k2 => qt asg <| nl <| k2 _ _ <| ?_
  exact sr fun Q3 k4 => qt mv <| qt asg <| nl <| k4 _ _ <| ret <| leave1 (P := Tryz.prog) (fn := Tryz.f8) (t := 2) (v := .int .i64 n) rfl rfl <| ⟨rfl, rfl⟩
theorem law3 (ss : List Stp) (xs : List Rw) (a : Option Addr) (m c : Nat) (w0 : World) (hs : Sts w0.heap a m c xs) (hE : ∀ i, i < m → el ss i = (el xs i).1) (hsl : ss.length = m) (hm : m ≤ 1048576) (hbd : ∀ i, i < m → (el ss i).t.length ≤ 1048576 ∧ (el ss i).v.length ≤ 1048576 ∧ (el ss i).f.length ≤ 1048576) (hT : Tab w0) :
    Calls Tryz.prog 3 #[.slice a m c] w0 fun e w' => e = .returned (.bool true) ∧ Ext w0 w' := by
  have hc := hs.1.cap
  have hl := hs.1.len
  refine enter Tryz.func3 rfl 89 Tryz.ntmps3 rfl <| ?_
  refine sr fun Q1 k2 => qt asg <| nl <| k2 _ _ <| seqK fun Q3 kn4 kr5 ke6 => ?_
  refine sr fun Q7 k8 => qt mv <| qt (x_lenSl rfl Tryz.underlying22 rfl) <| qt (x_gtrN (b := 5000) rfl rfl) <| nl <| k8 _ _ <| cnd (p := 5000 < m) rfl (fun h9 => ?_) (fun h9 => ?_)
  · refine sr fun Q10 k11 => ?_
    refine cl T.cf4 (works4 _) rfl fun _ w13 ⟨er, x12⟩ => ⟨_, er, ?_⟩
    have H14 := (Hp.start No w0).ext x12
    exact qt asg <| nl <| k11 _ _ <| ret <| kr5 _ _ <| leave1 (P := Tryz.prog) (fn := Tryz.f3) (t := 2) (v := .bool true) rfl rfl <| ⟨rfl, H14.x⟩
  · refine skip <| kn4 _ _ <| ?_
    refine sr fun Q15 k16 => qt mv <| ?_
    refine cl T.cf5 (lend5 xs _ _ _ _ (hs.ext (Hp.start No w0).x) hm (fun i hi => by rw [← hE i hi]; exact hbd i hi)) rfl fun _ w17 ⟨az, cz, zs, zm, er, KZ, hz1, hz2, hz3⟩ => ⟨_, er, ?_⟩
    have H18 := (Hp.start No w0).app' KZ
    refine qt asg <| nl <| k16 _ _ <| ?_
    refine sr fun Q19 k20 => qt mv <| ?_
    refine cl T.cf6 (trim6 ss zs _ _ _ _ (Hp.stl H18 0 1 rfl rfl) (fun i hi => (hE i hi).trans (hz3 i hi).symm) hsl hm hbd) rfl fun _ w21 ⟨aA, mA, qA, ysA, er, KA, hA⟩ => ⟨_, er, ?_⟩
    have H22 := H18.app' KA
    have hlA := (H22.srQ 0 rfl).len
    have hAr : (resT ss).length = mA := by rw [← hA, List.length_map, hlA]
    have hmA : mA ≤ 1048576 := by have := resT_le ss; omega
    have hR : ∀ q, q < (resT ss).length → (el (resT ss) q).t.length ≤ 1048576 ∧ (el (resT ss) q).v.length ≤ 1048576 ∧ (el (resT ss) q).f.length ≤ 1048576 := resT_all (Q := fun x => x.t.length ≤ 1048576 ∧ x.v.length ≤ 1048576 ∧ x.f.length ≤ 1048576) (fun i hi => hbd i (by omega)) (fun x f h1 h2 => ⟨h2.1, h2.2.1, by show f.length ≤ _; omega⟩)
    refine qt mv <| qt (x_extract rfl rfl) <| qt (x_extract rfl rfl) <| qt asg <| qt asg <| nl <| k20 _ _ <| ?_
    refine sr fun Q23 k24 => qt mv <| ?_
    refine cl T.cf6 (trim6 ss zs _ _ _ _ (Hp.stl H22 2 3 rfl rfl) (fun i hi => (hE i hi).trans (hz3 i hi).symm) hsl hm hbd) rfl fun _ w25 ⟨aB, mB, qB, ysB, er, KB, hB⟩ => ⟨_, er, ?_⟩
    have H26 := H22.app' KB
    have hlB := (H26.srQ 0 rfl).len
    have e27 : mA = mB := by rw [← hAr, ← hB, List.length_map, hlB]
    subst e27
    refine qt mv <| qt (x_extract rfl rfl) <| qt (x_extract rfl rfl) <| qt asg <| qt asg <| nl <| k24 _ _ <| ?_
    refine sr fun Q28 k29 => qt mv <| ?_
    refine cl T.cf7 (reftrim7 ss xs _ _ _ _ (hs.ext H26.x) hE hsl hm hbd) rfl fun _ w30 ⟨aw, mW, cw, ws, er, xW, hW, hWm⟩ => ⟨_, er, ?_⟩
    have H31 := H26.ext xW
    have hlW := hW.1.len
    have eW : mA = mW := by rw [← hAr, ← hWm, List.length_map, hlW]
    subst eW
    refine qt mv <| qt (x_extract rfl rfl) <| qt (x_extract rfl rfl) <| qt asg <| qt asg <| nl <| k29 _ _ <| seqK fun Q32 kn33 kr34 ke35 => ?_
    refine sr fun Q36 k37 => qt mv <| ?_
    refine cl T.cf8 (num8 _ _) rfl fun _ _ ⟨er, rfl⟩ => ⟨_, er, ?_⟩
    refine qt mv <| qt (x_neq rfl rfl) <| st_if (p := (errT ss) ≠ (errT ss)) (x_move rfl) (fun h39 => ?_) (fun h39 => ?_)
    · exact absurd h39 (fun h => h rfl)
    · refine st_gq 4 38 rfl rfl (by decide) <| qt mv <| st_gq 4 38 rfl rfl (by decide) <| qt mv <| st_gq 4 38 rfl rfl (by decide) <| ?_
      refine cl T.cf9 (same9 ysA ws _ _ _ _ _ _ (Hp.sts H31 2 3 rfl rfl) hW (fun i _ => el_same (hA.trans hWm.symm) i)) rfl fun _ w41 ⟨er, x40⟩ => ⟨_, er, ?_⟩
      have H42 := H31.ext x40
      have hW43 := hW.ext x40
      refine st_gq 4 38 rfl rfl (by decide) <| qt (x_notB (b := true) rfl) <| qt (pkF rfl) <| qt mv <| st_gq 10 44 rfl rfl (by decide) <| qt mv <| st_gq 10 44 rfl rfl (by decide) <| qt mv <| st_gq 10 44 rfl rfl (by decide) <| ?_
      refine cl T.cf9 (same9 ysB ws _ _ _ _ _ _ (Hp.sts H42 0 1 rfl rfl) hW43 (fun i _ => el_same (hB.trans hWm.symm) i)) rfl fun _ w45 ⟨er, x44⟩ => ⟨_, er, ?_⟩
      have H46 := H42.ext x44
      have hW47 := hW43.ext x44
      refine st_gq 10 44 rfl rfl (by decide) <| qt (x_notB (b := true) rfl) <| qt (pkF rfl) <| qt mv <| st_gq 16 50 rfl rfl (by decide) <| qt mv <| st_gq 16 50 rfl rfl (by decide) <| qt mv <| st_gq 16 50 rfl rfl (by decide) <| ?_
      refine cl T.cf10 (kept10 xs zs zm _ _ _ _ _ _ (lnt_of H46 4 5 rfl rfl hz1) (hs.ext H46.x) (fun i hi => (hz3 i hi).symm)) rfl fun _ w49 ⟨er, x48⟩ => ⟨_, er, ?_⟩
      have H50 := H46.ext x48
      have hW51 := hW47.ext x48
      refine st_gq 16 50 rfl rfl (by decide) <| qt (x_notB (b := true) rfl) <| qt (pkF rfl) <| nl <| k37 _ _ <| cndF rfl <| skip <| kn33 _ _ <| ?_
      refine sr fun Q52 k53 => qt mv <| ?_
      refine cl T.cf6 (trim6 (resT ss) ws _ _ _ _ hW51 (fun i _ => by rw [← hWm, el_fst]) hAr (by omega) (fun i hi => hR i (by omega))) rfl fun _ w54 ⟨aC, mC, qC, ysC, er, KC, hC⟩ => ⟨_, er, ?_⟩
      have H55 := H50.app' KC
      have hW56 := hW51.ext KC.x
      have hlC := (H55.srQ 0 rfl).len
      rw [resT_again] at hC
      have e57 : mA = mC := by rw [← hAr, ← hC, List.length_map, hlC]
      subst e57
      refine qt mv <| qt (x_extract rfl rfl) <| qt (x_extract rfl rfl) <| qt asg <| qt asg <| nl <| k53 _ _ <| seqK fun Q58 kn59 kr60 ke61 => ?_
      refine sr fun Q62 k63 => qt mv <| qt (x_eql rfl rfl) <| st_if (p := (errT ss) = 0) (x_move rfl) (fun h64 => ?_) (fun h64 => ?_)
      · refine st_gq 2 63 rfl rfl (by decide) <| qt mv <| st_gq 2 63 rfl rfl (by decide) <| ?_
        refine cl T.cf8 (num8 _ _) rfl fun _ _ ⟨er, rfl⟩ => ⟨_, er, ?_⟩
        refine st_gq 2 63 rfl rfl (by decide) <| qt (x_neq rfl rfl) <| st_gq 2 63 rfl rfl (by decide) <| st_if (p := (errT (resT ss)) ≠ 0) (x_move rfl) (fun h66 => ?_) (fun h66 => ?_)
        · exact absurd h66 (fun hh => hh (errT_again (by assumption)))
        · refine st_gq 6 67 rfl rfl (by decide) <| qt mv <| st_gq 6 67 rfl rfl (by decide) <| qt mv <| st_gq 6 67 rfl rfl (by decide) <| ?_
          refine cl T.cf9 (same9 ysC ws _ _ _ _ _ _ (Hp.sts H55 0 1 rfl rfl) hW56 (fun i _ => el_same (hC.trans hWm.symm) i)) rfl fun _ w68 ⟨er, x67⟩ => ⟨_, er, ?_⟩
          have H69 := H55.ext x67
          have hW70 := hW56.ext x67
          refine st_gq 6 67 rfl rfl (by decide) <| qt (x_notB (b := true) rfl) <| st_gq 2 63 rfl rfl (by decide) <| qt (pkF rfl) <| qt (pkT rfl) <| nl <| k63 _ _ <| cndF rfl <| skip <| kn59 _ _ <| ?_
          refine sr fun Q71 k72 => ?_
          refine st_e <| Eal H69 T.zv36 fun b73 w74 H75 x76 => nl <| k72 _ _ <| ?_
          refine sr fun Q77 k78 => qt mv <| ?_
          have H84 : Hp No w0 w74 ([cB b73 36 [.slice none 0 0, .slice none 0 0, .slice none 0 0], cQ 56 eL none 0 0 ([]), cQ 63 eL none 0 0 ([]), cQ 65 eR aA mA qA ysA] ++ [cQ 65 eR aC mA qC ysC, cF mA (fun k => pR 9 3 (el ysC k)), cQ 65 eR aB mA qB ysB, cF mA (fun k => pR 9 3 (el ysB k)), cF mA (fun k => pR 9 3 (el ysA k)), cQ 65 eR az (m + 1) cz (zs ++ [zm]), cF m (fun k => pL 9 3 mkR (el zs k))]) := (((H75.nilQ 56 eL).nilQ 63 eL).pick [2, 1, 0, 7, 3, 4, 5, 6, 8, 9, 10] (by decide))
          refine cl T.cf11 (put11 _ _ _ _ _ _ _ _ _ _ _ _ _ _ _ _ H84.startL (by omega) (by omega)) rfl fun _ w85 ⟨ta79, tc80, na81, nc82, er, K83⟩ => ⟨_, er, ?_⟩
          have H86 := H84.callL K83
          refine nl <| k78 _ _ <| ?_
          refine sr fun Q87 k88 => qt mv <| ?_
          have H94 : Hp No w0 w85 ([cB b73 36 [.slice ta79 (0 + 2 * mA) tc80, .slice na81 (0 + mA) nc82, .slice none 0 0], cQ 56 eL ta79 (0 + 2 * mA) tc80 ([] ++ hTs ysA mA), cQ 63 eL na81 (0 + mA) nc82 ([] ++ hFs ysA mA), cQ 65 eR aB mA qB ysB] ++ [cQ 65 eR aA mA qA ysA, cQ 65 eR aC mA qC ysC, cF mA (fun k => pR 9 3 (el ysC k)), cF mA (fun k => pR 9 3 (el ysB k)), cF mA (fun k => pR 9 3 (el ysA k)), cQ 65 eR az (m + 1) cz (zs ++ [zm]), cF m (fun k => pL 9 3 mkR (el zs k))]) := (H86.pick [0, 1, 2, 6, 3, 4, 5, 7, 8, 9, 10] (by decide))
          refine cl T.cf11 (put11 _ _ _ _ _ _ _ _ _ _ _ _ _ _ _ _ H94.startL (by omega) (by omega)) rfl fun _ w95 ⟨ta89, tc90, na91, nc92, er, K93⟩ => ⟨_, er, ?_⟩
          have H96 := H94.callL K93
          refine nl <| k88 _ _ <| ?_
          refine sr fun Q97 k98 => qt mv <| ?_
          have H104 : Hp No w0 w95 ([cB b73 36 [.slice ta89 ((0 + 2 * mA) + 2 * mA) tc90, .slice na91 ((0 + mA) + mA) nc92, .slice none 0 0], cQ 56 eL ta89 ((0 + 2 * mA) + 2 * mA) tc90 (([] ++ hTs ysA mA) ++ hTs ysB mA), cQ 63 eL na91 ((0 + mA) + mA) nc92 (([] ++ hFs ysA mA) ++ hFs ysB mA), cQ 65 eR aC mA qC ysC] ++ [cQ 65 eR aB mA qB ysB, cQ 65 eR aA mA qA ysA, cF mA (fun k => pR 9 3 (el ysC k)), cF mA (fun k => pR 9 3 (el ysB k)), cF mA (fun k => pR 9 3 (el ysA k)), cQ 65 eR az (m + 1) cz (zs ++ [zm]), cF m (fun k => pL 9 3 mkR (el zs k))]) := (H96.pick [0, 1, 2, 5, 3, 4, 6, 7, 8, 9, 10] (by decide))
          refine cl T.cf11 (put11 _ _ _ _ _ _ _ _ _ _ _ _ _ _ _ _ H104.startL (by omega) (by omega)) rfl fun _ w105 ⟨ta99, tc100, na101, nc102, er, K103⟩ => ⟨_, er, ?_⟩
          have H106 := H104.callL K103
          refine nl <| k98 _ _ <| ?_
          refine sr fun Q107 k108 => ?_
          have H109 : Hp No w0 w105 [cF mA (fun k => pR 9 3 (el ysA k)), cF mA (fun k => pR 9 3 (el ysB k)), cF mA (fun k => pR 9 3 (el ysC k)), cB b73 36 [.slice ta99 (((0 + 2 * mA) + 2 * mA) + 2 * mA) tc100, .slice na101 (((0 + mA) + mA) + mA) nc102, .slice none 0 0], cQ 56 eL ta99 (((0 + 2 * mA) + 2 * mA) + 2 * mA) tc100 ((([] ++ hTs ysA mA) ++ hTs ysB mA) ++ hTs ysC mA), cQ 63 eL na101 (((0 + mA) + mA) + mA) nc102 ((([] ++ hFs ysA mA) ++ hFs ysB mA) ++ hFs ysC mA), cQ 65 eR az (m + 1) cz (zs ++ [zm]), cF m (fun k => pL 9 3 mkR (el zs k))] := (H106.pick [8, 7, 6, 0, 1, 2, 9, 10] (by decide))
          refine Exists.elim (books (ysA := ysA) (ysB := ysB) (ysC := ysC) (ma := mA) (mb := mA) (mc := mA) H109) fun xt hxt => Exists.elim hxt fun xf H110 => ?_
          have hrow : ∀ ys : List Rw, ys.map Prod.fst = resT ss → ∀ k, k < mA → (el ys k).1.t.length ≤ 1099511627776 ∧ (el ys k).1.v.length ≤ 1099511627776 ∧ (el ys k).1.f.length ≤ 1099511627776 := fun ys h k hk => by have h9 := hR k (by omega); rw [← h, el_fst] at h9; omega
          have hbT := hb3T (fun k hk => ⟨(hrow ysA hA k hk).1, (hrow ysA hA k hk).2.1⟩) (fun k hk => ⟨(hrow ysB hB k hk).1, (hrow ysB hB k hk).2.1⟩) (fun k hk => ⟨(hrow ysC hC k hk).1, (hrow ysC hC k hk).2.1⟩)
          have hbN := hb3F (fun k hk => (hrow ysA hA k hk).2.2) (fun k hk => (hrow ysB hB k hk).2.2) (fun k hk => (hrow ysC hC k hk).2.2)
          refine cl T.cf12 (apart12 _ _ _ _ _ _ _ _ _ _ _ _ _ (hT.ext H110.x) (H110.feet_no (fun h => h) hT.lt) (by omega) (by omega) hbT hbN H110.startL) rfl fun _ w111 ⟨er, K112⟩ => ⟨_, er, ?_⟩
          have H113 := H110.callL K112
          refine qt mv <| st_gq 1 81 rfl rfl (by decide) <| qt mv <| st_gq 1 81 rfl rfl (by decide) <| qt mv <| st_gq 1 81 rfl rfl (by decide) <| ?_
          refine cl T.cf10 (kept10 xs zs zm _ _ _ _ _ _ (lnt_of H113 1 2 rfl rfl hz1) (hs.ext H113.x) (fun i hi => (hz3 i hi).symm)) rfl fun _ w115 ⟨er, x114⟩ => ⟨_, er, ?_⟩
          have H116 := H113.ext x114
          refine qt (pkT rfl) <| qt mv <| st_gq 6 86 rfl rfl (by decide) <| ?_
          refine cl T.cf4 (works4 _) rfl fun _ w118 ⟨er, x117⟩ => ⟨_, er, ?_⟩
          have H119 := H116.ext x117
          exact qt (pkT rfl) <| qt asg <| nl <| k108 _ _ <| ret <| leave1 (P := Tryz.prog) (fn := Tryz.f3) (t := 2) (v := .bool true) rfl rfl <| ⟨rfl, H119.x⟩
      · refine st_gn 2 63 rfl rfl (by decide) rfl <| st_gn 2 63 rfl rfl (by decide) rfl <| st_gn 2 63 rfl rfl (by decide) rfl <| st_gn 2 63 rfl rfl (by decide) rfl <| st_gu 6 67 rfl rfl (by decide) <| st_gu 6 67 rfl rfl (by decide) <| st_gu 6 67 rfl rfl (by decide) <| st_gu 6 67 rfl rfl (by decide) <| st_gn 2 63 rfl rfl (by decide) rfl <| qt (pkF rfl) <| nl <| k63 _ _ <| cndF rfl <| skip <| kn59 _ _ <| ?_
        refine sr fun Q120 k121 => ?_
        refine st_e <| Eal H55 T.zv36 fun b122 w123 H124 x125 => nl <| k121 _ _ <| ?_
        refine sr fun Q126 k127 => qt mv <| ?_
        have H133 : Hp No w0 w123 ([cB b122 36 [.slice none 0 0, .slice none 0 0, .slice none 0 0], cQ 56 eL none 0 0 ([]), cQ 63 eL none 0 0 ([]), cQ 65 eR aA mA qA ysA] ++ [cQ 65 eR aC mA qC ysC, cF mA (fun k => pR 9 3 (el ysC k)), cQ 65 eR aB mA qB ysB, cF mA (fun k => pR 9 3 (el ysB k)), cF mA (fun k => pR 9 3 (el ysA k)), cQ 65 eR az (m + 1) cz (zs ++ [zm]), cF m (fun k => pL 9 3 mkR (el zs k))]) := (((H124.nilQ 56 eL).nilQ 63 eL).pick [2, 1, 0, 7, 3, 4, 5, 6, 8, 9, 10] (by decide))
        refine cl T.cf11 (put11 _ _ _ _ _ _ _ _ _ _ _ _ _ _ _ _ H133.startL (by omega) (by omega)) rfl fun _ w134 ⟨ta128, tc129, na130, nc131, er, K132⟩ => ⟨_, er, ?_⟩
        have H135 := H133.callL K132
        refine nl <| k127 _ _ <| ?_
        refine sr fun Q136 k137 => qt mv <| ?_
        have H143 : Hp No w0 w134 ([cB b122 36 [.slice ta128 (0 + 2 * mA) tc129, .slice na130 (0 + mA) nc131, .slice none 0 0], cQ 56 eL ta128 (0 + 2 * mA) tc129 ([] ++ hTs ysA mA), cQ 63 eL na130 (0 + mA) nc131 ([] ++ hFs ysA mA), cQ 65 eR aB mA qB ysB] ++ [cQ 65 eR aA mA qA ysA, cQ 65 eR aC mA qC ysC, cF mA (fun k => pR 9 3 (el ysC k)), cF mA (fun k => pR 9 3 (el ysB k)), cF mA (fun k => pR 9 3 (el ysA k)), cQ 65 eR az (m + 1) cz (zs ++ [zm]), cF m (fun k => pL 9 3 mkR (el zs k))]) := (H135.pick [0, 1, 2, 6, 3, 4, 5, 7, 8, 9, 10] (by decide))
        refine cl T.cf11 (put11 _ _ _ _ _ _ _ _ _ _ _ _ _ _ _ _ H143.startL (by omega) (by omega)) rfl fun _ w144 ⟨ta138, tc139, na140, nc141, er, K142⟩ => ⟨_, er, ?_⟩
        have H145 := H143.callL K142
        refine nl <| k137 _ _ <| ?_
        refine sr fun Q146 k147 => qt mv <| ?_
        have H153 : Hp No w0 w144 ([cB b122 36 [.slice ta138 ((0 + 2 * mA) + 2 * mA) tc139, .slice na140 ((0 + mA) + mA) nc141, .slice none 0 0], cQ 56 eL ta138 ((0 + 2 * mA) + 2 * mA) tc139 (([] ++ hTs ysA mA) ++ hTs ysB mA), cQ 63 eL na140 ((0 + mA) + mA) nc141 (([] ++ hFs ysA mA) ++ hFs ysB mA), cQ 65 eR aC mA qC ysC] ++ [cQ 65 eR aB mA qB ysB, cQ 65 eR aA mA qA ysA, cF mA (fun k => pR 9 3 (el ysC k)), cF mA (fun k => pR 9 3 (el ysB k)), cF mA (fun k => pR 9 3 (el ysA k)), cQ 65 eR az (m + 1) cz (zs ++ [zm]), cF m (fun k => pL 9 3 mkR (el zs k))]) := (H145.pick [0, 1, 2, 5, 3, 4, 6, 7, 8, 9, 10] (by decide))
        refine cl T.cf11 (put11 _ _ _ _ _ _ _ _ _ _ _ _ _ _ _ _ H153.startL (by omega) (by omega)) rfl fun _ w154 ⟨ta148, tc149, na150, nc151, er, K152⟩ => ⟨_, er, ?_⟩
        have H155 := H153.callL K152
        refine nl <| k147 _ _ <| ?_
        refine sr fun Q156 k157 => ?_
        have H158 : Hp No w0 w154 [cF mA (fun k => pR 9 3 (el ysA k)), cF mA (fun k => pR 9 3 (el ysB k)), cF mA (fun k => pR 9 3 (el ysC k)), cB b122 36 [.slice ta148 (((0 + 2 * mA) + 2 * mA) + 2 * mA) tc149, .slice na150 (((0 + mA) + mA) + mA) nc151, .slice none 0 0], cQ 56 eL ta148 (((0 + 2 * mA) + 2 * mA) + 2 * mA) tc149 ((([] ++ hTs ysA mA) ++ hTs ysB mA) ++ hTs ysC mA), cQ 63 eL na150 (((0 + mA) + mA) + mA) nc151 ((([] ++ hFs ysA mA) ++ hFs ysB mA) ++ hFs ysC mA), cQ 65 eR az (m + 1) cz (zs ++ [zm]), cF m (fun k => pL 9 3 mkR (el zs k))] := (H155.pick [8, 7, 6, 0, 1, 2, 9, 10] (by decide))
        refine Exists.elim (books (ysA := ysA) (ysB := ysB) (ysC := ysC) (ma := mA) (mb := mA) (mc := mA) H158) fun xt hxt => Exists.elim hxt fun xf H159 => ?_
        have hrow : ∀ ys : List Rw, ys.map Prod.fst = resT ss → ∀ k, k < mA → (el ys k).1.t.length ≤ 1099511627776 ∧ (el ys k).1.v.length ≤ 1099511627776 ∧ (el ys k).1.f.length ≤ 1099511627776 := fun ys h k hk => by have h9 := hR k (by omega); rw [← h, el_fst] at h9; omega
        have hbT := hb3T (fun k hk => ⟨(hrow ysA hA k hk).1, (hrow ysA hA k hk).2.1⟩) (fun k hk => ⟨(hrow ysB hB k hk).1, (hrow ysB hB k hk).2.1⟩) (fun k hk => ⟨(hrow ysC hC k hk).1, (hrow ysC hC k hk).2.1⟩)
        have hbN := hb3F (fun k hk => (hrow ysA hA k hk).2.2) (fun k hk => (hrow ysB hB k hk).2.2) (fun k hk => (hrow ysC hC k hk).2.2)
        refine cl T.cf12 (apart12 _ _ _ _ _ _ _ _ _ _ _ _ _ (hT.ext H159.x) (H159.feet_no (fun h => h) hT.lt) (by omega) (by omega) hbT hbN H159.startL) rfl fun _ w160 ⟨er, K161⟩ => ⟨_, er, ?_⟩
        have H162 := H159.callL K161
        refine qt mv <| st_gq 1 81 rfl rfl (by decide) <| qt mv <| st_gq 1 81 rfl rfl (by decide) <| qt mv <| st_gq 1 81 rfl rfl (by decide) <| ?_
        refine cl T.cf10 (kept10 xs zs zm _ _ _ _ _ _ (lnt_of H162 1 2 rfl rfl hz1) (hs.ext H162.x) (fun i hi => (hz3 i hi).symm)) rfl fun _ w164 ⟨er, x163⟩ => ⟨_, er, ?_⟩
        have H165 := H162.ext x163
        refine qt (pkT rfl) <| qt mv <| st_gq 6 86 rfl rfl (by decide) <| ?_
        refine cl T.cf4 (works4 _) rfl fun _ w167 ⟨er, x166⟩ => ⟨_, er, ?_⟩
        have H168 := H165.ext x166
        exact qt (pkT rfl) <| qt asg <| nl <| k157 _ _ <| ret <| leave1 (P := Tryz.prog) (fn := Tryz.f3) (t := 2) (v := .bool true) rfl rfl <| ⟨rfl, H168.x⟩
end Go.Proofs.YtcgmhpenjjheiaaGreatDoor
