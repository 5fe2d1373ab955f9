import Derived.Test.YtegpcbckiehleaaDoorS7
import Derived.Test.YtegpcbckiehleaaDoorSGr3
namespace Go.Proofs.YtegpcbckiehleaaDoor
open Go.RowKit Go.Eng Go.OrdPure Go.Flt
theorem T.sl78 : SL Tryd.prog 78 22 1 8 (.float .f64 0) := sl_mk Tryd.underlying78 (by kernel_rfl) rfl (by decide)
theorem T.fa44_2 : FA Tryd.prog 44 2 2 := fun _ _ => by kernel_rfl
theorem T.fa44_6 : FA Tryd.prog 44 6 6 := fun _ _ => by kernel_rfl
theorem T.fa44_7 : FA Tryd.prog 44 7 7 := fun _ _ => by kernel_rfl
theorem T.fa44_3 : FA Tryd.prog 44 3 3 := fun _ _ => by kernel_rfl
theorem T.fa44_4 : FA Tryd.prog 44 4 4 := fun _ _ => by kernel_rfl
theorem T.fa44_5 : FA Tryd.prog 44 5 5 := fun _ _ => by kernel_rfl
theorem T.cf56 : CF Tryd.prog 56 := fun _ _ => by kernel_rfl

set_option maxHeartbeats 4000000 in
theorem begin59 (lo b c i : Nat) (GL : List Grp) (g : Grp) (l : List Nat) (vl : Value) (lo2 : Nat) (w0 : World) (hO : OB w0.heap lo 44 8 b c (flat enG (GL.set i g))) (hi : i < GL.length) (hl : Own w0.heap lo2 22 1 vl l.length (flat enF l)) (h0 : 0 < l.length) : Calls Tryd.prog 59 #[.pointer (some ⟨b, 0 + i * 8, none⟩), vl] w0 fun e w' => e = .returned (.tuple #[]) ∧ ∃ u, u = { g with numbers := (l.length : Nat), least := el l 0, greatest := el l 0 } ∧ Mod (fun k => k = b) w0 w' ∧ OB w'.heap lo 44 8 b c (flat enG (GL.set i u)) := by
  have hE0 : Mod (fun k => k = b) w0 w0 := Mod.refl _ _
  have hz0 := hE0.le
  obtain ⟨al, cl, rfl, hcl, hcl1⟩ := hl.src.form
  refine enter Tryd.func59 rfl 21 Tryd.ntmps59 rfl ?_
  refine regionD1 [7, 10] [0, 1, 2, 3, 4, 5, 6, 7, 8, 9, 10, 11, 12, 14, 15, 17, 18] (.one 0 (.one 1 (.one 2 (.one 3 (.one 4 (.one 5 (.one 6 (.one 7 (.one 8 (.one 9 (.one 10 (.one 11 (.one 12 (.one 13 (.one 14 (.one 15 (.one 16 (.one 17 (.one 18 (.one 19 .done)))))))))))))))))))) (by kernel_rfl) (by kernel_rfl) ?_
  intro w1 hx2 hs3
  have hF4 := hO.ext hx2
  have hF5 := hl.ext hx2
  have hE6 : Mod (fun k => k = b) w0 w1 := hE0.ext hx2
  have hz7 := hE6.le
  have hs8 := hx2.size
  have hS9 : Ext w1 w1 := Below.refl _ _
  refine d_q (v := .pointer (some ⟨b, 0 + i * 8, none⟩)) rfl rfl (fun _ => x_move rfl) ?_
  refine d_q (v := .pointer (some ⟨b, 0 + i * 8, none⟩)) rfl rfl (fun _ => x_move rfl) ?_
  refine d_q (v := .pointer (some ⟨b, 0 + i * 8, none⟩)) rfl rfl (fun _ => x_move rfl) ?_
  refine d_q (v := .slice al l.length cl) rfl rfl (fun _ => x_move rfl) ?_
  refine d_q (v := .int .i64 ((l.length : Nat) : Int)) rfl rfl (fun _ => x_lenSl rfl Tryd.underlying78 rfl) ?_
  refine d_q (v := .slice al l.length cl) rfl rfl (fun _ => x_move rfl) ?_
  obtain ⟨b10, o11, ha12, hc13⟩ := hF5.src.at (by omega)
  refine d_q (v := .pointer (some ⟨b10, o11 + 0 * 1, none⟩)) rfl rfl (fun _ => x_index' T.sl78 rfl ha12 rfl (by omega)) ?_
  refine d_l (v := .float .f64 ((el l 0))) rfl rfl rfl (fun v15 hw14 => x_load1 T.na22 rfl ((hc13.elem enF_len (i := 0) (by omega)).ext hw14)) ?_
  refine d_q (v := .slice al l.length cl) rfl rfl (fun _ => x_move rfl) ?_
  obtain ⟨b16, o17, ha18, hc19⟩ := hF5.src.at (by omega)
  refine d_q (v := .pointer (some ⟨b16, o17 + 0 * 1, none⟩)) rfl rfl (fun _ => x_index' T.sl78 rfl ha18 rfl (by omega)) ?_
  refine d_l (v := .float .f64 ((el l 0))) rfl rfl rfl (fun v21 hw20 => x_load1 T.na22 rfl ((hc19.elem enF_len (i := 0) (by omega)).ext hw20)) ?_
  refine d_q (v := .pointer (some ⟨b, 0 + i * 8, none⟩)) rfl rfl (fun _ => x_nilCheck rfl) ?_
  refine d_q (v := .pointer (some ⟨b, 0 + i * 8 + 2, none⟩)) rfl rfl (fun _ => x_field (o := 0 + i * 8) T.fa44_2 rfl) ?_
  refine d_e (by decide) (d_s' rfl rfl (e_stEl (v := .int .i64 ((l.length : Nat) : Int)) (u' := ({ g with numbers := ((l.length : Nat) : Int) } : Grp)) (i := i) (f := 2) hi T.sz3 rfl rfl rfl rfl hF4 (by decide) (by rfl) ?_))
  intro w22 _ hP23 hB24
  have hs25 := hP23.size
  have hF26 := hF5.gk (hP23.grownBy) (hF4.rowk) (by decide)
  have hE29 : Mod (fun k => k = b) w0 w22 := hE6.pt hP23 (.inl rfl)
  have hz30 := hE29.le
  refine ⟨need_no (by kernel_rfl), ?_⟩
  refine d_q (v := .pointer (some ⟨b, 0 + i * 8, none⟩)) rfl rfl (fun _ => x_nilCheck rfl) ?_
  refine d_q (v := .pointer (some ⟨b, 0 + i * 8 + 6, none⟩)) rfl rfl (fun _ => x_field (o := 0 + i * 8) T.fa44_6 rfl) ?_
  refine d_e (by decide) (d_s' rfl rfl (e_stEl (v := .float .f64 ((el l 0))) (u' := ({ ({ g with numbers := ((l.length : Nat) : Int) } : Grp) with least := (el l 0) } : Grp)) (i := i) (f := 6) hi T.sz22 rfl rfl rfl rfl hB24 (by decide) (by rfl) ?_))
  intro w31 _ hP32 hB33
  have hs34 := hP32.size
  have hF35 := hF26.gk (hP32.grownBy) (hB24.rowk) (by decide)
  have hE36 : Mod (fun k => k = b) w0 w31 := hE29.pt hP32 (.inl rfl)
  have hz37 := hE36.le
  refine ⟨need_no (by kernel_rfl), ?_⟩
  refine d_q (v := .pointer (some ⟨b, 0 + i * 8, none⟩)) rfl rfl (fun _ => x_nilCheck rfl) ?_
  refine d_q (v := .pointer (some ⟨b, 0 + i * 8 + 7, none⟩)) rfl rfl (fun _ => x_field (o := 0 + i * 8) T.fa44_7 rfl) ?_
  refine d_e (by decide) (d_s' rfl rfl (e_stEl (v := .float .f64 ((el l 0))) (u' := ({ ({ ({ g with numbers := ((l.length : Nat) : Int) } : Grp) with least := (el l 0) } : Grp) with greatest := (el l 0) } : Grp)) (i := i) (f := 7) hi T.sz22 rfl rfl rfl rfl hB33 (by decide) (by rfl) ?_))
  intro w38 _ hP39 hB40
  have hs41 := hP39.size
  have hF42 := hF35.gk (hP39.grownBy) (hB33.rowk) (by decide)
  have hE43 : Mod (fun k => k = b) w0 w38 := hE36.pt hP39 (.inl rfl)
  have hz44 := hE43.le
  refine ⟨need_no (by kernel_rfl), ?_⟩
  refine d_done ?_
  refine leave0' (P := Tryd.prog) (fn := Tryd.f59) rfl ?_
  exact ⟨rfl, _, rfl, hE43, hB40⟩

set_option maxHeartbeats 4000000 in
theorem each60 (lo b c i : Nat) (GL : List Grp) (g : Grp) (x : Nat) (w0 : World) (hO : OB w0.heap lo 44 8 b c (flat enG (GL.set i g))) (hi : i < GL.length) (hN1 : NN g.least) (hN2 : NN g.greatest) (hx : NN x) : Calls Tryd.prog 60 #[.pointer (some ⟨b, 0 + i * 8, none⟩), .float .f64 x] w0 fun e w' => e = .returned (.tuple #[]) ∧ ∃ u, ok60 g x u ∧ Mod (fun k => k = b) w0 w' ∧ OB w'.heap lo 44 8 b c (flat enG (GL.set i u)) := by
  have hE0 : Mod (fun k => k = b) w0 w0 := Mod.refl _ _
  have hz0 := hE0.le
  refine enter Tryd.func60 rfl 30 Tryd.ntmps60 rfl ?_
  refine seqK fun Q1 kn2 kr3 ke4 => ?_
  refine region ?_
  refine st_q (v := .pointer (some ⟨b, 0 + i * 8, none⟩)) (x_move rfl) ?_
  refine st_q (v := .pointer (some ⟨b, 0 + i * 8, none⟩)) (x_nilCheck rfl) ?_
  refine st_q (v := .pointer (some ⟨b, 0 + i * 8 + 3, none⟩)) (x_field (o := 0 + i * 8) T.fa44_3 rfl) ?_
  refine st_q (v := .float .f64 g.sum) (x_load1 T.na22 rfl ((El1.cells hO hi).fld 3 rfl)) ?_
  refine st_q (v := .float .f64 x) (x_move rfl) ?_
  refine st_e (e_addF (a := g.sum) (b := x) rfl rfl ?_)
  intro r5 w7 hr6 hx8
  have hF9 := hO.ext hx8
  have hE10 : Mod (fun k => k = b) w0 w7 := hE0.ext hx8
  have hz11 := hE10.le
  have hs12 := hx8.size
  refine st_q (v := .pointer (some ⟨b, 0 + i * 8, none⟩)) (x_nilCheck rfl) ?_
  refine st_q (v := .pointer (some ⟨b, 0 + i * 8 + 3, none⟩)) (x_field (o := 0 + i * 8) T.fa44_3 rfl) ?_
  refine st_s (e_stEl (v := .float .f64 r5) (u' := ({ g with sum := r5 } : Grp)) (i := i) (f := 3) hi T.sz22 rfl rfl rfl rfl hF9 (by decide) (by rfl) ?_)
  intro w13 _ hP14 hB15
  have hs16 := hP14.size
  have hE17 : Mod (fun k => k = b) w0 w13 := hE10.pt hP14 (.inl rfl)
  have hz18 := hE17.le
  refine st_nil ?_
  refine kn2 _ _ ?_
  refine regionD1 [5, 11] [0, 1, 2, 3, 4, 5, 6, 7, 8, 9, 10, 11, 12, 13, 14, 15, 17, 18] (.one 0 (.one 1 (.one 2 (.one 3 (.one 4 (.one 5 (.one 6 (.one 7 (.one 8 (.one 9 (.one 10 (.one 11 (.one 12 (.one 13 (.one 14 (.one 15 (.one 16 (.one 17 (.one 18 (.one 19 .done)))))))))))))))))))) (by kernel_rfl) (by kernel_rfl) ?_
  intro w19 hx20 hs21
  have hF22 := hB15.ext hx20
  have hE23 : Mod (fun k => k = b) w0 w19 := hE17.ext hx20
  have hz24 := hE23.le
  have hs25 := hx20.size
  have hS26 : Ext w19 w19 := Below.refl _ _
  refine d_q (v := .pointer (some ⟨b, 0 + i * 8, none⟩)) rfl rfl (fun _ => x_move rfl) ?_
  refine d_q (v := .pointer (some ⟨b, 0 + i * 8, none⟩)) rfl rfl (fun _ => x_move rfl) ?_
  refine d_q (v := .pointer (some ⟨b, 0 + i * 8, none⟩)) rfl rfl (fun _ => x_move rfl) ?_
  refine d_q (v := .pointer (some ⟨b, 0 + i * 8, none⟩)) rfl rfl (fun _ => x_nilCheck rfl) ?_
  refine d_q (v := .pointer (some ⟨b, 0 + i * 8 + 6, none⟩)) rfl rfl (fun _ => x_field (o := 0 + i * 8) T.fa44_6 rfl) ?_
  refine d_l (v := .float .f64 ((({ g with sum := r5 } : Grp)).least)) rfl rfl rfl (fun v28 hw27 => x_load1 T.na22 rfl (((El1.cells hF22 hi).fld 6 rfl).ext hw27)) ?_
  refine d_q (v := .float .f64 x) rfl rfl (fun _ => x_move rfl) ?_
  refine d_q (v := .float .f64 ((minF ((({ g with sum := r5 } : Grp)).least) x))) rfl rfl (fun _ => x_minF rfl rfl (hN1) (hx)) ?_
  refine d_q (v := .pointer (some ⟨b, 0 + i * 8, none⟩)) rfl rfl (fun _ => x_move rfl) ?_
  refine d_q (v := .pointer (some ⟨b, 0 + i * 8, none⟩)) rfl rfl (fun _ => x_nilCheck rfl) ?_
  refine d_q (v := .pointer (some ⟨b, 0 + i * 8 + 7, none⟩)) rfl rfl (fun _ => x_field (o := 0 + i * 8) T.fa44_7 rfl) ?_
  refine d_l (v := .float .f64 ((({ g with sum := r5 } : Grp)).greatest)) rfl rfl rfl (fun v30 hw29 => x_load1 T.na22 rfl (((El1.cells hF22 hi).fld 7 rfl).ext hw29)) ?_
  refine d_q (v := .float .f64 x) rfl rfl (fun _ => x_move rfl) ?_
  refine d_q (v := .float .f64 ((maxF ((({ g with sum := r5 } : Grp)).greatest) x))) rfl rfl (fun _ => x_maxF rfl rfl (hN2) (hx)) ?_
  refine d_q (v := .pointer (some ⟨b, 0 + i * 8, none⟩)) rfl rfl (fun _ => x_nilCheck rfl) ?_
  refine d_q (v := .pointer (some ⟨b, 0 + i * 8 + 6, none⟩)) rfl rfl (fun _ => x_field (o := 0 + i * 8) T.fa44_6 rfl) ?_
  refine d_e (by decide) (d_s' rfl rfl (e_stEl (v := .float .f64 ((minF ((({ g with sum := r5 } : Grp)).least) x))) (u' := ({ ({ g with sum := r5 } : Grp) with least := (minF ((({ g with sum := r5 } : Grp)).least) x) } : Grp)) (i := i) (f := 6) hi T.sz22 rfl rfl rfl rfl hF22 (by decide) (by rfl) ?_))
  intro w31 _ hP32 hB33
  have hs34 := hP32.size
  have hE35 : Mod (fun k => k = b) w0 w31 := hE23.pt hP32 (.inl rfl)
  have hz36 := hE35.le
  refine ⟨need_no (by kernel_rfl), ?_⟩
  refine d_q (v := .pointer (some ⟨b, 0 + i * 8, none⟩)) rfl rfl (fun _ => x_nilCheck rfl) ?_
  refine d_q (v := .pointer (some ⟨b, 0 + i * 8 + 7, none⟩)) rfl rfl (fun _ => x_field (o := 0 + i * 8) T.fa44_7 rfl) ?_
  refine d_e (by decide) (d_s' rfl rfl (e_stEl (v := .float .f64 ((maxF ((({ g with sum := r5 } : Grp)).greatest) x))) (u' := ({ ({ ({ g with sum := r5 } : Grp) with least := (minF ((({ g with sum := r5 } : Grp)).least) x) } : Grp) with greatest := (maxF ((({ g with sum := r5 } : Grp)).greatest) x) } : Grp)) (i := i) (f := 7) hi T.sz22 rfl rfl rfl rfl hB33 (by decide) (by rfl) ?_))
  intro w37 _ hP38 hB39
  have hs40 := hP38.size
  have hE41 : Mod (fun k => k = b) w0 w37 := hE35.pt hP38 (.inl rfl)
  have hz42 := hE41.le
  refine ⟨need_no (by kernel_rfl), ?_⟩
  refine d_done ?_
  refine leave0' (P := Tryd.prog) (fn := Tryd.f60) rfl ?_
  exact ⟨rfl, _, ⟨_, hr6, rfl⟩, hE41, hB39⟩

set_option maxHeartbeats 4000000 in
theorem end61 (lo b c i : Nat) (GL : List Grp) (g : Grp) (w0 : World) (hO : OB w0.heap lo 44 8 b c (flat enG (GL.set i g))) (hi : i < GL.length) : Calls Tryd.prog 61 #[.pointer (some ⟨b, 0 + i * 8, none⟩)] w0 fun e w' => e = .returned (.tuple #[]) ∧ ∃ u, ok61 g u ∧ Mod (fun k => k = b) w0 w' ∧ OB w'.heap lo 44 8 b c (flat enG (GL.set i u)) := by
  have hE0 : Mod (fun k => k = b) w0 w0 := Mod.refl _ _
  have hz0 := hE0.le
  refine enter Tryd.func61 rfl 15 Tryd.ntmps61 rfl ?_
  refine regionD1 [4, 8] [0, 1, 2, 3, 4, 5, 6, 7, 8, 9, 11, 12] (.one 0 (.one 1 (.one 2 (.one 3 (.one 4 (.one 5 (.one 6 (.one 7 (.one 8 (.one 9 (.one 10 (.one 11 (.one 12 (.one 13 .done)))))))))))))) (by kernel_rfl) (by kernel_rfl) ?_
  intro w1 hx2 hs3
  have hF4 := hO.ext hx2
  have hE5 : Mod (fun k => k = b) w0 w1 := hE0.ext hx2
  have hz6 := hE5.le
  have hs7 := hx2.size
  have hS8 : Ext w1 w1 := Below.refl _ _
  refine d_q (v := .pointer (some ⟨b, 0 + i * 8, none⟩)) rfl rfl (fun _ => x_move rfl) ?_
  refine d_q (v := .pointer (some ⟨b, 0 + i * 8, none⟩)) rfl rfl (fun _ => x_move rfl) ?_
  refine d_q (v := .pointer (some ⟨b, 0 + i * 8, none⟩)) rfl rfl (fun _ => x_nilCheck rfl) ?_
  refine d_q (v := .pointer (some ⟨b, 0 + i * 8 + 3, none⟩)) rfl rfl (fun _ => x_field (o := 0 + i * 8) T.fa44_3 rfl) ?_
  refine d_l (v := .float .f64 g.sum) rfl rfl rfl (fun v10 hw9 => x_load1 T.na22 rfl (((El1.cells hF4 hi).fld 3 rfl).ext hw9)) ?_
  refine d_q (v := .pointer (some ⟨b, 0 + i * 8, none⟩)) rfl rfl (fun _ => x_move rfl) ?_
  refine d_q (v := .pointer (some ⟨b, 0 + i * 8, none⟩)) rfl rfl (fun _ => x_nilCheck rfl) ?_
  refine d_q (v := .pointer (some ⟨b, 0 + i * 8 + 2, none⟩)) rfl rfl (fun _ => x_field (o := 0 + i * 8) T.fa44_2 rfl) ?_
  refine d_l (v := .int .i64 g.numbers) rfl rfl rfl (fun v12 hw11 => x_load1 T.na3 rfl (((El1.cells hF4 hi).fld 2 rfl).ext hw11)) ?_
  refine d_q (v := .float .f64 ((fromInt g.numbers))) rfl rfl (fun _ => x_convF Tryd.underlying22 Tryd.underlying3 rfl) ?_
  refine d_e (by decide) (d_e' rfl rfl (e_quoF (a := g.sum) (b := ((fromInt g.numbers))) rfl rfl ?_))
  intro r13 w15 hr14 hx16
  have hF17 := hF4.ext hx16
  have hE18 : Mod (fun k => k = b) w0 w15 := hE5.ext hx16
  have hz19 := hE18.le
  have hs20 := hx16.size
  have hS21 := hS8.trans (hx16.mono hS8.size)
  refine ⟨fun _ => hS21, ?_⟩
  refine d_q (v := .pointer (some ⟨b, 0 + i * 8, none⟩)) rfl rfl (fun _ => x_nilCheck rfl) ?_
  refine d_q (v := .pointer (some ⟨b, 0 + i * 8 + 4, none⟩)) rfl rfl (fun _ => x_field (o := 0 + i * 8) T.fa44_4 rfl) ?_
  refine d_e (by decide) (d_s' rfl rfl (e_stEl (v := .float .f64 r13) (u' := ({ g with mean := r13 } : Grp)) (i := i) (f := 4) hi T.sz22 rfl rfl rfl rfl hF17 (by decide) (by rfl) ?_))
  intro w22 _ hP23 hB24
  have hs25 := hP23.size
  have hE26 : Mod (fun k => k = b) w0 w22 := hE18.pt hP23 (.inl rfl)
  have hz27 := hE26.le
  refine ⟨need_no (by kernel_rfl), ?_⟩
  refine d_done ?_
  refine leave0' (P := Tryd.prog) (fn := Tryd.f61) rfl ?_
  exact ⟨rfl, _, ⟨_, hr14, rfl⟩, hE26, hB24⟩

set_option maxHeartbeats 4000000 in
theorem begin62 (lo b c i : Nat) (GL : List Grp) (g : Grp) (vl : Value) (w0 : World) (hO : OB w0.heap lo 44 8 b c (flat enG (GL.set i g))) (hi : i < GL.length) : Calls Tryd.prog 62 #[.pointer (some ⟨b, 0 + i * 8, none⟩), vl] w0 fun e w' => e = .returned (.tuple #[]) ∧ ∃ u, u = g ∧ Mod (fun k => k = b) w0 w' ∧ OB w'.heap lo 44 8 b c (flat enG (GL.set i u)) := by
  have hE0 : Mod (fun k => k = b) w0 w0 := Mod.refl _ _
  have hz0 := hE0.le
  refine enter Tryd.func62 rfl 4 Tryd.ntmps62 rfl ?_
  refine skip ?_
  refine leave0' (P := Tryd.prog) (fn := Tryd.f62) rfl ?_
  exact ⟨rfl, _, rfl, hE0, hO⟩

set_option maxHeartbeats 4000000 in
theorem each63 (lo b c i : Nat) (GL : List Grp) (g : Grp) (x : Nat) (w0 : World) (hO : OB w0.heap lo 44 8 b c (flat enG (GL.set i g))) (hi : i < GL.length) : Calls Tryd.prog 63 #[.pointer (some ⟨b, 0 + i * 8, none⟩), .float .f64 x] w0 fun e w' => e = .returned (.tuple #[]) ∧ ∃ u, ok63 g x u ∧ Mod (fun k => k = b) w0 w' ∧ OB w'.heap lo 44 8 b c (flat enG (GL.set i u)) := by
  have hE0 : Mod (fun k => k = b) w0 w0 := Mod.refl _ _
  have hz0 := hE0.le
  refine enter Tryd.func63 rfl 21 Tryd.ntmps63 rfl ?_
  refine seqK fun Q1 kn2 kr3 ke4 => ?_
  refine region ?_
  refine st_q (v := .float .f64 x) (x_move rfl) ?_
  refine st_q (v := .pointer (some ⟨b, 0 + i * 8, none⟩)) (x_move rfl) ?_
  refine st_q (v := .pointer (some ⟨b, 0 + i * 8, none⟩)) (x_nilCheck rfl) ?_
  refine st_q (v := .pointer (some ⟨b, 0 + i * 8 + 4, none⟩)) (x_field (o := 0 + i * 8) T.fa44_4 rfl) ?_
  refine st_q (v := .float .f64 g.mean) (x_load1 T.na22 rfl ((El1.cells hO hi).fld 4 rfl)) ?_
  refine st_e (e_subF (a := x) (b := g.mean) rfl rfl ?_)
  intro r5 w7 hr6 hx8
  have hF9 := hO.ext hx8
  have hE10 : Mod (fun k => k = b) w0 w7 := hE0.ext hx8
  have hz11 := hE10.le
  have hs12 := hx8.size
  refine st_q (v := .float .f64 r5) (x_assign rfl) ?_
  refine st_nil ?_
  refine kn2 _ _ ?_
  refine region ?_
  refine st_q (v := .pointer (some ⟨b, 0 + i * 8, none⟩)) (x_move rfl) ?_
  refine st_q (v := .pointer (some ⟨b, 0 + i * 8, none⟩)) (x_nilCheck rfl) ?_
  refine st_q (v := .pointer (some ⟨b, 0 + i * 8 + 5, none⟩)) (x_field (o := 0 + i * 8) T.fa44_5 rfl) ?_
  refine st_q (v := .float .f64 g.spread) (x_load1 T.na22 rfl ((El1.cells hF9 hi).fld 5 rfl)) ?_
  refine st_q (v := .float .f64 r5) (x_move rfl) ?_
  refine st_q (v := .float .f64 r5) (x_move rfl) ?_
  refine st_e (e_mulF (a := r5) (b := r5) rfl rfl ?_)
  intro r13 w15 hr14 hx16
  have hF17 := hF9.ext hx16
  have hE18 : Mod (fun k => k = b) w0 w15 := hE10.ext hx16
  have hz19 := hE18.le
  have hs20 := hx16.size
  refine st_e (e_addF (a := g.spread) (b := r13) rfl rfl ?_)
  intro r21 w23 hr22 hx24
  have hF25 := hF17.ext hx24
  have hE26 : Mod (fun k => k = b) w0 w23 := hE18.ext hx24
  have hz27 := hE26.le
  have hs28 := hx24.size
  refine st_q (v := .pointer (some ⟨b, 0 + i * 8, none⟩)) (x_nilCheck rfl) ?_
  refine st_q (v := .pointer (some ⟨b, 0 + i * 8 + 5, none⟩)) (x_field (o := 0 + i * 8) T.fa44_5 rfl) ?_
  refine st_s (e_stEl (v := .float .f64 r21) (u' := ({ g with spread := r21 } : Grp)) (i := i) (f := 5) hi T.sz22 rfl rfl rfl rfl hF25 (by decide) (by rfl) ?_)
  intro w29 _ hP30 hB31
  have hs32 := hP30.size
  have hE33 : Mod (fun k => k = b) w0 w29 := hE26.pt hP30 (.inl rfl)
  have hz34 := hE33.le
  refine st_nil ?_
  refine leave0' (P := Tryd.prog) (fn := Tryd.f63) rfl ?_
  exact ⟨rfl, _, ⟨_, _, _, hr6, hr14, hr22, rfl⟩, hE33, hB31⟩

theorem sqrt71 : XSqrt Tryd.prog 71 := fun _ _ => by kernel_rfl
set_option maxHeartbeats 4000000 in
theorem sqrt56 (x : Nat) (w0 : World) : Calls Tryd.prog 56 #[.float .f64 x] w0 fun e w' => ∃ r, e = .returned (.float .f64 r) ∧ FR (Flt.D.sqrt x) r ∧ Ext w0 w' := by
  have hE0 : Below w0.heap.size w0 w0 := Below.refl _ _
  have hz0 := hE0.le
  refine enter Tryd.func56 rfl 5 Tryd.ntmps56 rfl ?_
  refine seqK fun Q1 kn2 kr3 ke4 => ?_
  refine region ?_
  refine st_q (v := .float .f64 0) (x_assign rfl) ?_
  refine st_nil ?_
  refine kn2 _ _ ?_
  refine seqK fun Q5 kn6 kr7 ke8 => ?_
  refine region ?_
  refine st_q (v := .float .f64 x) (x_move rfl) ?_
  refine st_e (e_sqrtF sqrt71 rfl rfl ?_)
  intro r9 w11 hr10 hx12
  have hE13 : Below w0.heap.size w0 w11 := hx12.e hE0 (Nat.le_refl _)
  have hz14 := hE13.le
  have hs15 := hx12.size
  refine st_q (v := .float .f64 r9) (x_assign rfl) ?_
  refine st_nil ?_
  refine kn6 _ _ ?_
  refine ret ?_
  refine leave1 (P := Tryd.prog) (fn := Tryd.f56) (t := 2) (v := .float .f64 r9) rfl rfl ?_
  exact ⟨_, rfl, hr10, hE13⟩

set_option maxHeartbeats 4000000 in
theorem end64 (lo b c i : Nat) (GL : List Grp) (g : Grp) (w0 : World) (hO : OB w0.heap lo 44 8 b c (flat enG (GL.set i g))) (hi : i < GL.length) : Calls Tryd.prog 64 #[.pointer (some ⟨b, 0 + i * 8, none⟩)] w0 fun e w' => e = .returned (.tuple #[]) ∧ ∃ u, ok64 g u ∧ Mod (fun k => k = b) w0 w' ∧ OB w'.heap lo 44 8 b c (flat enG (GL.set i u)) := by
  have hE0 : Mod (fun k => k = b) w0 w0 := Mod.refl _ _
  have hz0 := hE0.le
  refine enter Tryd.func64 rfl 16 Tryd.ntmps64 rfl ?_
  refine regionD1 [4, 8] [0, 1, 2, 3, 4, 5, 6, 7, 8, 9, 12, 13] (.one 0 (.one 1 (.one 2 (.one 3 (.one 4 (.one 5 (.one 6 (.one 7 (.one 8 (.one 9 (.one 10 (.one 11 (.one 12 (.one 13 (.one 14 .done))))))))))))))) (by kernel_rfl) (by kernel_rfl) ?_
  intro w1 hx2 hs3
  have hF4 := hO.ext hx2
  have hE5 : Mod (fun k => k = b) w0 w1 := hE0.ext hx2
  have hz6 := hE5.le
  have hs7 := hx2.size
  have hS8 : Ext w1 w1 := Below.refl _ _
  refine d_q (v := .pointer (some ⟨b, 0 + i * 8, none⟩)) rfl rfl (fun _ => x_move rfl) ?_
  refine d_q (v := .pointer (some ⟨b, 0 + i * 8, none⟩)) rfl rfl (fun _ => x_move rfl) ?_
  refine d_q (v := .pointer (some ⟨b, 0 + i * 8, none⟩)) rfl rfl (fun _ => x_nilCheck rfl) ?_
  refine d_q (v := .pointer (some ⟨b, 0 + i * 8 + 5, none⟩)) rfl rfl (fun _ => x_field (o := 0 + i * 8) T.fa44_5 rfl) ?_
  refine d_l (v := .float .f64 g.spread) rfl rfl rfl (fun v10 hw9 => x_load1 T.na22 rfl (((El1.cells hF4 hi).fld 5 rfl).ext hw9)) ?_
  refine d_q (v := .pointer (some ⟨b, 0 + i * 8, none⟩)) rfl rfl (fun _ => x_move rfl) ?_
  refine d_q (v := .pointer (some ⟨b, 0 + i * 8, none⟩)) rfl rfl (fun _ => x_nilCheck rfl) ?_
  refine d_q (v := .pointer (some ⟨b, 0 + i * 8 + 2, none⟩)) rfl rfl (fun _ => x_field (o := 0 + i * 8) T.fa44_2 rfl) ?_
  refine d_l (v := .int .i64 g.numbers) rfl rfl rfl (fun v12 hw11 => x_load1 T.na3 rfl (((El1.cells hF4 hi).fld 2 rfl).ext hw11)) ?_
  refine d_q (v := .float .f64 ((fromInt g.numbers))) rfl rfl (fun _ => x_convF Tryd.underlying22 Tryd.underlying3 rfl) ?_
  refine d_e (by decide) (d_e' rfl rfl (e_quoF (a := g.spread) (b := ((fromInt g.numbers))) rfl rfl ?_))
  intro r13 w15 hr14 hx16
  have hF17 := hF4.ext hx16
  have hE18 : Mod (fun k => k = b) w0 w15 := hE5.ext hx16
  have hz19 := hE18.le
  have hs20 := hx16.size
  have hS21 := hS8.trans (hx16.mono hS8.size)
  refine ⟨fun _ => hS21, ?_⟩
  refine d_e (by decide) (d_c' rfl rfl (t_call [.float .f64 r13] T.cf56 rfl rfl) (sqrt56 r13 _) ?_)
  rintro _ w24 ⟨r22, rfl, hr23, hx25⟩
  refine ⟨_, rfl, ?_⟩
  have hF26 := hF17.ext hx25
  have hE27 : Mod (fun k => k = b) w0 w24 := hE18.ext hx25
  have hz28 := hE27.le
  have hs29 := hx25.size
  have hS30 := hS21.trans (hx25.mono hS21.size)
  refine ⟨fun _ => hS30, ?_⟩
  refine d_q (v := .pointer (some ⟨b, 0 + i * 8, none⟩)) rfl rfl (fun _ => x_nilCheck rfl) ?_
  refine d_q (v := .pointer (some ⟨b, 0 + i * 8 + 5, none⟩)) rfl rfl (fun _ => x_field (o := 0 + i * 8) T.fa44_5 rfl) ?_
  refine d_e (by decide) (d_s' rfl rfl (e_stEl (v := .float .f64 r22) (u' := ({ g with spread := r22 } : Grp)) (i := i) (f := 5) hi T.sz22 rfl rfl rfl rfl hF26 (by decide) (by rfl) ?_))
  intro w31 _ hP32 hB33
  have hs34 := hP32.size
  have hE35 : Mod (fun k => k = b) w0 w31 := hE27.pt hP32 (.inl rfl)
  have hz36 := hE35.le
  refine ⟨need_no (by kernel_rfl), ?_⟩
  refine d_done ?_
  refine leave0' (P := Tryd.prog) (fn := Tryd.f64) rfl ?_
  exact ⟨rfl, _, ⟨_, _, hr14, hr23, rfl⟩, hE35, hB33⟩

end Go.Proofs.YtegpcbckiehleaaDoor
