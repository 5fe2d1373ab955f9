/- What is read gives up at once: a reader that stands at its end; the panic is recovered. -/
import Derived.Test.YtfejieikpnljoaaGreatDoorHkS
import Derived.Test.YtfejieikpnljoaaGreatDoorV3
import Derived.Tactics
import Derived.Tactics2
import Derived.Defers
import Derived.Recover
import Derived.Laws.Pointers
import Derived.Shelf.RegionOpenPlain
import Derived.Test.YtfejieikpnljoaaGreatDoorLkX
import Derived.Lib.Builder
import Derived.Lib.MakeNoZero
import Derived.Laws.Externs
namespace Go.Proofs.YtfejieikpnljoaaGreatDoor
open Go.Eng Go.Lk Go.RowKit
abbrev gone (x : Int) : List PanicEntry := [{ v := .iface 183 (.agg #[.int .i64 x]), recovered := false }]
set_option maxHeartbeats 1000000 in
set_option maxRecDepth 100000 in
theorem must_gone (c o : Nat) (x : Int) (w : World) (h1 : w.cell? ⟨c, o + 1, none⟩ = some (.int .i64 x)) :
    Calls Tryz.prog 89 #[.pointer (some ⟨c, o, none⟩), .bool false] w fun e w' => e = .panicked (gone x) ∧ w' = w := by
  go_enter Tryz.func89, Tryz.ntmps89
  go_wp2
  exact ⟨rfl, rfl, rfl⟩
theorem T.fa132_0 : FA Tryz.prog 132 0 0 := fun _ _ => by kernel_rfl
theorem T.na22 : NA Tryz.prog 22 := fun _ => by kernel_rfl
theorem T.fa132_1 : FA Tryz.prog 132 1 1 := fun _ _ => by kernel_rfl
theorem T.na3 : NA Tryz.prog 3 := fun _ => by kernel_rfl
theorem take_gone (c o l k : Nat) (a : Option Addr) (w0 : World) (hc : Cells w0.heap c o [.slice a l k, .int .i64 (l : Int)]) (hl : l ≤ 9223372036854775807) :
    Calls Tryz.prog 132 #[.pointer (some ⟨c, o, none⟩), .int .i64 1] w0 fun e w' => e = .panicked (gone l) ∧ Ext w0 w' := by
  refine enter Tryz.func132 rfl 46 Tryz.ntmps132 rfl <| ?_
  refine sr fun Q1 k2 => qt asg <| nl <| k2 _ _ <| srP <| regionDP1 (fun _ _ _ d _ h => by cases d <;> exact h) [8, 13] [0, 1, 2, 3, 4, 5, 6, 7, 8, 9, 10, 11, 12, 13, 14, 15, 16] (.one 0 (.one 1 (.one 2 (.one 3 (.one 4 (.one 5 (.one 6 (.one 7 (.one 8 (.one 9 (.one 10 (.one 11 (.one 12 (.one 13 (.one 14 (.one 15 (.one 16 (.one 17 .done)))))))))))))))))) (by kernel_rfl) (by kernel_rfl) fun w7 x8 s9 => ?_
  have hcells := hc.ext x8
  have S11 : Ext w7 w7 := Below.refl _ _
  refine d_q rfl rfl (fun _ => mv) <| d_q rfl rfl (fun _ => mv) <| d_q rfl rfl (fun _ => x_geqN (b := 0) rfl rfl) <| d_if rfl rfl (p := 0 ≤ 1) (fun _ => mv) (fun h12 => ?_) (fun h12 => ?_)
  · refine d_gq (j := 3) (t := 8) rfl rfl rfl rfl (by decide) (fun _ => mv) <| d_gq (j := 3) (t := 8) rfl rfl rfl rfl (by decide) (fun _ => mv) <| d_gq (j := 3) (t := 8) rfl rfl rfl rfl (by decide) (fun _ => x_nilCheck rfl) <| d_gq (j := 3) (t := 8) rfl rfl rfl rfl (by decide) (fun _ => x_field (o := o) T.fa132_0 rfl) <| d_gl (j := 3) (t := 8) rfl rfl rfl rfl rfl (by decide) (fun _ y13 => x_load1 T.na22 rfl (((hcells).fld 0 rfl).ext y13)) <| d_gq (j := 3) (t := 8) rfl rfl rfl rfl (by decide) (fun _ => x_lenSl rfl Tryz.underlying22 rfl) <| d_gq (j := 3) (t := 8) rfl rfl rfl rfl (by decide) (fun _ => mv) <| d_gq (j := 3) (t := 8) rfl rfl rfl rfl (by decide) (fun _ => x_nilCheck rfl) <| d_gq (j := 3) (t := 8) rfl rfl rfl rfl (by decide) (fun _ => x_field (o := o) T.fa132_1 rfl) <| d_gl (j := 3) (t := 8) rfl rfl rfl rfl rfl (by decide) (fun _ y14 => x_load1 T.na3 rfl (((hcells).fld 1 rfl).ext y14)) <| d_gq (j := 3) (t := 8) rfl rfl rfl rfl (by decide) (fun _ => x_sub rfl rfl ⟨by omega, by omega⟩) <| d_gq (j := 3) (t := 8) rfl rfl rfl rfl (by decide) (fun _ => x_leq rfl rfl) <| d_q rfl rfl (fun _ => pkT rfl) <| ?_
    refine d_e (by decide) <| d_cp (f := 89) (args := #[.pointer (some ⟨c, o, none⟩), .bool false]) (R := fun e w' => e = .panicked (gone l) ∧ w' = w7) rfl rfl (t_call _ (fun _ _ => by kernel_rfl) rfl ?_) (must_gone c o l w7 (hcells.cell 1 (by simp))) fun e w' ⟨he, hw⟩ => ⟨_, he, rfl, rfl, by rw [hw]; exact x8⟩
    show [Value.pointer (some ⟨c, o, none⟩), Value.bool (decide ((1 : Int) ≤ ((l : Nat) : Int) - ((l : Nat) : Int)))] = _
    rw [decide_eq_false (by omega)]
  · exact absurd h12 (by omega)
set_option maxHeartbeats 1000000 in
set_option maxRecDepth 100000 in
theorem frame_gone (c o l k : Nat) (kd : Int) (a : Option Addr) (w0 : World) (hc : Cells w0.heap c o [.slice a l k, .int .i64 (l : Int)]) (hl : l ≤ 9223372036854775807) :
    Calls Tryz.prog 87 #[.pointer (some ⟨c, o, none⟩), .int .u8 kd] w0 fun e w' => e = .panicked (gone l) ∧ Ext w0 w' := by
  refine enter Tryz.func87 rfl 39 Tryz.ntmps87 rfl <| ?_
  refine sr fun Q1 k2 => qt asg <| nl <| k2 _ _ <| srP <| region <| qt mv <| qt mv <| ?_
  refine clp (fun _ _ => by kernel_rfl) (take_gone c o l k a w0 hc hl) rfl fun e w' ⟨he, hx⟩ => ⟨_, he, rfl, rfl, hx⟩
set_option maxHeartbeats 1000000 in
set_option maxRecDepth 100000 in
theorem head_gone (c o l k : Nat) (x : Value) (a : Option Addr) (w0 : World) (hc : Cells w0.heap c o [.slice a l k, .int .i64 (l : Int)]) (hl : l ≤ 9223372036854775807) :
    Calls Tryz.prog 49 #[x, .pointer (some ⟨c, o, none⟩)] w0 fun e w' => e = .panicked (gone l) ∧ Ext w0 w' := by
  refine enter Tryz.func49 rfl 207 Tryz.ntmps49 rfl <| ?_
  refine srP <| region <| qt mv <| ?_
  refine clp (fun _ _ => by kernel_rfl) (frame_gone c o l k 80 a w0 hc hl) rfl fun e w' ⟨he, hx⟩ => ⟨_, he, rfl, rfl, hx⟩
set_option maxHeartbeats 1000000 in
set_option maxRecDepth 100000 in
theorem turn_gone (c o l k : Nat) (x : Value) (a : Option Addr) (w0 : World) (hc : Cells w0.heap c o [.slice a l k, .int .i64 (l : Int)]) (hl : l ≤ 9223372036854775807) :
    Calls Tryz.prog 51 #[x, .pointer (some ⟨c, o, none⟩)] w0 fun e w' => e = .panicked (gone l) ∧ Ext w0 w' := by
  refine enter Tryz.func51 rfl 141 Tryz.ntmps51 rfl <| ?_
  refine srP <| region <| qt mv <| ?_
  refine clp (fun _ _ => by kernel_rfl) (frame_gone c o l k 84 a w0 hc hl) rfl fun e w' ⟨he, hx⟩ => ⟨_, he, rfl, rfl, hx⟩
end Go.Proofs.YtfejieikpnljoaaGreatDoor
namespace Go.Proofs.YtfejieikpnljoaaGreatDoor
open Go.Eng Go.Lk Go.RowKit
set_option maxHeartbeats 1000000 in
set_option maxRecDepth 100000 in
theorem clo42_gone (p0 p1 : Addr) (c o l k : Nat) (x : Value) (a : Option Addr) (w0 : World) (h0 : w0.cell? p0 = some x) (h1 : w0.cell? p1 = some (.pointer (some ⟨c, o, none⟩))) (hc : Cells w0.heap c o [.slice a l k, .int .i64 (l : Int)]) (hl : l ≤ 9223372036854775807) :
    Calls Tryz.prog 48 #[.pointer (some p0), .pointer (some p1)] w0 fun e w' => e = .panicked (gone l) ∧ Ext w0 w' := by
  go_enter Tryz.func48, Tryz.ntmps48
  go_wp2_with (go_at_call 49; refine (head_gone c o l k _ a w0 hc hl).mono ?_; rintro e w' ⟨rfl, hx⟩)
  exact ⟨rfl, rfl, hx⟩
set_option maxHeartbeats 1000000 in
set_option maxRecDepth 100000 in
theorem clo44_gone (p0 p1 : Addr) (c o l k : Nat) (x : Value) (a : Option Addr) (w0 : World) (h0 : w0.cell? p0 = some x) (h1 : w0.cell? p1 = some (.pointer (some ⟨c, o, none⟩))) (hc : Cells w0.heap c o [.slice a l k, .int .i64 (l : Int)]) (hl : l ≤ 9223372036854775807) :
    Calls Tryz.prog 50 #[.pointer (some p0), .pointer (some p1)] w0 fun e w' => e = .panicked (gone l) ∧ Ext w0 w' := by
  go_enter Tryz.func50, Tryz.ntmps50
  go_wp2_with (go_at_call 51; refine (turn_gone c o l k _ a w0 hc hl).mono ?_; rintro e w' ⟨rfl, hx⟩)
  exact ⟨rfl, rfl, hx⟩
theorem T.zv183 : ZV Tryz.prog 183 (.agg #[.int .i64 0]) := fun _ => by kernel_rfl
theorem T.zv4 : ZV Tryz.prog 4 (.bool false) := fun _ => by kernel_rfl
theorem T.sz183 : SZ Tryz.prog 183 1 := fun _ => by kernel_rfl
theorem T.sz4 : SZ Tryz.prog 4 1 := fun _ => by kernel_rfl
theorem x_assert {n : Nat} {σ : Nat → Value} {w : World} {ty : TypeId} {x : Operand} {v : Value} (hx : ev n σ x = .iface 183 v) : Ex Tryz.prog (ev n σ) w (.typeAssert x 20 183 true) ty (.tuple #[v, .bool true]) := fun _ _ _ _ => by
  simp [execOp, hx, Instr.typeAssert, run_underlying Tryz.underlying183]
theorem x_someI {n : Nat} {σ : Nat → Value} {w : World} {ty : TypeId} {x : Operand} {v : Value} {t : TypeId} (hx : ev n σ x = .iface t v) : Ex Tryz.prog (ev n σ) w (.binOp .neq 20 x (.const .nilIface) 20) ty (.bool (decide True)) := fun _ _ _ _ => by
  have h1 := (eq_run (Pr := Tryz.prog) (t := 20) (x := .iface t v) (y := .nilIface) (w := w) ⟨by intros; simp, by intros; simp, by intros; simp, by intros; simp⟩ ((q_i 9999 Tryz.underlying20).2.2 t v)).2
  have h2 : (eqGuard .neq 20 x (.const .nilIface) (.iface t v) .nilIface).run Tryz.prog w = .ok () w := guard1 (by intros; simp) (by simp)
  have h3 : ev n σ (.const .nilIface) = .nilIface := rfl
  simp [execOp, hx, h3, h1, h2]
theorem x_nilI {n : Nat} {σ : Nat → Value} {w : World} {ty : TypeId} {x : Operand} (hx : ev n σ x = .nilIface) : Ex Tryz.prog (ev n σ) w (.binOp .neq 20 x (.const .nilIface) 20) ty (.bool (decide False)) := fun _ _ _ _ => by
  have h1 := (eq_run (Pr := Tryz.prog) (t := 20) (x := .nilIface) (y := .nilIface) (w := w) ⟨by intros; simp, by intros; simp, by intros; simp, by intros; simp⟩ (q_i 9999 Tryz.underlying20).1).2
  have h2 : (eqGuard .neq 20 x (.const .nilIface) .nilIface .nilIface).run Tryz.prog w = .ok () w := by simp [eqGuard]
  have h3 : ev n σ (.const .nilIface) = .nilIface := rfl
  simp [execOp, hx, h3, h1, h2]
theorem catch_gone (p : Nat) (b : Bool) (x : Int) (w : World) (hc : Blk w.heap p [.bool b] 4) :
    CallsD Tryz.prog 86 #[.pointer (some ⟨p, 0, none⟩)] (.panicking (gone x)) w fun e u' w' =>
      e = .returned (.tuple #[]) ∧ u' = .panicking [{ v := .iface 183 (.agg #[.int .i64 x]), recovered := true }] ∧ Hp (fun z => z = p) w w' [cB p 4 [.bool false]] := by
  have H0 : Hp (fun z => z = p) w w [cB p 4 [.bool b]] := Hp.start1 (c := cB p 4 [.bool b]) hc (fun z hz => by have hz : z = p := hz; subst hz; exact hc.lt)
  refine enterR (.one 183 (.agg #[.int .i64 x]) []) Tryz.func86 rfl Tryz.ntmps86 rfl rfl <| ?_
  refine sr fun Q1 k1 => qt mv <| qt (x_someI rfl) <| nl <| k1 _ _ <| cndY (p := True) rfl (not_not_intro trivial) <| ?_
  refine seqK fun Q4 k4 _ _ => ?_
  refine sr fun Q2 k2 => qt mv <| qt (x_assert (v := .agg #[.int .i64 x]) rfl) <| qt mv <| qt (x_extract (v := .agg #[.int .i64 x]) (vs := #[.agg #[.int .i64 x], .bool true]) rfl rfl) <| qt (x_extract (v := .bool true) (vs := #[.agg #[.int .i64 x], .bool true]) rfl rfl) <| st_e <| Eal H0 T.zv183 fun b2 w2 H2 x2 => ?_
  have H2 : Hp (fun z => z = p) w w2 [cB b2 183 [.int .i64 0], cB p 4 [.bool b]] := H2
  refine st_s <| Est (v := .agg #[.int .i64 x]) H2 0 T.sz183 rfl rfl rfl rfl rfl rfl fun w3 H3 => qt asg <| nl <| k2 _ _ <| ?_
  have H3 : Hp (fun z => z = p) w w3 [cB b2 183 [.int .i64 x], cB p 4 [.bool b]] := H3
  refine sr fun Q3 k3 => qt mv <| qt (x_not (p := True) rfl) <| nl <| k3 _ _ <| ?_
  refine cndN (p := ¬ True) rfl (fun h => h trivial) <| wp_skip <| k4 _ _ <| ?_
  refine region <| st_s <| Est (v := .bool false) H3 1 T.sz4 rfl rfl rfl rfl rfl rfl fun w4 H4 => nl <| ?_
  have H4 : Hp (fun z => z = p) w w4 [cB b2 183 [.int .i64 x], cB p 4 [.bool false]] := H4
  exact ⟨rfl, _, results_none rfl _ _ _, rfl, rfl, H4.tail⟩
theorem res41 (tm : Array Value) (b : Nat) (w : World) (ht : tm[2]? = some (.pointer (some ⟨b, 0, none⟩))) (hcell : w.cell? ⟨b, 0, none⟩ = some (.bool false)) : (results Tryz.f47 tm).run Tryz.prog w = .ok (.bool false) w := by
  have hr : Tryz.f47.results = #[.cell 2 4] := rfl
  have hz : (isAgg 4).run Tryz.prog w = .ok false w := by kernel_rfl
  simp [results, hr, ht, asAddr, loadVar, hz]
  rw [hcell]
theorem try_gone (f : FuncId) (p0 p1 : Addr) (w0 : World) (x : Int) (hcf : CF Tryz.prog f) (hclo : ∀ w, Ext w0 w → Calls Tryz.prog f #[.pointer (some p0), .pointer (some p1)] w fun e w' => e = .panicked (gone x) ∧ Ext w w') :
    Calls Tryz.prog 47 #[.func (.func f) #[] #[.pointer (some p0), .pointer (some p1)]] w0 fun e w' => e = .returned (.bool false) ∧ Ext w0 w' := by
  have H0 := Hp.start No w0
  refine enterD Tryz.func47 rfl 6 Tryz.ntmps47 rfl <| ?_
  refine srP <| region <| st_e <| Eal H0 T.zv4 fun b w1 H1 x1 => nl <| ?_
  have H1 : Hp No w0 w1 [cB b 4 [.bool false]] := H1
  refine srP <| region <| qt (v := .func (.func 86) #[] #[.pointer (some ⟨b, 0, none⟩)]) (fun _ _ _ _ => by kernel_rfl) <| st_d (dd := { target := .fn (.func 86) #[.pointer (some ⟨b, 0, none⟩)], args := #[] }) (by kernel_rfl) <| nl <| ?_
  refine srP <| region <| qt mv <| st_cp (t_call [.pointer (some p0), .pointer (some p1)] hcf rfl rfl) (hclo w1 x1) fun e w2 ⟨he, hx⟩ => ⟨_, he, ?_⟩
  have H2 := H1.ext hx
  refine leaves_cons (f := 86) (args := #[.pointer (some ⟨b, 0, none⟩)]) (by simp) (by kernel_rfl) ?_
  refine (catch_gone b false x w2 (H2.at 0 rfl)).mono ?_
  rintro e u' w3 ⟨rfl, rfl, K⟩
  have H3 : Hp No w0 w3 [cB b 4 [.bool false]] := H2.call 0 rfl K
  have hB : Blk w3.heap b [.bool false] 4 := H3.at 0 rfl
  have hcell : w3.cell? ⟨b, 0, none⟩ = some (.bool false) := by unfold Go.Eng.Blk at hB; simp [World.cell?, hB]
  exact ⟨.bool false, res41 _ b w3 rfl hcell, rfl, H3.x⟩
theorem idle80 : DnAt Tryz.prog 86 1 := ⟨fun _ _ => by kernel_rfl, fun args w hs => (by
  obtain ⟨p, rfl⟩ := Array.size_eq_one_iff.1 hs
  refine enterRI Tryz.func86 rfl Tryz.ntmps86 rfl rfl <| ?_
  refine sr fun Q1 k1 => qt mv <| qt (x_nilI rfl) <| nl <| k1 _ _ <| cndN (p := False) rfl (fun h => h) <| wp_skip <| ?_
  exact ⟨rfl, _, results_none rfl _ _ _, rfl, Below.refl _ _⟩)⟩
theorem idle188 : DnAt Tryz.prog 194 2 := ⟨fun _ _ => by kernel_rfl, fun args w hs => (by
  obtain ⟨p, q, rfl⟩ : ∃ p q, args = #[p, q] := by
    obtain ⟨l⟩ := args
    match l, hs with
    | [p, q], _ => exact ⟨p, q, rfl⟩
  refine enterRI Tryz.func194 rfl Tryz.ntmps194 rfl rfl <| ?_
  refine sr fun Q1 k1 => qt mv <| qt (x_nilI rfl) <| nl <| k1 _ _ <| cndN (p := False) rfl (fun h => h) <| wp_skip <| ?_
  exact ⟨rfl, _, results_none rfl _ _ _, rfl, Below.refl _ _⟩)⟩
end Go.Proofs.YtfejieikpnljoaaGreatDoor
namespace Go.Proofs.YtfejieikpnljoaaGreatDoor
open Go.Eng Go.Lk Go.RowKit
set_option maxHeartbeats 1000000 in
set_option maxRecDepth 100000 in
theorem copy_used (b : Nat) (w : World) (h0 : w.cell? ⟨b, 0, none⟩ = some (.pointer (some ⟨b, 0, none⟩))) :
    Calls Tryz.prog 83 #[.pointer (some ⟨b, 0, none⟩)] w fun e w' => e = .returned (.tuple #[]) ∧ w' = w := by
  obtain ⟨j, hj, _⟩ := Option.map_eq_some_iff.1 (show (Tryz.prog.info? 122).map (·.size) = some 2 by kernel_rfl)
  go_enter Tryz.func83, Tryz.ntmps83
  go_wp2
  rw [Lib.run_neq_ptr_same w _ Tryz.underlying120 hj]
  go_wp2
  go_end0
  exact ⟨rfl, rfl⟩
set_option maxHeartbeats 1000000 in
set_option maxRecDepth 100000 in
theorem copy_fresh (b : Nat) (w : World) (h0 : w.cell? ⟨b, 0, none⟩ = some (.pointer none)) (hsh : w.shape? b = some (122, 2)) (hfz : w.frozen? ⟨b, 0, none⟩ = false) :
    Calls Tryz.prog 83 #[.pointer (some ⟨b, 0, none⟩)] w fun e w' => e = .returned (.tuple #[]) ∧ w' = w.setCell ⟨b, 0, none⟩ (.pointer (some ⟨b, 0, none⟩)) := by
  obtain ⟨j, hj, hjs⟩ := Option.map_eq_some_iff.1 (show (Tryz.prog.info? 122).map (·.size) = some 2 by kernel_rfl)
  go_enter Tryz.func83, Tryz.ntmps83
  go_wp2
  rw [Lib.run_to_unsafe w ⟨b, 0, none⟩ Tryz.underlying120 Tryz.underlying241 hj (by rw [hjs]; decide) hsh (Nat.zero_lt_succ 1)]
  simp only [Result.andThen]
  rw [Oper.upon_value]
  go_wp2
  rw [run_callFunc_extern Tryz.func130 (by kernel_rfl) (by kernel_rfl) (by kernel_rfl) (e := Extern.AbiNoEscape.same) (by kernel_rfl)]
  rw [Lib.run_noEscape]
  simp only [Result.andThen]
  rw [Oper.upon_value]
  go_wp2
  rw [Lib.run_from_unsafe w ⟨b, 0, none⟩ Tryz.underlying241 Tryz.underlying120 hj hsh (by kernel_rfl)]
  simp only [Result.andThen]
  rw [Oper.upon_value]
  go_wp2
  go_end0
  exact ⟨rfl, rfl⟩
set_option maxHeartbeats 1000000 in
set_option maxRecDepth 100000 in
theorem built_nil (c o : Nat) (w : World) (h0 : w.cell? ⟨c, o + 1, none⟩ = some (.slice none 0 0)) :
    Calls Tryz.prog 44 #[.pointer (some ⟨c, o, none⟩)] w fun e w' => e = .returned (.string .empty) ∧ w' = w.drew := by
  have c1 : w.drew.cell? ⟨c, o + 1, none⟩ = some (.slice none 0 0) := h0
  have hSD : (Builtin.unsafeSliceData_ #[22] 180 #[.slice none 0 0]).run Tryz.prog w.drew = .ok (.pointer none) w.drew := rfl
  have hUS : ∀ W q, (Builtin.unsafeString_ #[180, 3] 9 #[.pointer q, .int .i64 0]).run Tryz.prog W = .ok (.string .empty) W := fun W q => Lib.run_unsafeString_none W _ _ _ q
  go_enter Tryz.func44, Tryz.ntmps44
  go_wp2
  go_region
  all_goals (go_wp2; go_ret; exact ⟨rfl, rfl⟩)
set_option maxHeartbeats 1000000 in
set_option maxRecDepth 100000 in
theorem built_some (c o g q cap : Nat) (arr : Array Value) (l : List UInt8) (w : World) (h0 : w.cell? ⟨c, o + 1, none⟩ = some (.slice (some ⟨g, q, none⟩) l.length cap)) (hg : w.heap[g]? = some (.cells arr 5 (0, 0))) (hl : l ≠ []) (hcap : l.length ≤ cap) (hmax : l.length ≤ 1000000) (hsz : q + l.length ≤ arr.size)
    (hcell : ∀ j x, l[j]? = some x → arr[q + j]? = some (.int .u8 x.toNat)) :
    Calls Tryz.prog 44 #[.pointer (some ⟨c, o, none⟩)] w fun e w' => e = .returned (.string ⟨l.toArray⟩) ∧ w' = w.drew.freeze ⟨g, q, none⟩ l.length := by
  have hlen : l.length ≠ 0 := by simpa using hl
  have c1 : w.drew.cell? ⟨c, o + 1, none⟩ = some (.slice (some ⟨g, q, none⟩) l.length cap) := h0
  have hSD : (Builtin.unsafeSliceData_ #[22] 180 #[.slice (some ⟨g, q, none⟩) l.length cap]).run Tryz.prog w.drew = .ok (.pointer (some ⟨g, q, none⟩)) w.drew := Lib.run_unsafeSliceData_row _ _ _ _ _ _ (by omega)
  have hUS : (Builtin.unsafeString_ #[180, 3] 9 #[.pointer (some ⟨g, q, none⟩), .int .i64 l.length]).run Tryz.prog w.drew = .ok (.string ⟨l.toArray⟩) (w.drew.freeze ⟨g, q, none⟩ l.length) := by
    refine run_unsafeString_at 180 3 9 5 Tryz.underlying180 (by kernel_rfl) g q arr.size ?_ l hl hsz (by omega) ?_
    · have hg' : w.drew.heap[g]? = some (.cells arr 5 (0, 0)) := hg
      simp [World.shape?, hg']
    · intro j x hx
      have hg' : w.drew.heap[g]? = some (.cells arr 5 (0, 0)) := hg
      have h1 := hcell j x hx
      unfold Addr.add
      by_cases hj : j = 0
      · subst hj; simpa [World.cell?, hg'] using h1
      · simpa [World.cell?, hg', hj] using h1
  go_enter Tryz.func44, Tryz.ntmps44
  go_wp2
  go_region
  all_goals (go_wp2; go_ret; exact ⟨rfl, rfl⟩)
theorem load_run (a : Addr) (x : Int) (w : World) (h : w.cell? a = some (.int .u32 x)) : (callFunc 333 #[.pointer (some a)]).run Tryz.prog w = .ok (.value (.int .u32 x)) w := by
  rw [run_callFunc_extern Tryz.func333 (by kernel_rfl) (by kernel_rfl) (by kernel_rfl) (e := Extern.Atomic.loadT (.int .u32)) (by kernel_rfl)]
  have : (Extern.Atomic.loadT (.int .u32) #[.pointer (some a)]).run Tryz.prog w = .ok (.int .u32 x) w := by
    show ((do let v ← Extern.Atomic.read (.int .u32) (← asAddr (.pointer (some a))); pure v) : Sem Value).run Tryz.prog w = _
    simp [Extern.Atomic.read, asAddr, h]
  rw [this]; rfl
theorem store_run (a : Addr) (u : Value) (y : Int) (w : World) (h : w.cell? a = some u) (hf : w.frozen? a = false) : (callFunc 354 #[.pointer (some a), .int .u32 y]).run Tryz.prog w = .ok (.value (.tuple #[])) (w.setCell a (.int .u32 y)) := by
  rw [run_callFunc_extern Tryz.func354 (by kernel_rfl) (by kernel_rfl) (by kernel_rfl) (e := Extern.Atomic.storeT) (by kernel_rfl)]
  have : (Extern.Atomic.storeT #[.pointer (some a), .int .u32 y]).run Tryz.prog w = .ok (.tuple #[]) (w.setCell a (.int .u32 y)) := by
    show ((do store (← asAddr (.pointer (some a))) (.int .u32 y) .atomic; pure Extern.Atomic.none_) : Sem Value).run Tryz.prog w = _
    simp [asAddr, h, hf, Extern.Atomic.none_, run_store Tryz.prog w a (.int .u32 y) .atomic rfl, Result.andThen]
  rw [this]; rfl
end Go.Proofs.YtfejieikpnljoaaGreatDoor
