import Derived.Test.YtegpcbckiehleaaDoorS14
import Derived.Test.YtegpcbckiehleaaDoorSFill
namespace Go.Proofs.YtegpcbckiehleaaDoor
open Go.RowKit Go.Eng Go.OrdPure Go.Flt
theorem T.cf34 : CF Tryd.prog 34 := fun _ _ => by kernel_rfl
theorem T.cf35 : CF Tryd.prog 35 := fun _ _ => by kernel_rfl
theorem T.cf22 : CF Tryd.prog 22 := fun _ _ => by kernel_rfl

set_option maxHeartbeats 4000000 in
theorem mean49 (l : List Nat) (vl : Value) (w0 : World) (hl : Src w0.heap vl l.length 1 (flat enF l)) (h0 : 0 < l.length) : Calls Tryd.prog 49 #[vl] w0 fun e w' => ∃ s m, e = .returned (.tuple #[.float .f64 s, .float .f64 m]) ∧ Ext w0 w' ∧ SumTo 0 l l.length s ∧ FR (Flt.D.div s (fromInt ((l.length : Nat) : Int))) m := by
  have hE0 : Below w0.heap.size w0 w0 := Below.refl _ _
  have hz0 := hE0.le
  obtain ⟨al, cl, rfl, hcl, hcl1⟩ := hl.form
  refine enter Tryd.func49 rfl 27 Tryd.ntmps49 rfl ?_
  refine seqK fun Q1 kn2 kr3 ke4 => ?_
  refine region ?_
  refine st_q (v := .float .f64 0) (x_assign rfl) ?_
  refine st_q (v := .float .f64 0) (x_assign rfl) ?_
  refine st_nil ?_
  refine kn2 _ _ ?_
  refine seqK fun Q5 kn6 kr7 ke8 => ?_
  refine region ?_
  refine st_q (v := .float .f64 0) (x_assign rfl) ?_
  refine st_nil ?_
  refine kn6 _ _ ?_
  refine seqK fun Q9 kn10 kr11 ke12 => ?_
  refine seqK fun Q13 kn14 kr15 ke16 => ?_
  refine region ?_
  refine st_q (v := .int .i64 ((0 : Nat) : Int)) (x_assign rfl) ?_
  refine st_nil ?_
  refine kn14 _ _ ?_
  refine blockK fun Q17 kn18 kr19 kx20 kb21 => ?_
  refine loopK (α := Nat × Nat) (fun x => [(0, .slice al l.length cl), (4, .float .f64 x.2), (5, .int .i64 ((x.1 : Nat) : Int))]) (fun x w22 => Ext w0 w22 ∧ x.1 ≤ l.length ∧ SumTo 0 l x.1 x.2) (fun x => l.length - x.1) (0, 0) ⟨rfl, rfl, rfl, trivial⟩ ?_ ?_
  ·
   refine ⟨Below.refl _ _, ?_⟩
   try dsimp only
   exact ⟨Nat.zero_le _, rfl⟩
  ·
   rintro τ23 ⟨i, s⟩ w24 ⟨hx25, ⟨hi, hs⟩⟩
   try dsimp only at hi hs
   have hE26 : Below w0.heap.size w0 w24 := hx25.e hE0 (Nat.le_refl _)
   have hz27 := hE26.le
   have hs28 := hx25.size
   intro Q29 kn30 kr31 ke32
   refine seqK fun Q33 kn34 kr35 ke36 => ?_
   refine seqK fun Q37 kn38 kr39 ke40 => ?_
   refine region ?_
   refine st_q (v := .int .i64 ((i : Nat) : Int)) (x_move rfl) ?_
   refine st_q (v := .slice al l.length cl) (x_move rfl) ?_
   refine st_q (v := .int .i64 ((l.length : Nat) : Int)) (x_lenSl rfl Tryd.underlying78 rfl) ?_
   refine st_q (v := .bool (decide (i < l.length))) (x_lssN rfl rfl) ?_
   refine st_nil ?_
   refine kn38 _ _ ?_
   refine cnd (p := i < l.length) rfl (fun h41 => ?_) (fun h41 => ?_)
   ·
    refine skip ?_
    refine kn34 _ _ ?_
    refine seqK fun Q42 kn43 kr44 ke45 => ?_
    refine blockK fun Q46 kn47 kr48 kx49 kb50 => ?_
    refine region ?_
    refine st_q (v := .float .f64 s) (x_move rfl) ?_
    refine st_q (v := .slice al l.length cl) (x_move rfl) ?_
    refine st_q (v := .int .i64 ((i : Nat) : Int)) (x_move rfl) ?_
    obtain ⟨b51, o52, ha53, hc54⟩ := hl.at (by omega)
    refine st_q (v := .pointer (some ⟨b51, o52 + i * 1, none⟩)) (x_index' T.sl78 rfl ha53 rfl (by omega)) ?_
    refine st_q (v := .float .f64 ((el l i))) (x_load1 T.na22 rfl ((hc54.below hE26).elem enF_len (i := i) (by omega))) ?_
    refine st_e (e_addF (a := s) (b := ((el l i))) rfl rfl ?_)
    intro r55 w57 hr56 hx58
    have hF59 := hx58.e hx25 (Nat.le_refl _)
    have hE60 : Below w0.heap.size w0 w57 := hx58.e hE26 (Nat.le_refl _)
    have hz61 := hE60.le
    have hs62 := hx58.size
    refine st_q (v := .float .f64 r55) (x_assign rfl) ?_
    refine st_nil ?_
    refine kn47 _ _ ?_
    refine kn43 _ _ ?_
    refine region ?_
    refine st_q (v := .int .i64 ((i : Nat) : Int)) (x_move rfl) ?_
    refine st_q (v := .int .i64 (((i + 1) : Nat) : Int)) (x_addN rfl rfl (by omega)) ?_
    refine st_q (v := .int .i64 (((i + 1) : Nat) : Int)) (x_assign rfl) ?_
    refine st_nil ?_
    refine kn30 _ ((i + 1), r55) _ ⟨rfl, rfl, rfl, trivial⟩ ⟨hF59, ?_⟩ ?_
    ·
     try dsimp only
     exact ⟨by omega, _, hs, hr56⟩
    ·
     (try dsimp only); omega
   ·
    refine exit ?_
    refine ke36 _ _ _ ?_
    refine ke32 _ _ _ ?_
    refine kb21 _ _ ?_
    refine kn10 _ _ ?_
    refine seqK fun Q63 kn64 kr65 ke66 => ?_
    refine seqK fun Q67 kn68 kr69 ke70 => ?_
    refine region ?_
    refine st_q (v := .slice al l.length cl) (x_move rfl) ?_
    refine st_q (v := .int .i64 ((l.length : Nat) : Int)) (x_lenSl rfl Tryd.underlying78 rfl) ?_
    refine st_q (v := .bool (decide (l.length = 0))) (x_eqlN rfl rfl) ?_
    refine st_nil ?_
    refine kn68 _ _ ?_
    refine cnd (p := l.length = 0) rfl (fun h71 => ?_) (fun h71 => ?_)
    ·
     exact absurd h71 (by omega)
    ·
     refine skip ?_
     refine kn64 _ _ ?_
     refine seqK fun Q72 kn73 kr74 ke75 => ?_
     refine region ?_
     refine st_q (v := .float .f64 s) (x_move rfl) ?_
     refine st_q (v := .float .f64 s) (x_move rfl) ?_
     refine st_q (v := .slice al l.length cl) (x_move rfl) ?_
     refine st_q (v := .int .i64 ((l.length : Nat) : Int)) (x_lenSl rfl Tryd.underlying78 rfl) ?_
     refine st_q (v := .float .f64 ((fromInt (((l.length : Nat) : Int))))) (x_convF Tryd.underlying22 Tryd.underlying3 rfl) ?_
     refine st_e (e_quoF (a := s) (b := ((fromInt (((l.length : Nat) : Int))))) rfl rfl ?_)
     intro r76 w78 hr77 hx79
     have hF80 := hx79.e hx25 (Nat.le_refl _)
     have hE81 : Below w0.heap.size w0 w78 := hx79.e hE26 (Nat.le_refl _)
     have hz82 := hE81.le
     have hs83 := hx79.size
     refine st_q (v := .float .f64 s) (x_assign rfl) ?_
     refine st_q (v := .float .f64 r76) (x_assign rfl) ?_
     refine st_nil ?_
     refine kn73 _ _ ?_
     refine ret ?_
     refine leave2 (P := Tryd.prog) (fn := Tryd.f49) (t := 2) (u := 3) (v := .float .f64 s) (v' := .float .f64 r76) rfl rfl rfl ?_
     obtain rfl : i = l.length := by omega
     exact ⟨_, _, rfl, hE81, hs, hr77⟩

end Go.Proofs.YtegpcbckiehleaaDoor
