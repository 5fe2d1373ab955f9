/- Arguments opened, and the tables that the rows list. -/
import Derived.Test.YtegpcbckiehleaaDoorS12
import Derived.Test.YtegpcbckiehleaaDoorCards
import Derived.Test.YtegpcbckiehleaaDoorTie
import Derived.WalkKit
import Derived.ProofKit
import Derived.OpenShut
import Derived.SliceStrings
import Derived.JoinedCond
import Derived.Deep.SlicePairs
import Derived.Deep.DeepHandedRow
import Derived.Lib.LaidTab
import Derived.Stop.LaidErr
namespace Go.Eng
open Go.RowKit
theorem cells_of {w : World} {b o : Nat} {cs : List Value} (h0 : 0 < cs.length) (h : ∀ j (hj : j < cs.length), w.cell? ⟨b, o + j, none⟩ = some cs[j]) : Cells w.heap b o cs := by
  have h1 := h 0 h0
  unfold World.cell? at h1
  dsimp only at h1
  cases hb : w.heap[b]? with
  | none => rw [hb] at h1; cases h1
  | some ob =>
    cases ob with
    | cells c e fr =>
      refine ⟨c, e, fr, hb, fun j hj => ?_⟩
      have h2 := h j hj
      simpa [World.cell?, hb] using h2
    | _ => rw [hb] at h1; cases h1
theorem trod_f64 {H : Type} {enc : TypeId × Value → H} {P : Program} {w : World} {base : Nat} {sp : Nat → Bool} {held : Bool} {fuel : Nat} {t : TypeId} {cs : List Value} {x : DataW H × List MemPlace} (ht : P.underlying t = some (.float .f64)) (h : DataW.trod enc P w base sp held fuel t cs = some x) : ∃ z, cs = [.float .f64 z] ∧ x = (.lit (.float .f64 z), []) := by
  cases fuel with
  | zero => simp [DataW.trod] at h
  | succ n =>
    unfold DataW.trod at h
    rw [ht] at h
    split at h <;> simp_all
theorem cells_of_tabF {H : Type} {enc : TypeId × Value → H} {P : Program} {w : World} {base : Nat} {sp : Nat → Bool} {held : Bool} {fuel : Nat} {t e : TypeId} {n : Nat} {cs : List Value} {zs : List Nat} {p : List MemPlace}
    (ht : P.underlying t = some (.array n e)) (he : P.underlying e = some (.float .f64)) (hce : P.cellsOf e = 1) (hct : P.cellsOf t = n)
    (h : DataW.trod enc P w base sp held fuel t cs = some (.agg (zs.map fun z => .lit (.float .f64 z)), p)) : cs = zs.map fun z => Value.float .f64 z := by
  cases fuel with
  | zero => simp [DataW.trod] at h
  | succ fuel =>
    simp only [DataW.trod, ht, hce, hct, Nat.mul_one] at h
    split at h
    · rename_i hl
      obtain ⟨xs, hm, hx⟩ := Option.map_eq_some_iff.1 h
      have hxs : xs.map (·.1) = zs.map fun z => (DataW.lit (.float .f64 z) : DataW H) := by
        have := congrArg Prod.fst hx
        simpa using this
      have hxl : xs.length = n := by simpa using Lib.mapM_length hm
      have hzl : zs.length = n := by
        have := congrArg List.length hxs
        simp at this
        omega
      apply List.ext_getElem?
      intro i
      by_cases hi : i < n
      · obtain ⟨b, hb, hf⟩ := Lib.mapM_at hm i i (by simp [hi])
        obtain ⟨z, hc, rfl⟩ := trod_f64 he hf
        have h1 : cs[i]? = some (.float .f64 z) := by
          have := congrArg (·[0]?) hc
          simpa [List.getElem?_take, List.getElem?_drop] using this
        have h2 : (xs.map (·.1))[i]? = some (DataW.lit (.float .f64 z) : DataW H) := by simp [hb]
        rw [hxs] at h2
        simp only [List.getElem?_map, Option.map_eq_some_iff, DataW.lit.injEq, Lit.float.injEq, true_and] at h2
        obtain ⟨z', hz', rfl⟩ := h2
        simp [h1, hz']
      · rw [List.getElem?_eq_none (by omega), List.getElem?_eq_none (by simp; omega)]
    · cases h
theorem flat_enF (zs : List Nat) : flat enF zs = zs.map fun z => Value.float .f64 z := by
  induction zs with
  | nil => rfl
  | cons z zs ih => rw [List.map_cons, ← ih]; rfl
theorem table_of {P : Program} {W : World} {name : String} {zs : List Nat} {rest : List (String × DataW Unit)} {g : Nat} {t e : TypeId} {n : Nat}
    (hg : P.globalNamed name = some g) (hty : (P.globals[g]?).map (·.type) = some t) (ht : P.underlying t = some (.array n e)) (he : P.underlying e = some (.float .f64)) (hce : P.cellsOf e = 1) (hct : P.cellsOf t = n)
    (h : laidMet P ((name, .agg (zs.map fun z => .lit (.float .f64 z))) :: rest) W) : Cells W.heap g 0 (flat enF zs) := by
  obtain ⟨ps, ⟨g', t', cs, fuel, p, q, hg', ht', hvar, hd, _, _⟩, _⟩ := h
  obtain rfl := Option.some.inj (hg.symm.trans hg')
  obtain rfl := Option.some.inj (hty.symm.trans ht')
  have e := cells_of_tabF ht he hce hct hd
  unfold World.var? at hvar
  rw [hg] at hvar
  dsimp only [Option.bind] at hvar
  cases hb : W.heap[g]? with
  | none => rw [hb] at hvar; cases hvar
  | some ob =>
    rw [hb] at hvar
    cases ob with
    | cells c e' fr =>
      have hc : c = cs := by simpa using hvar
      have e2 : c = (flat enF zs).toArray := by rw [hc, flat_enF, ← e]
      subst e2
      exact ⟨_, e', fr, hb, fun j hj => by simp [hj]⟩
    | _ => cases hvar
end Go.Eng
namespace Go.Proofs.YtegpcbckiehleaaDoor
open Go.ChangeShapes Go.WideShapes Go.ChangeAt Go.RowKit Go.Eng
def neg10 : List Nat := [4607182418800017408, 4128101167230658355, 3649340653511681853, 3170840353250979498, 2691949749288605597, 2213095475689254516, 1734519108376626298, 1255832114822727210, 776877706278891331, 298220099847875929, 2024]
theorem gTab1 : Tryd.prog.globalNamed "math.pow10postab32" = some 1 := by kernel_rfl
theorem gTab2 : Tryd.prog.globalNamed "math.pow10tab" = some 2 := by kernel_rfl
theorem gCells22 : Tryd.prog.cellsOf 22 = 1 := by kernel_rfl
/-- what the rows' lists give -/
theorem laid_all {W : World} (h : laidMet Tryd.prog [("math.pow10tab", Rows.laid_math_pow10tab), ("math.pow10postab32", Rows.laid_math_pow10postab32), ("math.pow10negtab32", Rows.laid_math_pow10negtab32)] W) : Laid W := by
  refine ⟨table_of (zs := pos10) gTab1 (t := 101) (by kernel_rfl) Tryd.underlying101 Tryd.underlying22 gCells22 (by kernel_rfl) h.tail, table_of (zs := tab10) gTab2 (t := 103) (by kernel_rfl) Tryd.underlying103 Tryd.underlying22 gCells22 (by kernel_rfl) h⟩
def putCells (vs : List Nat) : Obj → Obj
  | .cells _ t frozen => .cells (vs.map fun z => Value.float .f64 z).toArray t frozen
  | o => o
/-- a world in which the tables are laid -/
noncomputable def laidWorld (os : Os) : World :=
  { World.holding Tryd.prog os ⟨#[], #[], []⟩ with heap := (((World.holding Tryd.prog os ⟨#[], #[], []⟩).heap.modify 1 (putCells pos10)).modify 2 (putCells tab10)).modify 3 (putCells neg10) }
theorem Tryd.laidOut : laidOutB Tryd.prog = true := by kernel_rfl
theorem own : ownKnob Tryd.prog.godebug = none := by kernel_rfl
end Go.Proofs.YtegpcbckiehleaaDoor
