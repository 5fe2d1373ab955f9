/-
  The program's function inklinglaw25.SumsWhole answers true at every list of integers, and it reads behind the call as ahead of it. The tables of powers of ten are those that the program's text lays; no other condition.
-/
import Derived.Test.YtegpcbckiehleaaDoorOpenR
import Derived.Test.YtegpcbckiehleaaDoorS25
namespace Go.Proofs.YtegpcbckiehleaaDoor
open Go.ChangeShapes Go.WideShapes Go.ChangeAt Go.RowKit Go.Eng
set_option maxRecDepth 100000 in
theorem laid_metWhole (os : Os) : laidMet Tryd.prog Rows.sumsWholeRow.laid ((laidWorld os).forCall (fun _ _ => 0) ⟨#[], #[.slice none 0 0], []⟩).memory :=
  laidMet_of_run' 8 (by kernel_rfl) (by kernel_rfl)
set_option maxRecDepth 100000 in
theorem readsWhole (os : Os) {H : Type} (enc : TypeId × Value → H) : ∃ places, DataW.whole enc Tryd.prog ((laidWorld os).forCall (fun _ _ => 0) ⟨#[], #[.slice none 0 0], []⟩).memory Tryd.f7.params.toList Rows.sumsWholeSpec.vars false #[Value.slice none 0 0].toList 8 = some ([.nil], [], places) :=
  ⟨[], by kernel_rfl⟩
set_option maxRecDepth 100000 in
theorem sumsWhole_contract (H : Type) (enc : TypeId × Value → H) (W : World) (base : Nat) (args : Array Value) (ds gs : List (DataW H)) (before : List MemPlace)
    (hval : ∀ (j : Nat) t v, Tryd.f7.params[j]? = some t → args[j]? = some v → Value.okWide Tryd.prog W .any base t v)
    (hW : DataW.Whole enc Tryd.prog Tryd.f7.params.toList Rows.sumsWholeSpec.vars false W args.toList ds gs before) (hL : laidMetH Tryd.prog Rows.sumsWholeRow.laid W) :
    Calls Tryd.prog 7 args W fun e W' => ∃ v, e = .returned v ∧ Rows.sumsWholeSpec.post enc Tryd.prog Tryd.f7 false true false false W args v W' := by
  have hT : Laid W := laid_all hL
  have hW' := hW
  obtain ⟨p, q, hA0, hV, rfl, _, _⟩ := hW
  have hA : DataW.TrodAll enc Tryd.prog W 0 (fun _ => true) true Tryd.f7.params.toList args.toList ds p := hA0
  rw [Tryd.params7] at hA hval
  obtain ⟨v0, vs0, d0, ds0, p0, q0, hargs, rfl, rfl, h0, r0⟩ := trodAll_cons hA
  obtain ⟨rfl, rfl, rfl⟩ := trodAll_nil r0
  obtain rfl : args = #[v0] := by cases args; simp_all
  obtain ⟨rfl, rfl⟩ := trodVars_none hV
  clear hA0
  simp only [List.append_nil] at hW'
  have hlt : ∀ x ∈ p0, x.block < W.heap.size := fun x hx => by simpa using hW'.lt x (by simpa using hx)
  obtain ⟨ls, hc1, hc2, hc3⟩ := open_cols (okWide_slice Tryd.underlying30 (hval 0 30 v0 rfl rfl)) h0
  refine (whole7 ls v0 W hc3 hT).mono fun e W' ⟨he, hb⟩ => ?_
  subst he
  refine ⟨_, rfl, _, _, _, [], p0, [], hW', ?_, ?_, rfl, hb.frame _, fun h => by cases h⟩
  · exact trodAll_mk1 (shut_bool Tryd.underlying4 _)
  · exact trodAll_mk1 (Below.trod Tryd.laidOut (by kernel_rfl) (of_decide_eq_true (by kernel_rfl)) h0 hb hlt)
set_option maxRecDepth 100000 in
theorem sumsWhole_lifted (os : Os) (started : os.Started) (H : Type) (enc : TypeId × Value → H) (F : Stop.Interp) :
    ReturnsInHanded {} Tryd.checked os 7 .any ((OpenSpec.ofChange Rows.sumsWholeSpec).preRow enc Tryd.prog Tryd.f7 Rows.sumsWholeRow.domain false Rows.sumsWholeRow.laid) (((OpenSpec.ofChange Rows.sumsWholeSpec).at F).post enc Tryd.prog Tryd.f7 false true false false) := by
  obtain ⟨places, hx⟩ := readsWhole os enc
  refine returnsInHanded_of_row (C := Tryd.checked) (s := OpenSpec.ofChange Rows.sumsWholeSpec) own started (by kernel_rfl) Tryd.func7
    (witness_row_at (enc := enc) (C := Tryd.checked) false (laidWorld os) #[.slice none 0 0] rfl (by kernel_rfl) (by kernel_rfl) (by kernel_rfl)
      (OpenSpec.preRow_of_cond 8 hx (by kernel_rfl) (fun k hk => by cases hk) (by kernel_rfl) (laid_metWhole os))) ?_
  intro W base args ds gs before hval hW _ _ _ hL _ _
  exact sumsWhole_contract H enc W base args ds gs before hval hW hL
theorem sumsWhole_said : Rows.SumsWholeSaid :=
  OpenClaim.holds_of_cond 7 Tryd.f7 rfl rfl rfl rfl rfl rfl rfl ⟨rfl, rfl, rfl, rfl, rfl⟩ rfl rfl rfl rfl rfl (by kernel_rfl) Tryd.func7 (by kernel_rfl)
    (of_decide_eq_true (by kernel_rfl)) (by unfold Func.isWrapper; first | (rw [if_pos (by decide +kernel)]; kernel_rfl) | (rw [if_neg (by decide +kernel)]; exact ⟨rfl, rfl⟩))
    (fun os started H enc _ F => by rw [OpenClaim.pre_eq_preRow]; exact sumsWhole_lifted os started H enc F)
theorem sumsWhole_plain (f : FuncId) (fn : Func) (hf : Tryd.pinned.checked.prog.funcNamed "inkling/inklinglaw25.SumsWhole" = some f) (hfn : Tryd.pinned.checked.prog.funcs[f]? = some fn) :
    false = Tryd.pinned.checked.prog.looks [] ∧ ∀ (j : Nat) t, fn.params[j]? = some t → Tryd.pinned.checked.prog.wantsStandIn t = false := by
  obtain rfl : f = 7 := Option.some.inj ((show Tryd.prog.funcNamed "inkling/inklinglaw25.SumsWhole" = some 7 by kernel_rfl).symm.trans hf) |>.symm
  obtain rfl : fn = Tryd.f7 := (Option.some.inj (Tryd.func7.symm.trans hfn)).symm
  refine ⟨by kernel_rfl, fun j t ht => ?_⟩
  rw [Tryd.params7] at ht
  have hm : t ∈ (#[30] : Array TypeId) := Array.mem_of_getElem? ht
  have hall : ∀ t ∈ (#[30] : Array TypeId), Tryd.prog.wantsStandIn t = false := by
    intro t ht
    obtain rfl : t = 30 := by simpa using ht
    exact (show Tryd.prog.wantsStandIn 30 = false by kernel_rfl)
  exact hall t hm
theorem sumsWhole_holds : Rows.SumsWholeCardSaid :=
  Claim7.holds_tied_plain_at .later [] _ _ _ _ sumsWhole_said (fun _ h => by cases h) (by kernel_rfl) (fun _ h => by cases h) sumsWhole_row_tie rfl ⟨rfl, rfl⟩ (by kernel_rfl) rfl sumsWhole_plain (by kernel_rfl)
#print axioms sumsWhole_holds
end Go.Proofs.YtegpcbckiehleaaDoor
