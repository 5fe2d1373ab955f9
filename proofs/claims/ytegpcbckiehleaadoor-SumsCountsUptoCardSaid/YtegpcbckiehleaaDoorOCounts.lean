/-
  The program's function inklinglaw25.SumsCounts answers true at every relation and list of columns that are together of bulk at most 1048576, and they read behind the call as ahead of it. The tables of powers of ten are those that the program's text lays; no other condition but that of the given row.
-/
import Derived.Test.YtegpcbckiehleaaDoorOpenR
import Derived.Test.YtegpcbckiehleaaDoorS21
namespace Go.Proofs.YtegpcbckiehleaaDoor
open Go.ChangeShapes Go.WideShapes Go.ChangeAt Go.RowKit Go.Eng
set_option maxRecDepth 100000 in
theorem laid_metCounts (os : Os) : laidMet Tryd.prog Rows.sumsCountsUptoRow.laid ((laidWorld os).forCall (fun _ _ => 0) ⟨#[], #[.agg #[.string ByteArray.empty, .int .i64 0, .slice none 0 0], .slice none 0 0], []⟩).memory :=
  laidMet_of_run' 8 (by kernel_rfl) (by kernel_rfl)
set_option maxRecDepth 100000 in
theorem readsCounts (os : Os) {H : Type} (enc : TypeId × Value → H) : ∃ places, DataW.whole enc Tryd.prog ((laidWorld os).forCall (fun _ _ => 0) ⟨#[], #[.agg #[.string ByteArray.empty, .int .i64 0, .slice none 0 0], .slice none 0 0], []⟩).memory Tryd.f6.params.toList Rows.sumsCountsSpec.vars false (#[(.agg #[.string ByteArray.empty, .int .i64 0, .slice none 0 0] : Value), (.slice none 0 0 : Value)]).toList 8 = some ([.agg [.lit (.string []), .lit (.int .i64 0), .nil], .nil], [], places) :=
  ⟨[], by kernel_rfl⟩
set_option maxRecDepth 100000 in
theorem sumsCounts_contract (H : Type) (enc : TypeId × Value → H) (W : World) (base : Nat) (args : Array Value) (ds gs : List (DataW H)) (before : List MemPlace)
    (hval : ∀ (j : Nat) t v, Tryd.f6.params[j]? = some t → args[j]? = some v → Value.okWide Tryd.prog W .any base t v)
    (hW : DataW.Whole enc Tryd.prog Tryd.f6.params.toList Rows.sumsCountsSpec.vars false W args.toList ds gs before) (hk : Rows.uptoSmall H (ds ++ gs) = true) (hL : laidMetH Tryd.prog Rows.sumsCountsUptoRow.laid W) :
    Calls Tryd.prog 6 args W fun e W' => ∃ v, e = .returned v ∧ Rows.sumsCountsSpec.post enc Tryd.prog Tryd.f6 false true false false W args v W' := by
  have hT : Laid W := laid_all hL
  have hW' := hW
  obtain ⟨p, q, hA0, hV, rfl, _, _⟩ := hW
  have hA : DataW.TrodAll enc Tryd.prog W 0 (fun _ => true) true Tryd.f6.params.toList args.toList ds p := hA0
  rw [Tryd.params6] at hA hval
  obtain ⟨v0, v1, d0, d1, p0, p1, rfl, rfl, rfl, h0, h1⟩ := trodAll_two hA
  obtain ⟨rfl, rfl⟩ := trodVars_none hV
  clear hA0
  simp only [List.append_nil] at hW' hk
  have hb0 : Rows.uptoBulkAll [d0, d1] ≤ 1048576 := of_decide_eq_true hk
  simp only [Rows.uptoBulkAll] at hb0
  have hlt : ∀ x ∈ p0 ++ p1, x.block < W.heap.size := fun x hx => by simpa using hW'.lt x (by simpa using hx)
  obtain ⟨pr, ar, va, L, rfl, hr1, hr2, hr3, hr4, hr5⟩ := open_rel h0
  obtain ⟨ls, hc1, hc2, hc3⟩ := open_cols (okWide_slice Tryd.underlying30 (hval 1 30 v1 rfl rfl)) h1
  refine (counts6 pr ar L va ls v1 W hr5 hr4 hc3 (by omega) (by omega) (fun x hx => by have := hr2 x hx; omega) hT).mono fun e W' ⟨he, hb⟩ => ?_
  subst he
  refine ⟨_, rfl, _, _, _, [], p0 ++ p1, [], hW', ?_, ?_, rfl, hb.frame _, fun h => by cases h⟩
  · exact trodAll_mk1 (shut_bool Tryd.underlying4 _)
  · have h9 := trodAll_mk2 (Below.trod Tryd.laidOut (by kernel_rfl) (of_decide_eq_true (by kernel_rfl)) h0 hb fun x hx => hlt x (by simp [hx])) (Below.trod Tryd.laidOut (by kernel_rfl) (of_decide_eq_true (by kernel_rfl)) h1 hb fun x hx => hlt x (by simp [hx]))
    exact h9
set_option maxRecDepth 100000 in
theorem sumsCounts_lifted (os : Os) (started : os.Started) (H : Type) (enc : TypeId × Value → H) (F : Stop.Interp) :
    ReturnsInHanded {} Tryd.checked os 6 .any ((Rows.OpenSpec.upto Rows.sumsCountsSpec).preRow enc Tryd.prog Tryd.f6 Rows.sumsCountsUptoRow.domain false Rows.sumsCountsUptoRow.laid) (((Rows.OpenSpec.upto Rows.sumsCountsSpec).at F).post enc Tryd.prog Tryd.f6 false true false false) := by
  obtain ⟨places, hx⟩ := readsCounts os enc
  refine returnsInHanded_of_row (C := Tryd.checked) (s := Rows.OpenSpec.upto Rows.sumsCountsSpec) own started (by kernel_rfl) Tryd.func6
    (witness_row_at (enc := enc) (C := Tryd.checked) false (laidWorld os) #[(.agg #[.string ByteArray.empty, .int .i64 0, .slice none 0 0] : Value), (.slice none 0 0 : Value)] rfl (by kernel_rfl) (by kernel_rfl) (by kernel_rfl)
      (OpenSpec.preRow_of_cond 8 hx (by kernel_rfl) (fun k hk => by cases hk; kernel_rfl) (by kernel_rfl) (laid_metCounts os))) ?_
  intro W base args ds gs before hval hW _ hcond _ hL _ _
  exact sumsCounts_contract H enc W base args ds gs before hval hW (hcond _ rfl) hL
theorem sumsCounts_said : Rows.SumsCountsUptoSaid :=
  OpenClaim.holds_of_cond 6 Tryd.f6 rfl rfl rfl rfl rfl rfl rfl ⟨rfl, rfl, rfl, rfl, rfl⟩ rfl rfl rfl rfl rfl (by kernel_rfl) Tryd.func6 (by kernel_rfl)
    (of_decide_eq_true (by kernel_rfl)) (by unfold Func.isWrapper; first | (rw [if_pos (by decide +kernel)]; kernel_rfl) | (rw [if_neg (by decide +kernel)]; exact ⟨rfl, rfl⟩))
    (fun os started H enc _ F => by rw [OpenClaim.pre_eq_preRow]; exact sumsCounts_lifted os started H enc F)
theorem sumsCounts_plain (f : FuncId) (fn : Func) (hf : Tryd.pinned.checked.prog.funcNamed "inkling/inklinglaw25.SumsCounts" = some f) (hfn : Tryd.pinned.checked.prog.funcs[f]? = some fn) :
    false = Tryd.pinned.checked.prog.looks [] ∧ ∀ (j : Nat) t, fn.params[j]? = some t → Tryd.pinned.checked.prog.wantsStandIn t = false := by
  obtain rfl : f = 6 := Option.some.inj ((show Tryd.prog.funcNamed "inkling/inklinglaw25.SumsCounts" = some 6 by kernel_rfl).symm.trans hf) |>.symm
  obtain rfl : fn = Tryd.f6 := (Option.some.inj (Tryd.func6.symm.trans hfn)).symm
  refine ⟨by kernel_rfl, fun j t ht => ?_⟩
  rw [Tryd.params6] at ht
  have hm := Array.mem_of_getElem? ht
  have hall : Tryd.prog.wantsStandIn 29 = false ∧ Tryd.prog.wantsStandIn 30 = false := ⟨by kernel_rfl, by kernel_rfl⟩
  simp at hm
  rcases hm with rfl | rfl
  · exact hall.1
  · exact hall.2
theorem sumsCounts_holds : Rows.SumsCountsUptoCardSaid :=
  Claim7.holds_tied_plain_at .later [] _ _ _ _ sumsCounts_said (fun _ h => by cases h) (by kernel_rfl) (fun _ h => by cases h) sumsCountsUpto_row_tie rfl ⟨rfl, rfl⟩ (by kernel_rfl) rfl sumsCounts_plain (by kernel_rfl)
#print axioms sumsCounts_holds
end Go.Proofs.YtegpcbckiehleaaDoor
