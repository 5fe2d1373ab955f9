/-
  The program's function inklinglaw30.QueryNames answers true. No condition but those of the given row.
-/
import Derived.Test.YteiegoobgcnomaaGreatHkQ
import Derived.Test.YteiegoobgcnomaaGreatRows
import Derived.ProofKit
import Derived.SizedLaws
namespace Go.Proofs.YteiegoobgcnomaaGreat
open Go.ChangeShapes Go.WideShapes Go.ChangeAt Go.RowKit Go.Eng Go.Lk
/-- THE RUN, reckoned by the kernel. -/
theorem ran : on (runX Tryz.prog hks 200 (.call 3 []) .e .z) (fun r => some r.1) = some (.bool true) := by kernel_rfl
theorem names3 (W : World) : Calls Tryz.prog 3 #[] W fun e W' => e = .returned (.bool true) ∧ Below W.heap.size W W' := by
  obtain ⟨res, e, h⟩ := on_some.1 ran
  have h1 : res.1 = .bool true := Option.some.inj h
  refine (reckoned (by kernel_rfl) hks_ok e (by kernel_rfl) W (args := #[]) (by simp only [Rvs])).mono fun e W' ⟨x, ρ, h2, h3, h4⟩ => ?_
  rw [h1] at h4
  simp only [Rv] at h4
  subst h4
  exact ⟨h2, h3⟩
theorem Tryz.own : ownKnob Tryz.prog.godebug = none := by kernel_rfl
set_option maxRecDepth 100000 in
theorem queryNames_lifted (os : Os) (started : os.Started) (H : Type) (enc : TypeId × Value → H) :
    ReturnsInHanded {} Tryz.checked os 3 .any (Rows.queryNamesSpec.pre6 enc Tryz.prog Tryz.f3 Rows.queryNamesRow.domain false) (Rows.queryNamesSpec.post enc Tryz.prog Tryz.f3 false true false false) := by
  refine returnsInHanded_of_change_sized (C := Tryz.checked) Tryz.own started (by kernel_rfl) Tryz.func3
    (ChangeSpec.witness6 (enc := enc) (C := Tryz.checked) false ⟨#[], #[], []⟩ 8 (by kernel_rfl) (by kernel_rfl) (by kernel_rfl) (by kernel_rfl)) ?_
  intro W base args ds gs before hval0 hW _ hsz0 _
  clear hsz0 hval0
  have hW' := hW
  obtain ⟨p, q, hA0, hV, rfl, _, _⟩ := hW
  have hA : DataW.TrodAll enc Tryz.prog W 0 (fun _ => true) true Tryz.f3.params.toList args.toList ds p := hA0
  rw [Tryz.params3] at hA
  obtain ⟨hargs, rfl, rfl⟩ := trodAll_nil hA
  obtain rfl : args = #[] := by cases args; simp_all
  obtain ⟨rfl, rfl⟩ := trodVars_none hV
  clear hA0
  simp only [List.append_nil] at hW'
  refine (names3 W).mono fun e W' ⟨he, hb⟩ => ?_
  subst he
  refine ⟨_, rfl, _, _, _, [], [], [], hW', ?_, ?_, rfl, hb.frame _, fun h => by cases h⟩
  · exact trodAll_mk1 (shut_bool Tryz.underlying4 _)
  · exact trodAll_mk0
theorem queryNames_holds : Rows.QueryNamesSaid :=
  OpenClaim.holds_of_wide (p := Tryz.pinned) (s := Rows.queryNamesSpec) (c := Rows.queryNamesRow) 3 Tryz.f3 rfl rfl rfl rfl rfl rfl rfl ⟨rfl, rfl, rfl, rfl, rfl⟩ rfl rfl rfl rfl rfl (by kernel_rfl) Tryz.func3 (by kernel_rfl)
    (of_decide_eq_true (by kernel_rfl)) (by unfold Func.isWrapper; first | (rw [if_pos (by decide +kernel)]; kernel_rfl) | (rw [if_neg (by decide +kernel)]; exact ⟨rfl, rfl⟩))
    (fun os started H enc _ => queryNames_lifted os started H enc)
#print axioms queryNames_holds
end Go.Proofs.YteiegoobgcnomaaGreat
