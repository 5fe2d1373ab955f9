/- works() of the layer's statements, reckoned by the kernel. -/
import Derived.Test.YtcgmhpenjjheiaaGreatDoorHkU
import Derived.Test.YtcgmhpenjjheiaaGreatDoorLkP
import Derived.Test.YtcgmhpenjjheiaaGreatDoorLkX
namespace Go.Proofs.YtcgmhpenjjheiaaGreatDoor
open Go.Eng Go.Lk Go.RowKit
theorem of_hook : HookAt Tryz.prog 30 (ofH 16) := ofH_ok (fun _ _ => by kernel_rfl) of_none (fun s g q len cap cs w h1 h2 h3 h4 h5 => of_some s g q len cap cs w h1 h2 h3 h4 h5)
noncomputable def hkl : List (Nat × Hk) := [(123, .fn (lockH 0 1)), (124, .fn (lockH 1 0)), (129, .fn (wholeH 16)), (66, .nd), (80, .nd), (111, .fn cmpH), (30, .fn (ofH 16))]
noncomputable def hks : Hooks := hookList hkl
theorem hks_ok : HookOK Tryz.prog hks := hookList_ok hkl fun x hx => by
  simp only [hkl, List.mem_cons, List.not_mem_nil, or_false] at hx
  rcases hx with rfl | rfl | rfl | rfl | rfl | rfl | rfl <;> intro g e
  · cases e; exact lock_hook
  · cases e; exact unlock_hook
  · cases e; exact whole_hook
  · cases e
  · cases e
  · cases e; exact cmp_hook
  · cases e; exact of_hook
/-- THE RUN, reckoned by the kernel. -/
theorem ran : on (runY Tryz.prog hks 200 (.call 4 []) .e .z) (fun r => some r.1) = some (.bool true) := by kernel_rfl
theorem works4 (W : World) : Calls Tryz.prog 4 #[] W fun e W' => e = .returned (.bool true) ∧ Ext W W' := by
  have hr := ran
  rw [runY_eq] at hr
  obtain ⟨res, e, h⟩ := on_some.1 hr
  have h1 : res.1 = .bool true := Option.some.inj h
  refine (reckoned (by kernel_rfl) hks_ok e (by kernel_rfl) W (args := #[]) (by simp only [Rvs])).mono fun e W' ⟨x, ρ, h2, h3, h4⟩ => ?_
  rw [h1] at h4
  simp only [Rv] at h4
  subst h4
  exact ⟨h2, h3⟩
end Go.Proofs.YtcgmhpenjjheiaaGreatDoor
