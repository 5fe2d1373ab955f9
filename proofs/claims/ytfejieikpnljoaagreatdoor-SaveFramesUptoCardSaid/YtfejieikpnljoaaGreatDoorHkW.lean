/- known() of the layer's statements, reckoned by the kernel. -/
import Derived.Test.YtfejieikpnljoaaGreatDoorHkU
import Derived.Test.YtfejieikpnljoaaGreatDoorLkX
namespace Go.Proofs.YtfejieikpnljoaaGreatDoor
open Go.Eng Go.Lk Go.RowKit
noncomputable def hkl : List (Nat × Hk) := [(212, .fn (lockH 0 1)), (213, .fn (lockH 1 0)), (218, .fn (wholeH 16)), (67, .nd false), (68, .nd false), (25, .nd true), (243, .fn cmpH), (83, .fn (copyCheckH 122)), (44, .fn (builtH 5)), (333, .fn loadH), (354, .fn storeH), (86, .dn 1), (194, .dn 2), (47, .pf (tryH 48 50))]
noncomputable def hks : Hooks := hookList hkl
theorem lt_of_cell {w : World} {a : Addr} {v : Value} (h : w.cell? a = some v) : a.block < w.heap.size := by
  refine Decidable.byContradiction fun hn => ?_
  have : w.heap[a.block]? = none := Array.getElem?_eq_none (by omega)
  unfold World.cell? at h
  rw [this] at h
  cases h
theorem cell_ext {w w' : World} {a : Addr} {v : Value} (hx : Ext w w') (h : w.cell? a = some v) : w'.cell? a = some v := (hx.cell (lt_of_cell h)).trans h
theorem try_hook : HookAt Tryz.prog 47 (tryH 48 50) := tryH_ok (fun _ _ => by kernel_rfl) fun g p0 p1 c o l k a x w hg h0 h1 hc hl => by
  rcases hg with rfl | rfl
  · exact try_gone 48 p0 p1 w l (fun _ _ => by kernel_rfl) fun w' hx => clo42_gone p0 p1 c o l k x a w' (cell_ext hx h0) (cell_ext hx h1) (hc.ext hx) (by omega)
  · exact try_gone 50 p0 p1 w l (fun _ _ => by kernel_rfl) fun w' hx => clo44_gone p0 p1 c o l k x a w' (cell_ext hx h0) (cell_ext hx h1) (hc.ext hx) (by omega)
theorem hks_ok : HookOK Tryz.prog hks := hookList_ok hkl fun x hx => by
  simp only [hkl, List.mem_cons, List.not_mem_nil, or_false] at hx
  rcases hx with rfl | rfl | rfl | rfl | rfl | rfl | rfl | rfl | rfl | rfl | rfl | rfl | rfl | rfl
  · exact hkAt_fn lock_hook
  · exact hkAt_fn unlock_hook
  · exact hkAt_fn whole_hook
  · exact hkAt_nd
  · exact hkAt_nd
  · exact hkAt_nd
  · exact hkAt_fn cmp_hook
  · exact hkAt_fn (copyCheckH_ok (fun _ _ => by kernel_rfl) (fun c w h0 hs hf => copy_fresh c w h0 hs hf) (fun c w h0 => copy_used c w h0))
  · exact hkAt_fn (builtH_ok (fun _ _ => by kernel_rfl) (fun c o w h0 => built_nil c o w h0) (fun c o g q cap arr l w h0 hg hl hcap hmax hsz hcell => built_some c o g q cap arr l w h0 hg hl hcap hmax hsz hcell))
  · exact hkAt_fn (loadH_ok (by kernel_rfl) load_run)
  · exact hkAt_fn (storeH_ok (by kernel_rfl) store_run)
  · exact hkAt_dn idle80
  · exact hkAt_dn idle188
  · exact hkAt_pf try_hook
set_option maxRecDepth 1000000 in
/-- THE RUN, reckoned by the kernel. -/
theorem ran : on (runY Tryz.prog hks 300 (.call 11 []) .e .z) (fun r => some r.1) = some (.bool true) := by kernel_rfl
theorem known11 (W : World) : Calls Tryz.prog 11 #[] W fun e W' => e = .returned (.bool true) ∧ Ext W W' := by
  have hr := ran
  rw [runY_eq] at hr
  obtain ⟨res, e, h⟩ := on_some.1 hr
  have h1 : res.1 = .bool true := Option.some.inj h
  refine (reckoned (by kernel_rfl) hks_ok e (by kernel_rfl) W (args := #[]) (by simp only [Rvs])).mono fun e W' ⟨x, ρ, h2, h3, h4⟩ => ?_
  rw [h1] at h4
  simp only [Rv] at h4
  subst h4
  exact ⟨h2, h3⟩
end Go.Proofs.YtfejieikpnljoaaGreatDoor
