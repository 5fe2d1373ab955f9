/- known() of the layer's statements, reckoned by the kernel. -/
import Derived.Test.YtljfgmedbjlkaaaGreatHkB
import Derived.Test.YtljfgmedbjlkaaaGreatQB
import Derived.Test.YtljfgmedbjlkaaaGreatLkP
import Derived.Test.YtljfgmedbjlkaaaGreatLkX
namespace Go.Proofs.YtljfgmedbjlkaaaGreat
open Go.Eng Go.Lk Go.RowKit
theorem copy_hook:HookAt Tryz.prog 110 (copyCheckH 122):=copyCheckH_ok (fun _ _=>by kernel_rfl) (fun c w h0 hs hf=>copy_fresh c w h0 hs hf) (fun c w h0=>copy_used c w h0)
theorem built_hook:HookAt Tryz.prog 59 (builtH 5):=builtH_ok (fun _ _=>by kernel_rfl) (fun c o w h0=>built_nil c o w h0) (fun c o g q cap arr l w h0 hg hl hcap hmax hsz hcell=>built_some c o g q cap arr l w h0 hg hl hcap (Nat.le_trans hmax (by decide)) hsz hcell)
noncomputable def hkl:List (Nat × Hk):=[(235,.fn (lockH 0 1)),(236,.fn (lockH 1 0)),(241,.fn (wholeH 16)),(216,.fn cmpH),(110,.fn (copyCheckH 122)),(59,.fn (builtH 5))]
noncomputable def hks:Hooks:=hookList hkl
theorem hks_ok:HookOK Tryz.prog hks:=hookList_ok hkl fun x hx=>by
 simp only [hkl,List.mem_cons,List.not_mem_nil,or_false] at hx
 rcases hx with rfl | rfl | rfl | rfl | rfl | rfl
 ·exact hkAt_fn lock_hook
 ·exact hkAt_fn unlock_hook
 ·exact hkAt_fn whole_hook
 ·exact hkAt_fn cmp_hook
 ·exact hkAt_fn copy_hook
 ·exact hkAt_fn built_hook
set_option maxRecDepth 1000000 in
/-- THE RUN, reckoned by the kernel. -/
theorem ran:on (runY Tryz.prog hks 300 (.call 6 []) .e .z) (fun r=>some r.1)=some (.bool true):=by kernel_rfl
theorem known6 (W:World):Calls Tryz.prog 6 #[] W fun e W'=>e= .returned (.bool true)∧Ext W W':=by
 have hr:=ran
 rw [runY_eq] at hr
 obtain ⟨res,e,h⟩:=on_some.1 hr
 have h1:res.1= .bool true:=Option.some.inj h
 refine (reckoned (by kernel_rfl) hks_ok e (by kernel_rfl) W (args:=#[]) (by simp only [Rvs])).mono fun e W' ⟨x,ρ,h2,h3,h4⟩=>?_
 rw [h1] at h4
 simp only [Rv] at h4
 subst h4
 exact ⟨h2,h3⟩
end Go.Proofs.YtljfgmedbjlkaaaGreat
