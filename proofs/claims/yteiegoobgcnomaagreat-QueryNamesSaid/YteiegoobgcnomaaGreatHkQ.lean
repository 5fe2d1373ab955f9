/- The functions of Go's library that the reckoner meets by contracts: a builder's copyCheck and String. -/
import Derived.Test.YteiegoobgcnomaaGreatProg
import Derived.Test.YteiegoobgcnomaaGreatLkP
import Derived.Lib.Builder
import Derived.Lib.MakeNoZero
import Derived.Laws.Externs
import Derived.Conc.MuLone
import Derived.Shelf.RegionOpenPlain
namespace Go.Proofs.YteiegoobgcnomaaGreat
open Go.Eng Go.Lk Go.RowKit
set_option maxHeartbeats 1000000 in
set_option maxRecDepth 100000 in
theorem copy_used (b : Nat) (w : World) (h0 : w.cell? ⟨b, 0, none⟩ = some (.pointer (some ⟨b, 0, none⟩))) :
    Calls Tryz.prog 64 #[.pointer (some ⟨b, 0, none⟩)] w fun e w' => e = .returned (.tuple #[]) ∧ w' = w := by
  obtain ⟨j, hj, _⟩ := Option.map_eq_some_iff.1 (show (Tryz.prog.info? 85).map (·.size) = some 2 by kernel_rfl)
  go_enter Tryz.func64, Tryz.ntmps64
  go_wp2
  rw [Lib.run_neq_ptr_same w _ Tryz.underlying82 hj]
  go_wp2
  go_end0
  exact ⟨rfl, rfl⟩
set_option maxHeartbeats 1000000 in
set_option maxRecDepth 100000 in
theorem copy_fresh (b : Nat) (w : World) (h0 : w.cell? ⟨b, 0, none⟩ = some (.pointer none)) (hsh : w.shape? b = some (85, 2)) (hfz : w.frozen? ⟨b, 0, none⟩ = false) :
    Calls Tryz.prog 64 #[.pointer (some ⟨b, 0, none⟩)] w fun e w' => e = .returned (.tuple #[]) ∧ w' = w.setCell ⟨b, 0, none⟩ (.pointer (some ⟨b, 0, none⟩)) := by
  obtain ⟨j, hj, hjs⟩ := Option.map_eq_some_iff.1 (show (Tryz.prog.info? 85).map (·.size) = some 2 by kernel_rfl)
  go_enter Tryz.func64, Tryz.ntmps64
  go_wp2
  rw [Lib.run_to_unsafe w ⟨b, 0, none⟩ Tryz.underlying82 Tryz.underlying279 hj (by rw [hjs]; decide) hsh (Nat.zero_lt_succ 1)]
  simp only [Result.andThen]
  rw [Oper.upon_value]
  go_wp2
  rw [run_callFunc_extern Tryz.func134 (by kernel_rfl) (by kernel_rfl) (by kernel_rfl) (e := Extern.AbiNoEscape.same) (by kernel_rfl)]
  rw [Lib.run_noEscape]
  simp only [Result.andThen]
  rw [Oper.upon_value]
  go_wp2
  rw [Lib.run_from_unsafe w ⟨b, 0, none⟩ Tryz.underlying279 Tryz.underlying82 hj hsh (by kernel_rfl)]
  simp only [Result.andThen]
  rw [Oper.upon_value]
  go_wp2
  go_end0
  exact ⟨rfl, rfl⟩
set_option maxHeartbeats 1000000 in
set_option maxRecDepth 100000 in
theorem built_nil (c o : Nat) (w : World) (h0 : w.cell? ⟨c, o + 1, none⟩ = some (.slice none 0 0)) :
    Calls Tryz.prog 25 #[.pointer (some ⟨c, o, none⟩)] w fun e w' => e = .returned (.string .empty) ∧ w' = w.drew := by
  have c1 : w.drew.cell? ⟨c, o + 1, none⟩ = some (.slice none 0 0) := h0
  have hSD : (Builtin.unsafeSliceData_ #[83] 184 #[.slice none 0 0]).run Tryz.prog w.drew = .ok (.pointer none) w.drew := rfl
  have hUS : ∀ W q, (Builtin.unsafeString_ #[184, 3] 9 #[.pointer q, .int .i64 0]).run Tryz.prog W = .ok (.string .empty) W := fun W q => Lib.run_unsafeString_none W _ _ _ q
  go_enter Tryz.func25, Tryz.ntmps25
  go_wp2
  go_region
  all_goals (go_wp2; go_ret; exact ⟨rfl, rfl⟩)
set_option maxHeartbeats 1000000 in
set_option maxRecDepth 100000 in
theorem built_some (c o g q cap : Nat) (arr : Array Value) (l : List UInt8) (w : World) (h0 : w.cell? ⟨c, o + 1, none⟩ = some (.slice (some ⟨g, q, none⟩) l.length cap)) (hg : w.heap[g]? = some (.cells arr 5 (0, 0))) (hl : l ≠ []) (hcap : l.length ≤ cap) (hmax : l.length ≤ 1000000) (hsz : q + l.length ≤ arr.size)
    (hcell : ∀ j x, l[j]? = some x → arr[q + j]? = some (.int .u8 x.toNat)) :
    Calls Tryz.prog 25 #[.pointer (some ⟨c, o, none⟩)] w fun e w' => e = .returned (.string ⟨l.toArray⟩) ∧ w' = w.drew.freeze ⟨g, q, none⟩ l.length := by
  have hlen : l.length ≠ 0 := by simpa using hl
  have c1 : w.drew.cell? ⟨c, o + 1, none⟩ = some (.slice (some ⟨g, q, none⟩) l.length cap) := h0
  have hSD : (Builtin.unsafeSliceData_ #[83] 184 #[.slice (some ⟨g, q, none⟩) l.length cap]).run Tryz.prog w.drew = .ok (.pointer (some ⟨g, q, none⟩)) w.drew := Lib.run_unsafeSliceData_row _ _ _ _ _ _ (by omega)
  have hUS : (Builtin.unsafeString_ #[184, 3] 9 #[.pointer (some ⟨g, q, none⟩), .int .i64 l.length]).run Tryz.prog w.drew = .ok (.string ⟨l.toArray⟩) (w.drew.freeze ⟨g, q, none⟩ l.length) := by
    refine run_unsafeString_at 184 3 9 5 Tryz.underlying184 (by kernel_rfl) g q arr.size ?_ l hl hsz (by omega) ?_
    · have hg' : w.drew.heap[g]? = some (.cells arr 5 (0, 0)) := hg
      simp [World.shape?, hg']
    · intro j x hx
      have hg' : w.drew.heap[g]? = some (.cells arr 5 (0, 0)) := hg
      have h1 := hcell j x hx
      unfold Addr.add
      by_cases hj : j = 0
      · subst hj; simpa [World.cell?, hg'] using h1
      · simpa [World.cell?, hg', hj] using h1
  go_enter Tryz.func25, Tryz.ntmps25
  go_wp2
  go_region
  all_goals (go_wp2; go_ret; exact ⟨rfl, rfl⟩)
theorem T.zv243 : ZV Tryz.prog 243 (.agg (List.replicate 16 (Value.int .i64 0)).toArray) := fun _ => by kernel_rfl
theorem T.sz243 : SZ Tryz.prog 243 16 := fun _ => by kernel_rfl
theorem T.ag243 : AG Tryz.prog 243 16 := fun _ => ⟨by kernel_rfl, by kernel_rfl⟩
theorem T.sz3 : SZ Tryz.prog 3 1 := fun _ => by kernel_rfl
abbrev Z16 : List Value := List.replicate 16 (Value.int .i64 0)
theorem whole_slice (w : World) (n : Nat) (σ : Nat → Value) (x : Operand) (b : Nat) (ty : TypeId) (hx : ev n σ x = .pointer (some ⟨b, 0, none⟩)) : Ex Tryz.prog (ev n σ) w (.slice 243 x none none none) ty (.slice (some ⟨b, 0, none⟩) 16 16) := fun _ _ _ _ => by
  have h3 := T.sz3 w
  simp [execOp, hx, Instr.sliceAt, Instr.sureAddr, run_underlying Tryz.underlying243, Instr.sliceBounds, h3, Addr.add]
theorem whole_fill {cs : List Value} (hm : cs.length ≤ 16) (h1 : ∀ v ∈ cs, v.oneCell' = true) : (cs ++ Z16.drop cs.length).length = 16 ∧ (cs ++ Z16.drop cs.length).all (·.oneCell') = true := by
  refine ⟨by simp; omega, ?_⟩
  rw [List.all_eq_true]
  intro v hv
  rcases List.mem_append.1 hv with h | h
  · exact h1 v h
  · have := List.mem_of_mem_drop h
    rw [List.mem_replicate] at this
    rw [this.2]; rfl
theorem whole_some (g q len cap : Nat) (cs : List Value) (w0 : World) (hl : cs.length = len) (hm : len ≤ 16) (hcap : len ≤ cap) (hc : Cells w0.heap g q cs) (h1 : ∀ v ∈ cs, v.oneCell' = true) :
    Calls Tryz.prog 106 #[.slice (some ⟨g, q, none⟩) len cap] w0 fun e w' => e = .returned (.agg (cs ++ List.replicate (16 - len) (Value.int .i64 0)).toArray) ∧ Ext w0 w' := by
  have H0 := Hp.start No w0
  have hw := whole_fill (hl ▸ hm) h1
  refine enter Tryz.func106 rfl 8 Tryz.ntmps106 rfl <| ?_
  refine sr fun Q1 k1 => st_e <| Eal H0 T.zv243 fun b2 w2 H2 x2 => nl <| k1 _ _ <| ?_
  have H2 : Hp No w0 w2 [cB b2 243 Z16] := H2
  refine sr fun Q2 k2 => st_e <| Eal H2 T.zv243 fun b3 w3 H3 x3 => nl <| k2 _ _ <| ?_
  have H3 : Hp No w0 w3 [cB b3 243 Z16, cB b2 243 Z16] := H3
  have hc3 : Cells w3.heap g q cs := (hc.ext x2).ext x3
  refine sr fun Q3 k3 => qt (whole_slice _ _ _ _ b3 _ rfl) <| qt mv <| st_e <| Ecp (i := 0) (vs := cs) H3 Tryz.underlying147 (by kernel_rfl) rfl rfl rfl (by simp only [Nat.min_def]; split <;> omega) hc3 (by rw [List.length_replicate]; omega) h1 fun w4 H4 => nl <| k3 _ _ <| ?_
  have H4 : Hp No w0 w4 [cB b3 243 (cs ++ Z16.drop cs.length), cB b2 243 Z16] := H4
  have hB : Blk w4.heap b3 (cs ++ Z16.drop cs.length) 243 := H4.at 0 rfl
  refine sr fun Q4 k4 => qt (x_loadA (cs ++ Z16.drop cs.length) (by rw [hw.1]; exact T.ag243) rfl (Blk.cells hB 0 _ (fun j hj => by rw [Nat.zero_add, List.getElem?_eq_getElem hj]))) <| st_s <| Est (k0 := 16) (i := 1) (v := .agg (cs ++ Z16.drop cs.length).toArray) H4 T.sz243 rfl rfl rfl (by show 16 = (cs ++ Z16.drop cs.length).toArray.size; rw [List.size_toArray, hw.1]) (by show Nat.ble (0 + (cs ++ Z16.drop cs.length).toArray.size) 16 = true; rw [List.size_toArray, hw.1]; rfl) hw.2 fun w5 H5 => nl <| k4 _ _ <| ?_
  have e5 : splice Z16 0 (cs ++ Z16.drop cs.length) = cs ++ List.replicate (16 - len) (Value.int .i64 0) := by
    have hd : Z16.drop (cs ++ Z16.drop cs.length).length = [] := by rw [hw.1]; rfl
    simp only [splice, List.take_zero, List.nil_append, Nat.zero_add, hd, List.append_nil]
    rw [hl]; exact congrArg (cs ++ ·) (by rw [List.drop_replicate])
  have H5 : Hp No w0 w5 [cB b3 243 (cs ++ Z16.drop cs.length), cB b2 243 (splice Z16 0 (cs ++ Z16.drop cs.length))] := H5
  rw [e5] at H5
  have hB5 : Blk w5.heap b2 (cs ++ List.replicate (16 - len) (Value.int .i64 0)) 243 := H5.at 1 rfl
  exact ret <| leaveC (cs := cs ++ List.replicate (16 - len) (Value.int .i64 0)) rfl (by rw [show (cs ++ List.replicate (16 - len) (Value.int .i64 0)).length = 16 by simp; omega]; exact T.ag243) rfl (Blk.cells hB5 0 _ (fun j hj => by rw [Nat.zero_add, List.getElem?_eq_getElem hj])) ⟨rfl, H5.x⟩
theorem whole_none (w0 : World) : Calls Tryz.prog 106 #[.slice none 0 0] w0 fun e w' => e = .returned (.agg (List.replicate 16 (Value.int .i64 0)).toArray) ∧ Ext w0 w' := by
  have H0 := Hp.start No w0
  refine enter Tryz.func106 rfl 8 Tryz.ntmps106 rfl <| ?_
  refine sr fun Q1 k1 => st_e <| Eal H0 T.zv243 fun b2 w2 H2 x2 => nl <| k1 _ _ <| ?_
  have H2 : Hp No w0 w2 [cB b2 243 Z16] := H2
  refine sr fun Q2 k2 => st_e <| Eal H2 T.zv243 fun b3 w3 H3 x3 => nl <| k2 _ _ <| ?_
  have H3 : Hp No w0 w3 [cB b3 243 Z16, cB b2 243 Z16] := H3
  have hB : Blk w3.heap b3 Z16 243 := H3.at 0 rfl
  refine sr fun Q3 k3 => qt (whole_slice _ _ _ _ b3 _ rfl) <| qt mv <| st_e <| Ecp0 Tryz.underlying147 (by kernel_rfl) rfl rfl rfl <| nl <| k3 _ _ <| ?_
  refine sr fun Q4 k4 => qt (x_loadA Z16 T.ag243 rfl (Blk.cells hB 0 _ (fun j hj => by rw [Nat.zero_add, List.getElem?_eq_getElem hj]))) <| st_s <| Est (k0 := 16) (i := 1) H3 T.sz243 rfl rfl rfl rfl rfl (by kernel_rfl) fun w5 H5 => nl <| k4 _ _ <| ?_
  have hB5 : Blk w5.heap b2 Z16 243 := H5.at 1 rfl
  exact ret <| leaveC (cs := Z16) rfl T.ag243 rfl (Blk.cells hB5 0 _ (fun j hj => by rw [Nat.zero_add, List.getElem?_eq_getElem hj])) ⟨rfl, H5.x⟩
abbrev muLink : Go.Conc.Locks.MuLink := { lock := 45, unlock := 46, ilock := 100, iunlock := 101, lockSlow := 164, unlockSlow := 167, disable := 160, enable := 162, acquire := 163, relMerge := 165, cas32 := 161, add32 := 166, tMutex := 132, tIMutex := 130, tPMutex := 234, tPIMutex := 302, tPI32 := 304, tUP := 279, tNoCopy := 127, tU32 := 128 }
theorem muLib : Go.Conc.Locks.MuLib Tryz.prog muLink where
  f_lock := by kernel_rfl
  f_unlock := by kernel_rfl
  f_ilock := by kernel_rfl
  f_iunlock := by kernel_rfl
  f_disable := by kernel_rfl
  f_enable := by kernel_rfl
  f_acquire := by kernel_rfl
  f_relMerge := by kernel_rfl
  f_cas32 := by kernel_rfl
  f_add32 := by kernel_rfl
  underlying_tIMutex := by kernel_rfl
  runUnderlying_tIMutex := fun _ => by kernel_rfl
  sizeOf_tIMutex := fun _ => by kernel_rfl
  isAgg_tIMutex := fun _ => by kernel_rfl
  zeroValue_tIMutex := fun _ => by kernel_rfl
  underlying_tMutex := by kernel_rfl
  runUnderlying_tMutex := fun _ => by kernel_rfl
  sizeOf_tMutex := fun _ => by kernel_rfl
  isAgg_tMutex := fun _ => by kernel_rfl
  zeroValue_tMutex := fun _ => by kernel_rfl
  underlying_tPMutex := by kernel_rfl
  runUnderlying_tPMutex := fun _ => by kernel_rfl
  sizeOf_tPMutex := fun _ => by kernel_rfl
  isAgg_tPMutex := fun _ => by kernel_rfl
  zeroValue_tPMutex := fun _ => by kernel_rfl
  underlying_tPIMutex := by kernel_rfl
  runUnderlying_tPIMutex := fun _ => by kernel_rfl
  sizeOf_tPIMutex := fun _ => by kernel_rfl
  isAgg_tPIMutex := fun _ => by kernel_rfl
  zeroValue_tPIMutex := fun _ => by kernel_rfl
  underlying_tPI32 := by kernel_rfl
  runUnderlying_tPI32 := fun _ => by kernel_rfl
  sizeOf_tPI32 := fun _ => by kernel_rfl
  isAgg_tPI32 := fun _ => by kernel_rfl
  zeroValue_tPI32 := fun _ => by kernel_rfl
  underlying_tUP := by kernel_rfl
  runUnderlying_tUP := fun _ => by kernel_rfl
  sizeOf_tUP := fun _ => by kernel_rfl
  isAgg_tUP := fun _ => by kernel_rfl
  zeroValue_tUP := fun _ => by kernel_rfl
  underlying_tNoCopy := by kernel_rfl
  runUnderlying_tNoCopy := fun _ => by kernel_rfl
  sizeOf_tNoCopy := fun _ => by kernel_rfl
  isAgg_tNoCopy := fun _ => by kernel_rfl
  zeroValue_tNoCopy := fun _ => by kernel_rfl
  underlying_t21 := by kernel_rfl
  runUnderlying_t21 := fun _ => by kernel_rfl
  sizeOf_t21 := fun _ => by kernel_rfl
  isAgg_t21 := fun _ => by kernel_rfl
  zeroValue_t21 := fun _ => by kernel_rfl
  room_tIMutex := by kernel_rfl
noncomputable def hks : Hooks := hookList [(100, lockH 0 1), (101, lockH 1 0), (64, copyCheckH 85), (25, builtH 5), (106, wholeH 16)]
theorem hks_ok : HookOK Tryz.prog hks := hookList_ok _ (by
  intro x hx
  simp only [List.mem_cons, List.not_mem_nil, or_false] at hx
  rcases hx with rfl | rfl | rfl | rfl | rfl
  · exact lockH_ok (fun _ _ => by kernel_rfl) fun a w hc hz => Go.MuLone.ilock_free muLib a w hc hz
  · exact lockH_ok (fun _ _ => by kernel_rfl) fun a w hc hz => Go.MuLone.iunlock_held muLib a w hc hz
  · exact copyCheckH_ok (fun _ _ => by kernel_rfl) (fun c w h0 hs hf => copy_fresh c w h0 hs hf) (fun c w h0 => copy_used c w h0)
  · exact builtH_ok (fun _ _ => by kernel_rfl) (fun c o w h0 => built_nil c o w h0) (fun c o g q cap arr l w h0 hg hl hcap hmax hsz hcell => built_some c o g q cap arr l w h0 hg hl hcap hmax hsz hcell)
  · exact wholeH_ok (fun _ _ => by kernel_rfl) whole_none (fun g q len cap cs w h1 h2 h3 h4 h5 => whole_some g q len cap cs w h1 h2 h3 h4 h5))
end Go.Proofs.YteiegoobgcnomaaGreat
