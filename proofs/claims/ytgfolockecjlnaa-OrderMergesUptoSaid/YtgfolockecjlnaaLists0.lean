/- Lists of lists: sorted and lent, each with a block of its own. -/
import Derived.Test.YtgfolockecjlnaaMerge
import Derived.Test.YtgfolockecjlnaaRef2
namespace Go.Eng
open Go.RowKit
theorem Where.dis {w w' : World} {sv v' u : Value} (hW : Where w w' sv v') (hd : ∀ b, sv.ownBlock = some b → u.ownBlock ≠ some b) (hu : ∀ b, u.ownBlock = some b → b < w.heap.size) : ∀ b, v'.ownBlock = some b → u.ownBlock ≠ some b := by
  intro b hb
  rcases hW with h | ⟨_, h⟩
  · exact hd b (h ▸ hb)
  · intro h2
    have := h b hb
    have := hu b h2
    omega
end Go.Eng
namespace Go.Proofs.Ytgfolockecjlnaa
open Go.RowKit Go.Eng Go.OrdPure
def FamM (h : Array Obj) (lo : Nat) (Ss : List Ts) (Rs Xs : List S3) (i : Nat) : Prop := Rs.length = i ∧ Xs.length = i ∧ ∀ k, k < i → (el Rs k).2.1 = (el Ss k).length ∧ Own h lo 31 2 (sv (el Rs k)) (el Ss k).length (flat enT (el Ss k)) ∧
  (el Xs k).2.1 = (el Ss k).length ∧ (el Ss k).length + 9 ≤ (el Xs k).2.2 ∧ Own h lo 31 2 (.slice (el Xs k).1 ((el Ss k).length + 9) (el Xs k).2.2) ((el Ss k).length + 9) (flat enT (el Ss k ++ roomT 9))
def FamLt (B : Nat) (Rs Xs : List S3) (i : Nat) : Prop := ∀ k, k < i → (∀ b, (sv (el Rs k)).ownBlock = some b → b < B) ∧ ∀ b, (sv (el Xs k)).ownBlock = some b → b < B
section
variable {w w' : World} {lo B i : Nat} {Ss : List Ts} {Rs Xs : List S3}
theorem own_sv {x : S3} {m c : Nat} {b : Nat} (h : (Value.slice x.1 m c).ownBlock = some b) : (sv x).ownBlock = some b := by
  unfold sv
  cases hx : x.1 with
  | none => rw [hx] at h; simp [Value.ownBlock] at h
  | some a => rw [hx] at h; simpa [Value.ownBlock] using h
theorem sv_own {x : S3} {m c : Nat} {b : Nat} (h : (sv x).ownBlock = some b) : (Value.slice x.1 m c).ownBlock = some b := by
  unfold sv at h
  cases hx : x.1 with
  | none => rw [hx] at h; simp [Value.ownBlock] at h
  | some a => rw [hx] at h; simpa [Value.ownBlock] using h
theorem FamM.nil {h : Array Obj} : FamM h lo Ss [] [] 0 := ⟨rfl, rfl, fun k h => absurd h (by omega)⟩
theorem FamM.ext (hf : FamM w.heap lo Ss Rs Xs i) (h : Ext w w') : FamM w'.heap lo Ss Rs Xs i := ⟨hf.1, hf.2.1, fun k hk => let ⟨h1, h2, h3, h4, h5⟩ := hf.2.2 k hk; ⟨h1, h2.ext h, h3, h4, h5.ext h⟩⟩
theorem FamM.grownT {row : Value} {lo' k m : Nat} {cs : List Value} (hf : FamM w.heap lo Ss Rs Xs i) (h : w.grownBy w' row.ownBlock) (ho : Own w.heap lo' 29 k row m cs) : FamM w'.heap lo Ss Rs Xs i :=
  ⟨hf.1, hf.2.1, fun k hk => let ⟨h1, h2, h3, h4, h5⟩ := hf.2.2 k hk; ⟨h1, h2.grownT h ho (by decide), h3, h4, h5.grownT h ho (by decide)⟩⟩
theorem FamM.lt (hf : FamM w.heap lo Ss Rs Xs i) : FamLt w.heap.size Rs Xs i := fun k hk => let ⟨_, h2, _, _, h5⟩ := hf.2.2 k hk; ⟨fun _ hb => (h2.lt hb).2, fun _ hb => (h5.lt (sv_own hb)).2⟩
theorem FamM.below (hf : FamM w.heap lo Ss Rs Xs i) (hl : FamLt B Rs Xs i) (h : Below B w w') : FamM w'.heap lo Ss Rs Xs i :=
  ⟨hf.1, hf.2.1, fun k hk => let ⟨h1, h2, h3, h4, h5⟩ := hf.2.2 k hk; ⟨h1, h2.belowLo h (fun b hb => (hl k hk).1 b hb), h3, h4, h5.belowLo h (fun b hb => (hl k hk).2 b (own_sv hb))⟩⟩
theorem FamM.snoc {h : Array Obj} {r x : S3} (hf : FamM h lo Ss Rs Xs i) (hr1 : r.2.1 = (el Ss i).length) (hr2 : Own h lo 31 2 (sv r) (el Ss i).length (flat enT (el Ss i))) (hx1 : x.2.1 = (el Ss i).length) (hx2 : (el Ss i).length + 9 ≤ x.2.2)
    (hx3 : Own h lo 31 2 (.slice x.1 ((el Ss i).length + 9) x.2.2) ((el Ss i).length + 9) (flat enT (el Ss i ++ roomT 9))) : FamM h lo Ss (Rs ++ [r]) (Xs ++ [x]) (i + 1) := by
  obtain ⟨h1, h2, h3⟩ := hf
  refine ⟨by rw [List.length_append, List.length_singleton, h1], by rw [List.length_append, List.length_singleton, h2], fun k hk => ?_⟩
  by_cases e : k = i
  · subst e
    have e1 := el_snoc (xs := Rs) (x := r)
    have e2 := el_snoc (xs := Xs) (x := x)
    rw [h1] at e1; rw [h2] at e2
    rw [e1, e2]
    exact ⟨hr1, hr2, hx1, hx2, hx3⟩
  · rw [el_append_left (by omega), el_append_left (by omega)]
    exact h3 k (by omega)
/-- the lent lists as what is merged -/
theorem FamM.lent (hf : FamM w.heap lo Ss Rs Xs i) {k : Nat} (hk : k < i) : (el Xs k).2.1 = (el Ss k).length ∧ Src w.heap (sv (el Xs k)) (el Ss k).length 2 (flat enT (el Ss k)) := by
  obtain ⟨_, _, h3, h4, h5⟩ := hf.2.2 k hk
  refine ⟨h3, ?_⟩
  have := (h5.take enT_len (j := (el Ss k).length) (by omega) (by rw [List.length_append, roomT_len])).src
  rw [List.take_left] at this
  unfold sv
  rw [h3]; exact this
theorem FamM.sorted (hf : FamM w.heap lo Ss Rs Xs i) {k : Nat} (hk : k < i) : (el Rs k).2.1 = (el Ss k).length ∧ Src w.heap (sv (el Rs k)) (el Ss k).length 2 (flat enT (el Ss k)) := ⟨(hf.2.2 k hk).1, (hf.2.2 k hk).2.1.src⟩
end
def sorts (ls : List Ts) : List Ts := ls.map (srt byc)
theorem sorts_len (ls : List Ts) : (sorts ls).length = ls.length := by simp [sorts]
theorem el_sorts {ls : List Ts} {k : Nat} (h : k < ls.length) : el (sorts ls) k = srt byc (el ls k) := by rw [el_eq (by rw [sorts_len]; exact h), el_eq h]; simp [sorts]
theorem sorts_up (ls : List Ts) : Up (sorts ls) := fun k hk => by
  rw [sorts_len] at hk
  rw [el_sorts hk]; exact srt_rise byc_law _
theorem sorts_flat : ∀ ls : List Ts, (sorts ls).flatten.length = ls.flatten.length
  | [] => rfl
  | l :: ls => by
    have ih := sorts_flat ls
    simp only [sorts, List.map_cons, List.flatten_cons, List.length_append, srt_length] at ih ⊢
    omega
theorem flat_take_le (ls : List Ts) (i : Nat) : (ls.take i).flatten.length ≤ ls.flatten.length := by
  conv => rhs; rw [← List.take_append_drop i ls]
  rw [List.flatten_append, List.length_append]; omega
theorem flat_take_succ {ls : List Ts} {i : Nat} (hi : i < ls.length) : (ls.take (i + 1)).flatten = (ls.take i).flatten ++ el ls i := by rw [take_succ_el hi, List.flatten_append]; simp
end Go.Proofs.Ytgfolockecjlnaa
