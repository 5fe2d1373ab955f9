/- What a heap gives one by one, and lists of one thing each. -/
import Derived.Test.YtgfolockecjlnaaMerge
namespace Go.Proofs.Ytgfolockecjlnaa
open Go.RowKit Go.Eng Go.OrdPure Go.HeapPure
theorem FI.ex (L : Ts) : ∀ i, i ≤ L.length → ∃ f, FI L i f
  | 0, _ => ⟨-1, FI.start⟩
  | i + 1, h => by
    obtain ⟨f, hf⟩ := FI.ex L i (by omega)
    by_cases h1 : f < 0 ∨ (el L i).1 < (el L f.toNat).1
    · exact ⟨_, hf.take h1⟩
    · exact ⟨f, hf.keep (fun h => h1 (.inl h)) (fun h => h1 (.inr h))⟩
theorem FI.srt {L : Ts} {f : Int} (h : FI L L.length f) (h0 : 0 < L.length) : srt byc L = el L f.toNat :: srt byc (L.eraseIdx f.toNat) := by
  obtain ⟨f0, f1, f2, f3⟩ := h.2 h0
  have e : L = L.take f.toNat ++ el L f.toNat :: L.drop (f.toNat + 1) := by rw [← drop_el f1, List.take_append_drop]
  rw [List.eraseIdx_eq_take_drop_succ]
  conv => lhs; rw [e]
  refine srt_min (fun y hy => ?_) (fun y hy => ?_)
  · obtain ⟨i, hi, rfl⟩ := List.getElem_of_mem hy
    rw [List.length_take] at hi
    have := f3 i (by omega)
    rwa [el_eq (show i < L.length by omega), ← List.getElem_take (h := by rw [List.length_take]; omega)] at this
  · obtain ⟨i, hi, rfl⟩ := List.getElem_of_mem hy
    rw [List.length_drop] at hi
    have := f2 (f.toNat + 1 + i) (by omega)
    rwa [el_eq (show f.toNat + 1 + i < L.length by omega), ← List.getElem_drop (h := by rw [List.length_drop]; omega)] at this
def FamE (h : Array Obj) (lo : Nat) (vs : List S3) (xs : Ts) (i : Nat) : Prop := vs.length = i ∧ ∀ k, k < i → (el vs k).2.1 = 1 ∧ Own h lo 31 2 (sv (el vs k)) 1 (flat enT [el xs k])
section
variable {w w' : World} {lo i : Nat} {vs : List S3} {xs : Ts}
theorem FamE.nil {h : Array Obj} : FamE h lo [] xs 0 := ⟨rfl, fun k h => absurd h (by omega)⟩
theorem FamE.ext (hf : FamE w.heap lo vs xs i) (h : Ext w w') : FamE w'.heap lo vs xs i := ⟨hf.1, fun k hk => ⟨(hf.2 k hk).1, (hf.2 k hk).2.ext h⟩⟩
theorem FamE.grownT {row : Value} {lo' k m : Nat} {cs : List Value} (hf : FamE w.heap lo vs xs i) (h : w.grownBy w' row.ownBlock) (ho : Own w.heap lo' 29 k row m cs) : FamE w'.heap lo vs xs i := ⟨hf.1, fun j hj => ⟨(hf.2 j hj).1, (hf.2 j hj).2.grownT h ho (by decide)⟩⟩
theorem FamE.modH {lo' : Nat} {b nx : Nat} {g v : Value} {es : List ((Int × Int) × Nat)} (hf : FamE w.heap lo vs xs i) (h : Mod (fun k => k = b ∨ v.ownBlock = some k) w w') (hH : HeapR w.heap lo' 57 78 3 (enE enT) b g v es nx) : FamE w'.heap lo vs xs i :=
  ⟨hf.1, fun j hj => ⟨(hf.2 j hj).1, (hf.2 j hj).2.mod h (fun k e h => h.elim (fun h => hH.blk.neO (hf.2 j hj).2 (by decide) (h ▸ e)) (fun h => (hf.2 j hj).2.neT hH.own (by decide) e h))⟩⟩
theorem Blk.own1 {h : Array Obj} {b : Nat} {x : Int × Int} (hb : Blk h b (enT x) 31) (hl : lo ≤ b) : Own h lo 31 2 (.slice (some ⟨b, 0, none⟩) 1 1) 1 (flat enT [x]) :=
  (OB.mk hl ⟨[], by rw [List.append_nil, flat_one]; exact hb, rfl⟩ (by decide) : OB h lo 31 2 b 1 (flat enT [x])).own (Nat.le_refl _) rfl
theorem FamE.snoc {h : Array Obj} {u : S3} (hf : FamE h lo vs xs i) (h1 : u.2.1 = 1) (ho : Own h lo 31 2 (sv u) 1 (flat enT [el xs i])) : FamE h lo (vs ++ [u]) xs (i + 1) := by
  refine ⟨by rw [List.length_append, List.length_singleton, hf.1], fun k hk => ?_⟩
  by_cases e : k = i
  · subst e
    have := el_snoc (xs := vs) (x := u)
    rw [hf.1] at this
    rw [this]; exact ⟨h1, ho⟩
  · rw [el_append_left (by have := hf.1; omega)]
    exact hf.2 k (by omega)
end
def ones1 (xs : Ts) : List Ts := xs.map fun x => [x]
theorem ones1_len (xs : Ts) : (ones1 xs).length = xs.length := by simp [ones1]
theorem el_ones1 {xs : Ts} {k : Nat} (h : k < xs.length) : el (ones1 xs) k = [el xs k] := by rw [el_eq (by rw [ones1_len]; exact h), el_eq h]; simp [ones1]
theorem ones1_flat : ∀ xs : Ts, (ones1 xs).flatten = xs
  | [] => rfl
  | x :: xs => by
    have ih := ones1_flat xs
    simp only [ones1, List.map_cons, List.flatten_cons] at ih ⊢
    rw [ih]; rfl
theorem ones1_up (xs : Ts) : Up (ones1 xs) := fun k hk => by
  rw [ones1_len] at hk
  rw [el_ones1 hk]; exact List.pairwise_singleton _ _
theorem next_el {W L L' : Ts} {x : Int × Int} {i : Nat} (h : srt byc L = W.drop i) (hi : i < W.length) (h2 : srt byc L = x :: srt byc L') : x = el W i ∧ srt byc L' = W.drop (i + 1) := by
  rw [h, drop_el hi] at h2
  injection h2 with e1 e2
  exact ⟨e1.symm, e2.symm⟩
end Go.Proofs.Ytgfolockecjlnaa
