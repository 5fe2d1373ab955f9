/- Groups held against the document's groups. Seat-free. -/
import Derived.Test.YtegpcbckiehleaaDoorSFill
namespace Go.Eng
open Go.RowKit Go.OrdPure Go.Flt
abbrev okB (ar : Int) (ls : List Int) (P : List Tup) : Prop := RightR ar P ∧ ColsOK ar ls
def keysL (ls : List Int) (P : List Tup) : List Tup := setL ((setL P).map fun t => cutL t ls)
def memL (ls : List Int) (P : List Tup) (k : Tup) : List Tup := (setL P).filter fun t => decide (cutL t ls = k)
theorem grp_at {ls : List Int} {P : List Tup} {A : Acc} (h : A.map gT = grpL ls P) : A.length = (keysL ls P).length ∧ ∀ j, j < A.length → (el A j).1.2 = el (keysL ls P) j ∧ tp (el A j).2 = memL ls P (el (keysL ls P) j) := by
  have hl : A.length = (keysL ls P).length := by have := congrArg List.length h; rw [List.length_map] at this; rw [this]; unfold grpL keysL; rw [List.length_map]
  refine ⟨hl, fun j hj => ?_⟩
  have e : gT (el A j) = (el (keysL ls P) j, memL ls P (el (keysL ls P) j)) := by
    rw [← el_map (f := gT) hj, h]
    show el ((keysL ls P).map fun k => (k, memL ls P k)) j = _
    rw [el_map (by omega)]
  exact ⟨congrArg Prod.fst e, congrArg Prod.snd e⟩
/-- what Groups tells -/
def GA (ar : Int) (ls : List Int) (P : List Tup) (A : Acc) : Prop := if okB ar ls P then A.map gT = grpL ls P else A = []
def gE (ar : Int) (ls : List Int) (P : List Tup) : Int := if okB ar ls P then 0 else 2
/-- what the document's Sums tells -/
def G0at (ls : List Int) (P : List Tup) (A : List Row) (j : Nat) : Grp := g0 (el A j).1.1 (el A j).1.2 (el A j).2 (((memL ls P (el A j).2).length : Nat) : Int)
def RB (ar c : Int) (ls : List Int) (P : List Tup) (A : List Row) (G : List Grp) : Prop :=
  if okB ar ls P ∧ (c = -1 ∨ badC ar c = false) then tp A = keysL ls P ∧ G.length = A.length ∧ (∀ j, j < G.length → if c = -1 then el G j = G0at ls P A j else FillR (numsL c.toNat (memL ls P (el A j).2)) (G0at ls P A j) (el G j)) else G = []
def rE (ar c : Int) (ls : List Int) (P : List Tup) : Int := if okB ar ls P ∧ (c = -1 ∨ badC ar c = false) then 0 else 2
/-- what Sums tells -/
def SA (ar c : Int) (ls : List Int) (P : List Tup) (A : Acc) (GL : List Grp) : Prop :=
  if okB ar ls P ∧ badC ar c = false then A.map gT = grpL ls P ∧ GL.length = A.length ∧ ∀ j, j < A.length → IsFill (numsL c.toNat (tp (el A j).2)) (toG (el A j)) (el GL j) else A = [] ∧ GL = []
def sE (ar c : Int) (ls : List Int) (P : List Tup) : Int := if okB ar ls P ∧ badC ar c = false then 0 else 2
section
variable {ar c : Int} {ls : List Int} {P : List Tup} {A : Acc} {B : List Row} {G GL : List Grp}
theorem toG_g0 (g : Row × List Row) : toG g = g0 g.1.1.1 g.1.1.2 g.1.2 ((g.2.length : Nat) : Int) := rfl
theorem alike_groups (h : GA ar ls P A) (h' : RB ar (-1) ls P B G) : (A.map toG).length = G.length ∧ (∀ j, j < (A.map toG).length → AlikeG (el (A.map toG) j) (el G j)) ∧ gE ar ls P = rE ar (-1) ls P := by
  unfold GA at h
  unfold RB at h'
  unfold gE rE
  by_cases hk : okB ar ls P
  · rw [if_pos hk] at h ⊢
    rw [if_pos ⟨hk, .inl rfl⟩] at h' ⊢
    obtain ⟨h1, h2⟩ := grp_at h
    obtain ⟨k1, k2, k3⟩ := h'
    have k4 : B.length = (keysL ls P).length := by rw [← k1, tp_len]
    refine ⟨by rw [List.length_map]; omega, fun j hj => ?_, rfl⟩
    rw [List.length_map] at hj
    have e := k3 j (by omega)
    rw [if_pos rfl] at e
    obtain ⟨a1, a2⟩ := h2 j hj
    have b1 : (el B j).2 = el (keysL ls P) j := by rw [← tp_el (by omega), k1]
    rw [el_map hj, e, toG_g0]
    have hc := congrArg List.length a2
    rw [tp_len] at hc
    unfold G0at
    exact .of (by show (el A j).1.2 = (el B j).2; rw [a1, b1]) (by show (((el A j).2.length : Nat) : Int) = (((memL ls P (el B j).2).length : Nat) : Int); rw [hc, b1]) rfl (.refl _) (.refl _) (.refl _) (like_sim (.refl _)) (like_sim (.refl _))
  · rw [if_neg hk] at h ⊢
    rw [if_neg (fun e => hk e.1)] at h' ⊢
    subst h; subst h'
    exact ⟨rfl, fun j hj => absurd hj (by simp), rfl⟩
theorem alike_sums (h : SA ar c ls P A GL) (h' : RB ar c ls P B G) (hc : c ≠ -1) : GL.length = G.length ∧ (∀ j, j < GL.length → AlikeG (el GL j) (el G j)) ∧ sE ar c ls P = rE ar c ls P := by
  unfold SA at h
  unfold RB at h'
  unfold sE rE
  by_cases hk : okB ar ls P ∧ badC ar c = false
  · rw [if_pos hk] at h ⊢
    rw [if_pos ⟨hk.1, .inr hk.2⟩] at h' ⊢
    obtain ⟨h0, hl, hf⟩ := h
    obtain ⟨h1, h2⟩ := grp_at h0
    obtain ⟨k1, k2, k3⟩ := h'
    have k4 : B.length = (keysL ls P).length := by rw [← k1, tp_len]
    refine ⟨by omega, fun j hj => ?_, rfl⟩
    have e := k3 j (by omega)
    rw [if_neg hc] at e
    obtain ⟨a1, a2⟩ := h2 j (by omega)
    have b1 : (el B j).2 = el (keysL ls P) j := by rw [← tp_el (by omega), k1]
    have f := hf j (by omega)
    rw [toG_g0, a1] at f
    have hcn := congrArg List.length a2
    rw [tp_len] at hcn
    rw [a2, hcn] at f
    unfold G0at at e
    rw [b1] at e
    exact fill_alike (numsL_NN _ _) f e
  · rw [if_neg hk] at h ⊢
    rw [if_neg (fun e => hk ⟨e.1, e.2.resolve_left hc⟩)] at h' ⊢
    rw [h.2, h']
    exact ⟨rfl, fun j hj => absurd hj (by simp), rfl⟩
theorem bad_minus (ar : Int) : badC ar (-1) = true := by unfold badC; exact decide_eq_true (.inl (by decide))
theorem sums_minus (h : SA ar (-1) ls P A GL) : GL = [] ∧ sE ar (-1) ls P = 2 := by
  unfold SA at h
  unfold sE
  have hb : ¬ (okB ar ls P ∧ badC ar (-1) = false) := fun e => by rw [bad_minus] at e; cases e.2
  rw [if_neg hb] at h ⊢
  exact ⟨h.2, rfl⟩
theorem GA.len (h : GA ar ls P A) : ∀ g ∈ A, g.1.2.length = ls.length := fun g hg => by
  unfold GA at h
  split at h
  · obtain ⟨j, hj, rfl⟩ := List.getElem_of_mem hg
    rw [← el_eq hj]
    obtain ⟨h1, h2⟩ := grp_at h
    rw [(h2 j hj).1]
    have hm : el (keysL ls P) j ∈ keysL ls P := el_mem' (by omega)
    obtain ⟨t, _, e⟩ := List.mem_map.1 (((setL_is _).2 _).1 hm)
    rw [← e, cutL_len]
  · rw [h] at hg; simp at hg
/-- keys stay -/
theorem IsFill.keep {l : List Nat} {g u : Grp} (h : IsFill l g u) : u.q = g.q ∧ u.c = g.c ∧ u.key = g.key := by
  unfold IsFill at h
  split at h
  · subst h; exact ⟨rfl, rfl, rfl⟩
  · obtain ⟨u0, ⟨u1, m, ⟨s, _, rfl⟩, _, rfl⟩, ⟨u2, v, r, ⟨q, _, rfl⟩, _, _, rfl⟩⟩ := h
    exact ⟨rfl, rfl, rfl⟩
theorem FillR.keep {l : List Nat} {g u : Grp} (h : FillR l g u) : u.q = g.q ∧ u.c = g.c ∧ u.key = g.key := by
  unfold FillR at h
  split at h
  · subst h; exact ⟨rfl, rfl, rfl⟩
  · obtain ⟨s, m, q, v, r, _, _, _, _, _, rfl⟩ := h
    exact ⟨rfl, rfl, rfl⟩
theorem RB.keys (h : RB ar c ls P B G) : ∀ g ∈ G, ∃ x ∈ B, g.q = x.1.1 ∧ g.c = x.1.2 ∧ g.key = x.2 := fun g hg => by
  unfold RB at h
  split at h
  · obtain ⟨j, hj, rfl⟩ := List.getElem_of_mem hg
    rw [← el_eq hj]
    obtain ⟨_, k2, k3⟩ := h
    refine ⟨el B j, el_mem' (by omega), ?_⟩
    have e := k3 j hj
    split at e
    · rw [e]; exact ⟨rfl, rfl, rfl⟩
    · exact e.keep
  · rw [h] at hg; simp at hg
theorem SA.keys (h : SA ar c ls P A GL) : ∀ g ∈ GL, ∃ x ∈ A.map (·.1), g.q = x.1.1 ∧ g.c = x.1.2 ∧ g.key = x.2 := fun g hg => by
  unfold SA at h
  split at h
  · obtain ⟨j, hj, rfl⟩ := List.getElem_of_mem hg
    rw [← el_eq hj]
    obtain ⟨_, k2, k3⟩ := h
    refine ⟨(el A j).1, List.mem_map_of_mem (el_mem' (by omega)), (k3 j (by omega)).keep⟩
  · rw [h.2] at hg; simp at hg
end
/-! keys that are turned -/
section
variable {w w' : World} {lo : Nat} {K : List Row} {S : Nat → Prop}
theorem KOK.pt {b : Nat} {o : Obj} (h : KOK w.heap lo K) (hp : Pt w w' b o) (hne : ∀ x ∈ K, (rv x).ownBlock ≠ some b) : KOK w'.heap lo K := ⟨fun x hx => (h.own x hx).pt hp (hne x hx), h.apart⟩
theorem KOK.grown {row : Option Nat} (h : KOK w.heap lo K) (hg : w.grownBy w' row) (hne : ∀ x ∈ K, ∀ z, (rv x).ownBlock = some z → row ≠ some z) : KOK w'.heap lo K := ⟨fun x hx => (h.own x hx).grown hg (hne x hx), h.apart⟩
theorem KOK.mod (h : KOK w.heap lo K) (hM : Mod S w w') (hn : ∀ z, lo ≤ z → z < w.heap.size → ¬ S z) : KOK w'.heap lo K := ⟨fun x hx => (h.own x hx).mod hM fun z hz => hn z ((h.own x hx).lt hz).1 ((h.own x hx).lt hz).2, h.apart⟩
theorem RowsW.mod (h : RowsW w.heap lo K) (hM : Mod S w w') (hn : ∀ z, lo ≤ z → z < w.heap.size → ¬ S z) : RowsW w'.heap lo K := ⟨fun x hx => (h.own x hx).mod hM fun z hz => hn z ((h.own x hx).lt hz).1 ((h.own x hx).lt hz).2⟩
theorem KOK.tail {x : Row} (h : KOK w.heap lo (x :: K)) : KOK w.heap lo K ∧ ∀ y ∈ K, AP x y := ⟨⟨fun y hy => h.own y (List.mem_cons_of_mem _ hy), (List.pairwise_cons.1 h.apart).2⟩, (List.pairwise_cons.1 h.apart).1⟩
end
theorem own_take {h : Array Obj} {lo : Nat} {a : Option Addr} {n c : Nat} {ls : List Int} {z : Int} (ho : Own h lo 3 1 (.slice a n c) n (flat enI (ls ++ [z]))) (hn : n = ls.length + 1) : Src h (.slice a ls.length c) ls.length 1 (flat enI ls) := by
  have := Src.take enI_len (j := ls.length) ho.src (by omega) (by simp [hn])
  rwa [List.take_left'] at this
  rfl
end Go.Eng
