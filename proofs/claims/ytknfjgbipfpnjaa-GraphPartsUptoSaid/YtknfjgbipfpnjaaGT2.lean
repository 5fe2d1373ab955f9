/- The search for the parts, on lists: from label to label. Plain. -/
import Derived.Test.YtknfjgbipfpnjaaGT
import Derived.Test.YtknfjgbipfpnjaaG6
namespace Go.Knot
open Go.Eng
theorem elset {β : Type} [Inhabited β] {xs : List β} {i : Nat} (h : i < xs.length) (v : β) : el (xs.set i v) = up (el xs) i v := by
  funext j
  by_cases e : i = j
  · subst e; rw [el_set_same h, up_same]
  · rw [el_set_ne e, up_ne _ _ (Ne.symm e)]
theorem count0_set : ∀ {Se : List Nat} {v c : Nat}, v < Se.length → el Se v = 0 → 0 < c → (Se.set v c).count 0 + 1 = Se.count 0
  | [], v, _, h, _, _ => absurd h (by simp)
  | b :: Se, 0, c, _, h, hc => by
    have : b = 0 := h
    subst this
    have : c ≠ 0 := by omega
    simp [this]
  | b :: Se, v + 1, c, h, hv, hc => by
    have hv' : el Se v = 0 := hv
    have := count0_set (Se := Se) (v := v) (c := c) (by simpa using h) hv' hc
    simp only [List.set_cons_succ, List.count_cons] at *
    omega
theorem sum_set : ∀ {Nx : List Nat} {v : Nat}, v < Nx.length → (Nx.set v (el Nx v + 1)).sum = Nx.sum + 1
  | [], v, h => absurd h (by simp)
  | b :: Nx, 0, _ => by
    have : el (b :: Nx) 0 = b := rfl
    simp [this]; omega
  | b :: Nx, v + 1, h => by
    have h1 : el (b :: Nx) (v + 1) = el Nx v := rfl
    have := sum_set (Nx := Nx) (v := v) (by simpa using h)
    simp only [List.set_cons_succ, List.sum_cons, h1]; omega
theorem sum_le : ∀ {xs ys : List Nat}, xs.length = ys.length → (∀ i, i < xs.length → el xs i ≤ el ys i) → xs.sum ≤ ys.sum
  | [], [], _, _ => Nat.le_refl _
  | x :: xs, y :: ys, hl, h => by
    have h0 : x ≤ y := h 0 (by simp)
    have := sum_le (xs := xs) (ys := ys) (by simpa using hl) fun i hi => h (i + 1) (by simpa using hi)
    simp only [List.sum_cons]; omega
def EE (n : Nat) (out : Nat → List Nat) : Nat := ((List.range n).map fun u => (out u).length).sum
def mu (n E : Nat) (Se Nx W : List Nat) (rt : Int) : Nat := 4 * Se.count 0 + 4 * (E - Nx.sum) + 2 * W.length + ((n : Int) - (rt + 1)).toNat
structure LC (n : Nat) (out : Nat → List Nat) (P : List Int) (Lo Se Nx W O : List Nat) (cnt pts : Nat) (x : Option Nat) : Prop where
  lp : P.length = n
  ll : Lo.length = n
  ls : Se.length = n
  lx : Nx.length = n
  ki : KI n out (el P) (el Lo) (el Se) (el Nx) W O cnt pts x
  cu : cnt + Se.count 0 = n
  pu : pts + O.length + Se.count 0 ≤ n
def LI (l n : Nat) (out : Nat → List Nat) (P : List Int) (Lo Se Nx W O : List Nat) (cnt pts : Nat) (rt : Int) (v : Nat) : Prop := match l with
  | 0 => W = [] ∧ LC n out P Lo Se Nx W O cnt pts none ∧ -1 ≤ rt ∧ rt + 1 ≤ n ∧ ∀ j : Nat, (j : Int) ≤ rt → 0 < el Se j
  | 1 => LC n out P Lo Se Nx W O cnt pts (some v) ∧ 0 ≤ rt ∧ rt < n ∧ ∀ j : Nat, (j : Int) ≤ rt → j ≠ v → 0 < el Se j
  | _ => W ≠ [] ∧ LC n out P Lo Se Nx W O cnt pts none ∧ 0 ≤ rt ∧ rt < n ∧ ∀ j : Nat, (j : Int) ≤ rt → 0 < el Se j
section
variable {n : Nat} {out : Nat → List Nat} {P : List Int} {Lo Se Nx W O : List Nat} {cnt pts : Nat} {rt : Int} {v : Nat} {x : Option Nat}
theorem nodup_of_sort {f : Nat → Nat} {W : List Nat} (h : W.Pairwise fun a b => f a < f b) : W.Nodup := h.imp fun {a b} hl => by rintro rfl; omega
theorem LC.wlen (h : LC n out P Lo Se Nx W O cnt pts x) : W.length ≤ n := by
  have := Go.Proofs.Ytknfjgbipfpnjaa.nodup_le (L := List.range n) (nodup_of_sort h.ki.wsort) fun s hs => List.mem_range.2 (h.ki.wlt hs)
  simpa using this
theorem LC.olen (h : LC n out P Lo Se Nx W O cnt pts x) : O.length ≤ n := by have := h.pu; omega
theorem LC.nsum (h : LC n out P Lo Se Nx W O cnt pts x) : Nx.sum ≤ EE n out := by
  refine sum_le (by simp [h.lx]) fun i hi => ?_
  rw [h.lx] at hi
  have := h.ki.nx i hi
  rw [el_eq (xs := (List.range n).map _) (by simpa using hi)]
  simpa using this
theorem LI.start (n : Nat) (out : Nat → List Nat) {P : List Int} (hl : P.length = n) (hp : ∀ u, u < n → el P u = -1) : LI 0 n out P (List.replicate n 0) (List.replicate n 0) (List.replicate n 0) [] [] 0 0 (-1) 0 := by
  have hr : ∀ u, u < n → el (List.replicate n 0) u = 0 := fun u hu => el_replicate hu
  exact ⟨rfl, ⟨hl, by simp, by simp, by simp, KI.start n out hp hr hr, by simp, by simp⟩, by omega, by omega, fun j hj => by omega⟩
/-- the start: the root has been seen -/
theorem LI.again (h : LI 0 n out P Lo Se Nx W O cnt pts rt v) {r : Nat} (hr : rt + 1 = r) (hn : r < n) (hs : 0 < el Se r) (v' : Nat) : LI 0 n out P Lo Se Nx W O cnt pts r v' ∧ mu n (EE n out) Se Nx W r < mu n (EE n out) Se Nx W rt := by
  obtain ⟨hW, hL, h1, h2, h3⟩ := h
  refine ⟨⟨hW, hL, by omega, by omega, fun j hj => ?_⟩, by unfold mu; omega⟩
  by_cases e : j = r
  · subst e; exact hs
  · exact h3 j (by omega)
theorem LI.root (h : LI 0 n out P Lo Se Nx W O cnt pts rt v) {r : Nat} (hr : rt + 1 = r) (hn : r < n) (hs : ¬ 0 < el Se r) : LI 1 n out P Lo Se Nx W O cnt pts r r ∧ mu n (EE n out) Se Nx W r < mu n (EE n out) Se Nx W rt := by
  obtain ⟨hW, hL, h1, h2, h3⟩ := h
  subst hW
  exact ⟨⟨⟨hL.lp, hL.ll, hL.ls, hL.lx, hL.ki.first hn (by omega), hL.cu, hL.pu⟩, by omega, by omega, fun j hj hjv => h3 j (by omega)⟩, by unfold mu; omega⟩
theorem LI.done (h : LI 0 n out P Lo Se Nx W O cnt pts rt v) (hr : (n : Int) ≤ rt + 1) : Knotted n out (el P) pts := by
  obtain ⟨hW, hL, h1, h2, h3⟩ := h
  subst hW
  exact hL.ki.done fun u hu => h3 u (by omega)
theorem LI.lens0 (h : LI 0 n out P Lo Se Nx W O cnt pts rt v) : P.length = n ∧ Lo.length = n ∧ Se.length = n ∧ Nx.length = n ∧ W.length ≤ n ∧ O.length ≤ n ∧ cnt ≤ n ∧ pts ≤ n ∧ -1 ≤ rt ∧ rt + 1 ≤ n :=
  let ⟨_, hL, h1, h2, _⟩ := h; ⟨hL.lp, hL.ll, hL.ls, hL.lx, hL.wlen, hL.olen, by have := hL.cu; omega, by have := hL.pu; omega, h1, h2⟩
theorem LI.lens1 (h : LI 1 n out P Lo Se Nx W O cnt pts rt v) : P.length = n ∧ Lo.length = n ∧ Se.length = n ∧ Nx.length = n ∧ W.length ≤ n ∧ O.length ≤ n ∧ cnt ≤ n ∧ pts ≤ n ∧ v < n :=
  let ⟨hL, h1, h2, _⟩ := h; ⟨hL.lp, hL.ll, hL.ls, hL.lx, hL.wlen, hL.olen, by have := hL.cu; omega, by have := hL.pu; omega, (hL.ki.ex v rfl).1⟩
theorem LI.lens2 (h : LI 2 n out P Lo Se Nx W O cnt pts rt v) : P.length = n ∧ Lo.length = n ∧ Se.length = n ∧ Nx.length = n ∧ W.length ≤ n ∧ O.length ≤ n ∧ cnt ≤ n ∧ pts ≤ n ∧ 0 < W.length :=
  let ⟨hw, hL, h1, h2, _⟩ := h; ⟨hL.lp, hL.ll, hL.ls, hL.lx, hL.wlen, hL.olen, by have := hL.cu; omega, by have := hL.pu; omega, List.length_pos_iff.2 hw⟩
theorem LI.enter (h : LI 1 n out P Lo Se Nx W O cnt pts rt v) (v' : Nat) : LI 2 n out P (Lo.set v (cnt + 1)) (Se.set v (cnt + 1)) Nx (W ++ [v]) (O ++ [v]) (cnt + 1) pts rt v' ∧ mu n (EE n out) (Se.set v (cnt + 1)) Nx (W ++ [v]) rt < mu n (EE n out) Se Nx W rt := by
  obtain ⟨hL, h1, h2, h3⟩ := h
  obtain ⟨hv, hs, _⟩ := hL.ki.ex v rfl
  have hc := count0_set (Se := Se) (v := v) (c := cnt + 1) (by rw [hL.ls]; exact hv) hs (by omega)
  have hcu := hL.cu
  have hpu := hL.pu
  refine ⟨⟨by simp, ⟨hL.lp, by rw [List.length_set]; exact hL.ll, by rw [List.length_set]; exact hL.ls, hL.lx, ?_, by omega, by rw [List.length_append]; simp; omega⟩, h1, h2, fun j hj => ?_⟩, by unfold mu; rw [List.length_append]; simp; omega⟩
  · rw [elset (by rw [hL.ll]; exact hv), elset (by rw [hL.ls]; exact hv)]
    exact hL.ki.enter
  · by_cases e : v = j
    · subst e; rw [el_set_same (by rw [hL.ls]; exact hv)]; omega
    · rw [el_set_ne e]; exact h3 j hj (Ne.symm e)
theorem last_split {W : List Nat} (h : 0 < W.length) : W = W.take (W.length - 1) ++ [el W (W.length - 1)] := by
  have h1 : W.length - 1 < W.length := by omega
  rw [← take_succ_el h1, Nat.sub_add_cancel (by omega), List.take_length]
theorem LI.top (h : LI 2 n out P Lo Se Nx W O cnt pts rt v) : el W (W.length - 1) < n ∧ 0 < el Se (el W (W.length - 1)) ∧ el W (W.length - 1) ∈ O := by
  have hw := List.length_pos_iff.2 h.1
  obtain ⟨_, hL, _⟩ := h
  have hm : el W (W.length - 1) ∈ W := by rw [el_eq (by omega)]; exact List.getElem_mem _
  have := hL.ki.wsub _ hm
  exact ⟨hL.ki.olt this, ((hL.ki.omem _).1 this).2.1, this⟩
section
variable {u : Nat} (hu : u = el W (W.length - 1)) (hout : ∀ u, u < n → ∀ t, t ∈ out u → t < n)
include hu hout
theorem LI.edge_new (h : LI 2 n out P Lo Se Nx W O cnt pts rt v) (hi : el Nx u < (out u).length) {t : Nat} (ht : t = el (out u) (el Nx u)) (hs : el Se t = 0) :
    LI 1 n out P Lo Se (Nx.set u (el Nx u + 1)) W O cnt pts rt t ∧ mu n (EE n out) Se (Nx.set u (el Nx u + 1)) W rt < mu n (EE n out) Se Nx W rt := by
  have hw := List.length_pos_iff.2 h.1
  have htp := h.top
  obtain ⟨_, hL, h1, h2, h3⟩ := h
  rw [← hu] at htp
  have hki := hL.ki
  rw [last_split hw, ← hu] at hki
  subst ht
  have hk := hki.step hi hout (low' := el Lo) (x' := some (el (out u) (el Nx u))) (.inl rfl) (.inr ⟨rfl, hs⟩)
  rw [← elset (by rw [hL.lx]; exact htp.1), hu, ← last_split hw, ← hu] at hk
  have hL' : LC n out P Lo Se (Nx.set u (el Nx u + 1)) W O cnt pts (some (el (out u) (el Nx u))) := ⟨hL.lp, hL.ll, hL.ls, by rw [List.length_set]; exact hL.lx, hk, hL.cu, hL.pu⟩
  have hs1 := hL'.nsum
  have hs2 := sum_set (Nx := Nx) (v := u) (by rw [hL.lx]; exact htp.1)
  exact ⟨⟨hL', h1, h2, fun j hj _ => h3 j hj⟩, by unfold mu; omega⟩
theorem LI.edge_old (h : LI 2 n out P Lo Se Nx W O cnt pts rt v) (hi : el Nx u < (out u).length) {t : Nat} (ht : t = el (out u) (el Nx u)) (hs : ¬ el Se t = 0) (hp : ¬ el P t < 0) (v' : Nat) :
    LI 2 n out P Lo Se (Nx.set u (el Nx u + 1)) W O cnt pts rt v' ∧ mu n (EE n out) Se (Nx.set u (el Nx u + 1)) W rt < mu n (EE n out) Se Nx W rt := by
  have hw := List.length_pos_iff.2 h.1
  have htp := h.top
  obtain ⟨hW, hL, h1, h2, h3⟩ := h
  rw [← hu] at htp
  have hki := hL.ki
  rw [last_split hw, ← hu] at hki
  subst ht
  have hk := hki.step hi hout (low' := el Lo) (x' := none) (.inl rfl) (.inl ⟨rfl, by omega, fun ho => absurd ((hki.omem _).1 ho).2.2 hp⟩)
  rw [← elset (by rw [hL.lx]; exact htp.1), hu, ← last_split hw, ← hu] at hk
  have hL' : LC n out P Lo Se (Nx.set u (el Nx u + 1)) W O cnt pts none := ⟨hL.lp, hL.ll, hL.ls, by rw [List.length_set]; exact hL.lx, hk, hL.cu, hL.pu⟩
  have hs1 := hL'.nsum
  have hs2 := sum_set (Nx := Nx) (v := u) (by rw [hL.lx]; exact htp.1)
  exact ⟨⟨hW, hL', h1, h2, h3⟩, by unfold mu; omega⟩
theorem LI.edge_open (h : LI 2 n out P Lo Se Nx W O cnt pts rt v) (hi : el Nx u < (out u).length) {t : Nat} (ht : t = el (out u) (el Nx u)) (hs : ¬ el Se t = 0) (hp : el P t < 0) (v' : Nat) :
    LI 2 n out P (Lo.set u (min (el Lo u) (el Se t))) Se (Nx.set u (el Nx u + 1)) W O cnt pts rt v' ∧ mu n (EE n out) Se (Nx.set u (el Nx u + 1)) W rt < mu n (EE n out) Se Nx W rt := by
  have hw := List.length_pos_iff.2 h.1
  have htp := h.top
  obtain ⟨hW, hL, h1, h2, h3⟩ := h
  rw [← hu] at htp
  have hki := hL.ki
  rw [last_split hw, ← hu] at hki
  subst ht
  have htn : el (out u) (el Nx u) < n := hout u htp.1 _ (by rw [el_eq hi]; exact List.getElem_mem _)
  have hto : el (out u) (el Nx u) ∈ O := (hki.omem _).2 ⟨htn, by omega, hp⟩
  have hk := hki.step hi hout (low' := up (el Lo) u (min (el Lo u) (el Se (el (out u) (el Nx u))))) (x' := none) (.inr ⟨hto, rfl⟩) (.inl ⟨rfl, by omega, fun _ => by rw [up_same]; exact Nat.min_le_right _ _⟩)
  rw [← elset (by rw [hL.ll]; exact htp.1), ← elset (by rw [hL.lx]; exact htp.1)] at hk
  rw [show W.take (W.length - 1) ++ [u] = W by rw [hu, ← last_split hw]] at hk
  have hL' : LC n out P (Lo.set u (min (el Lo u) (el Se (el (out u) (el Nx u))))) Se (Nx.set u (el Nx u + 1)) W O cnt pts none := ⟨hL.lp, by rw [List.length_set]; exact hL.ll, hL.ls, by rw [List.length_set]; exact hL.lx, hk, hL.cu, hL.pu⟩
  have hs1 := hL'.nsum
  have hs2 := sum_set (Nx := Nx) (v := u) (by rw [hL.lx]; exact htp.1)
  exact ⟨⟨hW, hL', h1, h2, h3⟩, by unfold mu; omega⟩
end
theorem LI.tlt (h : LI 2 n out P Lo Se Nx W O cnt pts rt v) (hout : ∀ u, u < n → ∀ t, t ∈ out u → t < n) (hi : el Nx (el W (W.length - 1)) < (out (el W (W.length - 1))).length) : el (out (el W (W.length - 1))) (el Nx (el W (W.length - 1))) < n :=
  hout _ h.top.1 _ (by rw [el_eq hi]; exact List.getElem_mem _)
/-- the pops: from the end down to the way's last node -/
structure Pops (n : Nat) (P : List Int) (O : List Nat) (pts : Nat) (u m : Nat) (P' : List Int) : Prop where
  le : m ≤ O.length
  len : P'.length = n
  val : ∀ z, z < n → el P' z = if z ∈ O.drop m then (pts : Int) else el P z
  non : u ∉ O.drop m
theorem Pops.start {u : Nat} (hl : P.length = n) : Pops n P O pts u O.length P := ⟨Nat.le_refl _, hl, fun z _ => by simp, by simp⟩
theorem Pops.pos {u m : Nat} {P' : List Int} (h : Pops n P O pts u m P') (hu : u ∈ O) : 0 < m := by
  rcases Nat.eq_zero_or_pos m with e | e
  · subst e; exact absurd (by simpa using hu) h.non
  · exact e
theorem Pops.val' {u m : Nat} {P' : List Int} (h : Pops n P O pts u m P') (hm : 0 < m) (hO : ∀ z, z ∈ O → z < n) : (P'.set (el O (m - 1)) (pts : Int)).length = n ∧ ∀ z, z < n → el (P'.set (el O (m - 1)) (pts : Int)) z = if z ∈ O.drop (m - 1) then (pts : Int) else el P z := by
  have hle := h.le
  refine ⟨by rw [List.length_set]; exact h.len, fun z hz => ?_⟩
  rw [drop_el (by omega : m - 1 < O.length), Nat.sub_add_cancel hm]
  have hz0 : el O (m - 1) < n := hO _ (by rw [el_eq (by omega)]; exact List.getElem_mem _)
  by_cases e : el O (m - 1) = z
  · subst e; rw [el_set_same (by rw [h.len]; exact hz0)]; simp
  · rw [el_set_ne e, h.val z hz]
    simp [Ne.symm e]
theorem Pops.next {u m : Nat} {P' : List Int} (h : Pops n P O pts u m P') (hm : 0 < m) (hO : ∀ z, z ∈ O → z < n) (hne : ¬ el O (m - 1) = u) : Pops n P O pts u (m - 1) (P'.set (el O (m - 1)) (pts : Int)) := by
  have hle := h.le
  refine ⟨by omega, (h.val' hm hO).1, (h.val' hm hO).2, ?_⟩
  rw [drop_el (by omega : m - 1 < O.length), Nat.sub_add_cancel hm, List.mem_cons]
  exact fun hx => hx.elim (fun e => hne e.symm) h.non
/-- the way's last node closes a part: what stands behind -/
structure LW (n : Nat) (out : Nat → List Nat) (P : List Int) (Lo Se Nx W O : List Nat) (cnt pts : Nat) (rt : Int) (lu : Nat) : Prop where
  c : LC n out P Lo Se Nx W O cnt pts none
  lo : 0 ≤ rt
  hi : rt < n
  sn : ∀ j : Nat, (j : Int) ≤ rt → 0 < el Se j
  up : ∀ u0, u0 ∈ W → el Se u0 < lu
theorem LI.close {u m : Nat} {P' : List Int} (hu : u = el W (W.length - 1)) (hout : ∀ u, u < n → ∀ t, t ∈ out u → t < n) (h : LI 2 n out P Lo Se Nx W O cnt pts rt v) (hi : ¬ el Nx u < (out u).length) (he : el Lo u = el Se u)
    (hp : Pops n P O pts u m P') (hm : 0 < m) (hz : el O (m - 1) = u) : LW n out (P'.set (el O (m - 1)) (pts : Int)) Lo Se Nx (W.take (W.length - 1)) (O.take (m - 1)) cnt (pts + 1) rt (el Lo u) := by
  have hw := List.length_pos_iff.2 h.1
  have htp := h.top
  obtain ⟨hW, hL, h1, h2, h3⟩ := h
  rw [← hu] at htp
  have hki := hL.ki
  have hle := hp.le
  have hO : ∀ z, z ∈ O → z < n := fun z hz => hL.ki.olt hz
  obtain ⟨hl', hv'⟩ := hp.val' hm hO
  have hsplit : O = O.take (m - 1) ++ u :: O.drop m := by
    have := List.take_append_drop (m - 1) O
    rw [drop_el (by omega : m - 1 < O.length), Nat.sub_add_cancel hm, hz] at this
    exact this.symm
  rw [last_split hw, ← hu] at hki
  have hws := (List.pairwise_append.1 hki.wsort).2.2
  rw [hsplit] at hki
  have hk := hki.close (by have := hL.ki.nx u htp.1; omega) he hout (part' := el (P'.set (el O (m - 1)) (pts : Int))) fun z hzn => by
    rw [hv' z hzn, drop_el (by omega : m - 1 < O.length), Nat.sub_add_cancel hm, hz]
  refine ⟨⟨hl', hL.ll, hL.ls, hL.lx, hk, hL.cu, ?_⟩, h1, h2, h3, fun u0 hu0 => ?_⟩
  · have := hL.pu; rw [List.length_take]; omega
  · rw [he]; exact hws u0 hu0 u (by simp)
theorem LW.start {lu : Nat} (h : LW n out P Lo Se Nx W O cnt pts rt lu) (hw : W = []) (v' : Nat) : LI 0 n out P Lo Se Nx W O cnt pts rt v' := ⟨hw, h.c, by have := h.lo; omega, by have := h.hi; omega, h.sn⟩
theorem LW.on {u lu : Nat} (h : LW n out P Lo Se Nx W O cnt pts rt lu) (hl : lu = el Lo u) (hw : ¬ W.length = 0) (v' : Nat) :
    LI 2 n out P (Lo.set (el W (W.length - 1)) (min (el Lo (el W (W.length - 1))) (el Lo u))) Se Nx W O cnt pts rt v' := by
  have hw0 : 0 < W.length := by omega
  have hm : el W (W.length - 1) ∈ W := by rw [el_eq (by omega)]; exact List.getElem_mem _
  have hlt := h.c.ki.wlt hm
  have hki := h.c.ki
  rw [last_split hw0] at hki
  have hs := hki.same (v := u) (by have := h.up _ hm; omega)
  refine ⟨List.length_pos_iff.1 hw0, ⟨h.c.lp, by rw [List.length_set]; exact h.c.ll, h.c.ls, h.c.lx, ?_, h.c.cu, h.c.pu⟩, h.lo, h.hi, h.sn⟩
  rw [elset (by rw [h.c.ll]; exact hlt), hs]
  exact h.c.ki
theorem mu_pop (n E : Nat) (Se Nx : List Nat) {W : List Nat} (h : 0 < W.length) (rt : Int) : mu n E Se Nx (W.take (W.length - 1)) rt < mu n E Se Nx W rt := by
  unfold mu; rw [List.length_take]; omega
theorem LI.notlast {u : Nat} (hu : u = el W (W.length - 1)) (h : LI 2 n out P Lo Se Nx W O cnt pts rt v) (he : ¬ el Lo u = el Se u) : ¬ (W.take (W.length - 1)).length = 0 := by
  have hw := List.length_pos_iff.2 h.1
  intro h0
  have hki := h.2.1.ki
  rw [last_split hw, List.length_eq_zero_iff.1 h0, ← hu] at hki
  exact he hki.notfirst
theorem LI.leave {u : Nat} (hu : u = el W (W.length - 1)) (h : LI 2 n out P Lo Se Nx W O cnt pts rt v) (hi : ¬ el Nx u < (out u).length) (he : ¬ el Lo u = el Se u) (v' : Nat) {W' : List Nat} (hW' : W' = W.take (W.length - 1)) :
    LI 2 n out P (Lo.set (el W' (W'.length - 1)) (min (el Lo (el W' (W'.length - 1))) (el Lo u))) Se Nx W' O cnt pts rt v' := by
  have hw := List.length_pos_iff.2 h.1
  have hnl := h.notlast hu he
  have htp := h.top
  rw [← hW'] at hnl
  obtain ⟨hW, hL, h1, h2, h3⟩ := h
  rw [← hu] at htp
  have hki := hL.ki
  rw [last_split hw, ← hu, ← hW', last_split (W := W') (by omega)] at hki
  have hk := hki.leave (by have := hL.ki.nx u htp.1; omega) he
  have hm : el W' (W'.length - 1) < n := hki.wlt (by simp)
  rw [← elset (by rw [hL.ll]; exact hm), ← last_split (W := W') (by omega)] at hk
  exact ⟨List.length_pos_iff.1 (by omega), ⟨hL.lp, by rw [List.length_set]; exact hL.ll, hL.ls, hL.lx, hk, hL.cu, hL.pu⟩, h1, h2, h3⟩
end
end Go.Knot
