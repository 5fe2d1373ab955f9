/- Families of pieces, and several pieces handed to a call. Over any program. -/
import Derived.Test.YtfejieikpnljoaaGreatDoorV2s
import Derived.Defers
import Derived.Recover
import Derived.RecoverIn
import Derived.Laws.BytesArg
import Derived.Laws.BitsAllLaws
namespace Go.Eng
open Go.RowKit
def feet (L : List Ch) : Nat → Prop := fun b => ∃ c ∈ L, c.foot b
section
variable {S : Nat → Prop} {w0 w w' : World} {L M R : List Ch} {c d e : Ch} {i j n : Nat} {f g : Nat → Ch}
theorem Hp.startL (H : Hp S w0 w (L ++ R)) : Hp (feet L) w w L :=
  ⟨Mod.refl _ _, fun c hc => H.says c (List.mem_append_left _ hc), fun c hc b hb => ⟨(H.own c (List.mem_append_left _ hc) b hb).1, .inl ⟨c, hc, hb⟩⟩, (List.pairwise_append.1 H.apart).1⟩
theorem Hp.callL (H : Hp S w0 w (L ++ R)) (K : Hp (feet L) w w' M) : Hp S w0 w' (M ++ R) := by
  obtain ⟨hL, hR, hLR⟩ := List.pairwise_append.1 H.apart
  have hown : ∀ b, feet L b → S b ∨ w0.heap.size ≤ b := fun b ⟨c, hc, hb⟩ => (H.own c (List.mem_append_left _ hc) b hb).2
  refine ⟨H.fr.trans' K.fr hown, fun c hc => ?_, fun c hc b hb => ?_, List.pairwise_append.2 ⟨K.apart, hR, fun c hc d hd b hb hb' => ?_⟩⟩
  · rcases List.mem_append.1 hc with h | h
    · exact K.says c h
    · refine c.keep (H.says c (List.mem_append_right _ h)) fun b hb hlt => K.fr.block b hlt fun ⟨x, hx, hxb⟩ => hLR x hx c h b hxb hb
  · rcases List.mem_append.1 hc with h | h
    · obtain ⟨h1, h2⟩ := K.own c h b hb
      refine ⟨h1, ?_⟩
      rcases h2 with h2 | h2
      · exact hown b h2
      · exact .inr (Nat.le_trans H.size h2)
    · obtain ⟨h1, h2⟩ := H.own c (List.mem_append_right _ h) b hb
      exact ⟨Nat.lt_of_lt_of_le h1 K.fr.size, h2⟩
  · rcases (K.own c hc b hb).2 with ⟨x, hx, hxb⟩ | h
    · exact hLR x hx d hd b hxb hb'
    · have := (H.own d (List.mem_append_right _ hd) b hb').1
      omega
/-- two pieces as one -/
def two (c d : Ch) : Ch := ⟨fun b => c.foot b ∨ d.foot b, fun h => c.says h ∧ d.says h ∧ ∀ b, c.foot b → ¬ d.foot b, fun hs hk => ⟨c.keep hs.1 fun b hb => hk b (.inl hb), d.keep hs.2.1 fun b hb => hk b (.inr hb), hs.2.2⟩⟩
theorem Hp.untwo (H : Hp S w0 w (two c d :: L)) : Hp S w0 w (c :: d :: L) := by
  have h0 := H.says _ (List.mem_cons_self ..)
  have ho := H.own _ (List.mem_cons_self ..)
  obtain ⟨ha, hb⟩ := List.pairwise_cons.1 H.apart
  refine ⟨H.fr, fun x hx => ?_, fun x hx b hb' => ?_, ?_⟩
  · rcases List.mem_cons.1 hx with rfl | hx
    · exact h0.1
    · rcases List.mem_cons.1 hx with rfl | hx
      · exact h0.2.1
      · exact H.says x (List.mem_cons_of_mem _ hx)
  · rcases List.mem_cons.1 hx with rfl | hx
    · exact ho b (.inl hb')
    · rcases List.mem_cons.1 hx with rfl | hx
      · exact ho b (.inr hb')
      · exact H.own x (List.mem_cons_of_mem _ hx) b hb'
  · refine List.pairwise_cons.2 ⟨fun x hx b hc => ?_, List.pairwise_cons.2 ⟨fun x hx b hd => ha x hx b (.inr hd), hb⟩⟩
    rcases List.mem_cons.1 hx with rfl | hx
    · exact h0.2.2 b hc
    · exact ha x hx b (.inl hc)
theorem Hp.mktwo (H : Hp S w0 w (c :: d :: L)) : Hp S w0 w (two c d :: L) := by
  obtain ⟨ha, hb⟩ := List.pairwise_cons.1 H.apart
  obtain ⟨hb1, hb2⟩ := List.pairwise_cons.1 hb
  refine ⟨H.fr, fun x hx => ?_, fun x hx b hb' => ?_, List.pairwise_cons.2 ⟨fun x hx b hc => ?_, hb2⟩⟩
  · rcases List.mem_cons.1 hx with rfl | hx
    · exact ⟨H.says _ (List.mem_cons_self ..), H.says _ (List.mem_cons_of_mem _ (List.mem_cons_self ..)), ha d (List.mem_cons_self ..)⟩
    · exact H.says x (List.mem_cons_of_mem _ (List.mem_cons_of_mem _ hx))
  · rcases List.mem_cons.1 hx with rfl | hx
    · rcases hb' with h | h
      · exact H.own c (List.mem_cons_self ..) b h
      · exact H.own d (List.mem_cons_of_mem _ (List.mem_cons_self ..)) b h
    · exact H.own x (List.mem_cons_of_mem _ (List.mem_cons_of_mem _ hx)) b hb'
  · rcases hc with hc | hc
    · exact ha x (List.mem_cons_of_mem _ hx) b hc
    · exact hb1 x hx b hc
/-- one piece as two that lie apart -/
theorem Hp.split (H : Hp S w0 w L) (i : Nat) (hi : L[i]? = some c) (hs : c.says w.heap → d.says w.heap ∧ e.says w.heap ∧ ∀ b, d.foot b → ¬ e.foot b) (hf : ∀ b, d.foot b ∨ e.foot b → c.foot b) : Hp S w0 w (d :: L.set i e) := by
  have hm := List.mem_of_getElem? hi
  obtain ⟨h1, h2, h3⟩ := hs (H.says c hm)
  have H2 := H.conv i hi (d := e) (fun _ => h2) fun b hb => hf b (.inr hb)
  refine ⟨H2.fr, fun x hx => ?_, fun x hx b hb => ?_, List.pairwise_cons.2 ⟨fun x hx b hb hb' => ?_, H2.apart⟩⟩
  · rcases List.mem_cons.1 hx with rfl | hx
    · exact h1
    · exact H2.says x hx
  · rcases List.mem_cons.1 hx with rfl | hx
    · exact H.own c hm b (hf b (.inl hb))
    · exact H2.own x hx b hb
  · obtain ⟨k, hk, rfl⟩ := List.getElem_of_mem hx
    rw [List.length_set] at hk
    rw [List.getElem_set] at hb'
    split at hb'
    · exact h3 b hb hb'
    · rename_i hne
      exact H.ne i k hi (List.getElem?_eq_getElem hk) hne b (hf b (.inl hb)) hb'
/-- as many pieces as a number says, as one -/
def cF (n : Nat) (f : Nat → Ch) : Ch :=
  ⟨fun b => ∃ j, j < n ∧ (f j).foot b, fun h => (∀ j, j < n → (f j).says h) ∧ ∀ i j, i < n → j < n → i ≠ j → ∀ b, (f i).foot b → ¬ (f j).foot b,
   fun hs hk => ⟨fun j hj => (f j).keep (hs.1 j hj) fun b hb => hk b ⟨j, hj, hb⟩, hs.2⟩⟩
def ins (f : Nat → Ch) (n : Nat) (d : Ch) : Nat → Ch := fun j => if j = n then d else f j
theorem ins_here : ins f n d n = d := if_pos rfl
theorem ins_there (h : j ≠ n) : ins f n d j = f j := if_neg h
theorem Hp.fnil (H : Hp S w0 w L) (f : Nat → Ch) : Hp S w0 w (cF 0 f :: L) :=
  H.app' (M := [cF 0 f]) ⟨Mod.refl _ _, fun c hc => by rw [List.mem_singleton] at hc; subst hc; exact ⟨fun j hj => by omega, fun i j hi => by omega⟩, fun c hc b hb => (by rw [List.mem_singleton] at hc; subst hc; obtain ⟨j, hj, _⟩ := hb; omega), List.pairwise_singleton _ _⟩
theorem Hp.fpush (H : Hp S w0 w (d :: L)) (i : Nat) (hi : L[i]? = some (cF n f)) : Hp S w0 w (L.set i (cF (n + 1) (ins f n d))) := by
  have hne := (List.pairwise_cons.1 H.apart).1 _ (List.mem_of_getElem? hi)
  refine H.join i hi (fun hd hf => ⟨fun j hj => ?_, fun p q hp hq hpq b hb hb' => ?_⟩) fun b ⟨j, hj, hb⟩ => ?_
  · by_cases e : j = n
    · rw [e, ins_here]; exact hd
    · rw [ins_there e]; exact hf.1 j (by omega)
  · by_cases e1 : p = n
    · subst e1
      rw [ins_here] at hb
      rw [ins_there (Ne.symm hpq)] at hb'
      exact hne b hb ⟨q, by omega, hb'⟩
    · rw [ins_there e1] at hb
      by_cases e2 : q = n
      · subst e2
        rw [ins_here] at hb'
        exact hne b hb' ⟨p, by omega, hb⟩
      · rw [ins_there e2] at hb'
        exact hf.2 p q (by omega) (by omega) hpq b hb hb'
  · by_cases e : j = n
    · subst e; rw [ins_here] at hb; exact .inl hb
    · rw [ins_there e] at hb; exact .inr ⟨j, by omega, hb⟩
theorem cF.at {h : Array Obj} (hs : (cF n f).says h) (hj : j < n) : (f j).says h := hs.1 j hj
/-- one of them turned -/
theorem Hp.fupd (H : Hp S w0 w L) (i : Nat) (hi : L[i]? = some (cF n f)) (hj : j < n) {S' : Nat → Prop} (hM : Mod S' w w') (hS : ∀ b, S' b → (f j).foot b) (hd : d.says w'.heap) (hf : ∀ b, d.foot b → b < w'.heap.size ∧ ((f j).foot b ∨ w.heap.size ≤ b)) : Hp S w0 w' (L.set i (cF n (ins f j d))) := by
  have h0 := H.at i hi
  have hlt := fun b hb => H.lt i hi (b := b) hb
  refine H.upd i hi hM (fun b hb => ⟨j, hj, hS b hb⟩) ⟨fun k hk => ?_, fun p q hp hq hpq b hb hb' => ?_⟩ fun b ⟨k, hk, hb⟩ => ?_
  · by_cases e : k = j
    · rw [e, ins_here]; exact hd
    · rw [ins_there e]
      exact (f k).keep (h0.1 k hk) fun b hb hl => hM.block b hl fun hs => h0.2 k j hk hj e b hb (hS b hs)
  · have one : ∀ k, k < n → k ≠ j → ∀ b, d.foot b → ¬ (f k).foot b := fun k hk hkj b hb hb' => by
      rcases (hf b hb).2 with h | h
      · exact h0.2 j k hj hk (Ne.symm hkj) b h hb'
      · have := hlt b ⟨k, hk, hb'⟩; omega
    by_cases e1 : p = j
    · subst e1
      rw [ins_here] at hb
      rw [ins_there (Ne.symm hpq)] at hb'
      exact one q hq (Ne.symm hpq) b hb hb'
    · rw [ins_there e1] at hb
      by_cases e2 : q = j
      · subst e2
        rw [ins_here] at hb'
        exact one p hp e1 b hb' hb
      · rw [ins_there e2] at hb'
        exact h0.2 p q hp hq hpq b hb hb'
  · by_cases e : k = j
    · subst e
      rw [ins_here] at hb
      obtain ⟨h1, h2⟩ := hf b hb
      exact ⟨h1, h2.imp (fun h => ⟨k, hj, h⟩) id⟩
    · rw [ins_there e] at hb
      exact ⟨Nat.lt_of_lt_of_le (hlt b ⟨k, hk, hb⟩) hM.size, .inl ⟨k, hk, hb⟩⟩
theorem Hp.fcongr (H : Hp S w0 w L) (i : Nat) (hi : L[i]? = some (cF n f)) (h : ∀ j, j < n → f j = g j) : Hp S w0 w (L.set i (cF n g)) :=
  H.conv i hi (fun hs => ⟨fun j hj => h j hj ▸ hs.1 j hj, fun p q hp hq hpq b hb hb' => hs.2 p q hp hq hpq b (by rw [h p hp]; exact hb) (by rw [h q hq]; exact hb')⟩) fun b ⟨j, hj, hb⟩ => ⟨j, hj, by rw [h j hj]; exact hb⟩
/-- each said otherwise -/
theorem Hp.fconv (H : Hp S w0 w L) (i : Nat) (hi : L[i]? = some (cF n f)) (h : ∀ j, j < n → (f j).says w.heap → (g j).says w.heap) (hf : ∀ j, j < n → ∀ b, (g j).foot b → (f j).foot b) : Hp S w0 w (L.set i (cF n g)) :=
  H.conv i hi (fun hs => ⟨fun j hj => h j hj (hs.1 j hj), fun p q hp hq hpq b hb hb' => hs.2 p q hp hq hpq b (hf p hp b hb) (hf q hq b hb')⟩) fun b ⟨j, hj, hb⟩ => ⟨j, hj, hf j hj b hb⟩
theorem Hp.fsplit (H : Hp S w0 w L) (i : Nat) (hi : L[i]? = some (cF n fun j => two (f j) (g j))) : Hp S w0 w (cF n f :: L.set i (cF n g)) :=
  H.split i hi (fun hs => ⟨⟨fun j hj => (hs.1 j hj).1, fun p q hp hq hpq b hb hb' => hs.2 p q hp hq hpq b (.inl hb) (.inl hb')⟩, ⟨fun j hj => (hs.1 j hj).2.1, fun p q hp hq hpq b hb hb' => hs.2 p q hp hq hpq b (.inr hb) (.inr hb')⟩, fun b ⟨p, hp, hb⟩ ⟨q, hq, hb'⟩ => by
    by_cases e : p = q
    · subst e; exact (hs.1 p hp).2.2 b hb hb'
    · exact hs.2 p q hp hq e b (.inl hb) (.inr hb')⟩) fun b hb => by
      rcases hb with ⟨j, hj, hb⟩ | ⟨j, hj, hb⟩
      · exact ⟨j, hj, .inl hb⟩
      · exact ⟨j, hj, .inr hb⟩
/-- two families in turns -/
theorem Hp.falt (H : Hp S w0 w (cF n f :: L)) (i : Nat) (hi : L[i]? = some (cF n g)) : Hp S w0 w (L.set i (cF (2 * n) fun j => if j % 2 = 0 then f (j / 2) else g (j / 2))) := by
  have hne := (List.pairwise_cons.1 H.apart).1 _ (List.mem_of_getElem? hi)
  refine H.join i hi (fun hd hf => ⟨fun j hj => ?_, fun p q hp hq hpq b hb hb' => ?_⟩) fun b ⟨j, hj, hb⟩ => ?_
  · dsimp only
    split
    · exact hd.1 _ (by omega)
    · exact hf.1 _ (by omega)
  · dsimp only at hb hb'
    split at hb <;> split at hb'
    · exact hd.2 (p / 2) (q / 2) (by omega) (by omega) (by omega) b hb hb'
    · exact hne b ⟨_, by omega, hb⟩ ⟨_, by omega, hb'⟩
    · exact hne b ⟨_, by omega, hb'⟩ ⟨_, by omega, hb⟩
    · exact hf.2 (p / 2) (q / 2) (by omega) (by omega) (by omega) b hb hb'
  · dsimp only at hb
    split at hb
    · exact .inl ⟨_, by omega, hb⟩
    · exact .inr ⟨_, by omega, hb⟩
/-- a family behind another one -/
theorem Hp.fapp {m : Nat} (H : Hp S w0 w (cF n f :: L)) (i : Nat) (hi : L[i]? = some (cF m g)) : Hp S w0 w (L.set i (cF (m + n) fun j => if j < m then g j else f (j - m))) := by
  have hne := (List.pairwise_cons.1 H.apart).1 _ (List.mem_of_getElem? hi)
  refine H.join i hi (fun hd hf => ⟨fun j hj => ?_, fun p q hp hq hpq b hb hb' => ?_⟩) fun b ⟨j, hj, hb⟩ => ?_
  · dsimp only
    split
    · exact hf.1 _ (by omega)
    · exact hd.1 _ (by omega)
  · dsimp only at hb hb'
    split at hb <;> split at hb'
    · exact hf.2 p q (by omega) (by omega) hpq b hb hb'
    · exact hne b ⟨_, by omega, hb'⟩ ⟨_, by omega, hb⟩
    · exact hne b ⟨_, by omega, hb⟩ ⟨_, by omega, hb'⟩
    · exact hd.2 (p - m) (q - m) (by omega) (by omega) (by omega) b hb hb'
  · dsimp only at hb
    split at hb
    · exact .inr ⟨_, by omega, hb⟩
    · exact .inl ⟨_, by omega, hb⟩
end
end Go.Eng
namespace Go.Eng
open Go.RowKit
/-- a slice with no room, or one that owns its block -/
def OwnQ (h : Array Obj) (T : TypeId) (k : Nat) (a : Option Addr) (m c : Nat) (cs : List Value) : Prop :=
  cs.length = m * k ∧ ((m = 0 ∧ c = 0) ∨ ∃ b R, 0 < c ∧ a = some ⟨b, 0, none⟩ ∧ Blk h b (cs ++ R) T ∧ m ≤ c ∧ c ≤ maxLen ∧ (cs ++ R).length = c * k)
def footQ (a : Option Addr) (c : Nat) : Nat → Prop := fun z => 0 < c ∧ a.map (·.block) = some z
section
variable {h h' : Array Obj} {T : TypeId} {k m c lo : Nat} {a : Option Addr} {cs : List Value}
theorem Own.toQ (ho : Own h lo T k (.slice a m c) m cs) : OwnQ h T k a m c cs := by
  obtain ⟨h1, ⟨e, rfl⟩ | ⟨b, cap, xs, e, _, hB, hm, hc, hl⟩⟩ := ho
  · injection e with _ _ e3; exact ⟨h1, .inl ⟨rfl, e3⟩⟩
  · injection e with e1 _ e3
    subst e3
    by_cases h0 : c = 0
    · exact ⟨h1, .inl ⟨by omega, h0⟩⟩
    · exact ⟨h1, .inr ⟨b, xs, by omega, e1, hB, hm, hc, hl⟩⟩
theorem OwnQ.kept (ho : OwnQ h T k a m c cs) (e : ∀ b, footQ a c b → b < h.size → h'[b]? = h[b]?) : OwnQ h' T k a m c cs := by
  obtain ⟨h1, h2⟩ := ho
  refine ⟨h1, ?_⟩
  rcases h2 with h2 | ⟨b, R, h0, rfl, hB, r⟩
  · exact .inl h2
  · exact .inr ⟨b, R, h0, rfl, hB.keep (e b ⟨h0, rfl⟩ hB.lt), r⟩
theorem OwnQ.lt (ho : OwnQ h T k a m c cs) {b : Nat} (hb : footQ a c b) : b < h.size := by
  obtain ⟨h1, h2 | ⟨b', R, h0, rfl, hB, r⟩⟩ := ho
  · have := hb.1; omega
  · obtain ⟨_, e⟩ := hb
    injection e with e; subst e
    exact hB.lt
theorem OwnQ.src (ho : OwnQ h T k a m c cs) : Src h (.slice a m c) m k cs := by
  obtain ⟨h1, ⟨rfl, rfl⟩ | ⟨b, R, h0, rfl, hB, hm, hc, hl⟩⟩ := ho
  · exact ⟨h1, a, 0, rfl, Nat.le_refl _, by unfold maxLen; omega, .inl rfl⟩
  · refine ⟨h1, _, _, rfl, hm, hc, .inr ⟨b, 0, rfl, hB.cells 0 cs fun j hj => ?_⟩⟩
    rw [Nat.zero_add, List.getElem?_append_left hj, List.getElem?_eq_getElem hj]
theorem OwnQ.none (h : Array Obj) (T : TypeId) (k : Nat) (a : Option Addr) : OwnQ h T k a 0 0 [] := ⟨by simp, .inl ⟨rfl, rfl⟩⟩
/-- its head -/
theorem OwnQ.take (ho : OwnQ h T k a m c cs) (j : Nat) (hj : j ≤ m) : OwnQ h T k a j c (cs.take (j * k)) := by
  obtain ⟨h1, h2 | ⟨b, R, h0, rfl, hB, hm, hc, hl⟩⟩ := ho
  · obtain ⟨rfl, rfl⟩ := h2
    have : j = 0 := by omega
    subst this
    exact ⟨by simp, .inl ⟨rfl, rfl⟩⟩
  · refine ⟨?_, .inr ⟨b, cs.drop (j * k) ++ R, h0, rfl, ?_, by omega, hc, ?_⟩⟩
    · rw [List.length_take, h1]; exact Nat.min_eq_left (Nat.mul_le_mul_right _ hj)
    · rw [← List.append_assoc, List.take_append_drop]; exact hB
    · rw [← List.append_assoc, List.take_append_drop]; exact hl
end
/-- a piece: a slice with no room, or one that owns its block -/
def cQ {α : Type} (T : TypeId) (E : En α) (a : Option Addr) (m c : Nat) (xs : List α) : Ch := ⟨footQ a c, fun h => OwnQ h T E.k a m c (flat E.enc xs), fun hs hk => hs.kept hk⟩
/-- likewise, beside one that it grew to -/
def cP {α : Type} (T : TypeId) (E : En α) (a0 : Option Addr) (m0 c0 : Nat) (xs0 : List α) (a : Option Addr) (m c : Nat) (xs : List α) : Ch :=
  ⟨fun z => footQ a0 c0 z ∨ footQ a c z,
   fun h => OwnQ h T E.k a0 m0 c0 (flat E.enc xs0) ∧ OwnQ h T E.k a m c (flat E.enc xs) ∧ ((a = a0 ∧ c = c0 ∧ m0 ≤ m ∧ flat E.enc xs0 = (flat E.enc xs).take (m0 * E.k)) ∨ ∀ z, footQ a0 c0 z → ¬ footQ a c z),
   fun hs hk => ⟨hs.1.kept fun b hb => hk b (.inl hb), hs.2.1.kept fun b hb => hk b (.inr hb), hs.2.2⟩⟩
section
variable {α : Type} {P : Program} {n : Nat} {σ : Nat → Value} {w w' w0 : World} {ty t : TypeId} {x y : Operand} {S : Nat → Prop} {L : List Ch} {K : Value → World → Prop} {E : En α} {e k0 bb m mx c : Nat} {z : Value} {a : Option Addr} {xs ys : List α}
theorem cQ.sr {T : TypeId} {h : Array Obj} (hs : (cQ T E a m c xs).says h) : Srm E h a m c xs := OwnQ.src hs
def Where2 (w w' : World) (m' : Nat) (sv v' : Value) : Prop := (∃ a l c, sv = .slice a l c ∧ v' = .slice a m' c) ∨ (Ext w w' ∧ ∀ k, v'.ownBlock = some k → k = w.heap.size)
theorem e_appendY {P : Program} {n : Nat} {σ : Nat → Value} {w : World} {ty t : TypeId} {K : Value → World → Prop} {x s : Operand} {e k bb lo m mx : Nat} {z sv xv : Value} {cs news : List Value} (hS : SL P t e k bb z) (hs : ev n σ s = sv) (hx : ev n σ x = xv) (hown : Own w.heap lo e k sv m cs) (hsrc : Src w.heap xv mx k news)
    (h1 : ∀ u ∈ news, u.oneCell' = true) (hbytes : (m + mx) * bb ≤ 140737488355328) (hbb : 0 < bb) (hlo : lo ≤ w.heap.size)
    (kk : ∀ v' w', Own w'.heap lo e k v' (m + mx) (cs ++ news) → w.grownBy w' sv.ownBlock → (mx ≠ 0 → v' ≠ .slice none 0 0) → Where2 w w' (m + mx) sv v' → K v' w') :
    Eff P (ev n σ) w (.call { callee := .builtin .append, args := #[s, x], argTypes := #[t, t] }) ty K := by
  obtain ⟨i, hi, hk, hbb', hz⟩ := hS.inf
  subst hk; subst hbb'
  obtain ⟨hl, a, c, rfl, hmc, hcm, hsrc⟩ := hsrc
  have h63 : m + mx ≤ maxLen := by
    have : (m + mx) * 1 ≤ (m + mx) * i.bytes := Nat.mul_le_mul_left _ hbb
    unfold maxLen; omega
  have main : ∃ v' w', (Builtin.append_ #[t, t] ty #[sv, .slice a mx c]).run P w = .ok v' w' ∧ w'.ownsRow lo e i.size v' (m + mx) (cs ++ news) ∧ w.grownBy w' sv.ownBlock ∧ (mx ≠ 0 → v' ≠ .slice none 0 0) ∧ Where2 w w' (m + mx) sv v' := by
    cases a with
    | some a =>
      have hc : ∀ (j : Nat) (u : Value), news[j]? = some u → w.cell? (a.add j) = some u := by
        intro j u hu
        have hj : j < news.length := by
          rcases Nat.lt_or_ge j news.length with h' | h'
          · exact h'
          · rw [List.getElem?_eq_none h'] at hu; cases hu
        rcases hsrc with rfl | ⟨b, o, ha, hC⟩
        · simp at hl; rw [hl] at hj; simp at hj
        · injection ha with ha; subst ha
          rw [add_addr, hC.cell j hj]
          rw [List.getElem?_eq_getElem hj] at hu
          exact hu
      obtain ⟨v', w', hr, ho, hg, hn⟩ := run_append_own (P := P) w lo t ty e i z i.size i.bytes hS.und hi hz rfl rfl hS.zs hS.pos sv m cs hown.row a mx c news hl hc h1 h63 hbytes hlo
      refine ⟨v', w', hr, ho, hg, fun hm h => hm (hn.1 h).2, ?_⟩
      rcases hown.2 with ⟨rfl, rfl⟩ | ⟨b, cap, R, rfl, hlo', hB, hmc', hcap, hR⟩
      · by_cases hm0 : mx = 0
        · exact .inl ⟨none, 0, 0, rfl, by rw [hn.2 ⟨rfl, hm0⟩, hm0]⟩
        · have hr' := run_append_nil (P := P) (ty := ty) w t e i z hS.und hi hz a mx c news hl hc (by omega) (by unfold maxLen at h63; omega) (by have := hbytes; simp only [Nat.zero_add] at this; omega)
          rw [hr] at hr'
          injection hr' with e1 e2
          subst e1; subst e2
          exact .inr ⟨ext_drew_alloc _ _, fun k hk => by simp [Value.ownBlock] at hk; omega⟩
      · by_cases hroom : m + mx ≤ cap
        · have hfit : m * i.size + news.length ≤ (cs ++ R).toArray.size := by
            rw [List.size_toArray, hR, hl, ← Nat.add_mul]; exact Nat.mul_le_mul_right _ hroom
          have hr' := run_append_room (P := P) (ty := ty) w t e i hS.und hi b m cap (cs ++ R).toArray hB a mx c news hl hc h1 hroom hfit
          rw [hr] at hr'
          injection hr' with e1 e2
          subst e1
          exact .inl ⟨_, _, _, rfl, rfl⟩
        · have holds : ∀ j u, cs[j]? = some u → w.cell? ((⟨b, 0, none⟩ : Addr).add j) = some u := hown.row.cells (g := b) rfl
          have hr' := run_append_grow (P := P) (ty := ty) w t e i z hS.und hi hz ⟨b, 0, none⟩ m cap cs hown.1 holds a mx c news hl hc (by omega) (by unfold maxLen at h63; omega) (growslice_fits (by omega) hbytes)
          rw [hr] at hr'
          injection hr' with e1 e2
          subst e1; subst e2
          exact .inr ⟨ext_drew_alloc _ _, fun k hk => by simp [Value.ownBlock] at hk; omega⟩
    | none =>
      rcases hsrc with rfl | ⟨b, o, ha, hC⟩
      case inr => cases ha
      have hn : news = [] := List.eq_nil_of_length_eq_zero (by simpa using hl)
      subst hn
      refine ⟨sv, w, ?_, ?_, ⟨rfl, rfl, rfl, Nat.le_refl _, fun _ _ _ => rfl⟩, fun h => absurd rfl h, .inl (by rcases hown.2 with ⟨rfl, rfl⟩ | ⟨b, cap, xs, rfl, _⟩ <;> exact ⟨_, _, _, rfl, by simp⟩)⟩
      · have hsl : ∃ a c, sv = .slice a m c ∧ m ≤ c := by
          rcases hown.2 with ⟨rfl, rfl⟩ | ⟨b, cap, xs, rfl, _, _, hm, _⟩
          · exact ⟨none, 0, rfl, Nat.le_refl _⟩
          · exact ⟨_, cap, rfl, hm⟩
        obtain ⟨a, c', rfl, hmc'⟩ := hsl
        cases a <;> simp [Builtin.append_, run_underlying hS.und, sizeOf, typeInfo, hi, Builtin.lenOf, hmc', Builtin.firstCells, storeCells]
      · simpa using hown.row
  obtain ⟨v', w', hr, ho, hg, hn, hw⟩ := main
  refine ⟨v', w', kk v' w' (Own.of_row ho) hg hn hw, .inl fun _ _ _ _ => ?_⟩
  simp [execOp, resolve, invoke, builtin, hs, hx, hr]
/-- where an append went -/
def Went (w w' : World) (a : Option Addr) (c : Nat) (a' : Option Addr) (c' : Nat) : Prop := (a' = a ∧ c' = c ∧ w.grownBy w' (if c = 0 then none else a.map (·.block))) ∨ (Ext w w' ∧ ∀ b, footQ a' c' b → b = w.heap.size)
theorem e_appendQ {yv : Value} {cs news : List Value} (hS : SL P t e k0 bb z) (hs : ev n σ x = .slice a m c) (hx : ev n σ y = yv) (hown : OwnQ w.heap e k0 a m c cs) (hsrc : Src w.heap yv mx k0 news)
    (h1 : ∀ u ∈ news, u.oneCell' = true) (hbytes : (m + mx) * bb ≤ 140737488355328) (hbb : 0 < bb)
    (kk : ∀ a' c' w', OwnQ w'.heap e k0 a' (m + mx) c' (cs ++ news) → Went w w' a c a' c' → K (.slice a' (m + mx) c') w') :
    Eff P (ev n σ) w (.call { callee := .builtin .append, args := #[x, y], argTypes := #[t, t] }) ty K := by
  obtain ⟨hl0, hq⟩ := hown
  rcases hq with ⟨rfl, rfl⟩ | ⟨b, R, h0, rfl, hB, hm, hc, hl⟩
  · have hcs : cs = [] := List.eq_nil_of_length_eq_zero (by simpa using hl0)
    subst hcs
    cases a with
    | none =>
      refine e_appendX (lo := 0) hS hs hx (Own.nil _ _ _ _) hsrc h1 hbytes hbb (Nat.zero_le _) fun v' w' hO hG _ hW => ?_
      obtain ⟨a', c', rfl, _, _⟩ := hO.src.form
      refine kk a' c' w' hO.toQ (.inr ?_)
      rcases hW with hW | ⟨h1, h2⟩
      · refine ⟨⟨hG.os, hG.tape, hG.output, hG.size, fun k hk => hG.block k hk (by simp [Value.ownBlock])⟩, fun b hb => ?_⟩
        obtain ⟨_, e⟩ := hb
        cases a' with
        | none => cases e
        | some a' => simp [Value.ownBlock] at hW
      · refine ⟨h1, fun b hb => ?_⟩
        obtain ⟨_, e⟩ := hb
        cases a' with
        | none => cases e
        | some a' => exact h2 b e
    | some a =>
      obtain ⟨i, hi, hk, hbb', hz⟩ := hS.inf
      subst hk; subst hbb'
      obtain ⟨hln, ax, cx, rfl, hmc, hcm, hsrc'⟩ := hsrc
      by_cases h0 : mx = 0
      · subst h0
        have hn : news = [] := List.eq_nil_of_length_eq_zero (by simpa using hln)
        subst hn
        refine ⟨.slice (some a) 0 0, w, kk (some a) 0 w (OwnQ.none _ _ _ _) (.inl ⟨rfl, rfl, ⟨rfl, rfl, rfl, Nat.le_refl _, fun _ _ _ => rfl⟩⟩), .inl fun _ _ _ _ => ?_⟩
        have hr : (Builtin.append_ #[t, t] ty #[.slice (some a) 0 0, .slice ax 0 cx]).run P w = .ok (.slice (some a) 0 0) w := by
          cases ax <;> simp [Builtin.append_, run_underlying hS.und, sizeOf, typeInfo, hi, Builtin.lenOf, Builtin.firstCells, storeCells, loadCells, loadCellsFrom]
        simp [execOp, resolve, invoke, builtin, hs, hx, hr]
      · rcases hsrc' with h | ⟨b, o, rfl, hC⟩
        · exact absurd h h0
        have hc : ∀ (j : Nat) (u : Value), news[j]? = some u → w.cell? ((⟨b, o, none⟩ : Addr).add j) = some u := by
          intro j u hu
          have hj : j < news.length := by
            rcases Nat.lt_or_ge j news.length with h' | h'
            · exact h'
            · rw [List.getElem?_eq_none h'] at hu; cases hu
          rw [add_addr, hC.cell j hj]
          rw [List.getElem?_eq_getElem hj] at hu
          exact hu
        have h63 : 0 + mx ≤ maxLen := by
          have : (0 + mx) * 1 ≤ (0 + mx) * i.bytes := Nat.mul_le_mul_left _ hbb
          unfold maxLen; omega
        obtain ⟨v', w', hr, ho, hg, hn⟩ := run_append_own (P := P) w 0 t ty e i z i.size i.bytes hS.und hi hz rfl rfl hS.zs hS.pos (.slice none 0 0) 0 [] (Own.nil w.heap 0 e i.size).row ⟨b, o, none⟩ mx cx news hln hc h1 h63 hbytes (Nat.zero_le _)
        have hr1 := run_append_nil (P := P) (ty := ty) w t e i z hS.und hi hz ⟨b, o, none⟩ mx cx news hln hc (by omega) (by unfold maxLen at h63; omega) (by have := hbytes; simp only [Nat.zero_add] at this; omega)
        rw [hr] at hr1
        injection hr1 with e1 e2
        subst e1; subst e2
        have hr2 := run_append_grow (P := P) (ty := ty) w t e i z hS.und hi hz a 0 0 [] (by simp) (fun j u hu => by simp at hu) ⟨b, o, none⟩ mx cx news hln hc (by omega) (by unfold maxLen at h63; omega) (growslice_fits (by omega) hbytes)
        have hO' := Own.of_row ho
        rw [Nat.zero_add] at hO'
        have hO := hO'.toQ
        refine ⟨_, _, kk _ _ _ (by rw [Nat.zero_add]; exact hO) (.inr ⟨ext_drew_alloc _ _, fun q hq => ?_⟩), .inl fun _ _ _ _ => ?_⟩
        · obtain ⟨_, e'⟩ := hq
          injection e' with e'
          exact e'.symm
        · rw [Nat.zero_add] at hr2 ⊢
          have e0 : ([] : List Value).toArray ++ news.toArray = news.toArray := by simp
          rw [e0] at hr2
          simp [execOp, resolve, invoke, builtin, hs, hx, hr2]
  · refine e_appendY (lo := 0) hS hs hx (m := m) (cs := cs) ⟨hl0, .inr ⟨b, c, R, rfl, Nat.zero_le _, hB, hm, hc, hl⟩⟩ hsrc h1 hbytes hbb (Nat.zero_le _) fun v' w' hO hG _ hW => ?_
    obtain ⟨a', c', rfl, _, _⟩ := hO.src.form
    refine kk a' c' w' hO.toQ ?_
    rcases hW with ⟨a1, l1, c1, e1, e2⟩ | ⟨h1, h2⟩
    · injection e1 with e11 e12 e13
      injection e2 with e21 e22 e23
      subst e11; subst e13; subst e21; subst e23
      exact .inl ⟨rfl, rfl, by rw [if_neg (by omega)]; exact hG⟩
    · refine .inr ⟨h1, fun q hq => ?_⟩
      obtain ⟨_, e'⟩ := hq
      cases a' with
      | none => cases e'
      | some a' => exact h2 q e'
theorem Went.mod {a' : Option Addr} {c' : Nat} (h : Went w w' a c a' c') : Mod (footQ a c) w w' := by
  rcases h with ⟨_, _, hG⟩ | ⟨h, _⟩
  · refine (Mod.refl _ w).grown hG fun b hb => .inl ?_
    by_cases h0 : c = 0
    · rw [if_pos h0] at hb; cases hb
    · rw [if_neg h0] at hb; exact ⟨by omega, hb⟩
  · exact h.mod _
theorem Went.foot {a' : Option Addr} {c' b : Nat} (h : Went w w' a c a' c') (hb : footQ a' c' b) : footQ a c b ∨ w.heap.size ≤ b := by
  rcases h with ⟨rfl, rfl, _⟩ | ⟨_, h⟩
  · exact .inl hb
  · exact .inr (by rw [h b hb]; exact Nat.le_refl _)
/-- onto a list of one's own, with room or without -/
theorem EapQ {yv : Value} (H : Hp S w0 w L) (i : Nat) (hS : SL P t e k0 bb z) (hs : ev n σ x = .slice a m c) (hi : L[i]? = some (cQ e E a m c xs)) (hx : ev n σ y = yv) (hsrc : Src w.heap yv mx E.k (flat E.enc ys)) (hb : (m + mx) * bb ≤ 140737488355328) (hbb : Nat.blt 0 bb = true) (hk : k0 = E.k)
    (k : ∀ a' c' w', Hp S w0 w' (L.set i (cQ e E a' (m + mx) c' (xs ++ ys))) → K (.slice a' (m + mx) c') w') : Eff P (ev n σ) w (.call { callee := .builtin .append, args := #[x, y], argTypes := #[t, t] }) ty K := by
  subst hk
  refine e_appendQ hS hs hx (H.at i hi) hsrc (fun u hu => List.all_eq_true.1 (E.flat_ones ys) u hu) hb (by simpa [Nat.blt_eq] using hbb) fun a' c' w' hO hW => ?_
  rw [← flat_append] at hO
  exact k a' c' w' (H.upd i hi hW.mod (fun _ h => h) hO fun z hz => ⟨hO.lt hz, hW.foot hz⟩)
theorem cP.grow {a0 : Option Addr} {m0 c0 m' c' : Nat} {xs0 zs : List α} {a' : Option Addr} (h0 : OwnQ w.heap e E.k a0 m0 c0 (flat E.enc xs0)) (h1 : OwnQ w.heap e E.k a m c (flat E.enc xs)) (hr : (a = a0 ∧ c = c0 ∧ m0 ≤ m ∧ flat E.enc xs0 = (flat E.enc xs).take (m0 * E.k)) ∨ ∀ z, footQ a0 c0 z → ¬ footQ a c z)
    (hO : OwnQ w'.heap e E.k a' (m + m') c' (flat E.enc (xs ++ zs))) (hW : Went w w' a c a' c') : (cP e E a0 m0 c0 xs0 a' (m + m') c' (xs ++ zs)).says w'.heap := by
  refine ⟨?_, hO, ?_⟩
  · rcases hW with ⟨rfl, rfl, hG⟩ | ⟨hx, hn⟩
    · rcases hr with ⟨rfl, rfl, hm, e0⟩ | hr
      · have := hO.take m0 (by omega)
        rwa [flat_append, List.take_append_of_le_length (by rw [h1.1]; exact Nat.mul_le_mul_right _ hm), ← e0] at this
      · exact h0.kept fun b hb hlt => (Went.mod (.inl ⟨rfl, rfl, hG⟩)).block b hlt (hr b hb)
    · exact h0.kept fun b _ hlt => hx.block b hlt
  · rcases hW with ⟨rfl, rfl, _⟩ | ⟨hx, hn⟩
    · rcases hr with ⟨rfl, rfl, hm, e0⟩ | hr
      · exact .inl ⟨rfl, rfl, by omega, by rw [flat_append, List.take_append_of_le_length (by rw [h1.1]; exact Nat.mul_le_mul_right _ hm)]; exact e0⟩
      · exact .inr hr
    · refine .inr fun z hz hz' => ?_
      have := h0.lt hz
      have := hn z hz'
      omega
theorem cP.grown {a0 : Option Addr} {m0 c0 m' c' : Nat} {xs0 zs : List α} {a' : Option Addr} (h0 : OwnQ w.heap e E.k a0 m0 c0 (flat E.enc xs0)) (hO : OwnQ w'.heap e E.k a' (m + m') c' (flat E.enc (xs ++ zs))) (hW : Went w w' a c a' c') (z : Nat) (hz : (cP e E a0 m0 c0 xs0 a' (m + m') c' (xs ++ zs)).foot z) : z < w'.heap.size ∧ ((cP e E a0 m0 c0 xs0 a m c xs).foot z ∨ w.heap.size ≤ z) := by
  rcases hz with hz | hz
  · exact ⟨Nat.lt_of_lt_of_le (h0.lt hz) hW.mod.size, .inl (.inl hz)⟩
  · refine ⟨hO.lt hz, ?_⟩
    rcases hW.foot hz with h | h
    · exact .inl (.inr h)
    · exact .inr h
theorem cP.start {T : TypeId} {h : Array Obj} (hs : (cQ T E a m c xs).says h) : (cP T E a m c xs a m c xs).says h :=
  ⟨hs, hs, .inl ⟨rfl, rfl, Nat.le_refl _, by rw [List.take_of_length_le]; rw [hs.1]; exact Nat.le_refl _⟩⟩
theorem cP.sr0 {T : TypeId} {h : Array Obj} {a0 : Option Addr} {m0 c0 : Nat} {xs0 : List α} (hs : (cP T E a0 m0 c0 xs0 a m c xs).says h) : Srm E h a0 m0 c0 xs0 := OwnQ.src hs.1
theorem cP.sr {T : TypeId} {h : Array Obj} {a0 : Option Addr} {m0 c0 : Nat} {xs0 : List α} (hs : (cP T E a0 m0 c0 xs0 a m c xs).says h) : Srm E h a m c xs := OwnQ.src hs.2.1
/-- onto a list that grew out of another one, which still shows what it did: one of a family -/
theorem EapPF {f : Nat → Ch} {N j : Nat} {yv : Value} {a0 : Option Addr} {m0 c0 : Nat} {xs0 : List α} (H : Hp S w0 w L) (i : Nat) (hS : SL P t e k0 bb z) (hs : ev n σ x = .slice a m c) (hi : L[i]? = some (cF N f)) (hj : j < N) (hf : f j = cP e E a0 m0 c0 xs0 a m c xs) (hx : ev n σ y = yv) (hsrc : Src w.heap yv mx E.k (flat E.enc ys)) (hb : (m + mx) * bb ≤ 140737488355328) (hbb : Nat.blt 0 bb = true) (hk : k0 = E.k)
    (k : ∀ a' c' w', Hp S w0 w' (L.set i (cF N (ins f j (cP e E a0 m0 c0 xs0 a' (m + mx) c' (xs ++ ys))))) → K (.slice a' (m + mx) c') w') : Eff P (ev n σ) w (.call { callee := .builtin .append, args := #[x, y], argTypes := #[t, t] }) ty K := by
  subst hk
  have h' := (H.at i hi).1 j hj
  rw [hf] at h'
  obtain ⟨h0, h1, hr⟩ := h'
  refine e_appendQ hS hs hx h1 hsrc (fun u hu => List.all_eq_true.1 (E.flat_ones ys) u hu) hb (by simpa [Nat.blt_eq] using hbb) fun a' c' w' hO hW => ?_
  rw [← flat_append] at hO
  refine k a' c' w' (H.fupd i hi hj hW.mod (fun _ h => by rw [hf]; exact .inr h) (cP.grow h0 h1 hr hO hW) fun z hz => ?_)
  obtain ⟨g1, g2⟩ := cP.grown h0 hO hW z hz
  exact ⟨g1, by rw [hf]; exact g2⟩
/-- an element of one of a family turned -/
theorem EsoQF [Inhabited α] {f : Nat → Ch} {N q : Nat} {T : TypeId} {j : Nat} {v : Value} (H : Hp S w0 w L) (i : Nat) (u : α) (hs : SZ P t E.k) (hx : ev n σ x = .pointer (some ⟨ab a, ao a + j * E.k, none⟩)) (hi : L[i]? = some (cF N f)) (hq : q < N) (hf : f q = cQ T E a m c xs) (hy : ev n σ y = v) (hu : v.cells.toList = E.enc u) (hj : j < m)
    (k : ∀ w', Hp S w0 w' (L.set i (cF N (ins f q (cQ T E a m c (xs.set j u))))) → K undef w') : Eff P (ev n σ) w (.store t x y) ty K := by
  have ho : OwnQ w.heap T E.k a m c (flat E.enc xs) := by have := (H.at i hi).1 q hq; rw [hf] at this; exact this
  have hl := Srm.len (E := E) ho.src
  obtain ⟨h1, h2 | ⟨b, R, h0, rfl, hB, hm, hc, hR⟩⟩ := ho
  · omega
  refine e_stO (lo := 0) (c := c) E.len hs hx hy hu ⟨Nat.zero_le _, ⟨R, hB, hR⟩, hc⟩ (by omega) (E.ones u) fun w' o hp hO' => k w' (H.fupd i hi hq (S' := fun z => z = b) ((Mod.refl _ w).pt hp (.inl rfl)) (fun z hz => by rw [hz, hf]; exact ⟨h0, rfl⟩) ?_ fun z hz => ?_)
  · obtain ⟨R', hB', hl'⟩ := hO'.blk
    exact ⟨by rw [flat_length E.len, List.length_set, hl], .inr ⟨b, R', h0, rfl, hB', hm, hc, hl'⟩⟩
  · obtain ⟨_, e⟩ := hz
    injection e with e
    subst e
    exact ⟨hO'.lt, .inl (by rw [hf]; exact ⟨h0, rfl⟩)⟩
theorem Hp.srQ {T : TypeId} (H : Hp S w0 w L) (i : Nat) (hi : L[i]? = some (cQ T E a m c xs)) : Srm E w.heap a m c xs := OwnQ.src (H.at i hi)
theorem Hp.noneQ (H : Hp S w0 w L) (T : TypeId) (E : En α) (a : Option Addr) : Hp S w0 w (cQ T E a 0 0 [] :: L) :=
  H.app' (M := [cQ T E a 0 0 []]) ⟨Mod.refl _ _, fun c hc => by rw [List.mem_singleton] at hc; subst hc; exact OwnQ.none _ _ _ _, fun c hc b hb => (by rw [List.mem_singleton] at hc; subst hc; exact absurd hb.1 (Nat.lt_irrefl 0)), List.pairwise_singleton _ _⟩
theorem Hp.nilQ (H : Hp S w0 w L) (T : TypeId) (E : En α) : Hp S w0 w (cQ T E none 0 0 [] :: L) := H.noneQ T E none
/-- a block as a list of one's own -/
theorem Hp.toQ {b : Nat} {T : TypeId} {cs : List Value} (H : Hp S w0 w L) (E : En α) (i : Nat) (xs : List α) (hi : L[i]? = some (cB b T cs)) (hu : cs = flat E.enc xs) (hm : xs.length ≤ 9223372036854775807) : Hp S w0 w (L.set i (cQ T E (some ⟨b, 0, none⟩) xs.length xs.length xs)) := by
  refine H.conv i hi (fun h => ?_) fun z hz => by obtain ⟨_, e⟩ := hz; exact (Option.some.inj e).symm
  have h' : Blk w.heap b cs T := h
  subst hu
  by_cases h0 : xs.length = 0
  · exact ⟨by rw [flat_length E.len], .inl ⟨h0, h0⟩⟩
  · exact ⟨by rw [flat_length E.len], .inr ⟨b, [], by omega, rfl, by rw [List.append_nil]; exact h', Nat.le_refl _, by unfold maxLen; omega, by rw [List.append_nil, flat_length E.len]⟩⟩
end
end Go.Eng
namespace Go.Eng
open Go.RowKit
section
variable {α : Type} {P : Program} {n : Nat} {σ : Nat → Value} {w w' w0 : World} {ty t : TypeId} {x y : Operand} {S : Nat → Prop} {L : List Ch} {K : Value → World → Prop} {E : En α} {e k0 bb m mx c : Nat} {z : Value} {a : Option Addr} {xs ys : List α}
theorem flat_replicate (E : En α) (u : α) : ∀ c, flat E.enc (List.replicate c u) = (List.replicate c (E.enc u)).flatten
  | 0 => rfl
  | c + 1 => by rw [List.replicate_succ, List.replicate_succ, List.flatten_cons, ← flat_replicate E u c]; rfl
theorem EmkQ {kl kc : IntKind} (H : Hp S w0 w L) (hS : SL P t e k0 bb z) (u : α) (hx : ev n σ x = .int kl (c : Int)) (hy : ev n σ y = .int kc (c : Int)) (hbytes : bb * c ≤ 281474976710656) (h63 : c ≤ 9223372036854775807) (hu : z.cells.toList = E.enc u)
    (k : ∀ b w', Hp S w0 w' (cQ e E (some ⟨b, 0, none⟩) c c (List.replicate c u) :: L) → K (.slice (some ⟨b, 0, none⟩) c c) w') : Eff P (ev n σ) w (.makeSlice t x y) ty K := by
  refine e_makeSlice hS hx hy hbytes h63 fun w' hA => k _ w' ?_
  have h1 := (H.al hA).toQ E 0 (List.replicate c u) rfl (by rw [hu, flat_replicate]) (by rw [List.length_replicate]; exact h63)
  rw [List.length_replicate] at h1
  exact h1
/-- an element turned -/
theorem EsoQ [Inhabited α] {T : TypeId} {j : Nat} {v : Value} (H : Hp S w0 w L) (i : Nat) (u : α) (hs : SZ P t E.k) (hx : ev n σ x = .pointer (some ⟨ab a, ao a + j * E.k, none⟩)) (hi : L[i]? = some (cQ T E a m c xs)) (hy : ev n σ y = v) (hu : v.cells.toList = E.enc u) (hj : j < m)
    (k : ∀ w', Hp S w0 w' (L.set i (cQ T E a m c (xs.set j u))) → K undef w') : Eff P (ev n σ) w (.store t x y) ty K := by
  have ho : OwnQ w.heap T E.k a m c (flat E.enc xs) := H.at i hi
  have hl := Srm.len (E := E) ho.src
  obtain ⟨h1, h2 | ⟨b, R, h0, rfl, hB, hm, hc, hR⟩⟩ := ho
  · omega
  refine e_stO (lo := 0) (c := c) E.len hs hx hy hu ⟨Nat.zero_le _, ⟨R, hB, hR⟩, hc⟩ (by omega) (E.ones u) fun w' o hp hO' => k w' (H.upd i hi (S' := fun z => z = b) ((Mod.refl _ w).pt hp (.inl rfl)) (fun z hz => by rw [hz]; exact ⟨h0, rfl⟩) ?_ fun z hz => ?_)
  · obtain ⟨R', hB', hl'⟩ := hO'.blk
    exact ⟨by rw [flat_length E.len, List.length_set, hl], .inr ⟨b, R', h0, rfl, hB', hm, hc, hl'⟩⟩
  · obtain ⟨_, e⟩ := hz
    injection e with e
    subst e
    exact ⟨hO'.lt, .inl ⟨h0, rfl⟩⟩
end
section
variable {S : Nat → Prop} {w0 w w' : World} {L : List Ch} {c d e r : Ch} {n : Nat} {f g : Nat → Ch}
/-- pieces in an order of one's own; what is not named is dropped -/
theorem Hp.pick (H : Hp S w0 w L) (is : List Nat) (hn : is.Nodup) : Hp S w0 w (is.filterMap fun i => L[i]?) := by
  refine ⟨H.fr, fun c hc => ?_, fun c hc => ?_, ?_⟩
  · obtain ⟨i, _, hi⟩ := List.mem_filterMap.1 hc
    exact H.at i hi
  · obtain ⟨i, _, hi⟩ := List.mem_filterMap.1 hc
    exact H.own c (List.mem_of_getElem? hi)
  · rw [List.pairwise_filterMap]
    exact List.Pairwise.imp (fun hne b hb b' hb' => apart_ne H.apart hb hb' hne) hn
theorem Hp.fpush3 (H : Hp S w0 w [c, d, e, r, cF n f]) : Hp S w0 w [r, cF (n + 1) (ins f n (two c (two d e)))] := by
  have H1 := (H.pick [1, 2, 0, 3, 4] (by decide)).mktwo
  have H2 := (Hp.pick H1 [1, 0, 2, 3] (by decide)).mktwo
  exact Hp.fpush H2 1 rfl
/-- a row's lists, pushed on the family of the rows' lists -/
theorem Hp.push3 {α : Type} [Inhabited α] {p : α → Ch} {xs : List α} {u : α} (H : Hp S w0 w [c, d, e, r, cF n fun k => p (el xs k)]) (hl : xs.length = n) (hu : p u = two c (two d e)) : Hp S w0 w [r, cF (n + 1) fun k => p (el (xs ++ [u]) k)] := by
  refine H.fpush3.fcongr 1 rfl fun j hj => ?_
  by_cases h : j = n
  · subst h
    rw [ins_here, ← hu]
    congr 1
    unfold el
    rw [List.getD_eq_getElem?_getD, ← hl, List.getElem?_append_right (Nat.le_refl _), Nat.sub_self]
    rfl
  · rw [ins_there h]
    unfold el
    rw [List.getD_eq_getElem?_getD, List.getD_eq_getElem?_getD, List.getElem?_append_left (by omega)]
end
section
variable {S : Nat → Prop} {w0 w : World} {c r : Ch} {n : Nat}
/-- a row's one list, pushed -/
theorem Hp.push1 {α : Type} [Inhabited α] {p : α → Ch} {xs : List α} {u : α} (H : Hp S w0 w [c, r, cF n fun k => p (el xs k)]) (hl : xs.length = n) (hu : p u = c) : Hp S w0 w [r, cF (n + 1) fun k => p (el (xs ++ [u]) k)] := by
  refine Hp.fcongr (Hp.fpush H 1 rfl) 1 rfl fun j hj => ?_
  by_cases h : j = n
  · subst h
    rw [ins_here, ← hu]
    congr 1
    unfold el
    rw [List.getD_eq_getElem?_getD, ← hl, List.getElem?_append_right (Nat.le_refl _), Nat.sub_self]
    rfl
  · rw [ins_there h]
    unfold el
    rw [List.getD_eq_getElem?_getD, List.getD_eq_getElem?_getD, List.getElem?_append_left (by omega)]
end
section
variable {P : Program} {n : Nat} {σ : Nat → Value} {w : World} {ty t t' : TypeId} {x y : Operand}
/-- a difference, said otherwise -/
theorem subC {a b : Int} (c : Int) (hx : ev n σ x = .int .i64 a) (hy : ev n σ y = .int .i64 b) (h : a - b = c) (hr : I64 c) : Ex P (ev n σ) w (.binOp .sub t x y t') ty (.int .i64 c) := by
  subst h
  exact x_sub hx hy hr
/-- a number that is not negative -/
theorem iN {k : IntKind} {z : Int} (hx : ev n σ x = .int k z) (h : 0 ≤ z) : ev n σ x = .int k ((z.toNat : Nat) : Int) := by
  rw [Int.toNat_of_nonneg h]
  exact hx
theorem iC {k : IntKind} {z : Int} (j : Nat) (hx : ev n σ x = .int k z) (h : z = (j : Int)) : ev n σ x = .int k (j : Int) := by
  rw [← h]
  exact hx
/-- a truth value as a test -/
theorem mvB {b : Bool} (hx : ev n σ x = .bool b) : Ex P (ev n σ) w (.move x) ty (.bool (decide (b = true))) := x_move (by rw [hx]; cases b <;> rfl)
end
abbrev eB : En Bool := ⟨fun b => [.bool b], 1, fun _ => rfl, by decide, fun _ => rfl⟩
end Go.Eng
namespace Go.Eng
open Go.RowKit
section
variable {P : Program} {ops : Array Oper} {Q : Exit → Act → World → Prop} {S : World → Prop} {L qs : List Nat} {s : Sched} {n : Nat} {σ : Nat → Value} {ds : List Deferred} {w : World} {op : Op} {ty : TypeId} {pos : String} {af : Array Edge} {d : Nat} {v : Value} {rest : List Oper} {y : Option Nat}
theorem regionDP1 {id : Nat} {l : List Oper} {a : Act} {w : World} (hQ : ∀ c (a : Act) w d v, Q (.panic c) (a.put d v) w → Q (.panic c) a w) (L qs : List Nat) (s : Sched) (hm : P.follows .mixedOrders = true) (hfit : s.fits l.toArray L qs = true)
    (h : ∀ w1, Ext w w1 → w1.heap.size = w.heap.size → wpN P l.toArray Q (fun w' => Ext w1 w') L qs s a w1) : (Code.region id l.toArray true).wp P Q a w :=
  regionDP (fun w' => Ext w.drew w') L qs s hm hQ hfit (Below.refl _ _) (h w.drew (Below.refl _ _).drew rfl)
/-- a call that gives up -/
theorem d_cp {i : Nat} {K : Act → World → Prop} {f : FuncId} {args : Array Value} {R : Ending → World → Prop} {g : Option (Nat × Bool)} (hi : ops[i]? = some ⟨y, op, ty, pos, af, g⟩) (hg : Region.wanted ⟨y, op, ty, pos, af, g⟩ (yielded ops (F n σ ds).tmps) = true)
    (he : Ent P (ev n σ) w op ty f args) (hc : Calls P f args w R)
    (k : ∀ e w', R e w' → ∃ c, e = .panicked c ∧ Q (.panic c) (F n σ ds) w') : wpE P ops Q S L i K (F n σ ds) w := by
  refine wpE_some hi hg ?_
  unfold Oper.wp
  rw [F_eval, he]
  simp only [Oper.upon]
  refine hc.mono fun e w' hR => ?_
  obtain ⟨v, rfl, hk⟩ := k e w' hR
  exact hk
theorem st_cp {f : FuncId} {args : Array Value} {R : Ending → World → Prop} (he : Ent P (ev n σ) w op ty f args) (hc : Calls P f args w R)
    (k : ∀ e w', R e w' → ∃ c, e = .panicked c ∧ Q (.panic c) (F n σ ds) w') : WL P ops Q (⟨y, op, ty, pos, af, none⟩ :: rest) (F n σ ds) w := by
  refine WL.mono rfl ?_
  unfold Oper.wp
  rw [F_eval, he]
  simp only [Oper.upon]
  refine hc.mono fun e w' hR => ?_
  obtain ⟨v, rfl, hk⟩ := k e w' hR
  exact hk
/-- .. of a function by its number -/
theorem clp {f : FuncId} {args : Array Operand} {ats : Array TypeId} {vs : List Value} {R : Ending → World → Prop} (c : CF P f) (hc : Calls P f vs.toArray w R) (hv : args.toList.map (ev n σ) = vs)
    (k : ∀ e w', R e w' → ∃ c, e = .panicked c ∧ Q (.panic c) (F n σ ds) w') : WL P ops Q (⟨y, .call { callee := .value (.func f), args := args, argTypes := ats }, ty, pos, af, none⟩ :: rest) (F n σ ds) w :=
  st_cp (t_call vs c rfl (by simpa using hv)) hc k
/-- a sequence of which the first part gives up, or goes on -/
theorem srP {id : Nat} {l : List Oper} {dr : Bool} {y : Code} {a : Act} (h : (Code.region id l.toArray dr).wp P (Exit.then (y.wp P Q) Q) a w) : (Code.seq (Code.region id l.toArray dr) y).wp P Q a w := wp_seq h
end
theorem init_eq {n : Nat} {args : List Value} (hl : args.length ≤ n) : args.toArray ++ Array.replicate (n - args.toArray.size) undef = mk n (init args) := by
  apply Array.ext_getElem?
  intro t
  rw [mk_get, Array.getElem?_append]
  simp only [List.size_toArray, List.getElem?_toArray, init, List.getD_eq_getElem?_getD]
  by_cases h1 : t < args.length
  · simp [h1, Nat.lt_of_lt_of_le h1 hl]
  · simp only [h1, if_false, Array.getElem?_replicate]
    by_cases h2 : t < n
    · have : t - args.length < n - args.length := by omega
      simp [h2, this, List.getElem?_eq_none (Nat.le_of_not_lt h1)]
    · have : ¬ t - args.length < n - args.length := by omega
      simp [h2, this]
/-- what recover finds, and what it leaves -/
inductive Rec : FrameMode → Value → FrameMode → Prop
  | idle : Rec .returning .nilIface .returning
  | one (t : TypeId) (v : Value) (r : List PanicEntry) : Rec (.panicking ({ v := .iface t v, recovered := false } :: r)) (.iface t v) (.panicking ({ v := .iface t v, recovered := true } :: r))
section
variable {P : Program} {ops : Array Oper} {Q : Exit → Act → List Frame → World → Prop} {rest : List Nat} {a : Act} {cs cs' : List Frame} {w : World} {i : Nat} {o : Oper} {v : Value}
theorem opsS_none (hi : ops[i]? = some o) (hw : Region.wanted o (yielded ops a.tmps) = true) (he : (execOp a.eval o).run P w = .ok .recover w) (hr : recoverD cs = none) (k : wpOpsS P ops Q rest (a.put o.dst .nilIface) cs w) : wpOpsS P ops Q (i :: rest) a cs w := by
  simp only [wpOpsS, hi, hw, if_true, he, hr]; exact k
theorem opsS_some (hi : ops[i]? = some o) (hw : Region.wanted o (yielded ops a.tmps) = true) (he : (execOp a.eval o).run P w = .ok .recover w) (hr : recoverD cs = some (v, cs')) (k : wpOpsS P ops Q rest (a.put o.dst v) cs' w) : wpOpsS P ops Q (i :: rest) a cs w := by
  simp only [wpOpsS, hi, hw, if_true, he, hr]; exact k
theorem opsS_val (hi : ops[i]? = some o) (hw : Region.wanted o (yielded ops a.tmps) = true) (he : (execOp a.eval o).run P w = .ok (.value v) w) (k : wpOpsS P ops Q rest (a.put o.dst v) cs w) : wpOpsS P ops Q (i :: rest) a cs w := by
  simp only [wpOpsS, hi, hw, if_true, he]; exact k
end
/-- a function that is put off, and recovers ahead of all -/
theorem enterR {P : Program} {f : FuncId} {fn : Func} {c : Code} {args : List Value} {u u' : FrameMode} {w : World} {R : Ending → FrameMode → World → Prop} {n id d1 d2 : Nat} {ty1 ty2 : TypeId} {p1 p2 : String} {af : Array Edge} {x : Value} (hx : Rec u x u')
    (hf : P.funcs[f]? = some fn) (hb : fn.body = some (.seq (.region id #[⟨some d1, .call { callee := .builtin .recover, args := #[], argTypes := #[] }, ty1, p1, #[], none⟩, ⟨some d2, .assign (.tmp d1), ty2, p2, af, none⟩] false) c)) (hn : fn.ntmps = n) (hl : Nat.ble args.length n = true) (hd : Nat.blt d1 n = true)
    (h : c.wp P (bodyPost P fn fun e w' => R e u' w') (F n (upd (upd (init args) d1 x) d2 x) []) w) : CallsD P f args.toArray u w R := by
  refine callsD_of_wpS hf hb fun c₀ cs hu => ?_
  subst hn
  rw [init_eq (Nat.le_of_ble_eq_true hl)]
  apply wpS_seq
  apply wpS_region
  have hd : d1 < fn.ntmps := by rwa [Nat.blt_eq] at hd
  have key : ∀ (c1 : Frame), c1 = { c₀ with mode := u' } → c.wpS P (bodyPostS P fn c₀ cs R) (F fn.ntmps (upd (upd (init args) d1 x) d2 x) []) (c1 :: cs) w := fun c1 h1 => by
    subst h1
    refine wpS_of_wp (wp_mono h fun e a w' q => ?_)
    cases e with
    | normal => obtain ⟨q1, v, q2, q3⟩ := q; exact ⟨q1, u', rfl, v, q2, q3⟩
    | ret => obtain ⟨q1, v, q2, q3⟩ := q; exact ⟨q1, u', rfl, v, q2, q3⟩
    | panic ch => obtain ⟨q1, q2⟩ := q; exact ⟨q1, u', rfl, q2⟩
    | outgrown => exact ⟨u', q⟩
    | exit id => exact q.elim
    | goto l => exact q.elim
  have hr : (execOp (F fn.ntmps (init args) []).eval ⟨some d1, .call { callee := .builtin .recover, args := #[], argTypes := #[] }, ty1, p1, #[], none⟩).run P w = .ok .recover w := rfl
  have e2 : ∀ x, (execOp (F fn.ntmps (upd (init args) d1 x) []).eval ⟨some d2, .assign (.tmp d1), ty2, p2, af, none⟩).run P w = .ok (.value x) w := fun x => by
    have h1 : Nat.blt d1 fn.ntmps = true := by rw [Nat.blt_eq]; exact hd
    have : ev fn.ntmps (upd (init args) d1 x) (.tmp d1) = x := by simp [ev, upd, h1]
    simp [execOp, F_eval, this]
  show wpOpsS P _ _ [0, 1] (F fn.ntmps (init args) []) (c₀ :: cs) w
  cases hx with
  | idle =>
    refine opsS_none rfl rfl hr (by simp [recoverD, hu]) ?_
    show wpOpsS P _ _ [1] ((F fn.ntmps (init args) []).put (some d1) _) _ _
    rw [F_put]
    refine opsS_val rfl rfl (e2 _) ?_
    show wpOpsS P _ _ [] ((F fn.ntmps (upd (init args) d1 _) []).put (some d2) _) _ _
    rw [F_put]
    exact key _ (by cases c₀; cases hu; rfl)
  | one t v r =>
    refine opsS_some rfl rfl hr (by simp only [recoverD, hu]; rfl) ?_
    show wpOpsS P _ _ [1] ((F fn.ntmps (init args) []).put (some d1) _) _ _
    rw [F_put]
    refine opsS_val rfl rfl (e2 _) ?_
    show wpOpsS P _ _ [] ((F fn.ntmps (upd (init args) d1 _) []).put (some d2) _) _ _
    rw [F_put]
    exact key _ rfl
theorem enterD {P : Program} {f : FuncId} {fn : Func} {c : Code} {args : List Value} {w : World} {R : Ending → World → Prop}
    (hf : P.funcs[f]? = some fn) (hb : fn.body = some c) (n : Nat) (hn : fn.ntmps = n) (hl0 : Nat.ble args.length n = true)
    (h : c.wp P (bodyPostD P fn R) (F n (init args) []) w) : Calls P f args.toArray w R := by
  refine calls_of_wp_defers hf hb ?_
  subst hn
  rw [init_eq (Nat.le_of_ble_eq_true hl0)]
  exact h
section
variable {P : Program} {ops : Array Oper} {Q : Exit → Act → World → Prop} {n : Nat} {σ : Nat → Value} {ds : List Deferred} {w : World} {op : Op} {ty : TypeId} {pos : String} {af : Array Edge} {rest : List Oper} {dd : Deferred}
/-- something is put off -/
theorem st_d (h : (execOp (ev n σ) ⟨none, op, ty, pos, af, none⟩).run P w = .ok (.defer dd) w) (k : WL P ops Q rest (F n σ (dd :: ds)) w) : WL P ops Q (⟨none, op, ty, pos, af, none⟩ :: rest) (F n σ ds) w := by
  refine WL.mono rfl ?_
  unfold Oper.wp
  rw [F_eval, h]
  simp only [Oper.upon]
  exact k
end
section
variable {P : Program} {ops : Array Oper} {Q : Exit → Act → List Frame → World → Prop} {rest : List Nat} {a : Act} {cs cs' : List Frame} {w : World} {i m : Nat} {o : Oper} {v : Value}
theorem opsSI_none (hi : ops[i]? = some o) (hw : Region.wanted o (yielded ops a.tmps) = true) (he : (execOp a.eval o).run P w = .ok .recover w) (hr : recoverD cs = none) (k : wpOpsSIn Fence.wide m P ops Q rest (a.put o.dst .nilIface) cs w) : wpOpsSIn Fence.wide m P ops Q (i :: rest) a cs w := by
  simp only [wpOpsSIn, hi, hw, if_true, he, hr]; exact ⟨fun _ _ => trivial, k⟩
theorem opsSI_val (hi : ops[i]? = some o) (hw : Region.wanted o (yielded ops a.tmps) = true) (he : (execOp a.eval o).run P w = .ok (.value v) w) (k : wpOpsSIn Fence.wide m P ops Q rest (a.put o.dst v) cs w) : wpOpsSIn Fence.wide m P ops Q (i :: rest) a cs w := by
  simp only [wpOpsSIn, hi, hw, if_true, he]; exact ⟨fun _ _ => trivial, k⟩
end
/-- a function that is put off, and would recover, where nothing panics -/
theorem enterRI {P : Program} {f : FuncId} {fn : Func} {c : Code} {args : List Value} {w : World} {R : Ending → World → Prop} {n m id d1 d2 : Nat} {ty1 ty2 : TypeId} {p1 p2 : String} {af : Array Edge}
    (hf : P.funcs[f]? = some fn) (hb : fn.body = some (.seq (.region id #[⟨some d1, .call { callee := .builtin .recover, args := #[], argTypes := #[] }, ty1, p1, #[], none⟩, ⟨some d2, .assign (.tmp d1), ty2, p2, af, none⟩] false) c)) (hn : fn.ntmps = n) (hl : Nat.ble args.length n = true) (hd : Nat.blt d1 n = true)
    (h : c.wp P (bodyPost P fn R) (F n (upd (upd (init args) d1 .nilIface) d2 .nilIface) []) w) : CallsDIn Fence.wide m P f args.toArray .returning w fun e u' w' => u' = .returning ∧ R e w' := by
  refine callsDIn_of_wpSIn hf hb trivial fun c₀ cs hu => ?_
  subst hn
  rw [init_eq (Nat.le_of_ble_eq_true hl)]
  apply wpSIn_seq
  apply wpSIn_region
  have hd : d1 < fn.ntmps := by rwa [Nat.blt_eq] at hd
  have hr : (execOp (F fn.ntmps (init args) []).eval ⟨some d1, .call { callee := .builtin .recover, args := #[], argTypes := #[] }, ty1, p1, #[], none⟩).run P w = .ok .recover w := rfl
  have e2 : ∀ x, (execOp (F fn.ntmps (upd (init args) d1 x) []).eval ⟨some d2, .assign (.tmp d1), ty2, p2, af, none⟩).run P w = .ok (.value x) w := fun x => by
    have h1 : Nat.blt d1 fn.ntmps = true := by rw [Nat.blt_eq]; exact hd
    have : ev fn.ntmps (upd (init args) d1 x) (.tmp d1) = x := by simp [ev, upd, h1]
    simp [execOp, F_eval, this]
  show wpOpsSIn Fence.wide m P _ _ [0, 1] (F fn.ntmps (init args) []) (c₀ :: cs) w
  refine opsSI_none rfl rfl hr (by simp [recoverD, hu]) ?_
  show wpOpsSIn Fence.wide m P _ _ [1] ((F fn.ntmps (init args) []).put (some d1) _) _ _
  rw [F_put]
  refine opsSI_val rfl rfl (e2 _) ?_
  show wpOpsSIn Fence.wide m P _ _ [] ((F fn.ntmps (upd (init args) d1 _) []).put (some d2) _) _ _
  rw [F_put]
  show Code.wpSIn Fence.wide m P c _ _ (c₀ :: cs) w
  have hc : c₀ :: cs = { c₀ with mode := .returning } :: cs := by cases c₀; cases hu; rfl
  refine wpSIn_of_wpIn rfl (wpIn_wide.2 (wp_mono h fun e a w' q => ?_))
  cases e with
  | normal => obtain ⟨q1, v, q2, q3⟩ := q; exact ⟨q1, .returning, hc, v, q2, rfl, q3⟩
  | ret => obtain ⟨q1, v, q2, q3⟩ := q; exact ⟨q1, .returning, hc, v, q2, rfl, q3⟩
  | panic ch => obtain ⟨q1, q2⟩ := q; exact ⟨q1, .returning, hc, rfl, q2⟩
  | outgrown => exact ⟨.returning, rfl, q⟩
  | exit id => exact q.elim
  | goto l => exact q.elim
end Go.Eng
namespace Go.Eng
open Go.RowKit
/-- bytes, as numbers -/
abbrev eY : En Nat := ⟨fun b => [.int .u8 ((b : Nat) : Int)], 1, fun _ => rfl, by decide, fun _ => rfl⟩
/-- bytes as a text -/
def sN (l : List Nat) : ByteArray := strOfNums (l.map fun c : Nat => (c : Int))
theorem sN_size (l : List Nat) : (sN l).size = l.length := by unfold sN; rw [strOfNums_size, List.length_map]
theorem flat_eY : ∀ l : List Nat, flat eY.enc l = l.map fun c : Nat => Value.int .u8 (c : Int)
  | [] => rfl
  | _ :: l => congrArg (_ :: ·) (flat_eY l)
section
variable {P : Program} {n : Nat} {σ : Nat → Value} {w w' : World} {ty t t' : TypeId} {x y : Operand} {a : Option Addr} {m c : Nat} {xs : List Nat}
theorem x_toS {e : TypeId} (hs : P.underlying t = some (.slice e)) (he : P.underlying e = some (.int .u8)) (hd : P.underlying t' = some .string) (hx : ev n σ x = .slice a m c) (h : Srm eY w.heap a m c xs) : Ex P (ev n σ) w (.convert t t' x) ty (.string (sN xs)) := by
  intro _ _ _ _
  have hl := h.len
  obtain ⟨_, a', c', hv, _, _, h2⟩ := h
  injection hv with e1 _ e3
  subst e1 e3
  have key : (convert t t' (.slice a m c)).run P w = .ok (.string (sN xs)) w := by
    rcases Nat.eq_zero_or_pos m with rfl | hm
    · obtain rfl : xs = [] := List.eq_nil_of_length_eq_zero hl
      cases a with
      | none => exact run_convert_bytes_nil w t e hs he 0 c t' hd
      | some p =>
        obtain ⟨b, o, sp⟩ := p
        have := run_convert_bytes_string (P := P) w t t' e (some ⟨b, o, sp⟩) 0 c hs he hd
        rw [this]
        simp [Conv.bytesToString, loadCells, loadCellsFrom]
        rfl
    · rcases h2 with h2 | ⟨b, o, rfl, hC⟩
      · omega
      · refine run_convert_bytes_arg (P := P) w t e hs he b o m c (xs.map fun c : Nat => (c : Int)) (by rw [List.length_map]; exact hl) (fun i hi => ?_) t' hd
        rw [flat_eY] at hC
        have := hC.cell i (by rw [List.length_map]; omega)
        rw [this]
        simp [List.getD, show i < xs.length by omega]
  simp [execOp, hx, key]
theorem x_xor32 {a b : Nat} (hx : ev n σ x = .int .u32 (a : Int)) (hy : ev n σ y = .int .u32 (b : Int)) (ha : a < 4294967296) (hb : b < 4294967296) : Ex P (ev n σ) w (.binOp .xor t x y t') ty (.int .u32 ((a ^^^ b : Nat) : Int)) := by
  intro _ _ _ _
  have h : IntKind.u32.wrap (((BitVec.ofInt IntKind.u32.bits (a : Int)) ^^^ (BitVec.ofInt IntKind.u32.bits (b : Int))).toNat : Int) = ((a ^^^ b : Nat) : Int) := by
    have e : IntKind.u32.bits = 32 := rfl
    rw [BitVec.toNat_xor, IntKind.wrap_u32']
    show ((((BitVec.ofInt 32 (a : Int)).toNat ^^^ (BitVec.ofInt 32 (b : Int)).toNat : Nat) : Int) % 4294967296) = _
    rw [ofInt_u32 a ha, ofInt_u32 b hb]
    have : a ^^^ b < 2 ^ 32 := Nat.xor_lt_two_pow ha hb
    omega
  simp [execOp, hx, hy, eqGuard, binOp, Op.intBits]
  simpa using h
theorem x_mul32 {a b : Nat} (hx : ev n σ x = .int .u32 (a : Int)) (hy : ev n σ y = .int .u32 (b : Int)) : Ex P (ev n σ) w (.binOp .mul t x y t') ty (.int .u32 ((a * b % 4294967296 : Nat) : Int)) := by
  intro _ _ _ _
  have h : IntKind.u32.wrap ((a : Int) * (b : Int)) = ((a * b % 4294967296 : Nat) : Int) := by rw [IntKind.wrap_u32']; omega
  simp [execOp, hx, hy, eqGuard, binOp, Op.intArith, h]
theorem x_shr32 {a s : Nat} {k : IntKind} (hx : ev n σ x = .int .u32 (a : Int)) (hy : ev n σ y = .int k (s : Int)) (hs : s < 32) : Ex P (ev n σ) w (.binOp .shr t x y t') ty (.int .u32 ((a / 2 ^ s : Nat) : Int)) := by
  intro _ _ _ _
  have h1 : ¬ ((s : Int) < 0) := by omega
  have h2 : min (s : Int).toNat IntKind.u32.bits = s := by
    have : IntKind.u32.bits = 32 := rfl
    rw [this, Int.toNat_natCast]; omega
  have h3 : Int.fdiv (a : Int) (2 ^ s) = ((a / 2 ^ s : Nat) : Int) := by
    rw [Int.fdiv_eq_ediv_of_nonneg _ (by exact Int.pow_nonneg (by omega))]
    simp
  have key : (Op.shift .shr .u32 (a : Int) k (s : Int)).run P w = .ok (.int .u32 ((a / 2 ^ s : Nat) : Int)) w := by
    unfold Op.shift
    rw [if_neg h1]
    simp only [h2, h3]
    rfl
  simp [execOp, hx, hy, eqGuard, binOp, key]
theorem x_not32 {a : Nat} (hx : ev n σ x = .int .u32 (a : Int)) (ha : a < 4294967296) : Ex P (ev n σ) w (.unOp .xor t x) ty (.int .u32 ((4294967295 - a : Nat) : Int)) := by
  intro _ _ _ _
  have h : IntKind.u32.wrap (((BitVec.ofInt IntKind.u32.bits 4294967295) ^^^ (BitVec.ofInt IntKind.u32.bits (a : Int))).toNat : Int) = ((4294967295 - a : Nat) : Int) := by
    rw [IntKind.wrap_u32']
    show (((BitVec.ofInt 32 4294967295 ^^^ BitVec.ofInt 32 (a : Int)).toNat : Int) % 4294967296) = _
    rw [show BitVec.ofInt 32 4294967295 = BitVec.allOnes 32 by decide, BitVec.allOnes_xor, BitVec.toNat_not, ofInt_u32 a ha]
    omega
  have key : (Op.unary UnOp.xor (.int .u32 (a : Int))).run P w = .ok (.int .u32 ((4294967295 - a : Nat) : Int)) w := by
    show (Op.intBits .xor .u32 4294967295 (a : Int)).run P w = _
    simp only [Op.intBits]
    show Result.ok (Value.int .u32 _) w = _
    rw [h]
  simp [execOp, hx, key]
theorem x_conv8 {a : Nat} {k : IntKind} {src : TypeDesc} (hT : P.underlying t' = some (.int .u8)) (hS : P.underlying t = some src) (hx : ev n σ x = .int k (a : Int)) : Ex P (ev n σ) w (.convert t t' x) ty (.int .u8 ((a % 256 : Nat) : Int)) := by
  intro _ _ _ _
  have : IntKind.u8.wrap (a : Int) = ((a % 256 : Nat) : Int) := by simp [IntKind.wrap, IntKind.bits, IntKind.signed]
  simp [execOp, hx, convert, run_underlying hT, run_underlying hS, Conv.intToInt, this]
theorem x_conv32 {a : Nat} {k : IntKind} {src : TypeDesc} (hT : P.underlying t' = some (.int .u32)) (hS : P.underlying t = some src) (hx : ev n σ x = .int k (a : Int)) (ha : a < 4294967296) : Ex P (ev n σ) w (.convert t t' x) ty (.int .u32 (a : Int)) := by
  intro _ _ _ _
  have : IntKind.u32.wrap (a : Int) = (a : Int) := by rw [IntKind.wrap_u32']; omega
  simp [execOp, hx, convert, run_underlying hT, run_underlying hS, Conv.intToInt, this]
theorem x_sub8 {a b : Nat} (hx : ev n σ x = .int .u8 (a : Int)) (hy : ev n σ y = .int .u8 (b : Int)) (h : b ≤ a) (ha : a < 256) : Ex P (ev n σ) w (.binOp .sub t x y t') ty (.int .u8 ((a - b : Nat) : Int)) := by
  intro _ _ _ _
  have : IntKind.u8.wrap ((a : Int) - (b : Int)) = ((a - b : Nat) : Int) := by simp [IntKind.wrap, IntKind.bits, IntKind.signed]; omega
  simp [execOp, hx, hy, eqGuard, binOp, Op.intArith, this]
end
end Go.Eng
namespace Go.Eng
open Go.RowKit
section
variable {α : Type} {P : Program} {n : Nat} {σ : Nat → Value} {w w' w0 : World} {ty t : TypeId} {x y : Operand} {S : Nat → Prop} {L : List Ch} {K : Value → World → Prop} {E : En α} {e k0 bb c : Nat} {z : Value}
theorem e_makeRoom {kl kc : IntKind} (hS : SL P t e k0 bb z) (hx : ev n σ x = .int kl ((0 : Nat) : Int)) (hy : ev n σ y = .int kc (c : Int)) (hbytes : bb * c ≤ 281474976710656) (h63 : c ≤ 9223372036854775807)
    (kk : ∀ w', Al w w' (.cells ((List.replicate c z.cells.toList).flatten).toArray e) → K (.slice (some ⟨w.heap.size, 0, none⟩) 0 c) w') : Eff P (ev n σ) w (.makeSlice t x y) ty K := by
  obtain ⟨i, hi, hk, hbb', hz⟩ := hS.inf
  have h := run_make (P := P) w t e i z hS.und hi hz kl kc ((0 : Nat) : Int) (c : Int) (by omega) (by omega) (by rw [hbb', ← Int.natCast_mul]; omega) (by omega)
  rw [hk] at h
  simp only [Int.toNat_natCast] at h
  have e1 : madeCells z.cells (c * k0) = ((List.replicate c z.cells.toList).flatten).toArray := by rw [← madeCells_flat z.cells c k0 hS.zs hS.pos]
  rw [e1] at h
  refine ⟨_, _, kk _ ⟨rfl⟩, .inl fun _ _ _ _ => ?_⟩
  simp only [execOp, hx, hy]
  rw [Sem.run_bind, h]
  rfl
theorem EmkC {kl kc : IntKind} (H : Hp S w0 w L) (hS : SL P t e k0 bb z) (u : α) (hx : ev n σ x = .int kl ((0 : Nat) : Int)) (hy : ev n σ y = .int kc (c : Int)) (hbytes : bb * c ≤ 281474976710656) (h63 : c ≤ 9223372036854775807) (hu : z.cells.toList = E.enc u)
    (k : ∀ b w', Hp S w0 w' (cQ e E (some ⟨b, 0, none⟩) 0 c [] :: L) → K (.slice (some ⟨b, 0, none⟩) 0 c) w') : Eff P (ev n σ) w (.makeSlice t x y) ty K := by
  refine e_makeRoom hS hx hy hbytes h63 fun w' hA => k _ w' ?_
  have h1 := (H.al hA).toQ E 0 (List.replicate c u) rfl (by rw [hu, flat_replicate]) (by rw [List.length_replicate]; exact h63)
  rw [List.length_replicate] at h1
  refine h1.conv 0 rfl (fun hs => ?_) fun _ hb => hb
  have h2 := OwnQ.take hs 0 (Nat.zero_le _)
  rw [Nat.zero_mul, List.take_zero] at h2
  exact h2
end
end Go.Eng
