/- The document's parts; rows that are read, spoilt, kept. Plain. -/
import Derived.Test.YtknfjgbipfpnjaaGLv
import Derived.Test.YtknfjgbipfpnjaaGBr
import Derived.ArgAppend
namespace Go.Proofs.Ytknfjgbipfpnjaa
open Go.RowKit Go.Eng Go.OrdPure Go.Knot
theorem pl_neg {xs : List ByteArray} {z : ByteArray} : pl xs z < 0 ↔ z ∉ xs := by
  constructor
  · intro h hm
    rw [pl_ix hm] at h; omega
  · intro h
    rw [pl_no fun j hj e => h (by rw [← bytes_ext e]; exact el_memS hj)]; decide
noncomputable def filt (es : List Edge) (s : ByteArray) (L : List ByteArray) : List ByteArray := by classical exact L.filter fun z => decide (Rch es [z] s)
theorem filt_yes {es : List Edge} {s : ByteArray} {R : List ByteArray} {k : Nat} (h : k < R.length) (hr : Rch es [el R k] s) : filt es s (R.take (k + 1)) = filt es s (R.take k) ++ [el R k] := by
  unfold filt; rw [take_succ_el h, List.filter_append]; simp [hr]
theorem filt_no {es : List Edge} {s : ByteArray} {R : List ByteArray} {k : Nat} (h : k < R.length) (hr : ¬ Rch es [el R k] s) : filt es s (R.take (k + 1)) = filt es s (R.take k) := by
  unfold filt; rw [take_succ_el h, List.filter_append]; simp [hr]
theorem filt_mem {es : List Edge} {s z : ByteArray} {L : List ByteArray} : z ∈ filt es s L ↔ z ∈ L ∧ Rch es [z] s := by unfold filt; simp
theorem filt_SX {es : List Edge} {s : ByteArray} {L : List ByteArray} (h : SX L) : SX (filt es s L) := by unfold filt; exact List.Pairwise.filter _ h
theorem filt_len (es : List Edge) (s : ByteArray) (L : List ByteArray) : (filt es s L).length ≤ L.length := by unfold filt; exact List.length_filter_le _ _
def wo (L p : List ByteArray) : List ByteArray := L.filter fun z => !(inB p z)
theorem wo_mem {L p : List ByteArray} {z : ByteArray} : z ∈ wo L p ↔ z ∈ L ∧ z ∉ p := by
  unfold wo; rw [List.mem_filter]
  refine and_congr_right fun _ => ?_
  rw [← inB_iff]; cases inB p z <;> simp
theorem wo_SX {L p : List ByteArray} (h : SX L) : SX (wo L p) := by unfold wo; exact List.Pairwise.filter _ h
theorem wo_yes {L p : List ByteArray} {k : Nat} (h : k < L.length) (hn : el L k ∉ p) : wo (L.take (k + 1)) p = wo (L.take k) p ++ [el L k] := by
  unfold wo; rw [take_succ_el h, List.filter_append]
  have : inB p (el L k) = false := by cases hh : inB p (el L k); rfl; exact absurd (inB_iff.1 hh) hn
  simp [this]
theorem wo_no {L p : List ByteArray} {k : Nat} (h : k < L.length) (hm : el L k ∈ p) : wo (L.take (k + 1)) p = wo (L.take k) p := by
  unfold wo; rw [take_succ_el h, List.filter_append]; simp [inB_iff.2 hm]
theorem wo_len (L p : List ByteArray) : (wo L p).length ≤ L.length := by unfold wo; exact List.length_filter_le _ _
theorem Gre.SXl {es : List Edge} {left : List ByteArray} {P : List (List ByteArray)} (h : Gre es left P) : SX left := by
  cases h with
  | nil => exact List.Pairwise.nil
  | step h1 => exact h1
theorem Gre.free_lt {es : List Edge} {left : List ByteArray} {P : List (List ByteArray)} (h : Gre es left P) (h0 : 0 < left.length) {i : Nat} (hno : ∀ j, j < i → ¬ FreeIn es left (el left j)) : i < left.length := by
  cases h with
  | nil => simp at h0
  | step _ h2 h3 =>
    obtain ⟨j, hj, rfl⟩ := List.getElem_of_mem h2
    rcases Nat.lt_or_ge i left.length with q | q
    · exact q
    · exact absurd (by rw [el_eq hj]; exact h3) (hno j (by omega))
theorem SX.lt_el {L : List ByteArray} (h : SX L) {i j : Nat} (hij : i < j) (hj : j < L.length) : Op.bytesLess (el L i).toList (el L j).toList = true := by
  rw [el_eq (by omega), el_eq hj]; exact List.pairwise_iff_getElem.1 h i j (by omega) hj hij
theorem fr_free {es : List Edge} {left R : List ByteArray} {s : ByteArray} (hR : IsR es [s] R) : (∀ j, j < R.length → (Rch es [el R j] s ∨ el R j ∉ left)) ↔ FreeIn es left s := by
  constructor
  · intro h z hz
    obtain ⟨j, hj, rfl⟩ := List.getElem_of_mem ((hR.2 z).2 hz)
    have := h j hj
    rw [el_eq hj] at this
    exact this.imp_left fun q => ⟨hz, q⟩
  · intro h j hj
    exact (h _ ((hR.2 _).1 (el_memS hj))).imp_left fun q => q.2
theorem filt_mut {es : List Edge} {R : List ByteArray} {s z : ByteArray} (hR : IsR es [s] R) : z ∈ filt es s R ↔ Mut es s z := by
  rw [filt_mem, hR.2]; exact Iff.rfl
theorem Gre.scan {es : List Edge} {left pt : List ByteArray} {P : List (List ByteArray)} {i : Nat} (h : Gre es left P) (hi : i < left.length) (hno : ∀ j, j < i → ¬ FreeIn es left (el left j)) (hf : FreeIn es left (el left i)) (hp : SX pt) (hpm : ∀ z, z ∈ pt ↔ Mut es (el left i) z) :
    ∃ Q, P = pt :: Q ∧ Gre es (wo left pt) Q ∧ (wo left pt).length < left.length := by
  cases h with
  | nil => simp at hi
  | @step _ left' p s Q h1 h2 h3 h4 h5 h6 h7 h8 h9 =>
    obtain ⟨j, hj, hs⟩ := List.getElem_of_mem h2
    have hsj : s = el left j := by rw [el_eq hj]; exact hs.symm
    have hji : j = i := by
      rcases Nat.lt_trichotomy j i with q | q | q
      · exact absurd (hsj ▸ h3) (hno j q)
      · exact q
      · exact absurd hf (h4 _ (el_memS hi) (by rw [hsj]; exact h1.lt_el q hj))
    subst hji
    rw [hsj] at h6
    have ep : p = pt := SX.ext h5 hp fun z => (h6 z).trans (hpm z).symm
    subst ep
    have el' : left' = wo left p := SX.ext h7 (wo_SX h1) fun z => (h8 z).trans wo_mem.symm
    rw [← el']
    refine ⟨Q, rfl, h9, ?_⟩
    have hsp : el left j ∈ p := (h6 _).2 ⟨Rch.refl' _ _, Rch.refl' _ _⟩
    have := nodup_le (K := el left j :: left') (L := left) (List.nodup_cons.2 ⟨fun hm => ((h8 _).1 hm).2 hsp, h7.nodup⟩) fun z hz => by
      rcases List.mem_cons.1 hz with rfl | hz
      · exact el_memS hi
      · exact ((h8 _).1 hz).1
    simp only [List.length_cons] at this; omega
theorem Gre.nil_of {es : List Edge} {P : List (List ByteArray)} (h : Gre es [] P) : P = [] := by
  generalize hl : ([] : List ByteArray) = l at h
  cases h with
  | nil => rfl
  | step _ h2 => subst hl; simp at h2
end Go.Proofs.Ytknfjgbipfpnjaa
namespace Go.Eng
open Go.RowKit
/-- appended to a slice without room behind: always new -/
theorem e_appendC {P : Program} {n : Nat} {σ : Nat → Value} {w : World} {ty t : TypeId} {K : Value → World → Prop} {x s : Operand} {e k bb m mx b : Nat} {z xv : Value} {cs news : List Value} (hS : SL P t e k bb z) (hs : ev n σ s = .slice (some ⟨b, 0, none⟩) m m) (hx : ev n σ x = xv) (hl : cs.length = m * k) (hC : Cells w.heap b 0 cs) (hsrc : Src w.heap xv mx k news) (hmx : 0 < mx)
    (hbytes : (m + mx) * bb ≤ 140737488355328) (hbb : 0 < bb)
    (kk : ∀ v' w', Own w'.heap w.heap.size e k v' (m + mx) (cs ++ news) → Ext w w' → K v' w') :
    Eff P (ev n σ) w (.call { callee := .builtin .append, args := #[s, x], argTypes := #[t, t] }) ty K := by
  obtain ⟨i, hi, hk, hbb', hz⟩ := hS.inf
  obtain ⟨hln, a, c, rfl, hmc, hcm, hsrc⟩ := hsrc
  have h63 : m + mx ≤ maxLen := by
    have : (m + mx) * 1 ≤ (m + mx) * bb := Nat.mul_le_mul_left _ hbb
    unfold maxLen; omega
  rcases hsrc with h0 | ⟨b', o, rfl, hC'⟩
  · omega
  · have hnews : ∀ (j : Nat) (u : Value), news[j]? = some u → w.cell? ((⟨b', o, none⟩ : Addr).add j) = some u := by
      intro j u hu
      have hj : j < news.length := by
        rcases Nat.lt_or_ge j news.length with h' | h'
        · exact h'
        · rw [List.getElem?_eq_none h'] at hu; cases hu
      rw [add_addr, hC'.cell j hj]
      rw [List.getElem?_eq_getElem hj] at hu
      exact hu
    have holds : ∀ (j : Nat) (u : Value), cs[j]? = some u → w.cell? ((⟨b, 0, none⟩ : Addr).add j) = some u := by
      intro j u hu
      have hj : j < cs.length := by
        rcases Nat.lt_or_ge j cs.length with h' | h'
        · exact h'
        · rw [List.getElem?_eq_none h'] at hu; cases hu
      rw [add_addr, hC.cell j hj]
      rw [List.getElem?_eq_getElem hj] at hu
      exact hu
    obtain ⟨v', w', hr, ho, hg⟩ := run_append_arg_grows (P := P) w t ty e i z k bb hS.und hi hz hk hbb' hS.zs hS.pos ⟨b, 0, none⟩ m m cs hl holds ⟨b', o, none⟩ mx c news hln hnews (by omega) h63 hbytes
    refine ⟨v', w', kk v' w' (Own.of_row ho) (grown_ext hg), .inl fun _ _ _ _ => ?_⟩
    simp [execOp, resolve, invoke, builtin, hs, hx, hr]
end Go.Eng
namespace Go.Proofs.Ytknfjgbipfpnjaa
open Go.RowKit Go.Eng Go.OrdPure Go.Knot
/-- rows, each a list of the call's own: read only -/
structure RowsO (h : Array Obj) (lo : Nat) (us : List Value) (P : List (List ByteArray)) : Prop where
  len : us.length = P.length
  own : ∀ i, i < P.length → Own h lo 9 1 (el us i) (el P i).length (flat enS (el P i))
section
variable {w w' : World} {lo K : Nat} {us : List Value} {P : List (List ByteArray)} {row : Option Nat} {S : Nat → Prop}
theorem RowsO.nil (h : Array Obj) (lo : Nat) : RowsO h lo [] [] := ⟨rfl, fun i hi => absurd hi (by simp)⟩
theorem RowsO.ext (h : RowsO w.heap lo us P) (hx : Ext w w') : RowsO w'.heap lo us P := ⟨h.len, fun i hi => (h.own i hi).ext hx⟩
theorem RowsO.gk (h : RowsO w.heap lo us P) (hg : w.grownBy w' row) (hr : RowK w.heap row K) (hK : 9 + 3 ≠ K) : RowsO w'.heap lo us P := ⟨h.len, fun i hi => (h.own i hi).gk hg hr hK⟩
theorem RowsO.mod (h : RowsO w.heap lo us P) (hM : Mod S w w') (hS : ∀ b, lo ≤ b → ¬ S b) : RowsO w'.heap lo us P := ⟨h.len, fun i hi => (h.own i hi).mod hM fun b hb => hS b ((h.own i hi).lt hb).1⟩
theorem RowsO.weak {lo' : Nat} (h : RowsO w.heap lo us P) (hl : lo' ≤ lo) : RowsO w.heap lo' us P := ⟨h.len, fun i hi => (h.own i hi).weak hl⟩
theorem RowsO.snoc {h : Array Obj} {v : Value} {p : List ByteArray} (hr : RowsO h lo us P) (ho : Own h lo 9 1 v p.length (flat enS p)) : RowsO h lo (us ++ [v]) (P ++ [p]) := by
  refine ⟨by simp [hr.len], fun i hi => ?_⟩
  rw [List.length_append, List.length_singleton] at hi
  by_cases e : i < P.length
  · rw [el_append_left e, el_append_left (by rw [hr.len]; exact e)]; exact hr.own i e
  · have ei : i = P.length := by omega
    subst ei
    rw [el_mark, ← hr.len, el_mark]; exact ho
theorem RowsIn.ofO {h : Array Obj} {v : Value} (hr : RowsO h lo us P) (hs : Src h v P.length 1 (flat enV us)) : RowsIn h v us P := by
  refine ⟨hr.len, hs, fun i hi => ?_⟩
  have h1 := (hr.own i hi).src
  obtain ⟨q, c, e, _⟩ := h1.form
  rw [e] at h1
  exact ⟨q, c, e, h1⟩
theorem PartsIn.mod (h : PartsIn w.heap lo us P) (hM : Mod S w w') (hS : ∀ b, lo ≤ b → ¬ S b) : PartsIn w'.heap lo us P :=
  ⟨h.len, fun i hi => let ⟨h1, h2, b, e, hl, R, hB⟩ := h.row i hi; ⟨h1, h2, b, e, hl, R, hB.mod hM (hS b hl)⟩, h.apart⟩
theorem PartsIn.gk (h : PartsIn w.heap lo us P) (hg : w.grownBy w' row) (hr : RowK w.heap row K) (hK : 9 + 3 ≠ K) : PartsIn w'.heap lo us P :=
  ⟨h.len, fun i hi => let ⟨h1, h2, b, e, hl, R, hB⟩ := h.row i hi; ⟨h1, h2, b, e, hl, R, hB.gk hg hr hK⟩, h.apart⟩
theorem PartsIn.set (h : PartsIn w.heap lo us P) {i b : Nat} {R : List Value} {k : Nat} {u : ByteArray} {o : Obj} (hi : i < P.length) (hb : el us i = .slice (some ⟨b, 0, none⟩) (el P i).length (el P i).length) (hP : Pt w w' b o) (hB : Blk w'.heap b (flat enS ((el P i).set k u) ++ R) 9) : PartsIn w'.heap lo us (P.set i ((el P i).set k u)) := by
  refine ⟨by rw [List.length_set]; exact h.len, fun j hj => ?_, h.apart⟩
  rw [List.length_set] at hj
  by_cases e : i = j
  · subst e
    obtain ⟨h1, h2, b2, e2, hl, _, _⟩ := h.row i hi
    rw [hb] at e2
    injection e2 with e2
    injection e2 with e2
    injection e2 with e2
    subst e2
    rw [el_set_same hi]
    exact ⟨by rw [List.length_set]; exact h1, by rw [List.length_set]; exact h2, b, by rw [List.length_set]; exact hb, hl, R, hB⟩
  · rw [el_set_ne e]
    obtain ⟨h1, h2, b2, e2, hl, R2, hB2⟩ := h.row j hj
    refine ⟨h1, h2, b2, e2, hl, R2, hB2.pt hP fun q => e ?_⟩
    exact h.apart i j b (by rw [h.len]; exact hi) (by rw [h.len]; exact hj) (by rw [hb]; rfl) (by rw [e2, q]; rfl)
end
end Go.Proofs.Ytknfjgbipfpnjaa
