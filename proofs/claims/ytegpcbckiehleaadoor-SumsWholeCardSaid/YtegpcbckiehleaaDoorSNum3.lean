/- Numbers: tables of tens, the document's reading; more operations. Seat-free. -/
import Derived.Test.YtegpcbckiehleaaDoorSNum2
namespace Go.Eng
open Go.RowKit Go.Flt
section
variable {P : Program} {n : Nat} {σ : Nat → Value} {w : World} {ty t t' : TypeId} {x y z : Operand}
theorem x_indexArr {len e k i b o : Nat} {kk : IntKind} (hT : P.underlying t = some (.array len e)) (hZ : SZ P e k) (hx : ev n σ x = .pointer (some ⟨b, o, none⟩)) (hy : ev n σ y = .int kk (i : Int)) (h : i < len) : Ex P (ev n σ) w (.indexAddr t x y) ty (.pointer (some ⟨b, o + i * k, none⟩)) := by
  intro _ _ _ _
  have h1 : (0 : Int) ≤ (i : Int) ∧ (i : Int) < (len : Int) := ⟨by omega, by omega⟩
  have h2 := hZ w
  simp [execOp, hx, hy, Instr.indexAt, asIntOf, run_underlying hT, Instr.sureAddr, h, h2, Addr.add]
theorem x_notBB {b : Bool} (hx : ev n σ x = .bool b) : Ex P (ev n σ) w (.unOp .not t x) ty (.bool (decide (¬ (b = true)))) := by
  exact x_notP (p := b = true) (by rw [hx]; cases b <;> rfl)
end
/-! the tables of tens -/
def enF (x : Nat) : List Value := [.float .f64 x]
theorem enF_len (x : Nat) : (enF x).length = 1 := rfl
theorem flat_onesF {xs : List Nat} : (flat enF xs).all (·.oneCell') = true := by
  induction xs with
  | nil => rfl
  | cons x xs ih => simp only [flat, List.flatMap_cons, List.all_append] at *; rw [ih]; rfl
def tab10 : List Nat := [4607182418800017408, 4621819117588971520, 4636737291354636288, 4652007308841189376, 4666723172467343360, 4681608360884174848, 4696837146684686336, 4711630319722168320, 4726483295884279808, 4741671816366391296, 4756540486875873280, 4771362005757984768, 4786511204640096256, 4801453603149578240, 4816244402031689728, 4831355200913801216, 4846369599423283200, 4861130398305394688, 4876203697187506176, 4891288408196988160, 4906019910204099648, 4921056587992461136, 4936209963552724370, 4950912855330343670, 4965913770331839924, 4981134201117475473, 4995809153217856309, 5010775143622804482, 5026061058026967681, 5040708725286295329, 5055640609639927018, 5070927765361438756]
def pos10 : List Nat := [4607182418800017408, 5085611494797045271, 5564284217833028085, 6043257259031049059, 6521906365687930162, 7000496887210966211, 7479368607221621995, 7958223736346011545, 8436737289693151036, 8915514139102383430]
/-- what the walks want of the package's variables (their places: blocks 1 and 2) -/
structure Laid (w : World) : Prop where
  pos : Cells w.heap 1 0 (flat enF pos10)
  tab : Cells w.heap 2 0 (flat enF tab10)
theorem Laid.below {w w' : World} (h : Laid w) (hb : Below w.heap.size w w') : Laid w' := ⟨h.pos.below hb, h.tab.below hb⟩
theorem pow10_mul {k : Nat} (hk : k ≤ 15) : Flt.D.mul (el pos10 (k / 32)) (el tab10 (k % 32)) = some (fromInt ((10 ^ k : Nat) : Int)) := by
  have h : ∀ k : Fin 16, Flt.D.mul (el pos10 (k.1 / 32)) (el tab10 (k.1 % 32)) = some (fromInt ((10 ^ k.1 : Nat) : Int)) := by decide +kernel
  exact h ⟨k, by omega⟩
theorem read_pow10 {k : Nat} (hk : k ≤ 15) : ∃ m p, Flt.D.read (fromInt ((10 ^ k : Nat) : Int)) = .number false m p ∧ m ≠ 0 := by
  have h : ∀ k : Fin 16, (match Flt.D.read (fromInt ((10 ^ k.1 : Nat) : Int)) with | .number false m _ => decide (m ≠ 0) | _ => false) = true := by decide +kernel
  have := h ⟨k, by omega⟩
  simp only at this
  split at this
  · exact ⟨_, _, by assumption, of_decide_eq_true this⟩
  · cases this
theorem fromInt_NN (a : Int) : NN (fromInt a) := by unfold fromInt FloatKind.nearest; exact nearest_NN _ _ _
theorem div_pow10 {x k : Nat} (hx : NN x) (hk : k ≤ 15) : ∃ r, Flt.D.div x (fromInt ((10 ^ k : Nat) : Int)) = some r := by
  obtain ⟨m, p, h1, h2⟩ := read_pow10 hk
  unfold NN at hx
  unfold Ieee.Format.div
  rw [h1]
  cases hr : Flt.D.read x with
  | number s m' p' => exact ⟨_, by simp [Ieee.Datum.quotient, h2]; rfl⟩
  | infinity s => exact ⟨_, by simp [Ieee.Datum.quotient]; rfl⟩
  | nan s t => rw [hr] at hx; cases hx
theorem numBits_pos {n k : Nat} (h0 : 0 < k) (hk : k ≤ 15) : Flt.D.div (fromInt (n : Int)) (fromInt ((10 ^ k : Nat) : Int)) = some (numBits n k) := by
  obtain ⟨r, hr⟩ := div_pow10 (fromInt_NN (n : Int)) hk
  unfold numBits
  rw [if_pos h0, hr]; rfl
theorem numBits_zero (n : Nat) : numBits n 0 = fromInt (n : Int) := by unfold numBits; exact if_neg (by omega)
/-! the document's reading -/
theorem bl_lo (s : ByteArray) (k : Nat) : bl (s.extract 0 k) = (bl s).take k := by rw [bl_extract]; simp
theorem bl_hi (s : ByteArray) (k : Nat) : bl (s.extract k s.size) = (bl s).drop k := by
  rw [bl_extract]; exact List.take_of_length_le (by rw [List.length_drop, bl_len]; omega)
theorem size_lo {s : ByteArray} {k : Nat} (h : k ≤ s.size) : (s.extract 0 k).size = k := by rw [size_extract]; omega
theorem size_hi (s : ByteArray) (k : Nat) : (s.extract k s.size).size = s.size - k := by rw [size_extract]; omega
theorem dot_is {q : ByteArray} {k : Nat} (hk : k < q.size) (h : ch q k = 46) (hno : ∀ j, j < k → ch q j ≠ 46) : dot (bl q) = k := by
  unfold dot
  rw [List.findIdx_eq (by rw [bl_len]; exact hk)]
  refine ⟨?_, fun j hj => ?_⟩
  · rw [← el_eq, bl_el hk, h]; rfl
  · rw [← el_eq, bl_el (by omega)]; simpa using hno j hj
theorem dot_none {q : ByteArray} (hno : ∀ j, j < q.size → ch q j ≠ 46) : dot (bl q) = q.size := by
  rw [← bl_len]; unfold dot
  rw [List.findIdx_eq_length]
  intro x hx
  obtain ⟨i, hi, rfl⟩ := List.getElem_of_mem hx
  rw [bl_len] at hi
  rw [← el_eq, bl_el hi]; simpa using hno i hi
/-- what the document makes of a text without its '-' -/
structure Cut (q f b : ByteArray) : Prop where
  front : front (bl q) = bl f
  back : back (bl q) = bl b
theorem Cut.at {q : ByteArray} {k : Nat} (hk : k < q.size) (h : ch q k = 46) (hno : ∀ j, j < k → ch q j ≠ 46) : Cut q (q.extract 0 k) (q.extract (k + 1) q.size) := by
  have e := dot_is hk h hno
  refine ⟨?_, ?_⟩
  · unfold Eng.front; rw [e, bl_lo]
  · unfold Eng.back; rw [e, bl_hi]
theorem Cut.no {q : ByteArray} (hno : ∀ j, j < q.size → ch q j ≠ 46) : Cut q q (ByteArray.mk #[]) := by
  have e := dot_none hno
  refine ⟨?_, ?_⟩
  · unfold Eng.front; rw [e, ← bl_len]; exact List.take_length
  · unfold Eng.back; rw [e]; exact List.drop_of_length_le (by rw [bl_len]; omega)
theorem Cut.bad1 {q : ByteArray} {k : Nat} (hk : k < q.size) (h : ch q k = 46) (hno : ∀ j, j < k → ch q j ≠ 46) (hb : ¬ (digs (bl (q.extract (k + 1) q.size)) = true)) : numB (bl q) = none := by
  have hc := Cut.at hk h hno
  unfold numB
  refine if_pos (.inl ⟨by rw [dot_is hk h hno, bl_len]; exact hk, ?_⟩)
  rw [hc.back]; simpa using hb
theorem Cut.bad2 {q f b : ByteArray} (hc : Cut q f b) (h : ¬ (digs (bl f) = true)) : numB (bl q) = none := by
  unfold numB
  exact if_pos (.inr (.inl (by rw [hc.front]; simpa using h)))
theorem Cut.bad3 {q f b : ByteArray} (hc : Cut q f b) (h : 15 < f.size + b.size) : numB (bl q) = none := by
  unfold numB
  exact if_pos (.inr (.inr (by rw [hc.front, hc.back, bl_len, bl_len]; exact h)))
theorem Cut.good {q f b : ByteArray} (hc : Cut q f b) (hf : digs (bl f) = true) (hb : dot (bl q) = (bl q).length ∨ digs (bl b) = true) (h : ¬ 15 < f.size + b.size) : numB (bl q) = some (numBits (whole (bl (f ++ b))) b.size) := by
  unfold numB
  rw [hc.front, hc.back, bl_append, bl_len b, bl_len f]
  refine if_neg ?_
  rintro (⟨h1, h2⟩ | h1 | h1)
  · rcases hb with hb | hb
    · omega
    · rw [hb] at h2; cases h2
  · rw [hf] at h1; cases h1
  · exact h h1
theorem Cut.nodot {q : ByteArray} (hno : ∀ j, j < q.size → ch q j ≠ 46) : dot (bl q) = (bl q).length := by rw [dot_none hno, bl_len]
theorem digs_dig {s : ByteArray} (h : digs (bl s) = true) : 0 < s.size ∧ ∀ i, i < s.size → dig (ch s i) := by
  obtain ⟨h1, h2⟩ := digs_iff.1 h
  rw [bl_len] at h1 h2
  exact ⟨h1, fun i hi => by have := h2 i hi; rwa [bl_el hi] at this⟩
theorem ch_append {a b : ByteArray} {i : Nat} (h : i < (a ++ b).size) : ch (a ++ b) i = if i < a.size then ch a i else ch b (i - a.size) := by
  have e : (a ++ b).size = a.size + b.size := by rw [← bl_len, bl_append, List.length_append, bl_len, bl_len]
  rw [← bl_el h, bl_append]
  by_cases h1 : i < a.size
  · rw [if_pos h1, el_append_left (by rw [bl_len]; exact h1), bl_el h1]
  · rw [if_neg h1]
    have h2 := el_append_right (xs := bl a) (ys := bl b) (i := i - a.size)
    rw [bl_len, show a.size + (i - a.size) = i by omega] at h2
    rw [h2, bl_el (by omega)]
theorem size_app (a b : ByteArray) : (a ++ b).size = a.size + b.size := by rw [← bl_len, bl_append, List.length_append, bl_len, bl_len]
theorem dig_app {a b : ByteArray} (h1 : ∀ i, i < a.size → dig (ch a i)) (h2 : ∀ i, i < b.size → dig (ch b i)) : ∀ i, i < (a ++ b).size → dig (ch (a ++ b) i) := by
  intro i hi
  rw [ch_append hi]
  rw [size_app] at hi
  split
  · exact h1 i (by assumption)
  · exact h2 _ (by omega)
theorem numL_minus {s : ByteArray} (h0 : 0 < s.size) (h : ch s 0 = 45) : numL (bl s) = (numB (bl (s.extract 1 s.size))).map negF := by
  unfold numL
  have e : (bl s).head? = some 45 := by
    rw [List.head?_eq_getElem?, el_get? (by rw [bl_len]; exact h0), bl_el h0, h]
  rw [if_pos e, bl_hi, List.drop_one]
theorem numL_plain {s : ByteArray} (h : ¬ (0 < s.size ∧ ch s 0 = 45)) : numL (bl s) = numB (bl s) := by
  unfold numL
  refine if_neg fun e => h ?_
  have h0 : 0 < s.size := by
    rw [← bl_len]; cases hb : bl s with
    | nil => rw [hb] at e; cases e
    | cons c r => simp
  refine ⟨h0, ?_⟩
  rw [List.head?_eq_getElem?, el_get? (by rw [bl_len]; exact h0), bl_el h0] at e
  exact Option.some.inj e
end Go.Eng
