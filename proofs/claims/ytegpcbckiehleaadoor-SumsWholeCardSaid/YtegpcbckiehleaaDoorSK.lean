/- What the document says of its example: closed facts. Seat-free. -/
import Derived.Test.YtegpcbckiehleaaDoorSGr3
import Derived.KernelRfl
namespace Go.Eng
open Go.RowKit Go.OrdPure Go.Flt
def tA : ByteArray := ByteArray.mk #[97]
def tB : ByteArray := ByteArray.mk #[98]
def t3 : ByteArray := ByteArray.mk #[51]
def t5 : ByteArray := ByteArray.mk #[53]
def tM : ByteArray := ByteArray.mk #[45, 48, 46, 53]
def tX : ByteArray := ByteArray.mk #[120]
def payT : List Tup := [[tA, t3], [tA, t5], [tB, tM], [tB, tX]]
theorem pay_grp : grpL [0] payT = [([tA], [[tA, t3], [tA, t5]]), ([tB], [[tB, tM], [tB, tX]])] := by kernel_rfl
theorem pay_rank : rankL (payT.map (fun t => el t 1)) = [tM, t3, t5, tX] := by kernel_rfl
theorem pay_n1 : numsL 1 [[tA, t3], [tA, t5]] = [4613937818241073152, 4617315517961601024] := by kernel_rfl
theorem pay_n2 : numsL 1 [[tB, tM], [tB, tX]] = [13826050856027422720] := by kernel_rfl
theorem num15 : num (ByteArray.mk #[49, 46, 53]) = some 4609434218613702656 := by kernel_rfl
theorem FR.eq {o : Option Nat} {r s : Nat} (h : FR o r) (e : o = some s) : r = s := by
  rcases h with h | ⟨h, _⟩
  · rw [e] at h; exact (Option.some.inj h).symm
  · rw [e] at h; cases h
theorem pk1 : Flt.D.add 0 4613937818241073152 = some 4613937818241073152 := by kernel_rfl
theorem pk2 : Flt.D.add 4613937818241073152 4617315517961601024 = some 4620693217682128896 := by kernel_rfl
theorem pk3 : Flt.D.div 4620693217682128896 (fromInt ((2:Nat):Int)) = some 4616189618054758400 := by kernel_rfl
theorem pk4 : Flt.D.sub 4613937818241073152 4616189618054758400 = some 13830554455654793216 := by kernel_rfl
theorem pk5 : Flt.D.mul 13830554455654793216 13830554455654793216 = some 4607182418800017408 := by kernel_rfl
theorem pk6 : Flt.D.add 0 4607182418800017408 = some 4607182418800017408 := by kernel_rfl
theorem pk7 : Flt.D.sub 4617315517961601024 4616189618054758400 = some 4607182418800017408 := by kernel_rfl
theorem pk8 : Flt.D.add 4607182418800017408 4607182418800017408 = some 4611686018427387904 := by kernel_rfl
theorem pk9 : Flt.D.div 4611686018427387904 (fromInt ((2:Nat):Int)) = some 4607182418800017408 := by kernel_rfl
theorem pk10 : Flt.D.sqrt 4607182418800017408 = some 4607182418800017408 := by kernel_rfl
theorem pk5' : Flt.D.mul 4607182418800017408 4607182418800017408 = some 4607182418800017408 := by kernel_rfl
theorem pay_fill1 {g u : Grp} (h : IsFill [4613937818241073152, 4617315517961601024] g u) (hs : g.sum = 0) (hp : g.spread = 0) : u.sum = 4620693217682128896 ∧ u.mean = 4616189618054758400 ∧ u.spread = 4607182418800017408 := by
  obtain ⟨x, hx⟩ : ∃ x, x = 4613937818241073152 := ⟨_, rfl⟩
  obtain ⟨y, hy⟩ : ∃ y, y = 4617315517961601024 := ⟨_, rfl⟩
  rw [← hx, ← hy] at h
  unfold IsFill at h
  rw [if_neg (by simp)] at h
  obtain ⟨u0, ⟨u1, m, ⟨s, ⟨b1, ⟨b0, e0, h1⟩, h2⟩, rfl⟩, hm, rfl⟩, ⟨u2, v, r, ⟨q, ⟨c1, d1, p1, ⟨c0, d0, p0, f0, k1, k2, k3⟩, k4, k5, k6⟩, rfl⟩, k7, k8, rfl⟩⟩ := h
  have h1 : FR (Flt.D.add b0 x) b1 := h1
  have h2 : FR (Flt.D.add b1 y) s := h2
  have hm : FR (Flt.D.div s (fromInt ((2 : Nat) : Int))) m := hm
  have k1 : FR (Flt.D.sub x m) d0 := k1
  have k4 : FR (Flt.D.sub y m) d1 := k4
  have k7 : FR (Flt.D.div q (fromInt ((2 : Nat) : Int))) v := k7
  have e0 : b0 = g.sum := e0
  rw [e0, hs, hx] at h1
  have q1 := h1.eq pk1
  rw [q1, hy] at h2
  have q2 := h2.eq pk2
  rw [q2] at hm
  have q3 := hm.eq pk3
  have f0 : c0 = g.spread := f0
  rw [q3, hx] at k1
  have q4 := k1.eq pk4
  rw [q4] at k2
  have q5 := k2.eq pk5
  rw [f0, hp, q5] at k3
  have q6 := k3.eq pk6
  rw [q3, hy] at k4
  have q7 := k4.eq pk7
  rw [q7] at k5
  have q8 := k5.eq pk5'
  rw [q6, q8] at k6
  have q9 := k6.eq pk8
  rw [q9] at k7
  have q10 := k7.eq pk9
  rw [q10] at k8
  have q11 := k8.eq pk10
  exact ⟨q2, q3, q11⟩
theorem pay_fill2 {g u : Grp} (h : IsFill [13826050856027422720] g u) : u.numbers = 1 ∧ u.least = 13826050856027422720 := by
  unfold IsFill at h
  rw [if_neg (by decide)] at h
  obtain ⟨u0, ⟨u1, m, ⟨s, _, rfl⟩, _, rfl⟩, ⟨u2, v, r, ⟨q, _, rfl⟩, _, _, rfl⟩⟩ := h
  exact ⟨rfl, by kernel_rfl⟩
theorem RowsP.ext {w w' : World} {L : List Row} (hr : RowsP w.heap L) (h : Ext w w') : RowsP w'.heap L := RowsP.below hr h
theorem grp_two {A : Acc} {a b : Tup} {x y : List Tup} (h : A.map gT = [(a, x), (b, y)]) : A.length = 2 ∧ tp (el A 0).2 = x ∧ tp (el A 1).2 = y := by
  match A, h with
  | [p, q], h =>
    simp only [List.map_cons, List.map_nil, List.cons.injEq, and_true, gT, Prod.mk.injEq] at h
    exact ⟨rfl, h.1.2, h.2.2⟩
  | [], h => simp at h
  | [_], h => simp at h
  | _ :: _ :: _ :: _, h => simp at h
end Go.Eng
