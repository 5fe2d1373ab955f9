/- The digits of a number, as a text; rows of such; what is told of whole numbers. Seat-free. -/
import Derived.Test.YtegpcbckiehleaaDoorSWh
import Derived.Test.YtegpcbckiehleaaDoorSSet
import Derived.Laws.BytesArg
namespace Go.Eng
open Go.RowKit Go.OrdPure Go.Flt
theorem eff_ex {P : Program} {ρ : Operand → Value} {w : World} {op : Op} {ty : TypeId} {v : Value} {K : Value → World → Prop} (h : Ex P ρ w op ty v) (k : K v w) : Eff P ρ w op ty K := ⟨v, w, k, .inl h⟩
/-- one byte as a text -/
def b1 (k : Nat) : ByteArray := ⟨#[UInt8.ofNat k]⟩
def dg (n : Nat) : ByteArray := if n < 10 then b1 (48 + n) else dg (n / 10) ++ b1 (48 + n % 10)
theorem dg_lt {n : Nat} (h : n < 10) : dg n = b1 (48 + n) := by rw [dg, if_pos h]
theorem dg_ge {n : Nat} (h : ¬ n < 10) : dg n = dg (n / 10) ++ b1 (48 + n % 10) := by rw [dg, if_neg h]
theorem bl_b1 {k : Nat} (h : k < 256) : bl (b1 k) = [k] := by
  unfold bl b1
  show [(UInt8.ofNat k).toNat] = [k]
  rw [UInt8.toNat_ofNat_of_lt' (by simpa using h)]
theorem bl_dg (n : Nat) : bl (dg n) = (if n < 10 then [48 + n] else bl (dg (n / 10)) ++ [48 + n % 10]) := by
  by_cases h : n < 10
  · rw [dg_lt h, if_pos h, bl_b1 (by omega)]
  · rw [dg_ge h, if_neg h, bl_append, bl_b1 (by omega)]
theorem dg_pos (n : Nat) : 0 < (bl (dg n)).length := by
  rw [bl_dg]; split <;> simp
theorem dg_dig (n : Nat) : ∀ x ∈ bl (dg n), dig x := by
  induction n using Nat.strongRecOn with
  | ind n ih =>
    rw [bl_dg]
    by_cases h : n < 10
    · rw [if_pos h]; intro x hx; rw [List.mem_singleton] at hx; subst hx; unfold dig; omega
    · rw [if_neg h]; intro x hx
      rcases List.mem_append.1 hx with hx | hx
      · exact ih (n / 10) (by omega) x hx
      · rw [List.mem_singleton] at hx; subst hx; unfold dig; omega
theorem dg_whole (n : Nat) : whole (bl (dg n)) = n := by
  induction n using Nat.strongRecOn with
  | ind n ih =>
    rw [bl_dg]
    by_cases h : n < 10
    · rw [if_pos h]; show 10 * 0 + (48 + n - 48) = n; omega
    · rw [if_neg h, whole_snoc, ih (n / 10) (by omega)]; omega
theorem dg_inj {a b : Nat} (h : dg a = dg b) : a = b := by rw [← dg_whole a, h, dg_whole]
theorem dg_size (k : Nat) : ∀ n, n < 10 ^ (k + 1) → (dg n).size ≤ k + 1 := by
  induction k with
  | zero => intro n hn; rw [dg_lt (by simpa using hn)]; show 1 ≤ 1; omega
  | succ k ih =>
    intro n hn
    by_cases h : n < 10
    · rw [dg_lt h]; show 1 ≤ k + 1 + 1; omega
    · rw [dg_ge h, size_app]
      have := ih (n / 10) (by rw [Nat.pow_succ] at hn; omega)
      show (dg (n / 10)).size + 1 ≤ _
      omega
theorem dg_num {n : Nat} (h : n < 2 ^ 20) : num (dg n) = some (fromInt ((n : Nat) : Int)) := by
  have hs := dg_size 14 n (by omega)
  have hno : ∀ j, j < (dg n).size → ch (dg n) j ≠ 46 := fun j hj e => by
    have h1 := dg_dig n (el (bl (dg n)) j) (el_mem' (by rw [bl_len]; exact hj))
    rw [bl_el hj, e] at h1
    unfold dig at h1; omega
  have hp := dg_pos n
  rw [bl_len] at hp
  have h45 : ¬ (0 < (dg n).size ∧ ch (dg n) 0 = 45) := fun ⟨h1, e⟩ => by
    have h1 := dg_dig n (el (bl (dg n)) 0) (el_mem' (by rw [bl_len]; exact hp))
    rw [bl_el hp, e] at h1
    unfold dig at h1; omega
  have hd : digs (bl (dg n)) = true := digs_iff.2 ⟨by rw [bl_len]; exact hp, fun i hi => dg_dig n _ (el_mem' hi)⟩
  unfold num
  rw [numL_plain h45, (Cut.no hno).good hd (.inl (Cut.nodot hno)) (by show ¬ 15 < (dg n).size + 0; omega)]
  have e : bl (dg n ++ ByteArray.mk #[]) = bl (dg n) := by rw [bl_append]; exact List.append_nil _
  rw [e, dg_whole]
  exact congrArg Option.some (numBits_zero n)
section
variable {P : Program} {n : Nat} {σ : Nat → Value} {w : World} {ty t t' : TypeId} {x y : Operand}
theorem x_convB1 {e : TypeId} {b c k : Nat} (hs : P.underlying t = some (.slice e)) (he : P.underlying e = some (.int .u8)) (hd : P.underlying t' = some .string) (hx : ev n σ x = .slice (some ⟨b, 0, none⟩) 1 c) (hB : Cells w.heap b 0 [.int .u8 ((k : Nat) : Int)]) : Ex P (ev n σ) w (.convert t t' x) ty (.string (b1 k)) := by
  intro _ _ _ _
  have h := run_convert_bytes_arg (P := P) w t e hs he b 0 1 c [((k : Nat) : Int)] rfl (fun i hi => by
    obtain rfl : i = 0 := by omega
    exact hB.one) t' hd
  have e1 : strOfNums [((k : Nat) : Int)] = b1 k := rfl
  rw [e1] at h
  simp [execOp, hx, h]
theorem x_maxI {a b : Int} {ts : Array TypeId} (hx : ev n σ x = .int .i64 a) (hy : ev n σ y = .int .i64 b) : Ex P (ev n σ) w (.call { callee := .builtin .max, args := #[x, y], argTypes := ts }) ty (.int .i64 (max a b)) := by
  intro _ _ _ _
  have e : (if a < b then b else a) = max a b := by split <;> omega
  simp [execOp, resolve, invoke, builtin, hx, hy, Builtin.max_, Builtin.max2, e]
end
/-- a number's rest by 2 ^ 20, without its sign -/
def absm (z : Int) : Nat := (z.tmod 1048576).natAbs
theorem absm_lt (z : Int) : absm z < 2 ^ 20 := by
  unfold absm
  rw [Int.natAbs_tmod]
  exact Nat.mod_lt _ (by decide)
theorem absm_pos {z : Int} (h : ¬ z.tmod 1048576 < 0) : z.tmod 1048576 = ((absm z : Nat) : Int) := by unfold absm; omega
theorem absm_neg {z : Int} (h : z.tmod 1048576 < 0) : -(z.tmod 1048576) = ((absm z : Nat) : Int) := by unfold absm; omega
/-- the tuples -/
def rowsT (ns : List Nat) : List Tup := (List.range ns.length).map fun i => [dg i, dg (el ns i)]
theorem rowsT_snoc (ns : List Nat) (m : Nat) : rowsT (ns ++ [m]) = rowsT ns ++ [[dg ns.length, dg m]] := by
  unfold rowsT
  rw [List.length_append, List.length_singleton, List.range_succ, List.map_append, List.map_singleton]
  congr 1
  · refine List.map_congr_left fun i hi => ?_
    rw [el_append_left (List.mem_range.1 hi)]
  · have := el_snoc_last ns m
    rw [this]
theorem rowsT_len (ns : List Nat) : (rowsT ns).length = ns.length := by unfold rowsT; rw [List.length_map, List.length_range]
theorem rowsT_nodup (ns : List Nat) : (rowsT ns).Nodup := by
  unfold rowsT
  refine List.Pairwise.map _ ?_ (List.nodup_range (n := ns.length))
  intro a b hne e
  injection e with e1 _
  exact hne (dg_inj e1)
theorem setL_perm {P : List Tup} (h : P.Nodup) : (setL P).Perm P := by
  obtain ⟨h1, h2⟩ := setL_is P
  refine (List.perm_ext_iff_of_nodup ?_ h).2 h2
  refine h1.imp fun {a b} hab e => ?_
  subst e
  rw [tups_self] at hab; omega
def dv (t : Tup) : Nat := whole (bl (el t 1))
theorem rowsT_dv (ns : List Nat) : (rowsT ns).map dv = ns := by
  unfold rowsT
  rw [List.map_map]
  refine list_ext_el (by rw [List.length_map, List.length_range]) fun i hi => ?_
  rw [List.length_map, List.length_range] at hi
  rw [el_map (by rw [List.length_range]; exact hi)]
  have : el (List.range ns.length) i = i := by rw [el_eq (by rw [List.length_range]; exact hi)]; simp
  rw [this]
  exact dg_whole _
theorem rowsT_nums {ns : List Nat} (hb : ∀ x ∈ ns, x < 2 ^ 20) {Q : List Tup} (h : Q.Perm (rowsT ns)) : numsL 1 Q = fl (Q.map dv) ∧ (Q.map dv).Perm ns := by
  refine ⟨?_, by have := h.map dv; rwa [rowsT_dv] at this⟩
  have hm : ∀ t ∈ Q, num (el t 1) = some (fromInt ((dv t : Nat) : Int)) := fun t ht => by
    have h1 := h.mem_iff.1 ht
    unfold rowsT at h1
    obtain ⟨i, hi, rfl⟩ := List.mem_map.1 h1
    have e : el [dg i, dg (el ns i)] 1 = dg (el ns i) := rfl
    unfold dv
    rw [e, dg_whole]
    exact dg_num (hb _ (el_mem' (List.mem_range.1 hi)))
  clear h
  induction Q with
  | nil => rfl
  | cons t Q ih =>
    have h1 := hm t (by simp)
    have h2 := ih fun t' ht' => hm t' (by simp [ht'])
    unfold numsL at h2 ⊢
    rw [List.filterMap_cons, h1]
    simp only
    rw [h2]; rfl
theorem keys_none {P : List Tup} (h : 0 < P.length) : keysL [] P = [[]] := by
  unfold keysL
  refine (IsSet.uniq (P := (setL P).map fun t => cutL t []) ⟨List.pairwise_singleton _ _, fun t => ?_⟩ (setL_is _)).symm
  rw [List.mem_singleton, List.mem_map]
  constructor
  · intro e; subst e
    obtain ⟨a, ha⟩ : ∃ a, a ∈ P := ⟨el P 0, el_mem' h⟩
    exact ⟨a, ((setL_is P).2 a).2 ha, rfl⟩
  · rintro ⟨a, _, e⟩; rw [← e]; rfl
theorem IsFill.count {l : List Nat} {g u : Grp} (h : IsFill l g u) : u.count = g.count := by
  unfold IsFill at h
  split at h
  · rw [h]
  · obtain ⟨u0, ⟨u1, m, ⟨s, _, rfl⟩, _, rfl⟩, ⟨u2, v, r, ⟨q, _, rfl⟩, _, _, rfl⟩⟩ := h
    rfl
/-- what the program's Sums tells of them -/
theorem whole_group {ns : List Nat} {A : Acc} {GL : List Grp} {L : List Row} (hL : tp L = rowsT ns) (hl : ns.length ≤ 1000) (hb : ∀ x ∈ ns, x < 2 ^ 20) (hA : A.map gT = grpL [] (tp L)) (hF : ∀ j, j < A.length → IsFill (numsL 1 (tp (el A j).2)) (toG (el A j)) (el GL j)) :
    A.length = min 1 ns.length ∧ (0 < ns.length → ∀ lo hi, (lo ∈ ns ∧ ∀ x ∈ ns, lo ≤ x) → (hi ∈ ns ∧ ∀ x ∈ ns, x ≤ hi) → (el GL 0).count = ((ns.length : Nat) : Int) ∧ WholeU ns lo hi (el GL 0)) := by
  obtain ⟨h1, h2⟩ := grp_at hA
  rcases Nat.eq_zero_or_pos ns.length with h0 | h0
  · have hn : ns = [] := List.length_eq_zero_iff.1 h0
    subst hn
    have e : keysL [] (tp L) = [] := by rw [hL]; rfl
    rw [e] at h1
    exact ⟨by rw [h1]; rfl, fun h => absurd h (by simp)⟩
  · have hk := keys_none (P := tp L) (by rw [hL, rowsT_len]; exact h0)
    rw [hk] at h1
    have hA1 : A.length = 1 := h1
    refine ⟨by omega, fun _ lo hi hlo hhi => ?_⟩
    have hf := hF 0 (by omega)
    have hm : tp (el A 0).2 = setL (tp L) := by
      rw [(h2 0 (by omega)).2, hk]
      unfold memL
      refine List.filter_eq_self.2 fun t _ => ?_
      exact decide_eq_true rfl
    have hp : (setL (tp L)).Perm (rowsT ns) := by rw [hL]; exact setL_perm (rowsT_nodup ns)
    obtain ⟨p1, p2⟩ := rowsT_nums hb hp
    rw [hm, p1] at hf
    have hlen := p2.length_eq
    refine ⟨?_, ?_⟩
    · rw [hf.count]
      show (((el A 0).2.length : Nat) : Int) = _
      have := congrArg List.length hm
      rw [tp_len] at this
      rw [this, ← List.length_map (f := dv), hlen]
    · have hw := whole_fill (ns := (setL (tp L)).map dv) (g := toG (el A 0)) (lo := lo) (hi := hi) (by omega) (by omega) (fun x hx => hb x (p2.mem_iff.1 hx)) ⟨rfl, rfl⟩ ⟨p2.mem_iff.2 hlo.1, fun x hx => hlo.2 x (p2.mem_iff.1 hx)⟩ ⟨p2.mem_iff.2 hhi.1, fun x hx => hhi.2 x (p2.mem_iff.1 hx)⟩ hf
      exact ⟨by rw [hw.numbers, hlen], by rw [← p2.sum_nat]; exact hw.sum, hw.least, hw.greatest, hw.mlo, hw.mhi, hw.spread⟩
end Go.Eng
