/- Plain law of a printed term: its size; when there is none. -/
import Derived.Test.YtljfgmedbjlkaaaGreatQA
import Derived.Test.YtljfgmedbjlkaaaGreatV3
import Derived.Test.YtljfgmedbjlkaaaGreatProg
import Derived.Test.YtljfgmedbjlkaaaGreatQC
import Derived.Test.YtljfgmedbjlkaaaGreatQB
namespace Go.Proofs.YtljfgmedbjlkaaaGreat
open Go.RowKit Go.Eng Go.QP
theorem T.cf110 : CF Tryz.prog 110 := fun _ _ => by kernel_rfl
theorem T.fa122_1 : FA Tryz.prog 122 1 1 := fun _ _ => by kernel_rfl
theorem T.na120 : NA Tryz.prog 120 := fun _ => by kernel_rfl
theorem T.sl120 : SL Tryz.prog 120 5 1 1 (.int .u8 ((0 : Nat) : Int)) := sl_mk Tryz.underlying120 (by kernel_rfl) rfl (by decide)
theorem T.sz120 : SZ Tryz.prog 120 1 := fun _ => by kernel_rfl
theorem wbyte58 (S : Nat → Prop) (bb m c : Nat) (p a : Option Addr) (xs : List Nat) (x : Nat) (w0 : World) (H0 : Hp S w0 w0 [cB bb 122 [.pointer p, .slice a m c], cQ 5 eY a m c xs]) (hp : p = none ∨ p = some ⟨bb, 0, none⟩) (hm : m + 1 ≤ 1099511627776) :
    Calls Tryz.prog 58 #[.pointer (some ⟨bb, 0, none⟩), .int .u8 ((x : Nat) : Int)] w0 fun e w' => ∃ a' c', e = .returned .nilIface ∧ Hp S w0 w' [cB bb 122 [.pointer (some ⟨bb, 0, none⟩), .slice a' (m + 1) c'], cQ 5 eY a' (m + 1) c' (xs ++ [x])] := by
  refine enter Tryz.func58 rfl 17 Tryz.ntmps58 rfl <| ?_
  refine sr fun Q1 k2 => qt asg <| nl <| k2 _ _ <| ?_
  refine sr fun Q3 k4 => qt mv <| ?_
  refine cl T.cf110 (copy110 bb p _ _ hp (H0.at 0 rfl)) rfl fun _ w6 ⟨er, K5⟩ => ⟨_, er, ?_⟩
  have H7 := H0.call 0 rfl K5
  refine nl <| k4 _ _ <| ?_
  refine sr fun Q8 k9 => qt mv <| qt mv <| qt (x_nilCheck rfl) <| qt (x_field (o := 0) T.fa122_1 rfl) <| qt (x_load1 T.na120 rfl (H7.ld 0 rfl 1 rfl)) <| qt mv <| ?_
  refine st_e <| Ebs (cs := [.int .u8 ((x : Nat) : Int)]) (e := 5) H7 (fun _ => by kernel_rfl) fun b10 w11 H12 x13 => ?_
  refine st_e <| EapQ (H12.toQ eY 0 [x] rfl rfl (Nat.le_of_ble_eq_true rfl)) 2 T.sl120 rfl rfl rfl ((H12.toQ eY 0 [x] rfl rfl (Nat.le_of_ble_eq_true rfl)).srQ 0 rfl) (by omega) rfl rfl fun a14 c15 w16 H17 => qt (x_nilCheck rfl) <| qt (x_field (o := 0) T.fa122_1 rfl) <| ?_
  refine st_s <| Est (v := .slice a14 (m + 1) c15) H17 1 T.sz120 rfl rfl rfl rfl rfl rfl fun w18 H19 => nl <| k9 _ _ <| ?_
  exact sr fun Q20 k21 => qt asg <| nl <| k21 _ _ <| ret <| leave1 (P := Tryz.prog) (fn := Tryz.f58) (t := 4) (v := .nilIface) rfl rfl <| ⟨a14, c15, rfl, (H19.pick [1, 2] (by decide))⟩
theorem wstr56 (S : Nat → Prop) (bb m c : Nat) (p a : Option Addr) (xs : List Nat) (s : ByteArray) (w0 : World) (H0 : Hp S w0 w0 [cB bb 122 [.pointer p, .slice a m c], cQ 5 eY a m c xs]) (hp : p = none ∨ p = some ⟨bb, 0, none⟩) (hm : m + s.size ≤ 1099511627776) :
    Calls Tryz.prog 56 #[.pointer (some ⟨bb, 0, none⟩), .string s] w0 fun e w' => ∃ a' c', e = .returned (.tuple #[.int .i64 (s.size : Int), .nilIface]) ∧ Hp S w0 w' [cB bb 122 [.pointer (some ⟨bb, 0, none⟩), .slice a' (m + s.size) c'], cQ 5 eY a' (m + s.size) c' (xs ++ bl s)] := by
  refine enter Tryz.func56 rfl 19 Tryz.ntmps56 rfl <| ?_
  refine sr fun Q1 k2 => qt asg <| qt asg <| nl <| k2 _ _ <| ?_
  refine sr fun Q3 k4 => qt mv <| ?_
  refine cl T.cf110 (copy110 bb p _ _ hp (H0.at 0 rfl)) rfl fun _ w6 ⟨er, K5⟩ => ⟨_, er, ?_⟩
  have H7 := H0.call 0 rfl K5
  refine nl <| k4 _ _ <| ?_
  refine sr fun Q8 k9 => qt mv <| qt mv <| qt (x_nilCheck rfl) <| qt (x_field (o := 0) T.fa122_1 rfl) <| qt (x_load1 T.na120 rfl (H7.ld 0 rfl 1 rfl)) <| qt mv <| ?_
  refine st_e <| EapS H7 1 T.sl120 Tryz.underlying9 rfl rfl rfl (by omega) rfl fun a10 c11 w12 H13 => qt (x_nilCheck rfl) <| qt (x_field (o := 0) T.fa122_1 rfl) <| ?_
  refine st_s <| Est (v := .slice a10 (m + s.size) c11) H13 0 T.sz120 rfl rfl rfl rfl rfl rfl fun w14 H15 => nl <| k9 _ _ <| ?_
  refine sr fun Q16 k17 => qt mv <| qt (x_lenS rfl Tryz.underlying9 rfl) <| qt asg <| qt asg <| nl <| k17 _ _ <| ret <| leave2 (P := Tryz.prog) (fn := Tryz.f56) (t := 4) (u := 5) (v := .int .i64 ((s.size : Nat) : Int)) (v' := .nilIface) rfl rfl rfl ?_
  exact ⟨a10, c11, rfl, (H15.pick [0, 1] (by decide))⟩
end Go.Proofs.YtljfgmedbjlkaaaGreat
namespace Go.Proofs.YtljfgmedbjlkaaaGreat
open Go.RowKit Go.Eng Go.QP
theorem T.zv122 : ZV Tryz.prog 122 (.agg #[.pointer none, .slice none 0 0]) := fun _ => by kernel_rfl
theorem T.cf58 : CF Tryz.prog 58 := fun _ _ => by kernel_rfl
theorem T.na5 : NA Tryz.prog 5 := fun _ => by kernel_rfl
theorem T.cf56 : CF Tryz.prog 56 := fun _ _ => by kernel_rfl
theorem T.cf59 : CF Tryz.prog 59 := fun _ _ => by kernel_rfl
theorem built59S (b m c : Nat) (p a : Option Addr) (xs : List Nat) (S : Nat → Prop) (w0 : World) (H : Hp S w0 w0 [cB b 122 [.pointer p, .slice a m c], cQ 5 eY a m c xs]) (hm : 0 < m) (hm2 : m ≤ 1099511627776) (hx : ∀ x ∈ xs, x < 256) (hS : ∀ z, footQ a c z → S z) :
    Calls Tryz.prog 59 #[.pointer (some ⟨b, 0, none⟩)] w0 fun e w' => e = .returned (.string (sN xs)) ∧ Hp S w0 w' [cB b 122 [.pointer p, .slice a m c]] :=
  (built59 b m c p a xs S w0 H hm hm2 hx).mono fun e w' ⟨he, K⟩ => ⟨he, ⟨⟨K.fr.os, K.fr.tape, K.fr.output, K.fr.size, fun i hi hn => K.fr.block i hi fun h => hn (h.elim id (hS i))⟩, K.says, fun c hc b hb => ⟨(K.own c hc b hb).1, (K.own c hc b hb).2.imp (fun h => h.elim id (hS b)) id⟩, K.apart⟩⟩
theorem quote113 (s : ByteArray) (w0 : World) (hs : s.size ≤ 68719476736) :
    Calls Tryz.prog 113 #[.string s] w0 fun e w' => ∃ t, e = .returned (.string t) ∧ bl t = quoteL (bl s) ∧ Ext w0 w' := by
  refine enter Tryz.func113 rfl 55 Tryz.ntmps113 rfl <| ?_
  refine sr fun Q1 k2 => qt asg <| nl <| k2 _ _ <| ?_
  refine sr fun Q3 k4 => ?_
  refine st_e <| Eal (Hp.start No w0) T.zv122 fun b5 w6 H7 x8 => nl <| k4 _ _ <| ?_
  refine sr fun Q9 k10 => ?_
  have H14 : Hp No w0 w6 ([cB b5 122 [.pointer none, .slice none 0 0], cQ 5 eY none 0 0 ([])] ++ []) := ((H7.nilQ 5 eY).pick [1, 0] (by decide))
  refine cl T.cf58 (wbyte58 _ b5 _ _ none _ _ 34 _ H14.startL (.inl rfl) (by omega)) rfl fun _ w15 ⟨a11, c12, er, K13⟩ => ⟨_, er, ?_⟩
  have H16 := H14.callL K13
  refine nl <| k10 _ _ <| seqK fun Q17 kn18 kr19 ke20 => ?_
  refine sr fun Q21 k22 => qt mv <| ?_
  refine st_e <| EcvB H16 Tryz.underlying9 Tryz.underlying120 Tryz.underlying5 rfl (by unfold maxLen; omega) fun b23 c24 w25 H26 X27 => qt (x_lenSl rfl Tryz.underlying120 rfl) <| qt mv <| nl <| k22 _ _ <| blockK fun Q28 kn29 kr30 kx31 kb32 => ?_
  refine loopK (α := Nat × (Option Addr) × Nat × Nat × (List Nat)) (fun x => [(3, .pointer (some ⟨b5, 0, none⟩)), (8, .slice (some ⟨b23, 0, none⟩) s.size c24), (9, .int .i64 ((s.size : Nat) : Int)), (10, .int .i64 ((x.1 : Nat) : Int))]) (fun x w33 => Hp No w0 w33 [cB b5 122 [.pointer (some ⟨b5, 0, none⟩), .slice x.2.1 x.2.2.1 x.2.2.2.1], cQ 5 eY x.2.1 x.2.2.1 x.2.2.2.1 x.2.2.2.2, cK b23 c24 (bl s)] ∧ QI s x.1 x.2.2.1 x.2.2.2.2) (fun x => s.size - x.1) (0, a11, (0 + 1), c12, ([] ++ [34])) ⟨rfl, rfl, rfl, rfl, trivial⟩ ?_ ?_
  · refine ⟨(H26.pick [1, 2, 0] (by decide)), ?_⟩
    try dsimp only
    exact ⟨Nat.zero_le _, by omega, by simp⟩
  · rintro τ34 ⟨i, a2, m2, c2, ys⟩ w35 ⟨hx36, hq⟩
    try dsimp only at hq
    have hz37 := hx36.le
    intro Q38 kn39 kr40 ke41
    dsimp only at hx36 ⊢
    have hi := hq.1
    have hm2 := hq.2.1
    have hch := el_bl_lt s i
    refine sr fun Q42 k43 => qt (x_lssN rfl rfl) <| nl <| k43 _ _ <| seqK fun Q44 kn45 kr46 ke47 => cnd (p := i < s.size) rfl (fun h48 => ?_) (fun h48 => ?_)
    · refine skip <| kn45 _ _ <| seqK fun Q49 kn50 kr51 ke52 => blockK fun Q53 kn54 kr55 kx56 kb57 => ?_
      refine sr fun Q58 k59 => qt (x_index' T.sl120 rfl ((cK.srm (hx36.at 2 rfl) (bl_len s).symm).addr (by omega)) rfl (by omega)) <| qt (x_load1 T.na5 rfl ((cK.srm (hx36.at 2 rfl) (bl_len s).symm).cell (i := i) (by omega))) <| qt asg <| nl <| k59 _ _ <| blockK fun Q60 kn61 kr62 kx63 kb64 => ?_
      refine sr fun Q65 k66 => qt mv <| qt (x_eqlN (b := 34) rfl rfl) <| st_if (p := (el (bl s) i) = 34) (x_move rfl) (fun h67 => ?_) (fun h67 => ?_)
      · refine st_gn 2 28 rfl rfl (by decide) rfl <| st_gn 2 28 rfl rfl (by decide) rfl <| qt (pkT rfl) <| qt asg <| nl <| k66 _ _ <| cndT rfl <| ?_
        refine sr fun Q68 k69 => ?_
        have H73 : Hp No w0 w35 ([cB b5 122 [.pointer (some ⟨b5, 0, none⟩), .slice a2 m2 c2], cQ 5 eY a2 m2 c2 ys] ++ [cK b23 c24 (bl s)]) := (hx36.pick [0, 1, 2] (by decide))
        refine cl T.cf58 (wbyte58 _ b5 _ _ (some ⟨b5, 0, none⟩) _ _ 92 _ H73.startL (.inr rfl) (by omega)) rfl fun _ w74 ⟨a70, c71, er, K72⟩ => ⟨_, er, ?_⟩
        have H75 := H73.callL K72
        refine nl <| k69 _ _ <| region <| qt mv <| ?_
        have H79 : Hp No w0 w74 ([cB b5 122 [.pointer (some ⟨b5, 0, none⟩), .slice a70 (m2 + 1) c71], cQ 5 eY a70 (m2 + 1) c71 (ys ++ [92])] ++ [cK b23 c24 (bl s)]) := (H75.pick [0, 1, 2] (by decide))
        refine cl T.cf58 (wbyte58 _ b5 _ _ (some ⟨b5, 0, none⟩) _ _ (el (bl s) i) _ H79.startL (.inr rfl) (by omega)) rfl fun _ w80 ⟨a76, c77, er, K78⟩ => ⟨_, er, ?_⟩
        have H81 := H79.callL K78
        refine nl <| kn61 _ _ <| kn54 _ _ <| kn50 _ _ <| region <| qt (addN (b := 1) rfl rfl) <| qt mv <| nl <| ?_
        refine kn39 _ ((i + 1), a76, ((m2 + 1) + 1), c77, ((ys ++ [92]) ++ [el (bl s) i])) _ ⟨rfl, rfl, rfl, rfl, trivial⟩ ⟨(H81.pick [0, 1, 2] (by decide)), ?_⟩ ?_
        · try dsimp only
          exact hq.step h48 (k := 2) (by decide) (by rw [piece1 (.inl h67), List.append_assoc]; rfl)
        · (try dsimp only); omega
      · refine st_gq 2 28 rfl rfl (by decide) <| qt mv <| st_gq 2 28 rfl rfl (by decide) <| qt (x_eqlN (b := 92) rfl rfl) <| qt (pkF rfl) <| qt asg <| nl <| k66 _ _ <| cnd (p := (el (bl s) i) = 92) rfl (fun h82 => ?_) (fun h82 => ?_)
        · refine sr fun Q83 k84 => ?_
          have H88 : Hp No w0 w35 ([cB b5 122 [.pointer (some ⟨b5, 0, none⟩), .slice a2 m2 c2], cQ 5 eY a2 m2 c2 ys] ++ [cK b23 c24 (bl s)]) := (hx36.pick [0, 1, 2] (by decide))
          refine cl T.cf58 (wbyte58 _ b5 _ _ (some ⟨b5, 0, none⟩) _ _ 92 _ H88.startL (.inr rfl) (by omega)) rfl fun _ w89 ⟨a85, c86, er, K87⟩ => ⟨_, er, ?_⟩
          have H90 := H88.callL K87
          refine nl <| k84 _ _ <| region <| qt mv <| ?_
          have H94 : Hp No w0 w89 ([cB b5 122 [.pointer (some ⟨b5, 0, none⟩), .slice a85 (m2 + 1) c86], cQ 5 eY a85 (m2 + 1) c86 (ys ++ [92])] ++ [cK b23 c24 (bl s)]) := (H90.pick [0, 1, 2] (by decide))
          refine cl T.cf58 (wbyte58 _ b5 _ _ (some ⟨b5, 0, none⟩) _ _ (el (bl s) i) _ H94.startL (.inr rfl) (by omega)) rfl fun _ w95 ⟨a91, c92, er, K93⟩ => ⟨_, er, ?_⟩
          have H96 := H94.callL K93
          refine nl <| kn61 _ _ <| kn54 _ _ <| kn50 _ _ <| region <| qt (addN (b := 1) rfl rfl) <| qt mv <| nl <| ?_
          refine kn39 _ ((i + 1), a91, ((m2 + 1) + 1), c92, ((ys ++ [92]) ++ [el (bl s) i])) _ ⟨rfl, rfl, rfl, rfl, trivial⟩ ⟨(H96.pick [0, 1, 2] (by decide)), ?_⟩ ?_
          · try dsimp only
            exact hq.step h48 (k := 2) (by decide) (by rw [piece1 (.inr h82), List.append_assoc]; rfl)
          · (try dsimp only); omega
        · refine sr fun Q97 k98 => qt mv <| qt (x_eqlN (b := 10) rfl rfl) <| qt asg <| nl <| k98 _ _ <| cnd (p := (el (bl s) i) = 10) rfl (fun h99 => ?_) (fun h99 => ?_)
          · refine region <| ?_
            have H103 : Hp No w0 w35 ([cB b5 122 [.pointer (some ⟨b5, 0, none⟩), .slice a2 m2 c2], cQ 5 eY a2 m2 c2 ys] ++ [cK b23 c24 (bl s)]) := (hx36.pick [0, 1, 2] (by decide))
            refine cl T.cf56 (wstr56 _ b5 _ _ (some ⟨b5, 0, none⟩) _ _ (ByteArray.mk #[92, 110]) _ H103.startL (.inr rfl) (by show _ + 2 ≤ _; omega)) rfl fun _ w104 ⟨a100, c101, er, K102⟩ => ⟨_, er, ?_⟩
            have H105 := H103.callL K102
            refine nl <| kn61 _ _ <| kn54 _ _ <| kn50 _ _ <| region <| qt (addN (b := 1) rfl rfl) <| qt mv <| nl <| ?_
            refine kn39 _ ((i + 1), a100, (m2 + (ByteArray.mk #[92, 110]).size), c101, (ys ++ bl (ByteArray.mk #[92, 110]))) _ ⟨rfl, rfl, rfl, rfl, trivial⟩ ⟨(H105.pick [0, 1, 2] (by decide)), ?_⟩ ?_
            · try dsimp only
              exact hq.step h48 (by decide) (by rw [piece2 h99]; rfl)
            · (try dsimp only); omega
          · refine sr fun Q106 k107 => qt mv <| qt (x_eqlN (b := 9) rfl rfl) <| qt asg <| nl <| k107 _ _ <| cnd (p := (el (bl s) i) = 9) rfl (fun h108 => ?_) (fun h108 => ?_)
            · refine region <| ?_
              have H112 : Hp No w0 w35 ([cB b5 122 [.pointer (some ⟨b5, 0, none⟩), .slice a2 m2 c2], cQ 5 eY a2 m2 c2 ys] ++ [cK b23 c24 (bl s)]) := (hx36.pick [0, 1, 2] (by decide))
              refine cl T.cf56 (wstr56 _ b5 _ _ (some ⟨b5, 0, none⟩) _ _ (ByteArray.mk #[92, 116]) _ H112.startL (.inr rfl) (by show _ + 2 ≤ _; omega)) rfl fun _ w113 ⟨a109, c110, er, K111⟩ => ⟨_, er, ?_⟩
              have H114 := H112.callL K111
              refine nl <| kn61 _ _ <| kn54 _ _ <| kn50 _ _ <| region <| qt (addN (b := 1) rfl rfl) <| qt mv <| nl <| ?_
              refine kn39 _ ((i + 1), a109, (m2 + (ByteArray.mk #[92, 116]).size), c110, (ys ++ bl (ByteArray.mk #[92, 116]))) _ ⟨rfl, rfl, rfl, rfl, trivial⟩ ⟨(H114.pick [0, 1, 2] (by decide)), ?_⟩ ?_
              · try dsimp only
                exact hq.step h48 (by decide) (by rw [piece3 h108]; rfl)
              · (try dsimp only); omega
            · refine sr fun Q115 k116 => qt mv <| qt (x_geqN (b := 32) rfl rfl) <| st_if (p := 32 ≤ (el (bl s) i)) (x_move rfl) (fun h117 => ?_) (fun h117 => ?_)
              · refine st_gq 2 46 rfl rfl (by decide) <| qt mv <| st_gq 2 46 rfl rfl (by decide) <| qt (x_leqN (b := 126) rfl rfl) <| qt (pkT rfl) <| qt asg <| nl <| k116 _ _ <| cnd (p := (el (bl s) i) ≤ 126) rfl (fun h118 => ?_) (fun h118 => ?_)
                · refine region <| qt mv <| ?_
                  have H122 : Hp No w0 w35 ([cB b5 122 [.pointer (some ⟨b5, 0, none⟩), .slice a2 m2 c2], cQ 5 eY a2 m2 c2 ys] ++ [cK b23 c24 (bl s)]) := (hx36.pick [0, 1, 2] (by decide))
                  refine cl T.cf58 (wbyte58 _ b5 _ _ (some ⟨b5, 0, none⟩) _ _ (el (bl s) i) _ H122.startL (.inr rfl) (by omega)) rfl fun _ w123 ⟨a119, c120, er, K121⟩ => ⟨_, er, ?_⟩
                  have H124 := H122.callL K121
                  refine nl <| kn61 _ _ <| kn54 _ _ <| kn50 _ _ <| region <| qt (addN (b := 1) rfl rfl) <| qt mv <| nl <| ?_
                  refine kn39 _ ((i + 1), a119, (m2 + 1), c120, (ys ++ [el (bl s) i])) _ ⟨rfl, rfl, rfl, rfl, trivial⟩ ⟨(H124.pick [0, 1, 2] (by decide)), ?_⟩ ?_
                  · try dsimp only
                    exact hq.step h48 (k := 1) (by decide) (by rw [piece4 h67 h82 h117 h118])
                  · (try dsimp only); omega
                · refine regionD1 [] [0, 1, 2, 3, 4, 5, 6, 7, 8, 9] (.one 0 (.one 1 (.one 2 (.one 3 (.one 4 (.one 5 (.one 6 (.one 7 (.one 8 (.one 9 (.one 10 .done))))))))))) (by kernel_rfl) (by kernel_rfl) fun w125 x126 s127 => ?_
                  have H128 := hx36.ext x126
                  have S129 : Ext w125 w125 := Below.refl _ _
                  refine d_q rfl rfl (fun _ => mv) <| d_q rfl rfl (fun _ => x_shr8 (s := 4) rfl rfl (by decide)) <| d_q rfl rfl (fun _ => x_indexS (s := hexS) (i := (el (bl s) i / 2 ^ 4)) Tryz.underlying9 rfl rfl (by show _ < 16; omega)) <| d_q rfl rfl (fun _ => x_runeS Tryz.underlying5 Tryz.underlying9 rfl (hex_lt (by omega))) <| d_q rfl rfl (fun _ => x_addS rfl rfl (by rw [sN_size]; exact (show 3 ≤ 9223372036854775807 by decide))) <| d_q rfl rfl (fun _ => mv) <| d_q rfl rfl (fun _ => x_and8 rfl rfl hch) <| d_q rfl rfl (fun _ => x_indexS (s := hexS) (i := (el (bl s) i % 16)) Tryz.underlying9 rfl rfl (by show _ < 16; omega)) <| d_q rfl rfl (fun _ => x_runeS Tryz.underlying5 Tryz.underlying9 rfl (hex_lt (by omega))) <| d_q rfl rfl (fun _ => x_addS rfl rfl (by rw [ByteArray.size_append, sN_size, sN_size]; exact (show 4 ≤ 9223372036854775807 by decide))) <| ?_
                  have H133 : Hp No w0 w125 ([cB b5 122 [.pointer (some ⟨b5, 0, none⟩), .slice a2 m2 c2], cQ 5 eY a2 m2 c2 ys] ++ [cK b23 c24 (bl s)]) := (H128.pick [0, 1, 2] (by decide))
                  refine d_e (by decide) <| d_c' rfl rfl (t_call _ T.cf56 rfl rfl) (wstr56 _ b5 _ _ (some ⟨b5, 0, none⟩) _ _ (((ByteArray.mk #[92, 120]) ++ (sN [(ch hexS (el (bl s) i / 2 ^ 4))])) ++ (sN [(ch hexS (el (bl s) i % 16))])) _ H133.startL (.inr rfl) (by rw [ByteArray.size_append, ByteArray.size_append, sN_size, sN_size]; show _ + (2 + 1 + 1) ≤ _; omega)) fun _ w134 ⟨a130, c131, er, K132⟩ => ⟨_, er, ?_⟩
                  have H135 := H133.callL K132
                  refine ⟨need_no (by kernel_rfl), ?_⟩
                  refine d_done <| kn61 _ _ <| kn54 _ _ <| kn50 _ _ <| region <| qt (addN (b := 1) rfl rfl) <| qt mv <| nl <| ?_
                  refine kn39 _ ((i + 1), a130, (m2 + (((ByteArray.mk #[92, 120]) ++ (sN [(ch hexS (el (bl s) i / 2 ^ 4))])) ++ (sN [(ch hexS (el (bl s) i % 16))])).size), c131, (ys ++ bl (((ByteArray.mk #[92, 120]) ++ (sN [(ch hexS (el (bl s) i / 2 ^ 4))])) ++ (sN [(ch hexS (el (bl s) i % 16))])))) _ ⟨rfl, rfl, rfl, rfl, trivial⟩ ⟨(H135.pick [0, 1, 2] (by decide)), ?_⟩ ?_
                  · try dsimp only
                    exact hq.step h48 piece5z (by rw [piece5s hch _ rfl, piece5 h67 h82 h99 h108 (by omega)])
                  · (try dsimp only); omega
              · refine st_gn 2 46 rfl rfl (by decide) rfl <| st_gn 2 46 rfl rfl (by decide) rfl <| qt (pkF rfl) <| qt asg <| nl <| k116 _ _ <| cndF rfl <| regionD1 [] [0, 1, 2, 3, 4, 5, 6, 7, 8, 9] (.one 0 (.one 1 (.one 2 (.one 3 (.one 4 (.one 5 (.one 6 (.one 7 (.one 8 (.one 9 (.one 10 .done))))))))))) (by kernel_rfl) (by kernel_rfl) fun w136 x137 s138 => ?_
                have H139 := hx36.ext x137
                have S140 : Ext w136 w136 := Below.refl _ _
                refine d_q rfl rfl (fun _ => mv) <| d_q rfl rfl (fun _ => x_shr8 (s := 4) rfl rfl (by decide)) <| d_q rfl rfl (fun _ => x_indexS (s := hexS) (i := (el (bl s) i / 2 ^ 4)) Tryz.underlying9 rfl rfl (by show _ < 16; omega)) <| d_q rfl rfl (fun _ => x_runeS Tryz.underlying5 Tryz.underlying9 rfl (hex_lt (by omega))) <| d_q rfl rfl (fun _ => x_addS rfl rfl (by rw [sN_size]; exact (show 3 ≤ 9223372036854775807 by decide))) <| d_q rfl rfl (fun _ => mv) <| d_q rfl rfl (fun _ => x_and8 rfl rfl hch) <| d_q rfl rfl (fun _ => x_indexS (s := hexS) (i := (el (bl s) i % 16)) Tryz.underlying9 rfl rfl (by show _ < 16; omega)) <| d_q rfl rfl (fun _ => x_runeS Tryz.underlying5 Tryz.underlying9 rfl (hex_lt (by omega))) <| d_q rfl rfl (fun _ => x_addS rfl rfl (by rw [ByteArray.size_append, sN_size, sN_size]; exact (show 4 ≤ 9223372036854775807 by decide))) <| ?_
                have H144 : Hp No w0 w136 ([cB b5 122 [.pointer (some ⟨b5, 0, none⟩), .slice a2 m2 c2], cQ 5 eY a2 m2 c2 ys] ++ [cK b23 c24 (bl s)]) := (H139.pick [0, 1, 2] (by decide))
                refine d_e (by decide) <| d_c' rfl rfl (t_call _ T.cf56 rfl rfl) (wstr56 _ b5 _ _ (some ⟨b5, 0, none⟩) _ _ (((ByteArray.mk #[92, 120]) ++ (sN [(ch hexS (el (bl s) i / 2 ^ 4))])) ++ (sN [(ch hexS (el (bl s) i % 16))])) _ H144.startL (.inr rfl) (by rw [ByteArray.size_append, ByteArray.size_append, sN_size, sN_size]; show _ + (2 + 1 + 1) ≤ _; omega)) fun _ w145 ⟨a141, c142, er, K143⟩ => ⟨_, er, ?_⟩
                have H146 := H144.callL K143
                refine ⟨need_no (by kernel_rfl), ?_⟩
                refine d_done <| kn61 _ _ <| kn54 _ _ <| kn50 _ _ <| region <| qt (addN (b := 1) rfl rfl) <| qt mv <| nl <| ?_
                refine kn39 _ ((i + 1), a141, (m2 + (((ByteArray.mk #[92, 120]) ++ (sN [(ch hexS (el (bl s) i / 2 ^ 4))])) ++ (sN [(ch hexS (el (bl s) i % 16))])).size), c142, (ys ++ bl (((ByteArray.mk #[92, 120]) ++ (sN [(ch hexS (el (bl s) i / 2 ^ 4))])) ++ (sN [(ch hexS (el (bl s) i % 16))])))) _ ⟨rfl, rfl, rfl, rfl, trivial⟩ ⟨(H146.pick [0, 1, 2] (by decide)), ?_⟩ ?_
                · try dsimp only
                  exact hq.step h48 piece5z (by rw [piece5s hch _ rfl, piece5 h67 h82 h99 h108 (by omega)])
                · (try dsimp only); omega
    · refine exit <| ke47 _ _ _ <| ke41 _ _ _ <| kb32 _ _ <| kn18 _ _ <| ?_
      refine sr fun Q147 k148 => ?_
      have H152 : Hp No w0 w35 ([cB b5 122 [.pointer (some ⟨b5, 0, none⟩), .slice a2 m2 c2], cQ 5 eY a2 m2 c2 ys] ++ [cK b23 c24 (bl s)]) := (hx36.pick [0, 1, 2] (by decide))
      refine cl T.cf58 (wbyte58 _ b5 _ _ (some ⟨b5, 0, none⟩) _ _ 34 _ H152.startL (.inr rfl) (by omega)) rfl fun _ w153 ⟨a149, c150, er, K151⟩ => ⟨_, er, ?_⟩
      have H154 := H152.callL K151
      refine nl <| k148 _ _ <| ?_
      refine sr fun Q155 k156 => ?_
      have hqq : (ys ++ [34]) = quoteL (bl s) := hq.fin h48
      have H158 : Hp No w0 w153 ([cB b5 122 [.pointer (some ⟨b5, 0, none⟩), .slice a149 (m2 + 1) c150], cQ 5 eY a149 (m2 + 1) c150 (ys ++ [34])] ++ [cK b23 c24 (bl s)]) := (H154.pick [0, 1, 2] (by decide))
      refine cl T.cf59 (built59S _ _ _ _ _ _ _ _ H158.startL (by omega) (by omega) (by rw [hqq]; exact quote_lt s) (fun z hz => ⟨_, List.mem_cons_of_mem _ (List.mem_cons_self ..), hz⟩)) rfl fun _ w159 ⟨er, K157⟩ => ⟨_, er, ?_⟩
      have H160 := H158.callL K157
      exact qt asg <| nl <| k156 _ _ <| ret <| leave1 (P := Tryz.prog) (fn := Tryz.f113) (t := 2) (v := .string (sN (ys ++ [34]))) rfl rfl <| ⟨_, rfl, by rw [hqq, bl_sN (quote_lt s)], H160.x⟩
end Go.Proofs.YtljfgmedbjlkaaaGreat
namespace Go.Proofs.YtljfgmedbjlkaaaGreat
open Go.RowKit Go.Eng Go.QP
theorem T.fa35_0 : FA Tryz.prog 35 0 0 := fun _ _ => by kernel_rfl
theorem T.na4 : NA Tryz.prog 4 := fun _ => by kernel_rfl
theorem T.fa35_1 : FA Tryz.prog 35 1 1 := fun _ _ => by kernel_rfl
theorem T.na9 : NA Tryz.prog 9 := fun _ => by kernel_rfl
theorem T.cf111 : CF Tryz.prog 111 := fun _ _ => by kernel_rfl
theorem T.cf112 : CF Tryz.prog 112 := fun _ _ => by kernel_rfl
theorem T.cf113 : CF Tryz.prog 113 := fun _ _ => by kernel_rfl
/-- what a term is printed as -/
def TermR (v : Bool) (s t : ByteArray) (k : Nat) : Prop :=
  (v = true ∧ kind s = 2 ∧ k = 0 ∧ t = s) ∨ ((v = true ∧ ¬ kind s = 2 ∨ ¬ v = true ∧ 1024 < s.size) ∧ k = 2 ∧ t = ByteArray.mk #[]) ∨ (¬ v = true ∧ s.size ≤ 1024 ∧ Bare s ∧ k = 0 ∧ t = s) ∨ (¬ v = true ∧ s.size ≤ 1024 ∧ ¬ Bare s ∧ k = 0 ∧ bl t = quoteL (bl s))
theorem term57 (v : Bool) (s : ByteArray) (w0 : World) (hs : s.size ≤ 68719476736) :
    Calls Tryz.prog 57 #[.agg #[.bool (decide (v = true)), .string s]] w0 fun e w' => ∃ t k, e = .returned (.tuple #[.string t, .int .i64 ((k : Nat) : Int)]) ∧ TermR v s t k ∧ Ext w0 w' := by
  refine enter Tryz.func57 rfl 32 Tryz.ntmps57 rfl <| ?_
  refine sr fun Q1 k2 => ?_
  refine st_e <| Ebx (v := .agg #[.bool (decide (v = true)), .string s]) (Hp.start No w0) rfl fun b3 w4 H5 x6 => qt asg <| qt asg <| nl <| k2 _ _ <| seqK fun Q7 kn8 kr9 ke10 => blockK fun Q11 kn12 kr13 kx14 kb15 => ?_
  refine sr fun Q16 k17 => qt (x_field (o := 0) T.fa35_0 rfl) <| qt (x_load1 T.na4 rfl (H5.ld 0 rfl 0 rfl)) <| st_if (p := v = true) (x_move rfl) (fun h18 => ?_) (fun h18 => ?_)
  · refine st_gq 2 7 rfl rfl (by decide) <| qt (x_field (o := 0) T.fa35_1 rfl) <| st_gq 2 7 rfl rfl (by decide) <| qt (x_load1 T.na9 rfl (H5.ld 0 rfl 1 rfl)) <| st_gq 2 7 rfl rfl (by decide) <| ?_
    refine cl T.cf111 (variable111 s _ (by omega)) rfl fun _ _ ⟨er, rfl⟩ => ⟨_, er, ?_⟩
    refine qt (pkT rfl) <| qt asg <| nl <| k17 _ _ <| cnd (p := kind s = 2) rfl (fun h20 => ?_) (fun h20 => ?_)
    · refine sr fun Q21 k22 => qt (x_field (o := 0) T.fa35_1 rfl) <| qt (x_load1 T.na9 rfl (H5.ld 0 rfl 1 rfl)) <| qt asg <| qt asg <| nl <| k22 _ _ <| ret <| kr13 _ _ <| kr9 _ _ <| leave2 (P := Tryz.prog) (fn := Tryz.f57) (t := 2) (u := 3) (v := .string s) (v' := .int .i64 ((0 : Nat) : Int)) rfl rfl rfl ?_
      exact ⟨_, _, rfl, by unfold TermR; first | exact absurd h20 h18 | exact .inl ⟨by assumption, by assumption, rfl, rfl⟩ | exact .inr (.inl ⟨by first | exact .inl ⟨by assumption, by assumption⟩ | exact .inr ⟨by assumption, by omega⟩, rfl, rfl⟩) | exact .inr (.inr (.inl ⟨by assumption, by omega, by assumption, rfl, rfl⟩)) | exact .inr (.inr (.inr ⟨by assumption, by omega, by assumption, rfl, by assumption⟩)), H5.x⟩
    · refine sr fun Q23 k24 => qt (x_field (o := 0) T.fa35_0 rfl) <| qt (x_load1 T.na4 rfl (H5.ld 0 rfl 0 rfl)) <| st_if (p := v = true) (x_move rfl) (fun h25 => ?_) (fun h25 => ?_)
      · refine st_gn 2 17 rfl rfl (by decide) rfl <| st_gn 2 17 rfl rfl (by decide) rfl <| st_gn 2 17 rfl rfl (by decide) rfl <| st_gn 2 17 rfl rfl (by decide) rfl <| qt (pkT rfl) <| qt asg <| nl <| k24 _ _ <| cndT rfl <| ?_
        refine sr fun Q26 k27 => qt asg <| qt asg <| nl <| k27 _ _ <| ret <| kr13 _ _ <| kr9 _ _ <| leave2 (P := Tryz.prog) (fn := Tryz.f57) (t := 2) (u := 3) (v := .string (ByteArray.mk #[])) (v' := .int .i64 ((2 : Nat) : Int)) rfl rfl rfl ?_
        exact ⟨_, _, rfl, by unfold TermR; first | exact .inl ⟨by assumption, by assumption, rfl, rfl⟩ | exact .inr (.inl ⟨by first | exact .inl ⟨by assumption, by assumption⟩ | exact .inr ⟨by assumption, by omega⟩, rfl, rfl⟩) | exact .inr (.inr (.inl ⟨by assumption, by omega, by assumption, rfl, rfl⟩)) | exact .inr (.inr (.inr ⟨by assumption, by omega, by assumption, rfl, by assumption⟩)), H5.x⟩
      · refine st_gq 2 17 rfl rfl (by decide) <| qt (x_field (o := 0) T.fa35_1 rfl) <| st_gq 2 17 rfl rfl (by decide) <| qt (x_load1 T.na9 rfl (H5.ld 0 rfl 1 rfl)) <| st_gq 2 17 rfl rfl (by decide) <| qt (x_lenS rfl Tryz.underlying9 rfl) <| st_gq 2 17 rfl rfl (by decide) <| qt (x_gtrN (b := 1024) rfl rfl) <| qt (pkF rfl) <| qt asg <| nl <| k24 _ _ <| cnd (p := 1024 < s.size) rfl (fun h28 => ?_) (fun h28 => ?_)
        · refine sr fun Q29 k30 => qt asg <| qt asg <| nl <| k30 _ _ <| ret <| kr13 _ _ <| kr9 _ _ <| leave2 (P := Tryz.prog) (fn := Tryz.f57) (t := 2) (u := 3) (v := .string (ByteArray.mk #[])) (v' := .int .i64 ((2 : Nat) : Int)) rfl rfl rfl ?_
          exact ⟨_, _, rfl, by unfold TermR; first | exact .inl ⟨by assumption, by assumption, rfl, rfl⟩ | exact .inr (.inl ⟨by first | exact .inl ⟨by assumption, by assumption⟩ | exact .inr ⟨by assumption, by omega⟩, rfl, rfl⟩) | exact .inr (.inr (.inl ⟨by assumption, by omega, by assumption, rfl, rfl⟩)) | exact .inr (.inr (.inr ⟨by assumption, by omega, by assumption, rfl, by assumption⟩)), H5.x⟩
        · refine sr fun Q31 k32 => qt (x_field (o := 0) T.fa35_1 rfl) <| qt (x_load1 T.na9 rfl (H5.ld 0 rfl 1 rfl)) <| ?_
          refine cl T.cf112 (bare112 s _ (by omega)) rfl fun _ _ ⟨er, rfl⟩ => ⟨_, er, ?_⟩
          refine qt asg <| nl <| k32 _ _ <| cnd (p := Bare s) rfl (fun h34 => ?_) (fun h34 => ?_)
          · refine sr fun Q35 k36 => qt (x_field (o := 0) T.fa35_1 rfl) <| qt (x_load1 T.na9 rfl (H5.ld 0 rfl 1 rfl)) <| qt asg <| qt asg <| nl <| k36 _ _ <| ret <| kr13 _ _ <| kr9 _ _ <| leave2 (P := Tryz.prog) (fn := Tryz.f57) (t := 2) (u := 3) (v := .string s) (v' := .int .i64 ((0 : Nat) : Int)) rfl rfl rfl ?_
            exact ⟨_, _, rfl, by unfold TermR; first | exact .inl ⟨by assumption, by assumption, rfl, rfl⟩ | exact .inr (.inl ⟨by first | exact .inl ⟨by assumption, by assumption⟩ | exact .inr ⟨by assumption, by omega⟩, rfl, rfl⟩) | exact .inr (.inr (.inl ⟨by assumption, by omega, by assumption, rfl, rfl⟩)) | exact .inr (.inr (.inr ⟨by assumption, by omega, by assumption, rfl, by assumption⟩)), H5.x⟩
          · refine skip <| kn12 _ _ <| kn8 _ _ <| ?_
            refine sr fun Q37 k38 => qt (x_field (o := 0) T.fa35_1 rfl) <| qt (x_load1 T.na9 rfl (H5.ld 0 rfl 1 rfl)) <| ?_
            refine cl T.cf113 (quote113 s _ (by omega)) rfl fun _ w42 ⟨t39, er, hq40, X41⟩ => ⟨_, er, ?_⟩
            have H43 := H5.ext X41
            refine qt asg <| qt asg <| nl <| k38 _ _ <| ret <| leave2 (P := Tryz.prog) (fn := Tryz.f57) (t := 2) (u := 3) (v := .string t39) (v' := .int .i64 ((0 : Nat) : Int)) rfl rfl rfl ?_
            exact ⟨_, _, rfl, by unfold TermR; first | exact .inl ⟨by assumption, by assumption, rfl, rfl⟩ | exact .inr (.inl ⟨by first | exact .inl ⟨by assumption, by assumption⟩ | exact .inr ⟨by assumption, by omega⟩, rfl, rfl⟩) | exact .inr (.inr (.inl ⟨by assumption, by omega, by assumption, rfl, rfl⟩)) | exact .inr (.inr (.inr ⟨by assumption, by omega, by assumption, rfl, by assumption⟩)), H43.x⟩
  · refine st_gn 2 7 rfl rfl (by decide) rfl <| st_gn 2 7 rfl rfl (by decide) rfl <| st_gn 2 7 rfl rfl (by decide) rfl <| qt (pkF rfl) <| qt asg <| nl <| k17 _ _ <| cndF rfl <| ?_
    refine sr fun Q44 k45 => qt (x_field (o := 0) T.fa35_0 rfl) <| qt (x_load1 T.na4 rfl (H5.ld 0 rfl 0 rfl)) <| st_if (p := v = true) (x_move rfl) (fun h46 => ?_) (fun h46 => ?_)
    · refine st_gn 2 17 rfl rfl (by decide) rfl <| st_gn 2 17 rfl rfl (by decide) rfl <| st_gn 2 17 rfl rfl (by decide) rfl <| st_gn 2 17 rfl rfl (by decide) rfl <| qt (pkT rfl) <| qt asg <| nl <| k45 _ _ <| cndT rfl <| ?_
      refine sr fun Q47 k48 => qt asg <| qt asg <| nl <| k48 _ _ <| ret <| kr13 _ _ <| kr9 _ _ <| leave2 (P := Tryz.prog) (fn := Tryz.f57) (t := 2) (u := 3) (v := .string (ByteArray.mk #[])) (v' := .int .i64 ((2 : Nat) : Int)) rfl rfl rfl ?_
      exact ⟨_, _, rfl, by unfold TermR; first | exact absurd h46 h18 | exact .inl ⟨by assumption, by assumption, rfl, rfl⟩ | exact .inr (.inl ⟨by first | exact .inl ⟨by assumption, by assumption⟩ | exact .inr ⟨by assumption, by omega⟩, rfl, rfl⟩) | exact .inr (.inr (.inl ⟨by assumption, by omega, by assumption, rfl, rfl⟩)) | exact .inr (.inr (.inr ⟨by assumption, by omega, by assumption, rfl, by assumption⟩)), H5.x⟩
    · refine st_gq 2 17 rfl rfl (by decide) <| qt (x_field (o := 0) T.fa35_1 rfl) <| st_gq 2 17 rfl rfl (by decide) <| qt (x_load1 T.na9 rfl (H5.ld 0 rfl 1 rfl)) <| st_gq 2 17 rfl rfl (by decide) <| qt (x_lenS rfl Tryz.underlying9 rfl) <| st_gq 2 17 rfl rfl (by decide) <| qt (x_gtrN (b := 1024) rfl rfl) <| qt (pkF rfl) <| qt asg <| nl <| k45 _ _ <| cnd (p := 1024 < s.size) rfl (fun h49 => ?_) (fun h49 => ?_)
      · refine sr fun Q50 k51 => qt asg <| qt asg <| nl <| k51 _ _ <| ret <| kr13 _ _ <| kr9 _ _ <| leave2 (P := Tryz.prog) (fn := Tryz.f57) (t := 2) (u := 3) (v := .string (ByteArray.mk #[])) (v' := .int .i64 ((2 : Nat) : Int)) rfl rfl rfl ?_
        exact ⟨_, _, rfl, by unfold TermR; first | exact .inl ⟨by assumption, by assumption, rfl, rfl⟩ | exact .inr (.inl ⟨by first | exact .inl ⟨by assumption, by assumption⟩ | exact .inr ⟨by assumption, by omega⟩, rfl, rfl⟩) | exact .inr (.inr (.inl ⟨by assumption, by omega, by assumption, rfl, rfl⟩)) | exact .inr (.inr (.inr ⟨by assumption, by omega, by assumption, rfl, by assumption⟩)), H5.x⟩
      · refine sr fun Q52 k53 => qt (x_field (o := 0) T.fa35_1 rfl) <| qt (x_load1 T.na9 rfl (H5.ld 0 rfl 1 rfl)) <| ?_
        refine cl T.cf112 (bare112 s _ (by omega)) rfl fun _ _ ⟨er, rfl⟩ => ⟨_, er, ?_⟩
        refine qt asg <| nl <| k53 _ _ <| cnd (p := Bare s) rfl (fun h55 => ?_) (fun h55 => ?_)
        · refine sr fun Q56 k57 => qt (x_field (o := 0) T.fa35_1 rfl) <| qt (x_load1 T.na9 rfl (H5.ld 0 rfl 1 rfl)) <| qt asg <| qt asg <| nl <| k57 _ _ <| ret <| kr13 _ _ <| kr9 _ _ <| leave2 (P := Tryz.prog) (fn := Tryz.f57) (t := 2) (u := 3) (v := .string s) (v' := .int .i64 ((0 : Nat) : Int)) rfl rfl rfl ?_
          exact ⟨_, _, rfl, by unfold TermR; first | exact .inl ⟨by assumption, by assumption, rfl, rfl⟩ | exact .inr (.inl ⟨by first | exact .inl ⟨by assumption, by assumption⟩ | exact .inr ⟨by assumption, by omega⟩, rfl, rfl⟩) | exact .inr (.inr (.inl ⟨by assumption, by omega, by assumption, rfl, rfl⟩)) | exact .inr (.inr (.inr ⟨by assumption, by omega, by assumption, rfl, by assumption⟩)), H5.x⟩
        · refine skip <| kn12 _ _ <| kn8 _ _ <| ?_
          refine sr fun Q58 k59 => qt (x_field (o := 0) T.fa35_1 rfl) <| qt (x_load1 T.na9 rfl (H5.ld 0 rfl 1 rfl)) <| ?_
          refine cl T.cf113 (quote113 s _ (by omega)) rfl fun _ w63 ⟨t60, er, hq61, X62⟩ => ⟨_, er, ?_⟩
          have H64 := H5.ext X62
          refine qt asg <| qt asg <| nl <| k59 _ _ <| ret <| leave2 (P := Tryz.prog) (fn := Tryz.f57) (t := 2) (u := 3) (v := .string t60) (v' := .int .i64 ((0 : Nat) : Int)) rfl rfl rfl ?_
          exact ⟨_, _, rfl, by unfold TermR; first | exact .inl ⟨by assumption, by assumption, rfl, rfl⟩ | exact .inr (.inl ⟨by first | exact .inl ⟨by assumption, by assumption⟩ | exact .inr ⟨by assumption, by omega⟩, rfl, rfl⟩) | exact .inr (.inr (.inl ⟨by assumption, by omega, by assumption, rfl, rfl⟩)) | exact .inr (.inr (.inr ⟨by assumption, by omega, by assumption, rfl, by assumption⟩)), H64.x⟩
end Go.Proofs.YtljfgmedbjlkaaaGreat
namespace Go.Proofs.YtljfgmedbjlkaaaGreat
open Go.RowKit Go.Eng Go.QP
theorem quoteL_len (l : List Nat) : (quoteL l).length ≤ 2 + 4 * l.length := by
  unfold quoteL
  have : (l.flatMap pieceL).length ≤ 4 * l.length := by
    induction l with
    | nil => simp
    | cons x l ih => have := pieceL_len x; rw [List.flatMap_cons, List.length_append, List.length_cons]; omega
  simp only [List.length_append, List.length_cons, List.length_nil]
  omega
theorem TermR.len {v : Bool} {s t : ByteArray} {k : Nat} (h : TermR v s t k) : t.size ≤ 4098 := by
  rcases h with ⟨_, h, _, rfl⟩ | ⟨_, _, rfl⟩ | ⟨_, _, h, _, rfl⟩ | ⟨_, h1, _, _, h⟩
  · have := kind_pos (s := t) (by rw [h]; decide)
    omega
  · exact Nat.zero_le _
  · have := kind_pos (s := t) (by rcases h with h | h <;> rw [h] <;> decide)
    omega
  · rw [← bl_len, h]
    have := quoteL_len (bl s)
    rw [bl_len] at this
    omega
/-- a term that can be printed -/
def TermG (v : Bool) (s : ByteArray) : Prop := (v = true ∧ kind s = 2) ∨ (¬ v = true ∧ s.size ≤ 1024)
theorem TermR.good {v : Bool} {s t : ByteArray} {k : Nat} (h : TermR v s t k) : (k = 0 ∧ TermG v s) ∨ (k = 2 ∧ ¬ TermG v s) := by
  unfold TermG
  rcases h with ⟨h1, h2, h3, _⟩ | ⟨h1, h2, _⟩ | ⟨h1, h2, _, h3, _⟩ | ⟨h1, h2, _, h3, _⟩
  · exact .inl ⟨h3, .inl ⟨h1, h2⟩⟩
  · refine .inr ⟨h2, fun hg => ?_⟩
    rcases h1 with ⟨a, b⟩ | ⟨a, b⟩
    · rcases hg with ⟨_, c⟩ | ⟨c, _⟩
      · exact b c
      · exact c a
    · rcases hg with ⟨c, _⟩ | ⟨_, c⟩
      · exact a c
      · omega
  · exact .inl ⟨h3, .inr ⟨h1, h2⟩⟩
  · exact .inl ⟨h3, .inr ⟨h1, h2⟩⟩
end Go.Proofs.YtljfgmedbjlkaaaGreat
