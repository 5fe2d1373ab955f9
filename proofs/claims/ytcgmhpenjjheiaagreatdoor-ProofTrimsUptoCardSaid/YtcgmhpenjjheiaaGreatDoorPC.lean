/- A part of the engine: steps over the model. Over any program. -/
import Derived.Test.YtcgmhpenjjheiaaGreatDoorPT
import Derived.Test.YtcgmhpenjjheiaaGreatDoorV3
import Derived.Test.YtcgmhpenjjheiaaGreatDoorProg
import Derived.Test.YtcgmhpenjjheiaaGreatDoorSI
import Derived.Test.YtcgmhpenjjheiaaGreatDoorPB
import Derived.Lib.ItoaLen
namespace Go.Proofs.YtcgmhpenjjheiaaGreatDoor
open Go.RowKit Go.Eng Go.PT
theorem T.cf62 : CF Tryz.prog 62 := fun _ _ => by kernel_rfl
def Tab (w : World) : Prop := Lib.TabIs Tryz.prog w "internal/strconv.uint64pow10" .u64 Lib.pow10Tab
theorem gTab : ∃ g, Tryz.prog.globalNamed "internal/strconv.uint64pow10" = some g ∧ g = 1 := ⟨_, by kernel_rfl, rfl⟩
theorem Tab.cell {w : World} (h : Tab w) : ∃ t fr, w.heap[1]? = some (.cells (Lib.pow10Tab.map fun z => Value.int .u64 z).toArray t fr) := by
  obtain ⟨g, hg, rfl⟩ := gTab
  unfold Tab Lib.TabIs World.var? at h
  rw [hg] at h
  dsimp only [Option.bind] at h
  split at h
  · rename_i cs t fr e
    injection h with h
    subst h
    exact ⟨t, fr, e⟩
  · cases h
theorem Tab.lt {w : World} (h : Tab w) : 1 < w.heap.size := by
  obtain ⟨t, fr, e⟩ := h.cell
  exact (Array.getElem?_eq_some_iff.1 e).1
theorem Tab.mod {S : Nat → Prop} {w w' : World} (h : Tab w) (m : Mod S w w') (hS : ¬ S 1) : Tab w' := by
  obtain ⟨t, fr, e⟩ := h.cell
  obtain ⟨g, hg, rfl⟩ := gTab
  unfold Tab Lib.TabIs World.var?
  rw [hg]
  dsimp only [Option.bind]
  rw [m.block _ h.lt hS, e]
theorem Tab.ext {w w' : World} (h : Tab w) (x : Ext w w') : Tab w' := h.mod (x.mod No) fun h => h
def itoaB (i : Nat) : ByteArray := ⟨(Lib.itoa (i : Int)).toArray⟩
def mkB (i : Nat) : ByteArray := (ByteArray.mk #[109, 97, 114, 107, 32]) ++ itoaB i
theorem itoaB_size (i : Nat) (hi : i ≤ 1099511627776) : (itoaB i).size ≤ 21 := by
  have := Lib.itoa_length_le (i : Int) (by omega) (by omega)
  simpa [itoaB, ByteArray.size] using this
theorem itoa62 (i : Nat) (hi : i ≤ 1099511627776) (w : World) (hT : Tab w) : Calls Tryz.prog 62 #[.int .i64 (i : Int)] w fun e w' => e = .returned (.string (itoaB i)) ∧ Ext w w' :=
  (Tryz.strconv_Itoa (i : Int) (by omega) (by omega) w hT).mono fun e w' ⟨h1, k, os, h2⟩ => ⟨h1, by subst h2; exact ⟨rfl, rfl, rfl, by simp, fun j hj => Go.Sort.heap_grow_old (w.drewN k) os hj⟩⟩
theorem mark41 (i : Nat) (hi : i ≤ 1099511627776) (w0 : World) (hT : Tab w0) :
    Calls Tryz.prog 41 #[.int .i64 (i : Int)] w0 fun e w' => e = .returned (.string (mkB i)) ∧ Ext w0 w' := by
  refine enter Tryz.func41 rfl 6 Tryz.ntmps41 rfl <| ?_
  refine sr fun Q1 k2 => qt asg <| nl <| k2 _ _ <| ?_
  refine sr fun Q3 k4 => qt mv <| ?_
  refine cl T.cf62 (itoa62 i hi _ (hT.ext (Hp.start No w0).x)) rfl fun _ w6 ⟨er, x5⟩ => ⟨_, er, ?_⟩
  have H7 := (Hp.start No w0).ext x5
  exact qt (x_addS rfl rfl (by have h9 := itoaB_size i hi; rw [show (ByteArray.mk #[109, 97, 114, 107, 32]).size = 5 from rfl]; omega)) <| qt asg <| nl <| k4 _ _ <| ret <| leave1 (P := Tryz.prog) (fn := Tryz.f41) (t := 2) (v := .string ((ByteArray.mk #[109, 97, 114, 107, 32]) ++ (itoaB i))) rfl rfl <| ⟨rfl, H7.x⟩
end Go.Proofs.YtcgmhpenjjheiaaGreatDoor
namespace Go.Proofs.YtcgmhpenjjheiaaGreatDoor
open Go.RowKit Go.Eng Go.PT
theorem T.cf41 : CF Tryz.prog 41 := fun _ _ => by kernel_rfl
theorem T.sz9 : SZ Tryz.prog 9 1 := fun _ => by kernel_rfl
theorem T.sz3 : SZ Tryz.prog 3 1 := fun _ => by kernel_rfl
abbrev mI (i : Nat) : Int := -1000 - (i : Int)
theorem texts24 (S : Nat → Prop) (bk : Nat) (ta : Option Addr) (tm tc : Nat) (hs : List Hdr) (xss : Nat → List ByteArray) (nv lv : Value) (w0 : World) (hT : Tab w0) (hS : ¬ S 1) (hm : tm ≤ 1099511627776) (hbd : ∀ j, j < tm → (el hs j).2.1 ≤ 1099511627776) (H0 : Hp S w0 w0 [cB bk 36 [.slice ta tm tc, nv, lv], cQ 56 eL ta tm tc hs, cF tm fun j => cQ 9 eS (el hs j).1 (el hs j).2.1 (el hs j).2.2 (xss j)]) :
    Calls Tryz.prog 24 #[.pointer (some ⟨bk, 0, none⟩)] w0 fun e w' => e = .returned (.bool true) ∧ Hp S w0 w' [cB bk 36 [.slice ta tm tc, nv, lv]] := by
  have hlen : ∀ i, i < tm → (xss i).length = (el hs i).2.1 := fun i hi => len_of (H0.at 2 rfl) hi
  refine enter Tryz.func24 rfl 127 Tryz.ntmps24 rfl <| ?_
  refine sr fun Q1 k2 => qt asg <| nl <| k2 _ _ <| seqK fun Q3 kn4 kr5 ke6 => ?_
  refine sr fun Q7 k8 => qt asg <| nl <| k8 _ _ <| blockK fun Q9 kn10 kr11 kx12 kb13 => ?_
  refine loopK (α := Nat) (fun x => [(0, .pointer (some ⟨bk, 0, none⟩)), (3, .int .i64 ((x : Nat) : Int))]) (fun x w14 => Hp S w0 w14 [cB bk 36 [.slice ta tm tc, nv, lv], cQ 56 eL ta tm tc hs, cF tm (bG 9 eS hs mkB xss x 0)] ∧ x ≤ tm) (fun x => tm - x) (0) ⟨rfl, rfl, trivial⟩ ?_ ?_
  · refine ⟨(H0.fcongr 2 rfl (fun j _ => bG_zero)), ?_⟩
    try dsimp only
    exact Nat.zero_le _
  · rintro τ15 i w16 ⟨hx17, hi⟩
    try dsimp only at hi
    have hz18 := hx17.le
    intro Q19 kn20 kr21 ke22
    refine seqK fun Q23 kn24 kr25 ke26 => ?_
    refine sr fun Q27 k28 => qt mv <| qt mv <| qt (x_nilCheck rfl) <| qt (x_field (o := 0) T.fa36_0 rfl) <| qt (x_load1 T.na32 rfl (hx17.ld 0 rfl 0 rfl)) <| qt (x_lenSl rfl Tryz.underlying32 rfl) <| qt (x_lssN rfl rfl) <| nl <| k28 _ _ <| cnd (p := i < tm) rfl (fun h29 => ?_) (fun h29 => ?_)
    · refine skip <| kn24 _ _ <| seqK fun Q30 kn31 kr32 ke33 => blockK fun Q34 kn35 kr36 kx37 kb38 => ?_
      refine sr fun Q39 k40 => qt asg <| nl <| k40 _ _ <| blockK fun Q41 kn42 kr43 kx44 kb45 => ?_
      refine loopK (α := Nat) (fun x => [(0, .pointer (some ⟨bk, 0, none⟩)), (3, .int .i64 ((i : Nat) : Int)), (4, .int .i64 ((x : Nat) : Int))]) (fun x w46 => Hp S w0 w46 [cB bk 36 [.slice ta tm tc, nv, lv], cQ 56 eL ta tm tc hs, cF tm (bG 9 eS hs mkB xss i x)] ∧ x ≤ (el hs i).2.1) (fun x => (el hs i).2.1 - x) (0) ⟨rfl, rfl, rfl, trivial⟩ ?_ ?_
      · refine ⟨hx17, ?_⟩
        try dsimp only
        exact Nat.zero_le _
      · rintro τ47 k w48 ⟨hx49, hk⟩
        try dsimp only at hk
        have hz50 := hx49.le
        intro Q51 kn52 kr53 ke54
        have hbi := hbd i (by omega)
        refine seqK fun Q55 kn56 kr57 ke58 => ?_
        refine sr fun Q59 k60 => qt mv <| qt mv <| qt (x_nilCheck rfl) <| qt (x_field (o := 0) T.fa36_0 rfl) <| qt (x_load1 T.na32 rfl (hx49.ld 0 rfl 0 rfl)) <| qt mv <| qt (x_index' T.sl32 rfl ((hx49.srQ 1 rfl).addr (by omega)) rfl (by omega)) <| qt (x_load1 T.na56 rfl ((hx49.srQ 1 rfl).cell (i := i) (by omega))) <| qt (x_lenSl rfl Tryz.underlying56 rfl) <| qt (x_lssN rfl rfl) <| nl <| k60 _ _ <| cnd (p := k < ((el hs i).2.1)) rfl (fun h61 => ?_) (fun h61 => ?_)
        · refine skip <| kn56 _ _ <| seqK fun Q62 kn63 kr64 ke65 => blockK fun Q66 kn67 kr68 kx69 kb70 => regionD1 [3, 6] [0, 1, 2, 3, 4, 5, 6, 7, 8, 10] (.one 0 (.one 1 (.one 2 (.one 3 (.one 4 (.one 5 (.one 6 (.one 7 (.one 8 (.one 9 (.one 10 (.one 11 .done)))))))))))) (by kernel_rfl) (by kernel_rfl) fun w71 x72 s73 => ?_
          have H74 := hx49.ext x72
          have S75 : Ext w71 w71 := Below.refl _ _
          refine d_q rfl rfl (fun _ => mv) <| d_q rfl rfl (fun _ => x_nilCheck rfl) <| d_q rfl rfl (fun _ => x_field (o := 0) T.fa36_0 rfl) <| d_l rfl rfl rfl (fun _ y76 => x_load1 T.na32 rfl ((H74.ld 0 rfl 0 rfl).ext y76)) <| d_q rfl rfl (fun _ => mv) <| d_q rfl rfl (fun _ => x_index' T.sl32 rfl ((H74.srQ 1 rfl).addr (by omega)) rfl (by omega)) <| d_l rfl rfl rfl (fun _ y77 => x_load1 T.na56 rfl (((H74.srQ 1 rfl).cell (i := i) (by omega)).ext y77)) <| d_q rfl rfl (fun _ => mv) <| d_q rfl rfl (fun _ => mv) <| d_e (by decide) <| d_c' rfl rfl (t_call _ T.cf41 rfl rfl) (mark41 i (by omega) _ (hT.mod H74.fr hS)) fun _ w79 ⟨er, x78⟩ => ⟨_, er, ?_⟩
          have H80 := H74.ext x78
          have S81 := S75.trans (x78.mono S75.size)
          refine ⟨fun _ => S81, ?_⟩
          refine d_q rfl rfl (fun _ => x_index' T.sl56 rfl ((bG_sr (H74.at 2 rfl) (i := i) (by omega)).addr (by omega)) rfl (by omega)) <| d_e (by decide) <| d_s' rfl rfl <| EsoQF (j := k) H80 2 (mkB i) T.sz9 rfl rfl (by omega) bG_at rfl rfl (by omega) fun w82 H83 => ?_
          have H84 := H83.fcongr 2 rfl (fun j _ => bG_step (by have := hlen i (by omega); omega) j)
          refine ⟨need_no (by kernel_rfl), ?_⟩
          refine d_done <| kn67 _ _ <| kn63 _ _ <| region <| qt mv <| qt (addN (b := 1) rfl rfl) <| qt asg <| nl <| ?_
          have H85 : Hp S w0 w82 [cB bk 36 [.slice ta tm tc, nv, lv], cQ 56 eL ta tm tc hs, cF tm (bG 9 eS hs mkB xss i (k + 1))] := (H84.pick [0, 1, 2] (by decide))
          refine kn52 _ ((k + 1)) _ ⟨rfl, rfl, rfl, trivial⟩ ⟨H85, ?_⟩ ?_
          · try dsimp only
            exact (by omega)
          · (try dsimp only); omega
        · refine exit <| ke58 _ _ _ <| ke54 _ _ _ <| kb45 _ _ <| kn35 _ _ <| kn31 _ _ <| region <| qt mv <| qt (addN (b := 1) rfl rfl) <| qt asg <| nl <| ?_
          have H86 : Hp S w0 w48 [cB bk 36 [.slice ta tm tc, nv, lv], cQ 56 eL ta tm tc hs, cF tm (bG 9 eS hs mkB xss i k)] := (hx49.pick [0, 1, 2] (by decide))
          refine kn20 _ ((i + 1)) _ ⟨rfl, rfl, trivial⟩ ⟨(H86.fcongr 2 rfl (fun j _ => by rw [show k = (el hs i).2.1 by omega]; exact bG_next (hlen i (by omega)) j)), ?_⟩ ?_
          · try dsimp only
            exact (by omega)
          · (try dsimp only); omega
    · refine exit <| ke26 _ _ _ <| ke22 _ _ _ <| kb13 _ _ <| kn4 _ _ <| ?_
      refine sr fun Q87 k88 => qt asg <| nl <| k88 _ _ <| seqK fun Q89 kn90 kr91 ke92 => ?_
      refine sr fun Q93 k94 => qt asg <| nl <| k94 _ _ <| blockK fun Q95 kn96 kr97 kx98 kb99 => ?_
      refine loopK (α := Nat × (Option Addr) × Nat × (List Hdr)) (fun x => [(0, .pointer (some ⟨bk, 0, none⟩)), (5, .slice x.2.1 x.1 x.2.2.1), (6, .int .i64 ((x.1 : Nat) : Int))]) (fun x w100 => Hp S w0 w100 [cB bk 36 [.slice ta tm tc, nv, lv], cQ 56 eL ta tm tc hs, cQ 56 eL x.2.1 x.1 x.2.2.1 x.2.2.2, cF tm (bJ 9 eS hs mkB x.2.2.2 x.1)] ∧ x.1 ≤ tm ∧ x.2.2.2.length = x.1) (fun x => tm - x.1) (0, none, 0, []) ⟨rfl, rfl, rfl, trivial⟩ ?_ ?_
      · refine ⟨(((hx17.fcongr 2 rfl (fun j hj => by rw [show i = tm by omega]; exact bG_end hj)).nilQ 56 eL).pick [1, 2, 0, 3] (by decide)), ?_⟩
        try dsimp only
        exact ⟨Nat.zero_le _, rfl⟩
      · rintro τ101 ⟨i, a2, c2, lhs⟩ w102 ⟨hx103, ⟨hi, hll⟩⟩
        try dsimp only at hi hll
        have hz104 := hx103.le
        intro Q105 kn106 kr107 ke108
        dsimp only at hx103 ⊢
        refine seqK fun Q109 kn110 kr111 ke112 => ?_
        refine sr fun Q113 k114 => qt mv <| qt mv <| qt (x_nilCheck rfl) <| qt (x_field (o := 0) T.fa36_0 rfl) <| qt (x_load1 T.na32 rfl (hx103.ld 0 rfl 0 rfl)) <| qt (x_lenSl rfl Tryz.underlying32 rfl) <| qt (x_lssN rfl rfl) <| nl <| k114 _ _ <| cnd (p := i < tm) rfl (fun h115 => ?_) (fun h115 => ?_)
        · refine skip <| kn110 _ _ <| seqK fun Q116 kn117 kr118 ke119 => blockK fun Q120 kn121 kr122 kx123 kb124 => ?_
          refine sr fun Q125 k126 => qt mv <| qt (x_nilCheck rfl) <| qt (x_field (o := 0) T.fa36_0 rfl) <| qt (x_load1 T.na32 rfl (hx103.ld 0 rfl 0 rfl)) <| qt mv <| qt (x_index' T.sl32 rfl ((hx103.srQ 1 rfl).addr (by omega)) rfl (by omega)) <| qt (x_load1 T.na56 rfl ((hx103.srQ 1 rfl).cell (i := i) (by omega))) <| qt asg <| nl <| k126 _ _ <| seqK fun Q127 kn128 kr129 ke130 => ?_
          refine sr fun Q131 k132 => qt asg <| nl <| k132 _ _ <| blockK fun Q133 kn134 kr135 kx136 kb137 => ?_
          have H138 : Hp S w0 w102 [cB bk 36 [.slice ta tm tc, nv, lv], cQ 56 eL ta tm tc hs, cQ 56 eL a2 i c2 lhs, cF tm (bJ 9 eS hs mkB lhs i)] := (hx103.pick [0, 1, 2, 3] (by decide))
          refine loopK (α := Nat × (Option Addr) × Nat) (fun x => [(0, .pointer (some ⟨bk, 0, none⟩)), (5, .slice a2 i c2), (6, .int .i64 ((i : Nat) : Int)), (7, .slice x.2.1 ((el hs i).2.1 + x.1) x.2.2), (8, .int .i64 ((x.1 : Nat) : Int))]) (fun x w139 => Hp S w0 w139 [cB bk 36 [.slice ta tm tc, nv, lv], cQ 56 eL ta tm tc hs, cQ 56 eL a2 i c2 lhs, cF tm (bH 9 eS hs mkB lhs i x.2.1 x.2.2 x.1)] ∧ x.1 ≤ 20) (fun x => 20 - x.1) (0, (el hs i).1, (el hs i).2.2) ⟨rfl, rfl, rfl, rfl, rfl, trivial⟩ ?_ ?_
          · refine ⟨(bH_start H138 3 rfl), ?_⟩
            try dsimp only
            exact Nat.zero_le _
          · rintro τ140 ⟨k, la, lc⟩ w141 ⟨hx142, hk⟩
            try dsimp only at hk
            have hz143 := hx142.le
            intro Q144 kn145 kr146 ke147
            dsimp only at hx142 ⊢
            refine seqK fun Q148 kn149 kr150 ke151 => ?_
            refine sr fun Q152 k153 => qt mv <| qt (x_lssN (b := 20) rfl rfl) <| nl <| k153 _ _ <| cnd (p := k < 20) rfl (fun h154 => ?_) (fun h154 => ?_)
            · refine skip <| kn149 _ _ <| seqK fun Q155 kn156 kr157 ke158 => blockK fun Q159 kn160 kr161 kx162 kb163 => region <| qt mv <| qt mv <| ?_
              refine cl T.cf41 (mark41 i (by omega) _ (hT.mod hx142.fr hS)) rfl fun _ w165 ⟨er, x164⟩ => ⟨_, er, ?_⟩
              have H166 := hx142.ext x164
              refine st_e <| Ebs (cs := [.string (mkB i)]) (e := 9) H166 (fun _ => by kernel_rfl) fun b167 w168 H169 x170 => ?_
              refine st_e <| EapPF H169 4 T.sl56 rfl rfl (by omega) bH_at rfl (H169.lst (E := eS) 0 rfl (mkB i) rfl) (by have := hbd i (by omega); omega) rfl rfl fun a171 c172 w173 H174 => ?_
              have H175 := H174.fcongr 4 rfl (fun j _ => bH_step _ _ j)
              refine qt asg <| nl <| kn160 _ _ <| kn156 _ _ <| region <| qt mv <| qt (addN (b := 1) rfl rfl) <| qt asg <| nl <| ?_
              have H176 : Hp S w0 w173 [cB bk 36 [.slice ta tm tc, nv, lv], cQ 56 eL ta tm tc hs, cQ 56 eL a2 i c2 lhs, cF tm (bH 9 eS hs mkB lhs i a171 c172 (k + 1))] := (H175.pick [1, 2, 3, 4] (by decide))
              refine kn145 _ ((k + 1), a171, c172) _ ⟨rfl, rfl, rfl, rfl, rfl, trivial⟩ ⟨H176, ?_⟩ ?_
              · try dsimp only
                exact (by omega)
              · (try dsimp only); omega
            · refine exit <| ke151 _ _ _ <| ke147 _ _ _ <| kb137 _ _ <| kn128 _ _ <| region <| qt mv <| qt mv <| ?_
              refine st_e <| Ebs (cs := [.slice la ((el hs i).2.1 + k) lc]) (e := 56) hx142 (fun _ => by kernel_rfl) fun b177 w178 H179 x180 => ?_
              refine st_e <| EapQ H179 3 T.sl32 rfl rfl rfl (H179.lst (E := eL) 0 rfl (la, ((el hs i).2.1 + k), lc) rfl) (by omega) rfl rfl fun a181 c182 w183 H184 => qt asg <| nl <| kn121 _ _ <| kn117 _ _ <| region <| qt mv <| qt (addN (b := 1) rfl rfl) <| qt asg <| nl <| ?_
              have H185 : Hp S w0 w183 [cB bk 36 [.slice ta tm tc, nv, lv], cQ 56 eL ta tm tc hs, cQ 56 eL a181 (i + 1) c182 (lhs ++ [(la, ((el hs i).2.1 + k), lc)]), cF tm (bH 9 eS hs mkB lhs i la lc k)] := (H184.pick [1, 2, 3, 4] (by decide))
              refine kn106 _ ((i + 1), a181, c182, (lhs ++ [(la, ((el hs i).2.1 + k), lc)])) _ ⟨rfl, rfl, rfl, trivial⟩ ⟨(H185.fcongr 3 rfl (fun j _ => bH_next hll (by omega) j)), ?_⟩ ?_
              · try dsimp only
                exact ⟨by omega, by rw [List.length_append, hll]; rfl⟩
              · (try dsimp only); omega
        · refine exit <| ke112 _ _ _ <| ke108 _ _ _ <| kb99 _ _ <| kn90 _ _ <| seqK fun Q186 kn187 kr188 ke189 => ?_
          refine sr fun Q190 k191 => qt asg <| nl <| k191 _ _ <| blockK fun Q192 kn193 kr194 kx195 kb196 => ?_
          have e197 : tm = i := by omega
          subst e197
          have H198 : Hp S w0 w102 [cB bk 36 [.slice ta tm tc, nv, lv], cQ 56 eL ta tm tc hs, cQ 56 eL a2 tm c2 lhs, cF tm (bJ 9 eS hs mkB lhs tm)] := (hx103.pick [0, 1, 2, 3] (by decide))
          refine loopK (α := Nat) (fun x => [(0, .pointer (some ⟨bk, 0, none⟩)), (5, .slice a2 tm c2), (9, .int .i64 ((x : Nat) : Int))]) (fun x w199 => Hp S w0 w199 [cB bk 36 [.slice ta tm tc, nv, lv], cQ 56 eL ta tm tc hs, cQ 56 eL a2 tm c2 lhs, cF tm (bJ 9 eS hs mkB lhs tm)] ∧ x ≤ tm) (fun x => tm - x) (0) ⟨rfl, rfl, rfl, trivial⟩ ?_ ?_
          · refine ⟨H198, ?_⟩
            try dsimp only
            exact Nat.zero_le _
          · rintro τ200 i w201 ⟨hx202, hi⟩
            try dsimp only at hi
            have hz203 := hx202.le
            intro Q204 kn205 kr206 ke207
            refine seqK fun Q208 kn209 kr210 ke211 => ?_
            refine sr fun Q212 k213 => qt mv <| qt mv <| qt (x_nilCheck rfl) <| qt (x_field (o := 0) T.fa36_0 rfl) <| qt (x_load1 T.na32 rfl (hx202.ld 0 rfl 0 rfl)) <| qt (x_lenSl rfl Tryz.underlying32 rfl) <| qt (x_lssN rfl rfl) <| nl <| k213 _ _ <| cnd (p := i < tm) rfl (fun h214 => ?_) (fun h214 => ?_)
            · refine skip <| kn209 _ _ <| seqK fun Q215 kn216 kr217 ke218 => blockK fun Q219 kn220 kr221 kx222 kb223 => ?_
              refine sr fun Q224 k225 => qt asg <| nl <| k225 _ _ <| blockK fun Q226 kn227 kr228 kx229 kb230 => ?_
              refine loopK (α := Nat) (fun x => [(0, .pointer (some ⟨bk, 0, none⟩)), (5, .slice a2 tm c2), (9, .int .i64 ((i : Nat) : Int)), (10, .int .i64 ((x : Nat) : Int))]) (fun x w231 => Hp S w0 w231 [cB bk 36 [.slice ta tm tc, nv, lv], cQ 56 eL ta tm tc hs, cQ 56 eL a2 tm c2 lhs, cF tm (bJ 9 eS hs mkB lhs tm)] ∧ x ≤ (el lhs i).2.1) (fun x => (el lhs i).2.1 - x) (0) ⟨rfl, rfl, rfl, rfl, trivial⟩ ?_ ?_
              · refine ⟨hx202, ?_⟩
                try dsimp only
                exact Nat.zero_le _
              · rintro τ232 k w233 ⟨hx234, hk⟩
                try dsimp only at hk
                have hz235 := hx234.le
                intro Q236 kn237 kr238 ke239
                refine seqK fun Q240 kn241 kr242 ke243 => ?_
                refine sr fun Q244 k245 => ?_
                have hl6 := (bJ_sr (hx234.at 3 rfl) (i := i) (by omega)).len
                rw [List.length_replicate] at hl6
                have hb6 := hbd i (by omega)
                refine qt mv <| qt mv <| qt mv <| qt (x_index' T.sl32 rfl ((hx234.srQ 2 rfl).addr (by omega)) rfl (by omega)) <| qt (x_load1 T.na56 rfl ((hx234.srQ 2 rfl).cell (i := i) (by omega))) <| qt (x_lenSl rfl Tryz.underlying56 rfl) <| qt (x_lssN rfl rfl) <| nl <| k245 _ _ <| cnd (p := k < ((el lhs i).2.1)) rfl (fun h246 => ?_) (fun h246 => ?_)
                · refine skip <| kn241 _ _ <| seqK fun Q247 kn248 kr249 ke250 => blockK fun Q251 kn252 kr253 kx254 kb255 => seqK fun Q256 kn257 kr258 ke259 => regionD1 [3, 6, 15, 18, 25, 28, 31] [0, 1, 2, 3, 4, 5, 6, 7, 9, 10, 11, 12, 13, 14, 15, 16, 17, 18, 19, 20, 21, 22, 23, 24, 25, 26, 27, 28, 29, 30, 31, 32, 34, 35, 36] (.one 0 (.one 1 (.one 2 (.one 3 (.one 4 (.one 5 (.one 6 (.one 7 (.one 8 (.one 9 (.one 10 (.one 11 (.one 12 (.one 13 (.one 14 (.one 15 (.one 16 (.one 17 (.one 18 (.one 19 (.one 20 (.one 21 (.one 22 (.one 23 (.one 24 (.one 25 (.one 26 (.one 27 (.one 28 (.one 29 (.one 30 (.one 31 (.one 32 (.one 33 (.one 34 (.one 35 (.one 36 .done))))))))))))))))))))))))))))))))))))) (by kernel_rfl) (by kernel_rfl) fun w260 x261 s262 => ?_
                  have H263 := hx234.ext x261
                  have S264 : Ext w260 w260 := Below.refl _ _
                  refine d_q rfl rfl (fun _ => mv) <| d_q rfl rfl (fun _ => mv) <| d_q rfl rfl (fun _ => x_index' T.sl32 rfl ((H263.srQ 2 rfl).addr (by omega)) rfl (by omega)) <| d_l rfl rfl rfl (fun _ y265 => x_load1 T.na56 rfl (((H263.srQ 2 rfl).cell (i := i) (by omega)).ext y265)) <| d_q rfl rfl (fun _ => mv) <| d_q rfl rfl (fun _ => x_index' T.sl56 rfl ((bJ_sr (H263.at 3 rfl) (i := i) (by omega)).addr (by omega)) rfl (by omega)) <| d_l rfl rfl rfl (fun _ y266 => x_load1 T.na9 rfl ((Srm.rep (bJ_sr (H263.at 3 rfl) (i := i) (by omega)) (k := k) (by omega)).ext y266)) <| d_q rfl rfl (fun _ => mv) <| d_e (by decide) <| d_c' rfl rfl (t_call _ T.cf41 rfl rfl) (mark41 i (by omega) _ (hT.mod H263.fr hS)) fun _ w268 ⟨er, x267⟩ => ⟨_, er, ?_⟩
                  have H269 := H263.ext x267
                  have S270 := S264.trans (x267.mono S264.size)
                  refine ⟨fun _ => S270, ?_⟩
                  refine d_q rfl rfl (fun _ => x_neqS rfl rfl) <| d_if rfl rfl (p := (mkB i).toList ≠ (mkB i).toList) (fun _ => mv) (fun h271 => ?_) (fun h271 => ?_)
                  · exact absurd h271 (fun h => h rfl)
                  · refine d_gq (j := 10) (t := 100) rfl rfl rfl rfl (by decide) (fun _ => mv) <| d_gq (j := 10) (t := 100) rfl rfl rfl rfl (by decide) (fun _ => mv) <| d_gq (j := 10) (t := 100) rfl rfl rfl rfl (by decide) (fun _ => x_nilCheck rfl) <| d_gq (j := 10) (t := 100) rfl rfl rfl rfl (by decide) (fun _ => x_field (o := 0) T.fa36_0 rfl) <| d_gl (j := 10) (t := 100) rfl rfl rfl rfl rfl (by decide) (fun _ y272 => x_load1 T.na32 rfl ((H263.ld 0 rfl 0 rfl).ext y272)) <| d_gq (j := 10) (t := 100) rfl rfl rfl rfl (by decide) (fun _ => mv) <| d_gq (j := 10) (t := 100) rfl rfl rfl rfl (by decide) (fun _ => x_index' T.sl32 rfl ((H263.srQ 1 rfl).addr (by omega)) rfl (by omega)) <| d_gl (j := 10) (t := 100) rfl rfl rfl rfl rfl (by decide) (fun _ y273 => x_load1 T.na56 rfl (((H263.srQ 1 rfl).cell (i := i) (by omega)).ext y273)) <| d_gq (j := 10) (t := 100) rfl rfl rfl rfl (by decide) (fun _ => x_lenSl rfl Tryz.underlying56 rfl) <| d_gq (j := 10) (t := 100) rfl rfl rfl rfl (by decide) (fun _ => x_lssN rfl rfl) <| d_gif (j := 10) (t := 100) rfl rfl rfl rfl (by decide) (p := k < ((el hs i).2.1)) (fun _ => mv) (fun h274 => ?_) (fun h274 => ?_)
                    · refine d_gq (j := 21) (t := 111) rfl rfl rfl rfl (by decide) (fun _ => mv) <| d_gq (j := 21) (t := 111) rfl rfl rfl rfl (by decide) (fun _ => x_nilCheck rfl) <| d_gq (j := 21) (t := 111) rfl rfl rfl rfl (by decide) (fun _ => x_field (o := 0) T.fa36_0 rfl) <| d_gl (j := 21) (t := 111) rfl rfl rfl rfl rfl (by decide) (fun _ y275 => x_load1 T.na32 rfl ((H263.ld 0 rfl 0 rfl).ext y275)) <| d_gq (j := 21) (t := 111) rfl rfl rfl rfl (by decide) (fun _ => mv) <| d_gq (j := 21) (t := 111) rfl rfl rfl rfl (by decide) (fun _ => x_index' T.sl32 rfl ((H263.srQ 1 rfl).addr (by omega)) rfl (by omega)) <| d_gl (j := 21) (t := 111) rfl rfl rfl rfl rfl (by decide) (fun _ y276 => x_load1 T.na56 rfl (((H263.srQ 1 rfl).cell (i := i) (by omega)).ext y276)) <| d_gq (j := 21) (t := 111) rfl rfl rfl rfl (by decide) (fun _ => mv) <| d_gq (j := 21) (t := 111) rfl rfl rfl rfl (by decide) (fun _ => x_index' T.sl56 rfl ((bJ_sr0 (H263.at 3 rfl) (i := i) (by omega)).addr (by omega)) rfl (by omega)) <| d_gl (j := 21) (t := 111) rfl rfl rfl rfl rfl (by decide) (fun _ y277 => x_load1 T.na9 rfl ((Srm.rep (bJ_sr0 (H263.at 3 rfl) (i := i) (by omega)) (k := k) (by omega)).ext y277)) <| d_gq (j := 21) (t := 111) rfl rfl rfl rfl (by decide) (fun _ => mv) <| d_e (by decide) <| d_c' rfl (wanted_true (j := 21) (t := 111) rfl rfl (by decide)) (t_call _ T.cf41 rfl rfl) (mark41 i (by omega) _ (hT.mod H269.fr hS)) fun _ w279 ⟨er, x278⟩ => ⟨_, er, ?_⟩
                      have H280 := H269.ext x278
                      have S281 := S270.trans (x278.mono S270.size)
                      refine ⟨fun _ => S281, ?_⟩
                      refine d_gq (j := 21) (t := 111) rfl rfl rfl rfl (by decide) (fun _ => x_neqS rfl rfl) <| d_gq (j := 10) (t := 100) rfl rfl rfl rfl (by decide) (fun _ => pkT rfl) <| d_q rfl rfl (fun _ => pkF rfl) <| d_done <| kn257 _ _ <| cndN (p := (mkB i).toList ≠ (mkB i).toList) rfl (fun h => h rfl) <| skip <| kn252 _ _ <| kn248 _ _ <| region <| qt mv <| qt (addN (b := 1) rfl rfl) <| qt asg <| nl <| ?_
                      have H282 : Hp S w0 w279 [cB bk 36 [.slice ta tm tc, nv, lv], cQ 56 eL ta tm tc hs, cQ 56 eL a2 tm c2 lhs, cF tm (bJ 9 eS hs mkB lhs tm)] := (H280.pick [0, 1, 2, 3] (by decide))
                      refine kn237 _ ((k + 1)) _ ⟨rfl, rfl, rfl, rfl, trivial⟩ ⟨H282, ?_⟩ ?_
                      · try dsimp only
                        exact (by omega)
                      · (try dsimp only); omega
                    · refine d_gn (j := 21) (t := 111) rfl rfl rfl rfl (by decide) rfl <| d_gn (j := 21) (t := 111) rfl rfl rfl rfl (by decide) rfl <| d_gn (j := 21) (t := 111) rfl rfl rfl rfl (by decide) rfl <| d_gn (j := 21) (t := 111) rfl rfl rfl rfl (by decide) rfl <| d_gn (j := 21) (t := 111) rfl rfl rfl rfl (by decide) rfl <| d_gn (j := 21) (t := 111) rfl rfl rfl rfl (by decide) rfl <| d_gn (j := 21) (t := 111) rfl rfl rfl rfl (by decide) rfl <| d_gn (j := 21) (t := 111) rfl rfl rfl rfl (by decide) rfl <| d_gn (j := 21) (t := 111) rfl rfl rfl rfl (by decide) rfl <| d_gn (j := 21) (t := 111) rfl rfl rfl rfl (by decide) rfl <| d_gn (j := 21) (t := 111) rfl rfl rfl rfl (by decide) rfl <| d_e (by decide) <| wpE_skip (j := 21) (t := 111) rfl rfl rfl (by decide) rfl (fun _ => S270) <| d_gn (j := 21) (t := 111) rfl rfl rfl rfl (by decide) rfl <| d_gq (j := 10) (t := 100) rfl rfl rfl rfl (by decide) (fun _ => pkF rfl) <| d_q rfl rfl (fun _ => pkF rfl) <| d_done <| kn257 _ _ <| cndF rfl <| skip <| kn252 _ _ <| kn248 _ _ <| region <| qt mv <| qt (addN (b := 1) rfl rfl) <| qt asg <| nl <| ?_
                      have H283 : Hp S w0 w268 [cB bk 36 [.slice ta tm tc, nv, lv], cQ 56 eL ta tm tc hs, cQ 56 eL a2 tm c2 lhs, cF tm (bJ 9 eS hs mkB lhs tm)] := (H269.pick [0, 1, 2, 3] (by decide))
                      refine kn237 _ ((k + 1)) _ ⟨rfl, rfl, rfl, rfl, trivial⟩ ⟨H283, ?_⟩ ?_
                      · try dsimp only
                        exact (by omega)
                      · (try dsimp only); omega
                · refine exit <| ke243 _ _ _ <| ke239 _ _ _ <| kb230 _ _ <| kn220 _ _ <| kn216 _ _ <| region <| qt mv <| qt (addN (b := 1) rfl rfl) <| qt asg <| nl <| ?_
                  have H284 : Hp S w0 w233 [cB bk 36 [.slice ta tm tc, nv, lv], cQ 56 eL ta tm tc hs, cQ 56 eL a2 tm c2 lhs, cF tm (bJ 9 eS hs mkB lhs tm)] := (hx234.pick [0, 1, 2, 3] (by decide))
                  refine kn205 _ ((i + 1)) _ ⟨rfl, rfl, rfl, trivial⟩ ⟨H284, ?_⟩ ?_
                  · try dsimp only
                    exact (by omega)
                  · (try dsimp only); omega
            · refine exit <| ke211 _ _ _ <| ke207 _ _ _ <| kb196 _ _ <| kn187 _ _ <| ?_
              refine sr fun Q285 k286 => qt asg <| nl <| k286 _ _ <| ret <| leave1 (P := Tryz.prog) (fn := Tryz.f24) (t := 2) (v := .bool true) rfl rfl <| ?_
              have H287 : Hp S w0 w201 [cB bk 36 [.slice ta tm tc, nv, lv]] := (hx202.pick [0] (by decide))
              exact ⟨rfl, H287.pick [0] (by decide)⟩
theorem ints25 (S : Nat → Prop) (bk : Nat) (ta : Option Addr) (tm tc : Nat) (hs : List Hdr) (xss : Nat → List Int) (nv lv : Value) (w0 : World) (hm : tm ≤ 1099511627776) (hbd : ∀ j, j < tm → (el hs j).2.1 ≤ 1099511627776) (H0 : Hp S w0 w0 [cB bk 36 [nv, .slice ta tm tc, lv], cQ 63 eL ta tm tc hs, cF tm fun j => cQ 3 eI (el hs j).1 (el hs j).2.1 (el hs j).2.2 (xss j)]) :
    Calls Tryz.prog 25 #[.pointer (some ⟨bk, 0, none⟩)] w0 fun e w' => e = .returned (.bool true) ∧ Hp S w0 w' [cB bk 36 [nv, .slice ta tm tc, lv]] := by
  have hlen : ∀ i, i < tm → (xss i).length = (el hs i).2.1 := fun i hi => len_of (H0.at 2 rfl) hi
  refine enter Tryz.func25 rfl 127 Tryz.ntmps25 rfl <| ?_
  refine sr fun Q1 k2 => qt asg <| nl <| k2 _ _ <| seqK fun Q3 kn4 kr5 ke6 => ?_
  refine sr fun Q7 k8 => qt asg <| nl <| k8 _ _ <| blockK fun Q9 kn10 kr11 kx12 kb13 => ?_
  refine loopK (α := Nat) (fun x => [(0, .pointer (some ⟨bk, 0, none⟩)), (3, .int .i64 ((x : Nat) : Int))]) (fun x w14 => Hp S w0 w14 [cB bk 36 [nv, .slice ta tm tc, lv], cQ 63 eL ta tm tc hs, cF tm (bG 3 eI hs mI xss x 0)] ∧ x ≤ tm) (fun x => tm - x) (0) ⟨rfl, rfl, trivial⟩ ?_ ?_
  · refine ⟨(H0.fcongr 2 rfl (fun j _ => bG_zero)), ?_⟩
    try dsimp only
    exact Nat.zero_le _
  · rintro τ15 i w16 ⟨hx17, hi⟩
    try dsimp only at hi
    have hz18 := hx17.le
    intro Q19 kn20 kr21 ke22
    refine seqK fun Q23 kn24 kr25 ke26 => ?_
    refine sr fun Q27 k28 => qt mv <| qt mv <| qt (x_nilCheck rfl) <| qt (x_field (o := 0) T.fa36_1 rfl) <| qt (x_load1 T.na33 rfl (hx17.ld 0 rfl 1 rfl)) <| qt (x_lenSl rfl Tryz.underlying33 rfl) <| qt (x_lssN rfl rfl) <| nl <| k28 _ _ <| cnd (p := i < tm) rfl (fun h29 => ?_) (fun h29 => ?_)
    · refine skip <| kn24 _ _ <| seqK fun Q30 kn31 kr32 ke33 => blockK fun Q34 kn35 kr36 kx37 kb38 => ?_
      refine sr fun Q39 k40 => qt asg <| nl <| k40 _ _ <| blockK fun Q41 kn42 kr43 kx44 kb45 => ?_
      refine loopK (α := Nat) (fun x => [(0, .pointer (some ⟨bk, 0, none⟩)), (3, .int .i64 ((i : Nat) : Int)), (4, .int .i64 ((x : Nat) : Int))]) (fun x w46 => Hp S w0 w46 [cB bk 36 [nv, .slice ta tm tc, lv], cQ 63 eL ta tm tc hs, cF tm (bG 3 eI hs mI xss i x)] ∧ x ≤ (el hs i).2.1) (fun x => (el hs i).2.1 - x) (0) ⟨rfl, rfl, rfl, trivial⟩ ?_ ?_
      · refine ⟨hx17, ?_⟩
        try dsimp only
        exact Nat.zero_le _
      · rintro τ47 k w48 ⟨hx49, hk⟩
        try dsimp only at hk
        have hz50 := hx49.le
        intro Q51 kn52 kr53 ke54
        have hbi := hbd i (by omega)
        refine seqK fun Q55 kn56 kr57 ke58 => ?_
        refine sr fun Q59 k60 => qt mv <| qt mv <| qt (x_nilCheck rfl) <| qt (x_field (o := 0) T.fa36_1 rfl) <| qt (x_load1 T.na33 rfl (hx49.ld 0 rfl 1 rfl)) <| qt mv <| qt (x_index' T.sl33 rfl ((hx49.srQ 1 rfl).addr (by omega)) rfl (by omega)) <| qt (x_load1 T.na63 rfl ((hx49.srQ 1 rfl).cell (i := i) (by omega))) <| qt (x_lenSl rfl Tryz.underlying63 rfl) <| qt (x_lssN rfl rfl) <| nl <| k60 _ _ <| cnd (p := k < ((el hs i).2.1)) rfl (fun h61 => ?_) (fun h61 => ?_)
        · refine skip <| kn56 _ _ <| seqK fun Q62 kn63 kr64 ke65 => blockK fun Q66 kn67 kr68 kx69 kb70 => region <| qt mv <| qt (x_nilCheck rfl) <| qt (x_field (o := 0) T.fa36_1 rfl) <| qt (x_load1 T.na33 rfl (hx49.ld 0 rfl 1 rfl)) <| qt mv <| qt (x_index' T.sl33 rfl ((hx49.srQ 1 rfl).addr (by omega)) rfl (by omega)) <| qt (x_load1 T.na63 rfl ((hx49.srQ 1 rfl).cell (i := i) (by omega))) <| qt mv <| qt mv <| qt (x_sub rfl rfl ⟨by omega, by omega⟩) <| qt (x_index' T.sl63 rfl ((bG_sr (hx49.at 2 rfl) (i := i) (by omega)).addr (by omega)) rfl (by omega)) <| ?_
          refine st_s <| EsoQF (j := k) hx49 2 (mI i) T.sz3 rfl rfl (by omega) bG_at rfl rfl (by omega) fun w71 H72 => ?_
          have H73 := H72.fcongr 2 rfl (fun j _ => bG_step (by have := hlen i (by omega); omega) j)
          refine nl <| kn67 _ _ <| kn63 _ _ <| region <| qt mv <| qt (addN (b := 1) rfl rfl) <| qt asg <| nl <| ?_
          have H74 : Hp S w0 w71 [cB bk 36 [nv, .slice ta tm tc, lv], cQ 63 eL ta tm tc hs, cF tm (bG 3 eI hs mI xss i (k + 1))] := (H73.pick [0, 1, 2] (by decide))
          refine kn52 _ ((k + 1)) _ ⟨rfl, rfl, rfl, trivial⟩ ⟨H74, ?_⟩ ?_
          · try dsimp only
            exact (by omega)
          · (try dsimp only); omega
        · refine exit <| ke58 _ _ _ <| ke54 _ _ _ <| kb45 _ _ <| kn35 _ _ <| kn31 _ _ <| region <| qt mv <| qt (addN (b := 1) rfl rfl) <| qt asg <| nl <| ?_
          have H75 : Hp S w0 w48 [cB bk 36 [nv, .slice ta tm tc, lv], cQ 63 eL ta tm tc hs, cF tm (bG 3 eI hs mI xss i k)] := (hx49.pick [0, 1, 2] (by decide))
          refine kn20 _ ((i + 1)) _ ⟨rfl, rfl, trivial⟩ ⟨(H75.fcongr 2 rfl (fun j _ => by rw [show k = (el hs i).2.1 by omega]; exact bG_next (hlen i (by omega)) j)), ?_⟩ ?_
          · try dsimp only
            exact (by omega)
          · (try dsimp only); omega
    · refine exit <| ke26 _ _ _ <| ke22 _ _ _ <| kb13 _ _ <| kn4 _ _ <| ?_
      refine sr fun Q76 k77 => qt asg <| nl <| k77 _ _ <| seqK fun Q78 kn79 kr80 ke81 => ?_
      refine sr fun Q82 k83 => qt asg <| nl <| k83 _ _ <| blockK fun Q84 kn85 kr86 kx87 kb88 => ?_
      refine loopK (α := Nat × (Option Addr) × Nat × (List Hdr)) (fun x => [(0, .pointer (some ⟨bk, 0, none⟩)), (5, .slice x.2.1 x.1 x.2.2.1), (6, .int .i64 ((x.1 : Nat) : Int))]) (fun x w89 => Hp S w0 w89 [cB bk 36 [nv, .slice ta tm tc, lv], cQ 63 eL ta tm tc hs, cQ 63 eL x.2.1 x.1 x.2.2.1 x.2.2.2, cF tm (bJ 3 eI hs mI x.2.2.2 x.1)] ∧ x.1 ≤ tm ∧ x.2.2.2.length = x.1) (fun x => tm - x.1) (0, none, 0, []) ⟨rfl, rfl, rfl, trivial⟩ ?_ ?_
      · refine ⟨(((hx17.fcongr 2 rfl (fun j hj => by rw [show i = tm by omega]; exact bG_end hj)).nilQ 63 eL).pick [1, 2, 0, 3] (by decide)), ?_⟩
        try dsimp only
        exact ⟨Nat.zero_le _, rfl⟩
      · rintro τ90 ⟨i, a2, c2, lhs⟩ w91 ⟨hx92, ⟨hi, hll⟩⟩
        try dsimp only at hi hll
        have hz93 := hx92.le
        intro Q94 kn95 kr96 ke97
        dsimp only at hx92 ⊢
        refine seqK fun Q98 kn99 kr100 ke101 => ?_
        refine sr fun Q102 k103 => qt mv <| qt mv <| qt (x_nilCheck rfl) <| qt (x_field (o := 0) T.fa36_1 rfl) <| qt (x_load1 T.na33 rfl (hx92.ld 0 rfl 1 rfl)) <| qt (x_lenSl rfl Tryz.underlying33 rfl) <| qt (x_lssN rfl rfl) <| nl <| k103 _ _ <| cnd (p := i < tm) rfl (fun h104 => ?_) (fun h104 => ?_)
        · refine skip <| kn99 _ _ <| seqK fun Q105 kn106 kr107 ke108 => blockK fun Q109 kn110 kr111 kx112 kb113 => ?_
          refine sr fun Q114 k115 => qt mv <| qt (x_nilCheck rfl) <| qt (x_field (o := 0) T.fa36_1 rfl) <| qt (x_load1 T.na33 rfl (hx92.ld 0 rfl 1 rfl)) <| qt mv <| qt (x_index' T.sl33 rfl ((hx92.srQ 1 rfl).addr (by omega)) rfl (by omega)) <| qt (x_load1 T.na63 rfl ((hx92.srQ 1 rfl).cell (i := i) (by omega))) <| qt asg <| nl <| k115 _ _ <| seqK fun Q116 kn117 kr118 ke119 => ?_
          refine sr fun Q120 k121 => qt asg <| nl <| k121 _ _ <| blockK fun Q122 kn123 kr124 kx125 kb126 => ?_
          have H127 : Hp S w0 w91 [cB bk 36 [nv, .slice ta tm tc, lv], cQ 63 eL ta tm tc hs, cQ 63 eL a2 i c2 lhs, cF tm (bJ 3 eI hs mI lhs i)] := (hx92.pick [0, 1, 2, 3] (by decide))
          refine loopK (α := Nat × (Option Addr) × Nat) (fun x => [(0, .pointer (some ⟨bk, 0, none⟩)), (5, .slice a2 i c2), (6, .int .i64 ((i : Nat) : Int)), (7, .slice x.2.1 ((el hs i).2.1 + x.1) x.2.2), (8, .int .i64 ((x.1 : Nat) : Int))]) (fun x w128 => Hp S w0 w128 [cB bk 36 [nv, .slice ta tm tc, lv], cQ 63 eL ta tm tc hs, cQ 63 eL a2 i c2 lhs, cF tm (bH 3 eI hs mI lhs i x.2.1 x.2.2 x.1)] ∧ x.1 ≤ 20) (fun x => 20 - x.1) (0, (el hs i).1, (el hs i).2.2) ⟨rfl, rfl, rfl, rfl, rfl, trivial⟩ ?_ ?_
          · refine ⟨(bH_start H127 3 rfl), ?_⟩
            try dsimp only
            exact Nat.zero_le _
          · rintro τ129 ⟨k, la, lc⟩ w130 ⟨hx131, hk⟩
            try dsimp only at hk
            have hz132 := hx131.le
            intro Q133 kn134 kr135 ke136
            dsimp only at hx131 ⊢
            refine seqK fun Q137 kn138 kr139 ke140 => ?_
            refine sr fun Q141 k142 => qt mv <| qt (x_lssN (b := 20) rfl rfl) <| nl <| k142 _ _ <| cnd (p := k < 20) rfl (fun h143 => ?_) (fun h143 => ?_)
            · refine skip <| kn138 _ _ <| seqK fun Q144 kn145 kr146 ke147 => blockK fun Q148 kn149 kr150 kx151 kb152 => region <| qt mv <| qt mv <| qt (x_sub rfl rfl ⟨by omega, by omega⟩) <| ?_
              refine st_e <| Ebs (cs := [.int .i64 (-1000 - ((i : Nat) : Int))]) (e := 3) hx131 (fun _ => by kernel_rfl) fun b153 w154 H155 x156 => ?_
              refine st_e <| EapPF H155 4 T.sl63 rfl rfl (by omega) bH_at rfl (H155.lst (E := eI) 0 rfl (mI i) rfl) (by have := hbd i (by omega); omega) rfl rfl fun a157 c158 w159 H160 => ?_
              have H161 := H160.fcongr 4 rfl (fun j _ => bH_step _ _ j)
              refine qt asg <| nl <| kn149 _ _ <| kn145 _ _ <| region <| qt mv <| qt (addN (b := 1) rfl rfl) <| qt asg <| nl <| ?_
              have H162 : Hp S w0 w159 [cB bk 36 [nv, .slice ta tm tc, lv], cQ 63 eL ta tm tc hs, cQ 63 eL a2 i c2 lhs, cF tm (bH 3 eI hs mI lhs i a157 c158 (k + 1))] := (H161.pick [1, 2, 3, 4] (by decide))
              refine kn134 _ ((k + 1), a157, c158) _ ⟨rfl, rfl, rfl, rfl, rfl, trivial⟩ ⟨H162, ?_⟩ ?_
              · try dsimp only
                exact (by omega)
              · (try dsimp only); omega
            · refine exit <| ke140 _ _ _ <| ke136 _ _ _ <| kb126 _ _ <| kn117 _ _ <| region <| qt mv <| qt mv <| ?_
              refine st_e <| Ebs (cs := [.slice la ((el hs i).2.1 + k) lc]) (e := 63) hx131 (fun _ => by kernel_rfl) fun b163 w164 H165 x166 => ?_
              refine st_e <| EapQ H165 3 T.sl33 rfl rfl rfl (H165.lst (E := eL) 0 rfl (la, ((el hs i).2.1 + k), lc) rfl) (by omega) rfl rfl fun a167 c168 w169 H170 => qt asg <| nl <| kn110 _ _ <| kn106 _ _ <| region <| qt mv <| qt (addN (b := 1) rfl rfl) <| qt asg <| nl <| ?_
              have H171 : Hp S w0 w169 [cB bk 36 [nv, .slice ta tm tc, lv], cQ 63 eL ta tm tc hs, cQ 63 eL a167 (i + 1) c168 (lhs ++ [(la, ((el hs i).2.1 + k), lc)]), cF tm (bH 3 eI hs mI lhs i la lc k)] := (H170.pick [1, 2, 3, 4] (by decide))
              refine kn95 _ ((i + 1), a167, c168, (lhs ++ [(la, ((el hs i).2.1 + k), lc)])) _ ⟨rfl, rfl, rfl, trivial⟩ ⟨(H171.fcongr 3 rfl (fun j _ => bH_next hll (by omega) j)), ?_⟩ ?_
              · try dsimp only
                exact ⟨by omega, by rw [List.length_append, hll]; rfl⟩
              · (try dsimp only); omega
        · refine exit <| ke101 _ _ _ <| ke97 _ _ _ <| kb88 _ _ <| kn79 _ _ <| seqK fun Q172 kn173 kr174 ke175 => ?_
          refine sr fun Q176 k177 => qt asg <| nl <| k177 _ _ <| blockK fun Q178 kn179 kr180 kx181 kb182 => ?_
          have e183 : tm = i := by omega
          subst e183
          have H184 : Hp S w0 w91 [cB bk 36 [nv, .slice ta tm tc, lv], cQ 63 eL ta tm tc hs, cQ 63 eL a2 tm c2 lhs, cF tm (bJ 3 eI hs mI lhs tm)] := (hx92.pick [0, 1, 2, 3] (by decide))
          refine loopK (α := Nat) (fun x => [(0, .pointer (some ⟨bk, 0, none⟩)), (5, .slice a2 tm c2), (9, .int .i64 ((x : Nat) : Int))]) (fun x w185 => Hp S w0 w185 [cB bk 36 [nv, .slice ta tm tc, lv], cQ 63 eL ta tm tc hs, cQ 63 eL a2 tm c2 lhs, cF tm (bJ 3 eI hs mI lhs tm)] ∧ x ≤ tm) (fun x => tm - x) (0) ⟨rfl, rfl, rfl, trivial⟩ ?_ ?_
          · refine ⟨H184, ?_⟩
            try dsimp only
            exact Nat.zero_le _
          · rintro τ186 i w187 ⟨hx188, hi⟩
            try dsimp only at hi
            have hz189 := hx188.le
            intro Q190 kn191 kr192 ke193
            refine seqK fun Q194 kn195 kr196 ke197 => ?_
            refine sr fun Q198 k199 => qt mv <| qt mv <| qt (x_nilCheck rfl) <| qt (x_field (o := 0) T.fa36_1 rfl) <| qt (x_load1 T.na33 rfl (hx188.ld 0 rfl 1 rfl)) <| qt (x_lenSl rfl Tryz.underlying33 rfl) <| qt (x_lssN rfl rfl) <| nl <| k199 _ _ <| cnd (p := i < tm) rfl (fun h200 => ?_) (fun h200 => ?_)
            · refine skip <| kn195 _ _ <| seqK fun Q201 kn202 kr203 ke204 => blockK fun Q205 kn206 kr207 kx208 kb209 => ?_
              refine sr fun Q210 k211 => qt asg <| nl <| k211 _ _ <| blockK fun Q212 kn213 kr214 kx215 kb216 => ?_
              refine loopK (α := Nat) (fun x => [(0, .pointer (some ⟨bk, 0, none⟩)), (5, .slice a2 tm c2), (9, .int .i64 ((i : Nat) : Int)), (10, .int .i64 ((x : Nat) : Int))]) (fun x w217 => Hp S w0 w217 [cB bk 36 [nv, .slice ta tm tc, lv], cQ 63 eL ta tm tc hs, cQ 63 eL a2 tm c2 lhs, cF tm (bJ 3 eI hs mI lhs tm)] ∧ x ≤ (el lhs i).2.1) (fun x => (el lhs i).2.1 - x) (0) ⟨rfl, rfl, rfl, rfl, trivial⟩ ?_ ?_
              · refine ⟨hx188, ?_⟩
                try dsimp only
                exact Nat.zero_le _
              · rintro τ218 k w219 ⟨hx220, hk⟩
                try dsimp only at hk
                have hz221 := hx220.le
                intro Q222 kn223 kr224 ke225
                refine seqK fun Q226 kn227 kr228 ke229 => ?_
                refine sr fun Q230 k231 => ?_
                have hl6 := (bJ_sr (hx220.at 3 rfl) (i := i) (by omega)).len
                rw [List.length_replicate] at hl6
                have hb6 := hbd i (by omega)
                refine qt mv <| qt mv <| qt mv <| qt (x_index' T.sl33 rfl ((hx220.srQ 2 rfl).addr (by omega)) rfl (by omega)) <| qt (x_load1 T.na63 rfl ((hx220.srQ 2 rfl).cell (i := i) (by omega))) <| qt (x_lenSl rfl Tryz.underlying63 rfl) <| qt (x_lssN rfl rfl) <| nl <| k231 _ _ <| cnd (p := k < ((el lhs i).2.1)) rfl (fun h232 => ?_) (fun h232 => ?_)
                · refine skip <| kn227 _ _ <| seqK fun Q233 kn234 kr235 ke236 => blockK fun Q237 kn238 kr239 kx240 kb241 => ?_
                  refine sr fun Q242 k243 => qt mv <| qt mv <| qt (x_index' T.sl33 rfl ((hx220.srQ 2 rfl).addr (by omega)) rfl (by omega)) <| qt (x_load1 T.na63 rfl ((hx220.srQ 2 rfl).cell (i := i) (by omega))) <| qt mv <| qt (x_index' T.sl63 rfl ((bJ_sr (hx220.at 3 rfl) (i := i) (by omega)).addr (by omega)) rfl (by omega)) <| qt (x_load1 T.na3 rfl (Srm.rep (bJ_sr (hx220.at 3 rfl) (i := i) (by omega)) (k := k) (by omega))) <| qt mv <| qt (x_sub rfl rfl ⟨by omega, by omega⟩) <| qt (x_neq rfl rfl) <| st_if (p := (-1000 - ((i : Nat) : Int)) ≠ (-1000 - ((i : Nat) : Int))) (x_move rfl) (fun h244 => ?_) (fun h244 => ?_)
                  · exact absurd h244 (fun h => h rfl)
                  · refine st_gq 10 100 rfl rfl (by decide) <| qt mv <| st_gq 10 100 rfl rfl (by decide) <| qt mv <| st_gq 10 100 rfl rfl (by decide) <| qt (x_nilCheck rfl) <| st_gq 10 100 rfl rfl (by decide) <| qt (x_field (o := 0) T.fa36_1 rfl) <| st_gq 10 100 rfl rfl (by decide) <| qt (x_load1 T.na33 rfl (hx220.ld 0 rfl 1 rfl)) <| st_gq 10 100 rfl rfl (by decide) <| qt mv <| st_gq 10 100 rfl rfl (by decide) <| qt (x_index' T.sl33 rfl ((hx220.srQ 1 rfl).addr (by omega)) rfl (by omega)) <| st_gq 10 100 rfl rfl (by decide) <| qt (x_load1 T.na63 rfl ((hx220.srQ 1 rfl).cell (i := i) (by omega))) <| st_gq 10 100 rfl rfl (by decide) <| qt (x_lenSl rfl Tryz.underlying63 rfl) <| st_gq 10 100 rfl rfl (by decide) <| qt (x_lssN rfl rfl) <| st_gq 10 100 rfl rfl (by decide) <| st_if (p := k < ((el hs i).2.1)) (x_move rfl) (fun h245 => ?_) (fun h245 => ?_)
                    · refine st_gq 21 111 rfl rfl (by decide) <| qt mv <| st_gq 21 111 rfl rfl (by decide) <| qt (x_nilCheck rfl) <| st_gq 21 111 rfl rfl (by decide) <| qt (x_field (o := 0) T.fa36_1 rfl) <| st_gq 21 111 rfl rfl (by decide) <| qt (x_load1 T.na33 rfl (hx220.ld 0 rfl 1 rfl)) <| st_gq 21 111 rfl rfl (by decide) <| qt mv <| st_gq 21 111 rfl rfl (by decide) <| qt (x_index' T.sl33 rfl ((hx220.srQ 1 rfl).addr (by omega)) rfl (by omega)) <| st_gq 21 111 rfl rfl (by decide) <| qt (x_load1 T.na63 rfl ((hx220.srQ 1 rfl).cell (i := i) (by omega))) <| st_gq 21 111 rfl rfl (by decide) <| qt mv <| st_gq 21 111 rfl rfl (by decide) <| qt (x_index' T.sl63 rfl ((bJ_sr0 (hx220.at 3 rfl) (i := i) (by omega)).addr (by omega)) rfl (by omega)) <| st_gq 21 111 rfl rfl (by decide) <| qt (x_load1 T.na3 rfl (Srm.rep (bJ_sr0 (hx220.at 3 rfl) (i := i) (by omega)) (k := k) (by omega))) <| st_gq 21 111 rfl rfl (by decide) <| qt mv <| st_gq 21 111 rfl rfl (by decide) <| qt (x_sub rfl rfl ⟨by omega, by omega⟩) <| st_gq 21 111 rfl rfl (by decide) <| qt (x_neq rfl rfl) <| st_gq 10 100 rfl rfl (by decide) <| qt (pkT rfl) <| qt (pkF rfl) <| nl <| k243 _ _ <| cndN (p := (-1000 - ((i : Nat) : Int)) ≠ (-1000 - ((i : Nat) : Int))) rfl (fun h => h rfl) <| skip <| kn238 _ _ <| kn234 _ _ <| region <| qt mv <| qt (addN (b := 1) rfl rfl) <| qt asg <| nl <| ?_
                      have H246 : Hp S w0 w219 [cB bk 36 [nv, .slice ta tm tc, lv], cQ 63 eL ta tm tc hs, cQ 63 eL a2 tm c2 lhs, cF tm (bJ 3 eI hs mI lhs tm)] := (hx220.pick [0, 1, 2, 3] (by decide))
                      refine kn223 _ ((k + 1)) _ ⟨rfl, rfl, rfl, rfl, trivial⟩ ⟨H246, ?_⟩ ?_
                      · try dsimp only
                        exact (by omega)
                      · (try dsimp only); omega
                    · refine st_gn 21 111 rfl rfl (by decide) rfl <| st_gn 21 111 rfl rfl (by decide) rfl <| st_gn 21 111 rfl rfl (by decide) rfl <| st_gn 21 111 rfl rfl (by decide) rfl <| st_gn 21 111 rfl rfl (by decide) rfl <| st_gn 21 111 rfl rfl (by decide) rfl <| st_gn 21 111 rfl rfl (by decide) rfl <| st_gn 21 111 rfl rfl (by decide) rfl <| st_gn 21 111 rfl rfl (by decide) rfl <| st_gn 21 111 rfl rfl (by decide) rfl <| st_gn 21 111 rfl rfl (by decide) rfl <| st_gn 21 111 rfl rfl (by decide) rfl <| st_gn 21 111 rfl rfl (by decide) rfl <| st_gq 10 100 rfl rfl (by decide) <| qt (pkF rfl) <| qt (pkF rfl) <| nl <| k243 _ _ <| cndF rfl <| skip <| kn238 _ _ <| kn234 _ _ <| region <| qt mv <| qt (addN (b := 1) rfl rfl) <| qt asg <| nl <| ?_
                      have H247 : Hp S w0 w219 [cB bk 36 [nv, .slice ta tm tc, lv], cQ 63 eL ta tm tc hs, cQ 63 eL a2 tm c2 lhs, cF tm (bJ 3 eI hs mI lhs tm)] := (hx220.pick [0, 1, 2, 3] (by decide))
                      refine kn223 _ ((k + 1)) _ ⟨rfl, rfl, rfl, rfl, trivial⟩ ⟨H247, ?_⟩ ?_
                      · try dsimp only
                        exact (by omega)
                      · (try dsimp only); omega
                · refine exit <| ke229 _ _ _ <| ke225 _ _ _ <| kb216 _ _ <| kn206 _ _ <| kn202 _ _ <| region <| qt mv <| qt (addN (b := 1) rfl rfl) <| qt asg <| nl <| ?_
                  have H248 : Hp S w0 w219 [cB bk 36 [nv, .slice ta tm tc, lv], cQ 63 eL ta tm tc hs, cQ 63 eL a2 tm c2 lhs, cF tm (bJ 3 eI hs mI lhs tm)] := (hx220.pick [0, 1, 2, 3] (by decide))
                  refine kn191 _ ((i + 1)) _ ⟨rfl, rfl, rfl, trivial⟩ ⟨H248, ?_⟩ ?_
                  · try dsimp only
                    exact (by omega)
                  · (try dsimp only); omega
            · refine exit <| ke197 _ _ _ <| ke193 _ _ _ <| kb182 _ _ <| kn173 _ _ <| ?_
              refine sr fun Q249 k250 => qt asg <| nl <| k250 _ _ <| ret <| leave1 (P := Tryz.prog) (fn := Tryz.f25) (t := 2) (v := .bool true) rfl rfl <| ?_
              have H251 : Hp S w0 w187 [cB bk 36 [nv, .slice ta tm tc, lv]] := (hx188.pick [0] (by decide))
              exact ⟨rfl, H251.pick [0] (by decide)⟩
end Go.Proofs.YtcgmhpenjjheiaaGreatDoor
namespace Go.Proofs.YtcgmhpenjjheiaaGreatDoor
open Go.RowKit Go.Eng Go.PT
theorem T.fa36_2 : FA Tryz.prog 36 2 2 := fun _ _ => by kernel_rfl
theorem T.na34 : NA Tryz.prog 34 := fun _ => by kernel_rfl
theorem T.cf24 : CF Tryz.prog 24 := fun _ _ => by kernel_rfl
theorem T.cf25 : CF Tryz.prog 25 := fun _ _ => by kernel_rfl
theorem T.cf26 : CF Tryz.prog 26 := fun _ _ => by kernel_rfl
theorem lists26 (S : Nat → Prop) (bk : Nat) (tv nv : Value) (w0 : World) (H0 : Hp S w0 w0 [cB bk 36 [tv, nv, .slice none 0 0]]) :
    Calls Tryz.prog 26 #[.pointer (some ⟨bk, 0, none⟩)] w0 fun e w' => e = .returned (.bool true) ∧ Hp S w0 w' [cB bk 36 [tv, nv, .slice none 0 0]] := by
  refine enter Tryz.func26 rfl 158 Tryz.ntmps26 rfl <| ?_
  refine sr fun Q1 k2 => qt asg <| nl <| k2 _ _ <| seqK fun Q3 kn4 kr5 ke6 => ?_
  refine sr fun Q7 k8 => qt asg <| nl <| k8 _ _ <| blockK fun Q9 kn10 kr11 kx12 kb13 => ?_
  refine loopK (α := Nat) (fun x => [(0, .pointer (some ⟨bk, 0, none⟩)), (3, .int .i64 ((x : Nat) : Int))]) (fun x w14 => Hp S w0 w14 [cB bk 36 [tv, nv, .slice none 0 0]] ∧ 0 ≤ x) (fun x => 0 - x) (0) ⟨rfl, rfl, trivial⟩ ?_ ?_
  · refine ⟨(H0.pick [0] (by decide)), ?_⟩
    try dsimp only
    exact Nat.zero_le _
  · rintro τ15 i w16 ⟨hx17, _⟩
    have hz18 := hx17.le
    intro Q19 kn20 kr21 ke22
    refine seqK fun Q23 kn24 kr25 ke26 => ?_
    refine sr fun Q27 k28 => qt mv <| qt mv <| qt (x_nilCheck rfl) <| qt (x_field (o := 0) T.fa36_2 rfl) <| qt (x_load1 T.na34 rfl (hx17.ld 0 rfl 2 rfl)) <| qt (x_lenSl rfl Tryz.underlying34 rfl) <| qt (x_lssN rfl rfl) <| nl <| k28 _ _ <| cndN (p := i < 0) rfl (Nat.not_lt_zero i) <| exit <| ke26 _ _ _ <| ke22 _ _ _ <| kb13 _ _ <| kn4 _ _ <| ?_
    refine sr fun Q29 k30 => qt asg <| nl <| k30 _ _ <| seqK fun Q31 kn32 kr33 ke34 => ?_
    refine sr fun Q35 k36 => qt asg <| nl <| k36 _ _ <| blockK fun Q37 kn38 kr39 kx40 kb41 => ?_
    refine loopK (α := Nat) (fun x => [(0, .pointer (some ⟨bk, 0, none⟩)), (5, .slice none 0 0), (6, .int .i64 ((x : Nat) : Int))]) (fun x w42 => Hp S w0 w42 [cB bk 36 [tv, nv, .slice none 0 0]] ∧ 0 ≤ x) (fun x => 0 - x) (0) ⟨rfl, rfl, rfl, trivial⟩ ?_ ?_
    · refine ⟨(hx17.pick [0] (by decide)), ?_⟩
      try dsimp only
      exact Nat.zero_le _
    · rintro τ43 i w44 ⟨hx45, _⟩
      have hz46 := hx45.le
      intro Q47 kn48 kr49 ke50
      refine seqK fun Q51 kn52 kr53 ke54 => ?_
      refine sr fun Q55 k56 => qt mv <| qt mv <| qt (x_nilCheck rfl) <| qt (x_field (o := 0) T.fa36_2 rfl) <| qt (x_load1 T.na34 rfl (hx45.ld 0 rfl 2 rfl)) <| qt (x_lenSl rfl Tryz.underlying34 rfl) <| qt (x_lssN rfl rfl) <| nl <| k56 _ _ <| cndN (p := i < 0) rfl (Nat.not_lt_zero i) <| exit <| ke54 _ _ _ <| ke50 _ _ _ <| kb41 _ _ <| kn32 _ _ <| seqK fun Q57 kn58 kr59 ke60 => ?_
      refine sr fun Q61 k62 => qt asg <| nl <| k62 _ _ <| blockK fun Q63 kn64 kr65 kx66 kb67 => ?_
      refine loopK (α := Nat) (fun x => [(0, .pointer (some ⟨bk, 0, none⟩)), (5, .slice none 0 0), (9, .int .i64 ((x : Nat) : Int))]) (fun x w68 => Hp S w0 w68 [cB bk 36 [tv, nv, .slice none 0 0]] ∧ 0 ≤ x) (fun x => 0 - x) (0) ⟨rfl, rfl, rfl, trivial⟩ ?_ ?_
      · refine ⟨(hx45.pick [0] (by decide)), ?_⟩
        try dsimp only
        exact Nat.zero_le _
      · rintro τ69 i w70 ⟨hx71, _⟩
        have hz72 := hx71.le
        intro Q73 kn74 kr75 ke76
        refine seqK fun Q77 kn78 kr79 ke80 => ?_
        refine sr fun Q81 k82 => qt mv <| qt mv <| qt (x_nilCheck rfl) <| qt (x_field (o := 0) T.fa36_2 rfl) <| qt (x_load1 T.na34 rfl (hx71.ld 0 rfl 2 rfl)) <| qt (x_lenSl rfl Tryz.underlying34 rfl) <| qt (x_lssN rfl rfl) <| nl <| k82 _ _ <| cndN (p := i < 0) rfl (Nat.not_lt_zero i) <| exit <| ke80 _ _ _ <| ke76 _ _ _ <| kb67 _ _ <| kn58 _ _ <| ?_
        refine sr fun Q83 k84 => qt asg <| nl <| k84 _ _ <| ret <| leave1 (P := Tryz.prog) (fn := Tryz.f26) (t := 2) (v := .bool true) rfl rfl <| ?_
        exact ⟨rfl, (hx71.pick [0] (by decide))⟩
theorem apart12 (S : Nat → Prop) (bk : Nat) (ta na : Option Addr) (tm tc nm nc : Nat) (hs ns : List Hdr) (xss : Nat → List ByteArray) (yss : Nat → List Int) (w0 : World) (hT : Tab w0) (hS : ¬ S 1) (hm : tm ≤ 1099511627776) (hn : nm ≤ 1099511627776) (hbt : ∀ j, j < tm → (el hs j).2.1 ≤ 1099511627776) (hbn : ∀ j, j < nm → (el ns j).2.1 ≤ 1099511627776) (H0 : Hp S w0 w0 [cB bk 36 [.slice ta tm tc, .slice na nm nc, .slice none 0 0], cQ 56 eL ta tm tc hs, cF tm (fun j => cQ 9 eS (el hs j).1 (el hs j).2.1 (el hs j).2.2 (xss j)), cQ 63 eL na nm nc ns, cF nm (fun j => cQ 3 eI (el ns j).1 (el ns j).2.1 (el ns j).2.2 (yss j))]) :
    Calls Tryz.prog 12 #[.pointer (some ⟨bk, 0, none⟩)] w0 fun e w' => e = .returned (.bool true) ∧ Hp S w0 w' [cB bk 36 [.slice ta tm tc, .slice na nm nc, .slice none 0 0]] := by
  refine enter Tryz.func12 rfl 13 Tryz.ntmps12 rfl <| ?_
  refine sr fun Q1 k2 => qt asg <| nl <| k2 _ _ <| ?_
  refine sr fun Q3 k4 => qt mv <| ?_
  have H6 : Hp S w0 w0 ([cB bk 36 [.slice ta tm tc, .slice na nm nc, .slice none 0 0], cQ 56 eL ta tm tc hs, cF tm (fun j => cQ 9 eS (el hs j).1 (el hs j).2.1 (el hs j).2.2 (xss j))] ++ [cQ 63 eL na nm nc ns, cF nm (fun j => cQ 3 eI (el ns j).1 (el ns j).2.1 (el ns j).2.2 (yss j))]) := (H0.pick [0, 1, 2, 3, 4] (by decide))
  refine cl T.cf24 (texts24 _ _ _ _ _ _ _ _ _ _ (hT.mod H6.fr hS) (H6.feet_no hS hT.lt) hm hbt H6.startL) rfl fun _ w7 ⟨er, K5⟩ => ⟨_, er, ?_⟩
  have H8 := H6.callL K5
  refine qt mv <| st_gq 2 5 rfl rfl (by decide) <| qt mv <| st_gq 2 5 rfl rfl (by decide) <| ?_
  have H10 : Hp S w0 w7 ([cB bk 36 [.slice ta tm tc, .slice na nm nc, .slice none 0 0], cQ 63 eL na nm nc ns, cF nm (fun j => cQ 3 eI (el ns j).1 (el ns j).2.1 (el ns j).2.2 (yss j))] ++ []) := (H8.pick [0, 1, 2] (by decide))
  refine cl T.cf25 (ints25 _ _ _ _ _ _ _ _ _ _ hn hbn H10.startL) rfl fun _ w11 ⟨er, K9⟩ => ⟨_, er, ?_⟩
  have H12 := H10.callL K9
  refine qt (pkT rfl) <| qt mv <| st_gq 6 9 rfl rfl (by decide) <| qt mv <| st_gq 6 9 rfl rfl (by decide) <| ?_
  have H14 : Hp S w0 w11 ([cB bk 36 [.slice ta tm tc, .slice na nm nc, .slice none 0 0]] ++ []) := (H12.pick [0] (by decide))
  refine cl T.cf26 (lists26 _ _ _ _ _ H14.startL) rfl fun _ w15 ⟨er, K13⟩ => ⟨_, er, ?_⟩
  have H16 := H14.callL K13
  refine qt (pkT rfl) <| qt asg <| nl <| k4 _ _ <| ret <| leave1 (P := Tryz.prog) (fn := Tryz.f12) (t := 2) (v := .bool true) rfl rfl <| ?_
  exact ⟨rfl, (H16.pick [0] (by decide))⟩
end Go.Proofs.YtcgmhpenjjheiaaGreatDoor
