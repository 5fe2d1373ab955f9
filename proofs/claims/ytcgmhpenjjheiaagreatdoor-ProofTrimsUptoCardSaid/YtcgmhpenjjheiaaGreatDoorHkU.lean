/- A fact as a key (proof.of), and the hooks of the seat together. -/
import Derived.Test.YtcgmhpenjjheiaaGreatDoorHkT
namespace Go.Proofs.YtcgmhpenjjheiaaGreatDoor
open Go.Eng Go.Lk Go.RowKit
theorem T.zv87 : ZV Tryz.prog 87 (.agg (Value.string .empty :: .int .i64 0 :: List.replicate 16 (Value.string .empty)).toArray) := fun _ => by kernel_rfl
theorem T.sz87 : SZ Tryz.prog 87 18 := fun _ => by kernel_rfl
theorem T.ag87 : AG Tryz.prog 87 18 := fun _ => ⟨by kernel_rfl, by kernel_rfl⟩
theorem T.fa62_0 : FA Tryz.prog 62 0 0 := fun _ _ => by kernel_rfl
theorem T.fa62_1 : FA Tryz.prog 62 1 1 := fun _ _ => by kernel_rfl
theorem T.fa87_2 : FA Tryz.prog 87 2 2 := fun _ _ => by kernel_rfl
theorem T.na9 : NA Tryz.prog 9 := fun _ => by kernel_rfl
theorem T.na56 : NA Tryz.prog 56 := fun _ => by kernel_rfl
theorem T.sz9 : SZ Tryz.prog 9 1 := fun _ => by kernel_rfl
abbrev K18 (s : ByteArray) (len : Nat) : List Value := Value.string s :: .int .i64 len :: List.replicate 16 (Value.string .empty)
theorem key_slice (w : World) (n : Nat) (σ : Nat → Value) (x : Operand) (b : Nat) (ty : TypeId) (hx : ev n σ x = .pointer (some ⟨b, 2, none⟩)) : Ex Tryz.prog (ev n σ) w (.slice 85 x none none none) ty (.slice (some ⟨b, 2, none⟩) 16 16) := fun _ _ _ _ => by
  have h3 := T.sz9 w
  simp [execOp, hx, Instr.sliceAt, Instr.sureAddr, run_underlying Tryz.underlying85, Instr.sliceBounds, h3, Addr.add]
theorem key_build (s : ByteArray) (l : Nat) (σ : Nat → Value) (w : World) (ty : TypeId) (x y : Operand) (hx : ev 22 σ x = .string s) (hy : ev 22 σ y = .int .i64 l) : Ex Tryz.prog (ev 22 σ) w (.build 87 #[(0, x), (1, y)]) ty (.agg (K18 s l).toArray) := x_build fun w => by
  simp only [List.map_toArray, List.map_cons, List.map_nil, hx, hy]
  kernel_rfl
abbrev KK (s : ByteArray) (len : Nat) (cs : List Value) : List Value := Value.string s :: .int .i64 len :: (cs ++ List.replicate (16 - len) (Value.string .empty))
theorem KK_length (s : ByteArray) {len : Nat} {cs : List Value} (hl : cs.length = len) (hm : len ≤ 16) : (KK s len cs).length = 18 := by
  simp only [KK, List.length_cons, List.length_append, List.length_replicate]; omega
theorem KK_ones (s : ByteArray) {len : Nat} {cs : List Value} (h1 : ∀ v ∈ cs, v.oneCell' = true) : (KK s len cs).all (·.oneCell') = true := by
  rw [List.all_eq_true]
  intro v hv
  simp only [KK, List.mem_cons, List.mem_append, List.mem_replicate] at hv
  rcases hv with rfl | rfl | h | ⟨_, rfl⟩
  · rfl
  · rfl
  · exact h1 v h
  · rfl
theorem key_copied (s : ByteArray) (len : Nat) (cs : List Value) : (K18 s len).take 2 ++ cs ++ (K18 s len).drop (2 + len) = KK s len cs := by
  have : (K18 s len).drop (2 + len) = List.replicate (16 - len) (Value.string .empty) := by
    rw [Nat.add_comm 2 len]
    show List.drop (len + 2) (_ :: _ :: List.replicate 16 _) = _
    rw [List.drop_succ_cons, List.drop_succ_cons, List.drop_replicate]
  rw [this]
  rfl
theorem of_none (s : ByteArray) (w0 : World) : Calls Tryz.prog 30 #[.agg #[.string s, .slice none 0 0]] w0 fun e w' => e = .returned (.tuple #[.agg (K18 s 0).toArray, .bool true]) ∧ Ext w0 w' := by
  have H0 := Hp.start No w0
  refine enter Tryz.func30 rfl 22 Tryz.ntmps30 rfl <| ?_
  refine sr fun Q1 k1 => st_e <| Ebx (v := .agg #[.string s, .slice none 0 0]) H0 rfl fun b1 w1 H1 x1 => st_e <| Eal H1 T.zv87 fun b2 w2 H2 x2 => qt asg <| nl <| k1 _ _ <| ?_
  have H2 : Hp No w0 w2 [cB b2 87 (K18 .empty 0), cB b1 62 [.string s, .slice none 0 0]] := H2
  have hB : Blk w2.heap b1 [.string s, .slice none 0 0] 62 := H2.at 1 rfl
  refine sr fun Q2 k2 => qt (x_field T.fa62_0 rfl) <| qt (x_load1 T.na9 rfl (Blk.one hB 0 rfl)) <| qt (x_field T.fa62_1 rfl) <| qt (x_load1 T.na56 rfl (Blk.one hB 1 rfl)) <| qt (x_lenSl rfl Tryz.underlying56 rfl) <| qt (key_build s 0 _ _ _ _ _ rfl rfl) <| st_e <| Eal H2 T.zv87 fun b4 w4 H4 x4 => ?_
  refine st_s <| Est (k0 := 18) (i := 0) (v := .agg (K18 s 0).toArray) H4 T.sz87 rfl rfl rfl rfl rfl rfl fun w5 H5 => nl <| k2 _ _ <| ?_
  have H5 : Hp No w0 w5 [cB b4 87 (K18 s 0), cB b2 87 (K18 .empty 0), cB b1 62 [.string s, .slice none 0 0]] := H5
  have hB5 : Blk w5.heap b1 [.string s, .slice none 0 0] 62 := H5.at 2 rfl
  refine seqK fun Q3 kn3 kr3 ke3 => sr fun Q4 k4 => qt (x_field T.fa62_1 rfl) <| qt (x_load1 T.na56 rfl (Blk.one hB5 1 rfl)) <| qt (x_lenSl rfl Tryz.underlying56 rfl) <| qt (x_gtrN (a := 0) (b := 16) rfl rfl) <| nl <| k4 _ _ <| cnd (p := 16 < 0) rfl (fun h => absurd h (by omega)) (fun _ => skip <| kn3 _ _ <| ?_)
  refine wp_seq (regionD1 [3] [0, 1, 2, 3] (.one 0 (.one 1 (.one 2 (.one 3 (.one 4 .done))))) (by kernel_rfl) (by kernel_rfl) fun w6 x6 s6 => ?_)
  have H6 := H5.ext x6
  refine d_q rfl rfl (fun _ => x_field T.fa87_2 rfl) <| d_q rfl rfl (fun w => key_slice w _ _ _ b4 _ rfl) <| d_q rfl rfl (fun _ => x_field T.fa62_1 rfl) <| d_l rfl rfl rfl (fun _ y => x_load1 T.na56 rfl ((Blk.one (H6.at 2 rfl) 1 rfl).ext y)) <| d_e (by decide) <| d_e' rfl rfl <| Ecp0 Tryz.underlying56 (by kernel_rfl) rfl rfl rfl ⟨fun _ => Below.refl _ _, d_done ?_⟩
  have hB6 : Blk w6.heap b4 (K18 s 0) 87 := H6.at 0 rfl
  refine sr fun Q5 k5 => qt (x_loadA (K18 s 0) T.ag87 rfl (Blk.cells hB6 0 _ (fun j hj => by rw [Nat.zero_add, List.getElem?_eq_getElem hj]))) <| ?_
  refine st_s <| Est (b := b2) (o := 0) (k0 := 18) (i := 1) (v := .agg (K18 s 0).toArray) H6 T.sz87 rfl rfl rfl rfl rfl rfl fun w7 H7 => qt asg <| nl <| k5 _ _ <| ?_
  have H7 : Hp No w0 w7 [cB b4 87 (K18 s 0), cB b2 87 (K18 s 0), cB b1 62 [.string s, .slice none 0 0]] := H7
  have hB7 : Blk w7.heap b2 (K18 s 0) 87 := H7.at 1 rfl
  exact ret <| leaveCT (cs := K18 s 0) rfl T.ag87 rfl (Blk.cells hB7 0 _ (fun j hj => by rw [Nat.zero_add, List.getElem?_eq_getElem hj])) rfl ⟨rfl, H7.x⟩
theorem of_some (s : ByteArray) (g q len cap : Nat) (cs : List Value) (w0 : World) (hl : cs.length = len) (hm : len ≤ 16) (hcap : len ≤ cap) (hc : Cells w0.heap g q cs) (h1 : ∀ v ∈ cs, v.oneCell' = true) : Calls Tryz.prog 30 #[.agg #[.string s, .slice (some ⟨g, q, none⟩) len cap]] w0 fun e w' => e = .returned (.tuple #[.agg (Value.string s :: .int .i64 len :: (cs ++ List.replicate (16 - len) (Value.string .empty))).toArray, .bool true]) ∧ Ext w0 w' := by
  have H0 := Hp.start No w0
  refine enter Tryz.func30 rfl 22 Tryz.ntmps30 rfl <| ?_
  refine sr fun Q1 k1 => st_e <| Ebx (v := .agg #[.string s, .slice (some ⟨g, q, none⟩) len cap]) H0 rfl fun b1 w1 H1 x1 => st_e <| Eal H1 T.zv87 fun b2 w2 H2 x2 => qt asg <| nl <| k1 _ _ <| ?_
  have H2 : Hp No w0 w2 [cB b2 87 (K18 .empty 0), cB b1 62 [.string s, .slice (some ⟨g, q, none⟩) len cap]] := H2
  have hB : Blk w2.heap b1 [.string s, .slice (some ⟨g, q, none⟩) len cap] 62 := H2.at 1 rfl
  refine sr fun Q2 k2 => qt (x_field T.fa62_0 rfl) <| qt (x_load1 T.na9 rfl (Blk.one hB 0 rfl)) <| qt (x_field T.fa62_1 rfl) <| qt (x_load1 T.na56 rfl (Blk.one hB 1 rfl)) <| qt (x_lenSl rfl Tryz.underlying56 rfl) <| qt (key_build s len _ _ _ _ _ rfl rfl) <| st_e <| Eal H2 T.zv87 fun b4 w4 H4 x4 => ?_
  refine st_s <| Est (k0 := 18) (i := 0) (v := .agg (K18 s len).toArray) H4 T.sz87 rfl rfl rfl rfl rfl rfl fun w5 H5 => nl <| k2 _ _ <| ?_
  have H5 : Hp No w0 w5 [cB b4 87 (K18 s len), cB b2 87 (K18 .empty 0), cB b1 62 [.string s, .slice (some ⟨g, q, none⟩) len cap]] := H5
  have hB5 : Blk w5.heap b1 [.string s, .slice (some ⟨g, q, none⟩) len cap] 62 := H5.at 2 rfl
  refine seqK fun Q3 kn3 kr3 ke3 => sr fun Q4 k4 => qt (x_field T.fa62_1 rfl) <| qt (x_load1 T.na56 rfl (Blk.one hB5 1 rfl)) <| qt (x_lenSl rfl Tryz.underlying56 rfl) <| qt (x_gtrN (a := len) (b := 16) rfl rfl) <| nl <| k4 _ _ <| cnd (p := 16 < len) rfl (fun h => absurd h (by omega)) (fun _ => skip <| kn3 _ _ <| ?_)
  have x6 : Ext w5 w5.drew := (Below.refl _ _).drew
  have H6 := H5.ext x6
  have hmin : cs.length = Nat.min len 16 := by rw [hl]; exact (Nat.min_eq_left hm).symm
  have eK : (K18 s len).take 2 ++ cs ++ (K18 s len).drop (2 + cs.length) = KK s len cs := by rw [hl]; exact key_copied s len cs
  have kl := KK_length s hl hm
  have k1' := KK_ones s (len := len) h1
  refine wp_seq (regionD (fun w' => Blk w'.heap b1 [.string s, .slice (some ⟨g, q, none⟩) len cap] 62) [3] [0, 1, 2, 3] (.one 0 (.one 1 (.one 2 (.one 3 (.one 4 .done))))) (by kernel_rfl) (by kernel_rfl) (H6.at 2 rfl) ?_)
  refine d_q rfl rfl (fun _ => x_field T.fa87_2 rfl) <| d_q rfl rfl (fun w => key_slice w _ _ _ b4 _ rfl) <| d_q rfl rfl (fun _ => x_field T.fa62_1 rfl) <| d_l rfl rfl rfl (fun _ y => x_load1 T.na56 rfl (Blk.one y 1 rfl)) <| d_e (by decide) <| d_e' rfl rfl <| Ecp (o := 2) H6 0 Tryz.underlying56 (by kernel_rfl) rfl rfl rfl hmin (hc.ext H6.x) (by rw [hl]; show 2 + len ≤ 18; omega) h1 fun w7 H7 => ⟨fun _ => H7.at 2 rfl, d_done ?_⟩
  rw [eK] at H7
  have H7 : Hp No w0 w7 [cB b4 87 (KK s len cs), cB b2 87 (K18 .empty 0), cB b1 62 [.string s, .slice (some ⟨g, q, none⟩) len cap]] := H7
  have hB7 : Blk w7.heap b4 (KK s len cs) 87 := H7.at 0 rfl
  refine sr fun Q5 k5 => qt (x_loadA (KK s len cs) (kl ▸ T.ag87) rfl (Blk.cells hB7 0 _ (fun j hj => by rw [Nat.zero_add, List.getElem?_eq_getElem hj]))) <| ?_
  have hcl : (Value.agg (KK s len cs).toArray).cells.toList = KK s len cs := by simp [Value.cells]
  have hcs : (Value.agg (KK s len cs).toArray).cells.size = 18 := by rw [← Array.length_toList, hcl, kl]
  refine st_s <| Est (b := b2) (o := 0) (k0 := 18) (i := 1) (v := .agg (KK s len cs).toArray) H7 T.sz87 rfl rfl rfl hcs.symm (by rw [hcs]; rfl) (by rw [hcl]; exact k1') fun w8 H8 => qt asg <| nl <| k5 _ _ <| ?_
  rw [hcl] at H8
  have eS : splice (K18 .empty 0) 0 (KK s len cs) = KK s len cs := by
    unfold splice
    rw [List.take_zero, List.nil_append, Nat.zero_add, List.drop_of_length_le (by rw [kl]; exact Nat.le_refl 18), List.append_nil]
  rw [eS] at H8
  have H8 : Hp No w0 w8 [cB b4 87 (KK s len cs), cB b2 87 (KK s len cs), cB b1 62 [.string s, .slice (some ⟨g, q, none⟩) len cap]] := H8
  have hB8 : Blk w8.heap b2 (KK s len cs) 87 := H8.at 1 rfl
  exact ret <| leaveCT (cs := KK s len cs) rfl (kl ▸ T.ag87) rfl (Blk.cells hB8 0 _ (fun j hj => by rw [Nat.zero_add, List.getElem?_eq_getElem hj])) rfl ⟨rfl, H8.x⟩
end Go.Proofs.YtcgmhpenjjheiaaGreatDoor
