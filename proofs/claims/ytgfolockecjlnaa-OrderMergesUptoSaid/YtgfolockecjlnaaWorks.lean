import Derived.Test.YtgfolockecjlnaaFns
namespace Go.Proofs.Ytgfolockecjlnaa
open Go.RowKit Go.Eng Go.OrdPure Go.HeapPure
theorem T.cf20 : CF Try.prog 20 := fun _ _ => by kernel_rfl
theorem T.cf48 : CF Try.prog 48 := fun _ _ => by kernel_rfl
theorem T.cf27 : CF Try.prog 27 := fun _ _ => by kernel_rfl
theorem T.cf30 : CF Try.prog 30 := fun _ _ => by kernel_rfl
theorem T.cf47 : CF Try.prog 47 := fun _ _ => by kernel_rfl
theorem T.cf49 : CF Try.prog 49 := fun _ _ => by kernel_rfl
theorem T.cf50 : CF Try.prog 50 := fun _ _ => by kernel_rfl
theorem T.cf51 : CF Try.prog 51 := fun _ _ => by kernel_rfl
theorem T.cf34 : CF Try.prog 34 := fun _ _ => by kernel_rfl
theorem T.cf52 : CF Try.prog 52 := fun _ _ => by kernel_rfl
theorem T.cf11 : CF Try.prog 11 := fun _ _ => by kernel_rfl

theorem cmp20 : Cmp 20 byc := fun x y w => by20 x y w
theorem cmp48 : CmpI 48 numc := fun x y w => (numbers48 x y w).mono fun _ _ h => ⟨h.1, h.2 ▸ Below.refl _ _⟩
theorem told20 : Told (.func (.func 20) #[] #[]) 20 := fun w => told53 20 w
theorem told48 : ToldI (.func (.func 48) #[] #[]) 48 := fun w => told65 48 w
theorem byc_law : Lawful byc := ⟨fun a b => by unfold byc; repeat' split <;> omega, fun a b => by unfold byc; repeat' split <;> omega, fun a b d => by unfold byc; repeat' split <;> omega⟩
theorem numc_law : Lawful numc := ⟨fun a b => by unfold numc; repeat' split <;> omega, fun a b => by unfold numc; repeat' split <;> omega, fun a b d => by unfold numc; repeat' split <;> omega⟩
def W4 : List (Int × Int) := [(((2 : Nat) : Int), ((1 : Nat) : Int)), (((1 : Nat) : Int), ((1 : Nat) : Int)), (((2 : Nat) : Int), ((2 : Nat) : Int)), (((1 : Nat) : Int), ((2 : Nat) : Int))]
def W5 : List (Int × Int) := [(((1 : Nat) : Int), ((1 : Nat) : Int)), (((1 : Nat) : Int), ((2 : Nat) : Int)), (((2 : Nat) : Int), ((1 : Nat) : Int)), (((2 : Nat) : Int), ((2 : Nat) : Int))]
def L4 : List Int := [((1 : Nat) : Int), ((3 : Nat) : Int), ((3 : Nat) : Int), ((5 : Nat) : Int)]
theorem find_one {p : Nat} (h2 : ∀ i, i < p → numc (el L4 i) ((3 : Nat) : Int) < 0) (h3 : ∀ i, p ≤ i → i < L4.length → ¬ numc (el L4 i) ((3 : Nat) : Int) < 0) : p = 1 := by
  have e1 := h2 1
  have e2 := h3 0
  have f1 : ¬ numc (el L4 1) ((3 : Nat) : Int) < 0 := by decide
  have f2 : numc (el L4 0) ((3 : Nat) : Int) < 0 := by decide
  have f3 : 0 < L4.length := by decide
  rcases Nat.lt_or_ge 1 p with h | h
  · exact absurd (e1 h) f1
  · rcases Nat.eq_zero_or_pos p with h0 | h0
    · exact absurd f2 (e2 (by omega) f3)
    · omega
theorem find_mono : ∀ i j, i ≤ j → j < L4.length → numc (el L4 j) ((3 : Nat) : Int) < 0 → numc (el L4 i) ((3 : Nat) : Int) < 0 := by
  intro i j h1 h2 h3
  have h4 : L4.length = 4 := rfl
  rcases (by omega : j = 0 ∨ j = 1 ∨ j = 2 ∨ j = 3) with rfl | rfl | rfl | rfl
  · obtain rfl : i = 0 := by omega
    exact h3
  · exact absurd h3 (by decide)
  · exact absurd h3 (by decide)
  · exact absurd h3 (by decide)
theorem heap_min {ε : Type} [Inhabited ε] {lt : ε → ε → Prop} (hs : SWO lt) {es L : List ε} (hp : HP lt es) (h : es.Perm L) (hL : 0 < L.length) : el es 0 ∈ L ∧ ∀ y ∈ L, ¬ lt y (el es 0) := by
  have hl := h.length_eq
  refine ⟨h.mem_iff.1 (by rw [el_eq (by omega)]; exact List.getElem_mem _), fun y hy => ?_⟩
  obtain ⟨i, hi, rfl⟩ := List.getElem_of_mem (h.mem_iff.2 hy)
  have := hp.root hs i hi
  rw [el_eq hi] at this
  exact this
theorem pop_one {es : List (Int × Nat)} (hp : HP (ah numc) es) (h : es.Perm [(((2 : Nat) : Int), 0), (((1 : Nat) : Int), 1)]) : (el es 0).1 = ((1 : Nat) : Int) := by
  obtain ⟨h1, h2⟩ := heap_min (ah_swo numc_law) hp h (by decide)
  simp only [List.mem_cons, List.not_mem_nil, or_false] at h1
  rcases h1 with h1 | h1
  · have h3 := h2 (((1 : Nat) : Int), 1) (by simp)
    rw [h1] at h3
    exact absurd (.inl (by decide)) h3
  · rw [h1]
theorem txt_one : txt (ByteArray.mk #[97]) (ByteArray.mk #[97, 97]) = -1 := by
  unfold txt
  rw [ByteArray.toList_eq, ByteArray.toList_eq]
  decide
theorem tups_one : tups [(ByteArray.mk #[97])] [(ByteArray.mk #[97]), (ByteArray.mk #[])] = -1 := by
  have h : txt (ByteArray.mk #[97]) (ByteArray.mk #[97]) = 0 := by
    unfold txt
    rw [ByteArray.toList_eq]
    decide
  simp [tups, h]
set_option maxHeartbeats 4000000 in
theorem works16 (w0 : World) : Calls Try.prog 16 #[] w0 fun e w' => e = .returned (.bool true) ∧ Ext w0 w' := by
  have hE0 : Below w0.heap.size w0 w0 := Below.refl _ _
  have hz0 := hE0.le
  refine enter Try.func16 rfl 64 Try.ntmps16 rfl ?_
  refine seqK fun Q1 kn2 kr3 ke4 => ?_
  refine region ?_
  refine st_q (v := .bool false) (x_assign rfl) ?_
  refine st_nil ?_
  refine kn2 _ _ ?_
  refine seqK fun Q5 kn6 kr7 ke8 => ?_
  refine region ?_
  refine st_c (t_call [.int .i64 ((2 : Nat) : Int), .int .i64 ((1 : Nat) : Int)] T.cf27 rfl rfl) (thing27 ((2 : Nat) : Int) ((1 : Nat) : Int) _) ?_
  rintro _ w9 ⟨rfl, hx10⟩
  refine ⟨_, rfl, ?_⟩
  have hE11 : Below w0.heap.size w0 w9 := hx10.e hE0 (Nat.le_refl _)
  have hz12 := hE11.le
  have hs13 := hx10.size
  refine st_c (t_call [.int .i64 ((1 : Nat) : Int), .int .i64 ((1 : Nat) : Int)] T.cf27 rfl rfl) (thing27 ((1 : Nat) : Int) ((1 : Nat) : Int) _) ?_
  rintro _ w14 ⟨rfl, hx15⟩
  refine ⟨_, rfl, ?_⟩
  have hE16 : Below w0.heap.size w0 w14 := hx15.e hE11 (Nat.le_refl _)
  have hz17 := hE16.le
  have hs18 := hx15.size
  refine st_c (t_call [.int .i64 ((2 : Nat) : Int), .int .i64 ((2 : Nat) : Int)] T.cf27 rfl rfl) (thing27 ((2 : Nat) : Int) ((2 : Nat) : Int) _) ?_
  rintro _ w19 ⟨rfl, hx20⟩
  refine ⟨_, rfl, ?_⟩
  have hE21 : Below w0.heap.size w0 w19 := hx20.e hE16 (Nat.le_refl _)
  have hz22 := hE21.le
  have hs23 := hx20.size
  refine st_c (t_call [.int .i64 ((1 : Nat) : Int), .int .i64 ((2 : Nat) : Int)] T.cf27 rfl rfl) (thing27 ((1 : Nat) : Int) ((2 : Nat) : Int) _) ?_
  rintro _ w24 ⟨rfl, hx25⟩
  refine ⟨_, rfl, ?_⟩
  have hE26 : Below w0.heap.size w0 w24 := hx25.e hE21 (Nat.le_refl _)
  have hz27 := hE26.le
  have hs28 := hx25.size
  refine st_e (e_buildSlice (cs := [.int .i64 ((2 : Nat) : Int), .int .i64 ((1 : Nat) : Int), .int .i64 ((1 : Nat) : Int), .int .i64 ((1 : Nat) : Int), .int .i64 ((2 : Nat) : Int), .int .i64 ((2 : Nat) : Int), .int .i64 ((1 : Nat) : Int), .int .i64 ((2 : Nat) : Int)]) (e := 31) (fun _ => by kernel_rfl) ?_)
  intro w29 hA30
  have hx31 := hA30.ext
  have hs32 := hA30.size
  have hB33 : Blk w29.heap w24.heap.size [.int .i64 ((2 : Nat) : Int), .int .i64 ((1 : Nat) : Int), .int .i64 ((1 : Nat) : Int), .int .i64 ((1 : Nat) : Int), .int .i64 ((2 : Nat) : Int), .int .i64 ((2 : Nat) : Int), .int .i64 ((1 : Nat) : Int), .int .i64 ((2 : Nat) : Int)] 31 := hA30.new
  have hE34 : Below w0.heap.size w0 w29 := hx31.e hE26 (Nat.le_refl _)
  have hz35 := hE34.le
  have hs36 := hx31.size
  refine st_c (t_call [.slice ((some ⟨w24.heap.size, 0, none⟩)) 4 4, .func (.func 20) #[] #[]] T.cf30 rfl rfl) (sort30p 20 byc T.cf20 cmp20 byc_law (.func (.func 20) #[] #[]) told20 W4 _ _ (hB33.src1 (k := 2) (m := 4) rfl (by omega)) (by decide) (by decide)) ?_
  rintro _ w37 ⟨v39, rfl, hx38, hO40⟩
  refine ⟨_, rfl, ?_⟩
  have hB41 := hB33.ext hx38
  have hE42 : Below w0.heap.size w0 w37 := hx38.e hE34 (Nat.le_refl _)
  have hz43 := hE42.le
  have hs44 := hx38.size
  have hO45 := hO40.weak (lo' := w0.heap.size) (by omega)
  obtain ⟨a46, c47, rfl, hm48, hm49⟩ := hO45.src.form
  refine st_q (v := .slice a46 4 c47) (x_assign rfl) ?_
  refine st_nil ?_
  refine kn6 _ _ ?_
  refine seqK fun Q50 kn51 kr52 ke53 => ?_
  refine region ?_
  refine st_e (e_buildSlice (cs := [.int .i64 ((1 : Nat) : Int), .int .i64 ((3 : Nat) : Int), .int .i64 ((3 : Nat) : Int), .int .i64 ((5 : Nat) : Int)]) (e := 3) (fun _ => by kernel_rfl) ?_)
  intro w54 hA55
  have hx56 := hA55.ext
  have hs57 := hA55.size
  have hB58 : Blk w54.heap w37.heap.size [.int .i64 ((1 : Nat) : Int), .int .i64 ((3 : Nat) : Int), .int .i64 ((3 : Nat) : Int), .int .i64 ((5 : Nat) : Int)] 3 := hA55.new
  have hB59 := hB41.ext hx56
  have hF60 := hO45.ext hx56
  have hE61 : Below w0.heap.size w0 w54 := hx56.e hE42 (Nat.le_refl _)
  have hz62 := hE61.le
  have hs63 := hx56.size
  refine st_c (t_call [.slice ((some ⟨w37.heap.size, 0, none⟩)) 4 4, .int .i64 ((3 : Nat) : Int), .func (.func 48) #[] #[]] T.cf47 rfl rfl) (find47 48 numc T.cf48 cmp48 (.func (.func 48) #[] #[]) told48 L4 ((3 : Nat) : Int) _ _ (hB58.src1 (k := 1) (m := 4) rfl (by omega)) (by decide) find_mono) ?_
  rintro _ w64 ⟨p, rfl, hx65, _, hp2, hp3⟩
  obtain rfl : p = 1 := find_one hp2 hp3
  refine ⟨_, rfl, ?_⟩
  have hB66 := hB59.ext hx65
  have hB67 := hB58.ext hx65
  have hF68 := hF60.ext hx65
  have hE69 : Below w0.heap.size w0 w64 := hx65.e hE61 (Nat.le_refl _)
  have hz70 := hE69.le
  have hs71 := hx65.size
  refine st_q (v := .tuple #[.int .i64 ((1 : Nat) : Int), .bool true]) (x_move rfl) ?_
  refine st_q (v := .int .i64 ((1 : Nat) : Int)) (x_extract rfl rfl) ?_
  refine st_q (v := .bool true) (x_extract rfl rfl) ?_
  refine st_q (v := .int .i64 ((1 : Nat) : Int)) (x_assign rfl) ?_
  refine st_q (v := .bool true) (x_assign rfl) ?_
  refine st_nil ?_
  refine kn51 _ _ ?_
  refine seqK fun Q72 kn73 kr74 ke75 => ?_
  refine region ?_
  refine st_c (t_call [.func (.func 48) #[] #[]] T.cf49 rfl rfl) (new49 48 (.func (.func 48) #[] #[]) told48 _) ?_
  rintro _ w76 ⟨hb, rfl, hx77, hH0, hb0⟩
  refine ⟨_, rfl, ?_⟩
  have hltv : ∀ k, Value.ownBlock (.slice a46 4 c47) = some k → k < w64.heap.size := fun k e => (hF68.lt e).2
  have hHlo : w0.heap.size ≤ w64.heap.size := by omega
  have hF78 := hF68.ext hx77
  have hE79 : Below w0.heap.size w0 w76 := hx77.e hE69 (Nat.le_refl _)
  have hz80 := hE79.le
  have hs81 := hx77.size
  refine st_q (v := .pointer (some ⟨hb, 0, none⟩)) (x_assign rfl) ?_
  refine st_nil ?_
  refine kn73 _ _ ?_
  refine seqK fun Q82 kn83 kr84 ke85 => ?_
  refine region ?_
  refine st_q (v := .pointer (some ⟨hb, 0, none⟩)) (x_move rfl) ?_
  refine st_c (t_call [.pointer (some ⟨hb, 0, none⟩), .int .i64 ((2 : Nat) : Int)] T.cf50 rfl rfl) (push50 w64.heap.size 48 numc T.cf48 cmp48 numc_law (.func (.func 48) #[] #[]) told48 hb 0 _ [] ((2 : Nat) : Int) _ hH0 (by decide) (by decide) (fun i h1 h2 => by simp at h2)) ?_
  rintro _ w86 ⟨rfl, v1, es1, hM1, hH1, hP1, hQ1, _⟩
  refine ⟨_, rfl, ?_⟩
  have hF87 := hF78.mod hM1 (fun k e hs => by have h1 := hH0.low _ hs; have h2 := hltv k e; omega)
  have hE88 : Below w0.heap.size w0 w86 := Below.mod' hE79 hM1 (fun i hi => Nat.le_trans hHlo (hH0.low i hi)) (Nat.le_refl _)
  have hz89 := hE88.le
  refine st_nil ?_
  refine kn83 _ _ ?_
  refine seqK fun Q90 kn91 kr92 ke93 => ?_
  refine region ?_
  refine st_q (v := .pointer (some ⟨hb, 0, none⟩)) (x_move rfl) ?_
  refine st_c (t_call [.pointer (some ⟨hb, 0, none⟩), .int .i64 ((1 : Nat) : Int)] T.cf50 rfl rfl) (push50 w64.heap.size 48 numc T.cf48 cmp48 numc_law (.func (.func 48) #[] #[]) told48 hb 1 _ es1 ((1 : Nat) : Int) _ hH1 (by have := hQ1.length_eq; simp at this; omega) (by decide) hP1) ?_
  rintro _ w94 ⟨rfl, v2, es2, hM2, hH2, hP2, hQ2, _⟩
  refine ⟨_, rfl, ?_⟩
  have hF95 := hF87.mod hM2 (fun k e hs => by have h1 := hH1.low _ hs; have h2 := hltv k e; omega)
  have hE96 : Below w0.heap.size w0 w94 := Below.mod' hE88 hM2 (fun i hi => Nat.le_trans hHlo (hH1.low i hi)) (Nat.le_refl _)
  have hz97 := hE96.le
  refine st_nil ?_
  refine kn91 _ _ ?_
  refine seqK fun Q98 kn99 kr100 ke101 => ?_
  refine region ?_
  refine st_q (v := .pointer (some ⟨hb, 0, none⟩)) (x_move rfl) ?_
  have hQ : es2.Perm [(((2 : Nat) : Int), 0), (((1 : Nat) : Int), 1)] := hQ2.trans (hQ1.append_right _)
  have hl2x : es2.length = 2 := hQ.length_eq
  refine st_c (t_call [.pointer (some ⟨hb, 0, none⟩)] T.cf51 rfl rfl) (pop51 w64.heap.size 48 numc T.cf48 cmp48 numc_law (.func (.func 48) #[] #[]) told48 hb 2 _ es2 _ hH2 (by omega) (by omega) hP2) ?_
  rintro _ w102 ⟨rfl, v3, es3, hM3, hH3, hP3, hQ3, _⟩
  refine ⟨_, rfl, ?_⟩
  have hF103 := hF95.mod hM3 (fun k e hs => by have h1 := hH2.low _ hs; have h2 := hltv k e; omega)
  have hE104 : Below w0.heap.size w0 w102 := Below.mod' hE96 hM3 (fun i hi => Nat.le_trans hHlo (hH2.low i hi)) (Nat.le_refl _)
  have hz105 := hE104.le
  have hx1 := pop_one hP2 hQ
  have hl3x : es3.length = 1 := by have := hQ3.length_eq; simp at this; omega
  have htx := txt_one
  have htu := tups_one
  refine st_q (v := .tuple #[.int .i64 ((el es2 0).1), .bool true]) (x_move rfl) ?_
  refine st_q (v := .int .i64 ((el es2 0).1)) (x_extract rfl rfl) ?_
  refine st_q (v := .bool true) (x_extract rfl rfl) ?_
  refine st_q (v := .int .i64 ((el es2 0).1)) (x_assign rfl) ?_
  refine st_q (v := .bool true) (x_assign rfl) ?_
  refine st_nil ?_
  refine kn99 _ _ ?_
  refine seqK fun Q106 kn107 kr108 ke109 => ?_
  refine region ?_
  refine st_q (v := .slice a46 4 c47) (x_move rfl) ?_
  refine st_c (t_call [.int .i64 ((1 : Nat) : Int), .int .i64 ((1 : Nat) : Int)] T.cf27 rfl rfl) (thing27 ((1 : Nat) : Int) ((1 : Nat) : Int) _) ?_
  rintro _ w110 ⟨rfl, hx111⟩
  refine ⟨_, rfl, ?_⟩
  have hF112 := hF103.ext hx111
  have hF113 := hH3.ext hx111
  have hE114 : Below w0.heap.size w0 w110 := hx111.e hE104 (Nat.le_refl _)
  have hz115 := hE114.le
  have hs116 := hx111.size
  refine st_c (t_call [.int .i64 ((1 : Nat) : Int), .int .i64 ((2 : Nat) : Int)] T.cf27 rfl rfl) (thing27 ((1 : Nat) : Int) ((2 : Nat) : Int) _) ?_
  rintro _ w117 ⟨rfl, hx118⟩
  refine ⟨_, rfl, ?_⟩
  have hF119 := hF112.ext hx118
  have hF120 := hF113.ext hx118
  have hE121 : Below w0.heap.size w0 w117 := hx118.e hE114 (Nat.le_refl _)
  have hz122 := hE121.le
  have hs123 := hx118.size
  refine st_c (t_call [.int .i64 ((2 : Nat) : Int), .int .i64 ((1 : Nat) : Int)] T.cf27 rfl rfl) (thing27 ((2 : Nat) : Int) ((1 : Nat) : Int) _) ?_
  rintro _ w124 ⟨rfl, hx125⟩
  refine ⟨_, rfl, ?_⟩
  have hF126 := hF119.ext hx125
  have hF127 := hF120.ext hx125
  have hE128 : Below w0.heap.size w0 w124 := hx125.e hE121 (Nat.le_refl _)
  have hz129 := hE128.le
  have hs130 := hx125.size
  refine st_c (t_call [.int .i64 ((2 : Nat) : Int), .int .i64 ((2 : Nat) : Int)] T.cf27 rfl rfl) (thing27 ((2 : Nat) : Int) ((2 : Nat) : Int) _) ?_
  rintro _ w131 ⟨rfl, hx132⟩
  refine ⟨_, rfl, ?_⟩
  have hF133 := hF126.ext hx132
  have hF134 := hF127.ext hx132
  have hE135 : Below w0.heap.size w0 w131 := hx132.e hE128 (Nat.le_refl _)
  have hz136 := hE135.le
  have hs137 := hx132.size
  refine st_e (e_buildSlice (cs := [.int .i64 ((1 : Nat) : Int), .int .i64 ((1 : Nat) : Int), .int .i64 ((1 : Nat) : Int), .int .i64 ((2 : Nat) : Int), .int .i64 ((2 : Nat) : Int), .int .i64 ((1 : Nat) : Int), .int .i64 ((2 : Nat) : Int), .int .i64 ((2 : Nat) : Int)]) (e := 31) (fun _ => by kernel_rfl) ?_)
  intro w138 hA139
  have hx140 := hA139.ext
  have hs141 := hA139.size
  have hB142 : Blk w138.heap w131.heap.size [.int .i64 ((1 : Nat) : Int), .int .i64 ((1 : Nat) : Int), .int .i64 ((1 : Nat) : Int), .int .i64 ((2 : Nat) : Int), .int .i64 ((2 : Nat) : Int), .int .i64 ((1 : Nat) : Int), .int .i64 ((2 : Nat) : Int), .int .i64 ((2 : Nat) : Int)] 31 := hA139.new
  have hF143 := hF133.ext hx140
  have hF144 := hF134.ext hx140
  have hE145 : Below w0.heap.size w0 w138 := hx140.e hE135 (Nat.le_refl _)
  have hz146 := hE145.le
  have hs147 := hx140.size
  refine st_c (t_call [.slice a46 4 c47, .slice ((some ⟨w131.heap.size, 0, none⟩)) 4 4] T.cf34 rfl rfl) (same (srt byc W4) W5 _ _ _ hF143.src (hB142.src1 (k := 2) (m := 4) rfl (by omega))) ?_
  rintro _ w148 ⟨rfl, hx149⟩
  refine ⟨_, rfl, ?_⟩
  have hB150 := hB142.ext hx149
  have hF151 := hF143.ext hx149
  have hF152 := hF144.ext hx149
  have hE153 : Below w0.heap.size w0 w148 := hx149.e hE145 (Nat.le_refl _)
  have hz154 := hE153.le
  have hs155 := hx149.size
  refine st_q (v := .bool true) (x_move rfl) ?_
  refine st_gq 7 35 rfl rfl (by decide) ?_
  refine st_q (v := .int .i64 ((1 : Nat) : Int)) (x_move rfl) ?_
  refine st_gq 7 35 rfl rfl (by decide) ?_
  refine st_q (v := .bool (decide (1 = 1))) (x_eqlN rfl rfl) ?_
  refine st_q (v := .bool (decide (1 = 1))) (x_pickT rfl rfl) ?_
  refine st_if (p := 1 = 1) (x_move rfl) (fun h156 => ?_) (fun h156 => ?_)
  ·
    refine st_gq 11 39 rfl rfl (by decide) ?_
    refine st_q (v := .bool true) (x_move rfl) ?_
    refine st_q (v := .bool true) (x_pickT rfl rfl) ?_
    refine st_q (v := .bool true) (x_move rfl) ?_
    refine st_gq 14 42 rfl rfl (by decide) ?_
    refine st_q (v := .int .i64 ((el es2 0).1)) (x_move rfl) ?_
    refine st_gq 14 42 rfl rfl (by decide) ?_
    refine st_q (v := .bool (decide (((el es2 0).1) = 1))) (x_eql rfl rfl) ?_
    refine st_q (v := .bool (decide (((el es2 0).1) = 1))) (x_pickT rfl rfl) ?_
    refine st_if (p := ((el es2 0).1) = 1) (x_move rfl) (fun h157 => ?_) (fun h157 => ?_)
    ·
      refine st_gq 18 46 rfl rfl (by decide) ?_
      refine st_q (v := .bool true) (x_move rfl) ?_
      refine st_q (v := .bool true) (x_pickT rfl rfl) ?_
      refine st_q (v := .bool true) (x_move rfl) ?_
      refine st_gq 21 49 rfl rfl (by decide) ?_
      refine st_q (v := .pointer (some ⟨hb, 0, none⟩)) (x_move rfl) ?_
      refine st_gq 21 49 rfl rfl (by decide) ?_
      refine st_c (t_call [.pointer (some ⟨hb, 0, none⟩)] T.cf52 rfl rfl) (len52 w64.heap.size hb 2 (.func (.func 48) #[] #[]) _ es3 _ hF152) ?_
      rintro _ w158 ⟨rfl, hx159⟩
      refine ⟨_, rfl, ?_⟩
      have hB160 := hB150.ext hx159
      have hF161 := hF151.ext hx159
      have hF162 := hF152.ext hx159
      have hE163 : Below w0.heap.size w0 w158 := hx159.e hE153 (Nat.le_refl _)
      have hz164 := hE163.le
      have hs165 := hx159.size
      refine st_gq 21 49 rfl rfl (by decide) ?_
      refine st_q (v := .bool (decide (es3.length = 1))) (x_eqlN rfl rfl) ?_
      refine st_q (v := .bool (decide (es3.length = 1))) (x_pickT rfl rfl) ?_
      refine st_if (p := es3.length = 1) (x_move rfl) (fun h166 => ?_) (fun h166 => ?_)
      ·
        refine st_gq 26 54 rfl rfl (by decide) ?_
        refine st_c (t_call [.string ((ByteArray.mk #[97])), .string ((ByteArray.mk #[97, 97]))] T.cf14 rfl rfl) (texts14 (ByteArray.mk #[97]) (ByteArray.mk #[97, 97]) _) ?_
        rintro _ _ ⟨rfl, rfl⟩
        refine ⟨_, rfl, ?_⟩
        refine st_gq 26 54 rfl rfl (by decide) ?_
        refine st_q (v := .bool (decide ((txt (ByteArray.mk #[97]) (ByteArray.mk #[97, 97])) = (-1)))) (x_eql rfl rfl) ?_
        refine st_q (v := .bool (decide ((txt (ByteArray.mk #[97]) (ByteArray.mk #[97, 97])) = (-1)))) (x_pickT rfl rfl) ?_
        refine st_if (p := (txt (ByteArray.mk #[97]) (ByteArray.mk #[97, 97])) = (-1)) (x_move rfl) (fun h167 => ?_) (fun h167 => ?_)
        ·
          refine st_gq 30 58 rfl rfl (by decide) ?_
          refine st_e (e_buildSlice (cs := [.string ((ByteArray.mk #[97]))]) (e := 9) (fun _ => by kernel_rfl) ?_)
          intro w168 hA169
          have hx170 := hA169.ext
          have hs171 := hA169.size
          have hB172 : Blk w168.heap w158.heap.size [.string ((ByteArray.mk #[97]))] 9 := hA169.new
          have hB173 := hB160.ext hx170
          have hF174 := hF161.ext hx170
          have hF175 := hF162.ext hx170
          have hE176 : Below w0.heap.size w0 w168 := hx170.e hE163 (Nat.le_refl _)
          have hz177 := hE176.le
          have hs178 := hx170.size
          refine st_gq 30 58 rfl rfl (by decide) ?_
          refine st_e (e_buildSlice (cs := [.string ((ByteArray.mk #[97])), .string ((ByteArray.mk #[]))]) (e := 9) (fun _ => by kernel_rfl) ?_)
          intro w179 hA180
          have hx181 := hA180.ext
          have hs182 := hA180.size
          have hB183 : Blk w179.heap w168.heap.size [.string ((ByteArray.mk #[97])), .string ((ByteArray.mk #[]))] 9 := hA180.new
          have hB184 := hB173.ext hx181
          have hB185 := hB172.ext hx181
          have hF186 := hF174.ext hx181
          have hF187 := hF175.ext hx181
          have hE188 : Below w0.heap.size w0 w179 := hx181.e hE176 (Nat.le_refl _)
          have hz189 := hE188.le
          have hs190 := hx181.size
          refine st_gq 30 58 rfl rfl (by decide) ?_
          refine st_c (t_call [.slice ((some ⟨w158.heap.size, 0, none⟩)) 1 1, .slice ((some ⟨w168.heap.size, 0, none⟩)) 2 2] T.cf11 rfl rfl) (tuples11 [(ByteArray.mk #[97])] [(ByteArray.mk #[97]), (ByteArray.mk #[])] _ _ _ (hB185.src1 (k := 1) (m := 1) rfl (by omega)) (hB183.src1 (k := 1) (m := 2) rfl (by omega))) ?_
          rintro _ w191 ⟨rfl, hx192⟩
          refine ⟨_, rfl, ?_⟩
          have hB193 := hB184.ext hx192
          have hB194 := hB185.ext hx192
          have hB195 := hB183.ext hx192
          have hF196 := hF186.ext hx192
          have hF197 := hF187.ext hx192
          have hE198 : Below w0.heap.size w0 w191 := hx192.e hE188 (Nat.le_refl _)
          have hz199 := hE198.le
          have hs200 := hx192.size
          refine st_gq 30 58 rfl rfl (by decide) ?_
          refine st_q (v := .bool (decide ((tups [(ByteArray.mk #[97])] [(ByteArray.mk #[97]), (ByteArray.mk #[])]) = (-1)))) (x_eql rfl rfl) ?_
          refine st_q (v := .bool (decide ((tups [(ByteArray.mk #[97])] [(ByteArray.mk #[97]), (ByteArray.mk #[])]) = (-1)))) (x_pickT rfl rfl) ?_
          refine st_q (v := .bool (decide ((tups [(ByteArray.mk #[97])] [(ByteArray.mk #[97]), (ByteArray.mk #[])]) = (-1)))) (x_assign rfl) ?_
          refine st_nil ?_
          refine kn107 _ _ ?_
          refine ret ?_
          refine leave1 (P := Try.prog) (fn := Try.f16) (t := 0) (v := .bool (decide ((tups [(ByteArray.mk #[97])] [(ByteArray.mk #[97]), (ByteArray.mk #[])]) = (-1)))) rfl rfl ?_
          exact ⟨by rw [decide_eq_true (by omega)], hE198⟩
        ·
          exact absurd h167 (by omega)
      ·
        exact absurd h166 (by omega)
    ·
      exact absurd h157 (by omega)
  ·
    exact absurd h156 (by omega)

end Go.Proofs.Ytgfolockecjlnaa
