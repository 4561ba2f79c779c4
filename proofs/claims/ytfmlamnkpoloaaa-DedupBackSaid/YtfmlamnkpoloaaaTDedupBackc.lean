/- Texts of this session laid together (merge.py): YtfmlamnkpoloaaaQf38, YtfmlamnkpoloaaaIVer, YtfmlamnkpoloaaaHBox, YtfmlamnkpoloaaaDBase, YtfmlamnkpoloaaaDFind, YtfmlamnkpoloaaaDGet, YtfmlamnkpoloaaaRP, YtfmlamnkpoloaaaDPut. -/
import Derived.Outline
import Derived.IntWalk
import Derived.Deep.RegionLawGrows
import Derived.Deep.AppendLies
import Derived.Test.YtfmlamnkpoloaaaTDedupBackb
-- By px.py, a program of this session that drives the kit's printer: laid out of the translation; Lean checks it.
namespace Go.Proofs.Ytfmlamnkpoloaaa.Q
open Go.RowKit Go.Proofs.YtfmlamnkpoloaaaW.PrintWords Go.Proofs.YtfmlamnkpoloaaaW.PrintLast Go.Proofs.YtfmlamnkpoloaaaW.PrintMore
attribute [local go_sem] max2_int min2_int max_two min_two max_three min_three max_four min_four   -- for this text's walks alone
set_option linter.unusedVariables false
set_option linter.unusedSimpArgs false

/-! ### surmiseref10_LayVerdicts: function 38 -/
def surmiseref10_LayVerdicts.l0 : Nat → List (S58) → ByteArray → Int → Option (ByteArray)
  | 0, _, _, _ => none
  | k + 1, x0, x3, x4 => if x4 < (x0.length : Int) then (if 0 ≤ x4 then ((surmiseref10_Numbers.f k (([(rd_T58 x0 x4).f0, (rd_T58 x0 x4).f1] : List Int))).bind fun t197 => (if x3.size + t197.size ≤ 9223372036854775807 then (surmiseref10_LayVerdicts.l0 k x0 (x3 ++ t197) (wrap64 (x4 + 1))) else (none))) else (none)) else (some x3)
def surmiseref10_LayVerdicts.f (k : Nat) (l0 : List (S58)) : Option (ByteArray) := (surmiseref01_Number.f k (l0.length : Int)).bind fun t191 => (surmiseref10_LayVerdicts.l0 k l0 t191 0)
theorem surmiseref10_LayVerdicts.mono_l : ∀ k, (∀ y0 y1 y2, LeO (surmiseref10_LayVerdicts.l0 k y0 y1 y2) (surmiseref10_LayVerdicts.l0 (k + 1) y0 y1 y2))
  | 0 => fun _ _ _ r h => by simp [surmiseref10_LayVerdicts.l0] at h
  | k + 1 => by
    have ih0 := surmiseref10_LayVerdicts.mono_l k
    · intro y0 y1 y2
      unfold surmiseref10_LayVerdicts.l0
      repeat' first
      | (with_reducible exact ih0 _ _ _)
      | (with_reducible exact surmiseref01_Number.mono _ _)
      | (with_reducible exact surmiseref10_Numbers.mono _ _)
      | (with_reducible exact LeO.refl _)
      | (with_reducible exact LeO.none _)
      | (with_reducible refine LeO.ite ?_ ?_)
      | (with_reducible refine LeO.bind ?_ (fun _ => ?_))
      | exact ih0 _ _ _
      | exact surmiseref01_Number.mono _ _
      | exact surmiseref10_Numbers.mono _ _
      | exact LeO.none _
      | refine LeO.ite ?_ ?_
      | refine LeO.bind ?_ (fun _ => ?_)
theorem surmiseref10_LayVerdicts.mono : ∀ a0 k, LeO (surmiseref10_LayVerdicts.f k a0) (surmiseref10_LayVerdicts.f (k + 1) a0) := by
  intro a0 k
  have ih0 := surmiseref10_LayVerdicts.mono_l k
  unfold surmiseref10_LayVerdicts.f
  repeat' first
      | (with_reducible exact ih0 _ _ _)
      | (with_reducible exact surmiseref01_Number.mono _ _)
      | (with_reducible exact surmiseref10_Numbers.mono _ _)
      | (with_reducible exact LeO.refl _)
      | (with_reducible exact LeO.none _)
      | (with_reducible refine LeO.ite ?_ ?_)
      | (with_reducible refine LeO.bind ?_ (fun _ => ?_))
      | exact ih0 _ _ _
      | exact surmiseref01_Number.mono _ _
      | exact surmiseref10_Numbers.mono _ _
      | exact LeO.none _
      | refine LeO.ite ?_ ?_
      | refine LeO.bind ?_ (fun _ => ?_)
def surmiseref10_LayVerdicts.T5 : Bool × List (List Nat × List Nat) := (true, [([], []), ([], []), ([], []), ([1, 2], [1, 2]), ([3], [3]), ([4], [4]), ([], []), ([], []), ([6, 7], [6, 7]), ([8], [8]), ([9], [9]), ([5, 10], [5, 10]), ([11], [11]), ([0, 12], [0, 12]), ([13, 12, 0, 1, 2, 3, 4, 5, 6, 7, 8, 9, 10, 11, 12, 13], [0, 13])])
def surmiseref10_LayVerdicts.B5 : List Nat := [0, 0, 0, 6, 14, 30, 0, 0, 192, 448, 960, 2046, 4094, 8191, 16383]
theorem surmiseref10_LayVerdicts.tab5 : rtab .any (opsOf Try.f38 5) = surmiseref10_LayVerdicts.T5 := by kernel_rfl
theorem surmiseref10_LayVerdicts.bits5 : waitsOk surmiseref10_LayVerdicts.T5.2 surmiseref10_LayVerdicts.B5 = true := by kernel_rfl
set_option maxHeartbeats 8000000 in
set_option maxRecDepth 100000 in
theorem surmiseref10_LayVerdicts.calls (k : Nat) (A0 : Option Addr) (c0 : Nat) (l0 : List (S58)) (r : ByteArray) (w : World) (hr0 : Kd.C k58 w A0 l0.length l0) (hc0 : l0.length ≤ c0) (h : surmiseref10_LayVerdicts.f k l0 = some r) :
    Calls Try.prog 38 #[.slice A0 l0.length c0] w fun e w' => e = .returned (.string r) ∧ Below w.heap.size w w' := by
  have HR0 := Aside0.mk hr0
  have HC0 := Aside0.mk hc0
  clear hr0 hc0
  have HB := Aside0.mk (Below.refl w.heap.size w)
  have H : ((surmiseref01_Number.f k (l0.length : Int)).bind fun t191 => (surmiseref10_LayVerdicts.l0 k l0 t191 0)) = some r := h
  clear h
  replace H := Option.bind_eq_some_iff.mp H
  obtain ⟨t191, A20, H⟩ := H
  replace H : (surmiseref10_LayVerdicts.l0 k l0 t191 0) = some r := H
  have A2 := Aside0.mk A20
  clear A20
  have H' := Aside0.mk H
  clear H
  go_enter Try.func38, Try.ntmps38
  go_wp2_with (first | ((with_reducible refine gate_callee (f := 37) rfl ?_); refine goesL_ (some 7) rfl rfl Try.func37 (by kernel_rfl) rfl #[.int .i64 (l0.length : Int)] rfl (by (try simp only [List.map_toArray, List.map_cons, List.map_nil]); first | done | rfl | (simp only [List.length_drop, List.length_take]; rfl)) ?_; (with_reducible refine (surmiseref01_Number.calls k (l0.length : Int) t191 _ A2.out).mono ?_); rintro e w3 ⟨rfl, hb⟩; refine ⟨_, rfl, ?_⟩; have n0_ := Aside0.mk (below_step (by repeat (first | (with_reducible first | exact HB.out | apply below_alloc | apply pw_below_drewN | apply below_drew1) | exact HB.out)) hb); clear HB; have HB := n0_; clear n0_; (try clear hb); (try clear hb2); (try clear hk); (try clear hi)))
  go_loopg [3, 4] k (fun kq v3 v4 w' => ∃ (x3_1 : ByteArray) (x4_1 : Int), v3 = .string x3_1 ∧ v4 = .int .i64 x4_1 ∧ Aside0 (surmiseref10_LayVerdicts.l0 kq l0 x3_1 x4_1 = some r) ∧ Aside0 (kq ≤ k) ∧ Aside0 (Below w.heap.size w w'))
  case atStart => exact ⟨(t191), (0), (by first | rfl | (simp; done) | (simp [*]; done)), (by first | rfl | (simp; done) | (simp [*]; done)), H', ⟨Nat.le_refl _⟩, ⟨by repeat (first | (with_reducible first | exact HB.out | apply below_alloc | apply pw_below_drewN | apply below_drew1) | exact HB.out)⟩⟩
  case round =>
    clear H'
    try clear p2
    try clear c3
    obtain ⟨x3_1, x4_1, rfl, rfl, HA, HK1, HB⟩ := hrel
    cases gk with
    | zero => exact absurd HA.out (by simp [surmiseref10_LayVerdicts.l0])
    | succ k1 =>
      have H := HA.out
      clear HA
      simp only [surmiseref10_LayVerdicts.l0] at H
      by_cases c4 : x4_1 < (l0.length : Int)
      · rw [if_pos c4] at H
        have c4b0 : decide (x4_1 < (l0.length : Int)) = true := decide_eq_true c4
        clear c4
        by_cases c5 : 0 ≤ x4_1
        · rw [if_pos c5] at H
          have c5b0 : decide (0 ≤ x4_1) = true := decide_eq_true c5
          clear c5
          obtain ⟨y194, hy194⟩ : ∃ y_ : List Int, y_ = (([(rd_T58 l0 x4_1).f0, (rd_T58 l0 x4_1).f1] : List Int)) := ⟨_, rfl⟩
          replace H : ((surmiseref10_Numbers.f k1 y194).bind fun t197 => (if x3_1.size + t197.size ≤ 9223372036854775807 then (surmiseref10_LayVerdicts.l0 k1 l0 (x3_1 ++ t197) (wrap64 (x4_1 + 1))) else (none))) = some r := by first | (rw [hy194]; with_reducible exact H) | (have H2_ := (Option.bind_some _ _).symm.trans H; rw [hy194]; with_reducible exact H2_) | (have H2_ := (Option.bind_some _ _).symm.trans H; with_reducible exact H2_) | with_reducible exact H | (rw [hy194]; exact H) | exact H
          have Ny194 := Aside0.mk hy194
          clear hy194
          replace H := Option.bind_eq_some_iff.mp H
          obtain ⟨t197, A60, H⟩ := H
          replace H : (if x3_1.size + t197.size ≤ 9223372036854775807 then (surmiseref10_LayVerdicts.l0 k1 l0 (x3_1 ++ t197) (wrap64 (x4_1 + 1))) else (none)) = some r := H
          have A6 := Aside0.mk A60
          clear A60
          by_cases c7 : x3_1.size + t197.size ≤ 9223372036854775807
          · rw [if_pos c7] at H
            have c7b0 := eq_true c7
            have c7b1 : decide (x3_1.size + t197.size ≤ 9223372036854775807) = true := decide_eq_true c7
            try have c7b2 : (9223372036854775807 < x3_1.size + t197.size) = False := eq_false (Nat.not_lt.2 c7)
            have H' := Aside0.mk H
            clear H
            try go_wp2
            have n0_ := Aside0.mk (below_drew1 HB.out)
            clear HB
            have HB := n0_
            clear n0_
            have p192 : 0 ≤ (x4_1 : Int) := of_decide_eq_true (by first | (with_reducible assumption) | assumption)
            have q192 : x4_1 < (l0.length : Int) := of_decide_eq_true (by first | (with_reducible assumption) | assumption)
            obtain ⟨ad192, e192, hx192_0, hx192_1⟩ := at_T58 HR0.out x4_1 p192 q192
            have hw192_1 := hx192_1
            have hw192_0 := hx192_0
            cases e192
            replace hx192_0 := (HB.out.cell (World.block_lt_of_cell? w _ hx192_0)).trans hx192_0
            replace hx192_1 := (HB.out.cell (World.block_lt_of_cell? w _ hx192_1)).trans hx192_1
            replace p192 := eq_true p192
            replace q192 := eq_true q192
            have p193 : 0 ≤ (x4_1 : Int) := of_decide_eq_true (by first | (with_reducible assumption) | assumption)
            have q193 : x4_1 < (l0.length : Int) := of_decide_eq_true (by first | (with_reducible assumption) | assumption)
            obtain ⟨ad193, e193, hx193_0, hx193_1⟩ := at_T58 HR0.out x4_1 p193 q193
            have hw193_1 := hx193_1
            have hw193_0 := hx193_0
            obtain rfl : ad192 = ad193 := (by injection e193)
            replace hx193_0 := (HB.out.cell (World.block_lt_of_cell? w _ hx193_0)).trans hx193_0
            replace hx193_1 := (HB.out.cell (World.block_lt_of_cell? w _ hx193_1)).trans hx193_1
            replace p193 := eq_true p193
            replace q193 := eq_true q193
            refine start_ (n := 15) (S := fun w' => w'.cell? (ad192.add ((x4_1).toNat * 2)) = some (.int .i64 ((rd_T58 l0 x4_1).f0)) ∧ w'.cell? ⟨(ad192.add ((x4_1).toNat * 2)).block, (ad192.add ((x4_1).toNat * 2)).off + 1, none⟩ = some (.int .i64 ((rd_T58 l0 x4_1).f1)) ∧ w'.cell? (ad192.add ((x4_1).toNat * 2)) = some (.int .i64 ((rd_T58 l0 x4_1).f0)) ∧ w'.cell? ⟨(ad192.add ((x4_1).toNat * 2)).block, (ad192.add ((x4_1).toNat * 2)).off + 1, none⟩ = some (.int .i64 ((rd_T58 l0 x4_1).f1))) (ds := []) #[false, false, false, false, false, false, false, false, false, false, false, false, false, false, false] (by kernel_rfl) rfl rfl ⟨((HB.out.cell (World.block_lt_of_cell? w _ hw192_0)).trans hw192_0), ((HB.out.cell (World.block_lt_of_cell? w _ hw192_1)).trans hw192_1), ((HB.out.cell (World.block_lt_of_cell? w _ hw193_0)).trans hw193_0), ((HB.out.cell (World.block_lt_of_cell? w _ hw193_1)).trans hw193_1)⟩ (fun hHeld => ?_); refine with_tabW surmiseref10_LayVerdicts.tab5 surmiseref10_LayVerdicts.bits5 (fun HT_ HW_ => ?_)
            generalize wr.drew = w8 at HB hx192_0 hx192_1 hx193_0 hx193_1 hHeld ⊢
            refine pure_ (i := 0) (N := some 14) (v := ?_) (a' := ?_) #[true, false, false, false, false, false, false, false, false, false, false, false, false, false, false] rfl rfl (any_of HT_.out (by kernel_rfl)) (fun _ _ _ h => h) (Or.inl ⟨by rfl, ?_⟩) ?_ ?_
            rotate_left
            · intro w'
              go_simp
              with_reducible rfl
            rotate_left
            · simp only [Act.put, List.setIfInBounds_toArray, List.set_cons_zero, List.set_cons_succ, i64_w, i32_w]
              rfl
            refine pure_ (i := 1) (N := some 15) (v := ?_) (a' := ?_) #[true, true, false, false, false, false, false, false, false, false, false, false, false, false, false] rfl rfl (any_of HT_.out (by kernel_rfl)) (fun _ _ _ h => h) (Or.inl ⟨by rfl, ?_⟩) ?_ ?_
            rotate_left
            · intro w'
              go_simp
              with_reducible rfl
            rotate_left
            · simp only [Act.put, List.setIfInBounds_toArray, List.set_cons_zero, List.set_cons_succ, i64_w, i32_w]
              rfl
            refine pure_ (i := 2) (N := some 16) (v := ?_) (a' := ?_) #[true, true, true, false, false, false, false, false, false, false, false, false, false, false, false] rfl rfl (any_of HT_.out (by kernel_rfl)) (fun _ _ _ h => h) (Or.inl ⟨by rfl, ?_⟩) ?_ ?_
            rotate_left
            · intro w'
              go_simp
              with_reducible rfl
            rotate_left
            · simp only [Act.put, List.setIfInBounds_toArray, List.set_cons_zero, List.set_cons_succ, i64_w, i32_w]
              rfl
            refine pure_ (i := 3) (N := some 17) (v := ?_) (a' := ?_) #[true, true, true, true, false, false, false, false, false, false, false, false, false, false, false] rfl rfl (any_of HT_.out (by kernel_rfl)) (fun _ _ _ h => h) (Or.inl ⟨by rfl, ?_⟩) ?_ ?_
            rotate_left
            · intro w'
              go_simp
              with_reducible rfl
            rotate_left
            · simp only [Act.put, List.setIfInBounds_toArray, List.set_cons_zero, List.set_cons_succ, i64_w, i32_w]
              rfl
            refine pure_ (i := 4) (N := some 18) (v := ?_) (a' := ?_) #[true, true, true, true, true, false, false, false, false, false, false, false, false, false, false] rfl rfl (any_of HT_.out (by kernel_rfl)) (fun _ _ _ h => h) (Or.inl ⟨by rfl, ?_⟩) ?_ ?_
            rotate_left
            · intro w'
              go_simp
              with_reducible rfl
            rotate_left
            · simp only [Act.put, List.setIfInBounds_toArray, List.set_cons_zero, List.set_cons_succ, i64_w, i32_w]
              rfl
            refine pure_ (i := 6) (N := some 20) (v := ?_) (a' := ?_) #[true, true, true, true, true, false, true, false, false, false, false, false, false, false, false] rfl rfl (any_of HT_.out (by kernel_rfl)) (fun _ _ _ h => h) (Or.inl ⟨by rfl, ?_⟩) ?_ ?_
            rotate_left
            · intro w'
              go_simp
              with_reducible rfl
            rotate_left
            · simp only [Act.put, List.setIfInBounds_toArray, List.set_cons_zero, List.set_cons_succ, i64_w, i32_w]
              rfl
            refine pure_ (i := 7) (N := some 21) (v := ?_) (a' := ?_) #[true, true, true, true, true, false, true, true, false, false, false, false, false, false, false] rfl rfl (any_of HT_.out (by kernel_rfl)) (fun _ _ _ h => h) (Or.inl ⟨by rfl, ?_⟩) ?_ ?_
            rotate_left
            · intro w'
              go_simp
              with_reducible rfl
            rotate_left
            · simp only [Act.put, List.setIfInBounds_toArray, List.set_cons_zero, List.set_cons_succ, i64_w, i32_w]
              rfl
            refine pure_ (i := 8) (N := some 22) (v := ?_) (a' := ?_) #[true, true, true, true, true, false, true, true, true, false, false, false, false, false, false] rfl rfl (any_of HT_.out (by kernel_rfl)) (fun _ _ _ h => h) (Or.inl ⟨by rfl, ?_⟩) ?_ ?_
            rotate_left
            · intro w'
              go_simp
              with_reducible rfl
            rotate_left
            · simp only [Act.put, List.setIfInBounds_toArray, List.set_cons_zero, List.set_cons_succ, i64_w, i32_w]
              rfl
            refine pure_ (i := 9) (N := some 23) (v := ?_) (a' := ?_) #[true, true, true, true, true, false, true, true, true, true, false, false, false, false, false] rfl rfl (any_of HT_.out (by kernel_rfl)) (fun _ _ _ h => h) (Or.inl ⟨by rfl, ?_⟩) ?_ ?_
            rotate_left
            · intro w'
              go_simp
              with_reducible rfl
            rotate_left
            · simp only [Act.put, List.setIfInBounds_toArray, List.set_cons_zero, List.set_cons_succ, i64_w, i32_w]
              rfl
            refine take_ (i := 5) (N := some 19) (v := ?_) (a' := ?_) #[true, true, true, true, true, true, true, true, true, true, false, false, false, false, false] rfl rfl (take_ofW HT_.out HW_.out (by kernel_rfl)) (fun _ _ _ h => h) (Or.inl ⟨by rfl, ?_⟩) hHeld ?_ ?_
            rotate_left
            · rintro w' ⟨s0, s1, s2, s3⟩
              go_simp
              with_reducible rfl
            rotate_left
            · simp only [Act.put, List.setIfInBounds_toArray, List.set_cons_zero, List.set_cons_succ, i64_w, i32_w]
              rfl
            refine take_ (i := 10) (N := some 24) (v := ?_) (a' := ?_) #[true, true, true, true, true, true, true, true, true, true, true, false, false, false, false] rfl rfl (take_ofW HT_.out HW_.out (by kernel_rfl)) (fun _ _ _ h => h) (Or.inl ⟨by rfl, ?_⟩) hHeld ?_ ?_
            rotate_left
            · rintro w' ⟨s0, s1, s2, s3⟩
              go_simp
              with_reducible rfl
            rotate_left
            · simp only [Act.put, List.setIfInBounds_toArray, List.set_cons_zero, List.set_cons_succ, i64_w, i32_w]
              rfl
            refine one_ (i := 11) (N := some 25) #[true, true, true, true, true, true, true, true, true, true, true, true, false, false, false] rfl rfl (one_of HT_.out (by kernel_rfl)) (by decide) (fun K hK => ?_)
            refine Kd.R_lit_step (Kd.int .i64) _ 3 ?hg (N := 25) ?hd (xs := ([(rd_T58 l0 x4_1).f0, (rd_T58 l0 x4_1).f1] : List Int)) (inner := [.int .i64 ((rd_T58 l0 x4_1).f0), .int .i64 ((rd_T58 l0 x4_1).f1)]) (ok := fun _ => True) (okp := fun _ => True) ?hr ?hp (fun _ hk => hk) trivial (Below.refl _ _) (Nat.le_refl _) (by simp) ?_; (case hd => rfl); (case hg => rfl); (case hr => first | (go_simp; done) | (go_simp; rfl)); (case hp => exact (Reps.one (show Kd.M (Kd.int .i64) _ _ _ ((rd_T58 l0 x4_1).f0) [.int .i64 ((rd_T58 l0 x4_1).f0)] from rfl) (Reps.one (show Kd.M (Kd.int .i64) _ _ _ ((rd_T58 l0 x4_1).f1) [.int .i64 ((rd_T58 l0 x4_1).f1)] from rfl) (Reps.none _ _))))
            intro v195 w9 ho10 hb hg_ hnew_
            clear hg_ hnew_
            (first | rw [← Ny194.out] at ho10 | (simp only [Int.reduceToNat] at ho10; rw [← Ny194.out] at ho10))
            have n0_ := Aside0.mk (Kd.R_lower ho10 (below_size (by repeat (first | (with_reducible first | exact HB.out | apply below_alloc | apply pw_below_drewN | apply below_drew1) | exact HB.out))))
            have n1_ := Aside0.mk (below_step (by repeat (first | (with_reducible first | exact HB.out | apply below_alloc | apply pw_below_drewN | apply below_drew1) | exact HB.out)) hb)
            clear HB
            have HO196 := n0_
            have HB := n1_
            clear n0_ n1_
            clear hb ho10
            obtain ⟨Ao11, co11, eo11⟩ := Kd.R_slice HO196.out
            (first | subst eo11 | (injection eo11 with f1_ f2_ f3_; have f4_ := f1_.symm; have f5_ := f3_.symm; clear f1_ f2_ f3_; subst f4_; subst f5_))
            refine hK.out _ _ ⟨((HB.out.cell (World.block_lt_of_cell? w _ hw192_0)).trans hw192_0), ((HB.out.cell (World.block_lt_of_cell? w _ hw192_1)).trans hw192_1), ((HB.out.cell (World.block_lt_of_cell? w _ hw193_0)).trans hw193_0), ((HB.out.cell (World.block_lt_of_cell? w _ hw193_1)).trans hw193_1)⟩ (fun hHeld => ?_)
            clear hK K
            refine norm_ (a' := ?_) ?_ ?_
            rotate_left
            · show Act.put _ (some 25) _ = _
              simp only [Act.put, List.setIfInBounds_toArray, List.set_cons_zero, List.set_cons_succ, i64_w, i32_w]
              rfl
            refine one_ (i := 12) (N := some 26) #[true, true, true, true, true, true, true, true, true, true, true, true, true, false, false] rfl rfl (one_of HT_.out (by kernel_rfl)) (by decide) (fun K hK => ?_)
            refine goes_ Try.func47 (by kernel_rfl) rfl #[.slice Ao11 y194.length co11] (by rfl) rfl rfl (by (try simp only [List.map_toArray, List.map_cons, List.map_nil]); first | done | rfl | (simp only [List.length_drop, List.length_take]; rfl)) ?_
            with_reducible refine (surmiseref10_Numbers.calls k1 _ _ y194 t197 _ ?side1 ?side2 A6.out).mono ?_
            (case side1 => repeat (first | exact (Kd.R_reads' HO196.out).2.2 | (with_reducible refine Kd.C_alloc ?_ _) | (with_reducible refine Kd.C_drewN ?_ _) | (with_reducible refine Kd.C_drew ?_)))
            (case side2 => exact (Kd.R_reads' HO196.out).2.1)
            rintro e w12 ⟨rfl, hb⟩
            refine ⟨_, rfl, ?_⟩
            have n0_ := Aside0.mk (Kd.R_below (by (with_reducible repeat (first | apply Kd.R_alloc | apply Kd.R_drewN | apply Kd.R_drew)); exact HO196.out) hb)
            have n1_ := Aside0.mk (below_step (by repeat (first | (with_reducible first | exact HB.out | apply below_alloc | apply pw_below_drewN | apply below_drew1) | exact HB.out)) hb)
            clear HO196
            clear HB
            have HO196 := n0_
            have HB := n1_
            clear n0_ n1_
            (try clear hb)
            (try clear hb2)
            (try clear hk)
            (try clear hi)
            refine hK.out _ _ ⟨((HB.out.cell (World.block_lt_of_cell? w _ hw192_0)).trans hw192_0), ((HB.out.cell (World.block_lt_of_cell? w _ hw192_1)).trans hw192_1), ((HB.out.cell (World.block_lt_of_cell? w _ hw193_0)).trans hw193_0), ((HB.out.cell (World.block_lt_of_cell? w _ hw193_1)).trans hw193_1)⟩ (fun hHeld => ?_)
            clear hK K
            refine norm_ (a' := ?_) ?_ ?_
            rotate_left
            · show Act.put _ (some 26) _ = _
              simp only [Act.put, List.setIfInBounds_toArray, List.set_cons_zero, List.set_cons_succ, i64_w, i32_w]
              rfl
            refine pure_ (i := 13) (N := some 27) (v := ?_) (a' := ?_) #[true, true, true, true, true, true, true, true, true, true, true, true, true, true, false] rfl rfl (any_of HT_.out (by kernel_rfl)) (fun _ _ _ h => h) (Or.inl ⟨by rfl, ?_⟩) ?_ ?_
            rotate_left
            · intro w'
              go_simp
              with_reducible rfl
            rotate_left
            · simp only [Act.put, List.setIfInBounds_toArray, List.set_cons_zero, List.set_cons_succ, i64_w, i32_w]
              rfl
            refine pure_ (i := 14) (N := some 3) (v := ?_) (a' := ?_) #[true, true, true, true, true, true, true, true, true, true, true, true, true, true, true] rfl rfl (any_of HT_.out (by kernel_rfl)) (fun _ _ _ h => h) (Or.inl ⟨by rfl, ?_⟩) ?_ ?_
            rotate_left
            · intro w'
              go_simp
              with_reducible rfl
            rotate_left
            · simp only [Act.put, List.setIfInBounds_toArray, List.set_cons_zero, List.set_cons_succ, i64_w, i32_w]
              rfl
            refine done_ (done_of HT_.out (by kernel_rfl)) ?_
            try go_wp2
            go_roundg k1
            case measure => have := HK1.out; omega
            case rel => exact ⟨(x3_1 ++ t197), (wrap64 (x4_1 + 1)), (by first | rfl | (simp; done) | (simp [*]; done)), (by first | rfl | (simp; done) | (simp [*]; done)), H', ⟨by have := HK1.out; omega⟩, ⟨by repeat (first | (with_reducible first | exact HB.out | apply below_alloc | apply pw_below_drewN | apply below_drew1) | exact HB.out)⟩⟩
          · rw [if_neg c7] at H
            exact absurd H (by simp)
        · rw [if_neg c5] at H
          exact absurd H (by simp)
      · rw [if_neg c4] at H
        have c4b0 : decide (x4_1 < (l0.length : Int)) = false := decide_eq_false c4
        clear c4
        obtain rfl := Option.some.inj H
        go_wp2
        go_ret
        exact ⟨by first | rfl | (simp [errW_none, errW_some] <;> rfl) | (simp [*, errW_none, errW_some] <;> rfl), by repeat (first | (with_reducible first | exact HB.out | apply below_alloc | apply pw_below_drewN | apply below_drew1) | exact HB.out)⟩

end Go.Proofs.Ytfmlamnkpoloaaa.Q

/- Verdicts as bytes: by the program and by the reference. (Printed by gen_ver.py out of texts of chapters 01 and 10.) -/
namespace Go.Proofs.Ytfmlamnkpoloaaa.Q
open Go.RowKit Go.Proofs.YtfmlamnkpoloaaaW.PrintWords Go.Proofs.YtfmlamnkpoloaaaW.PrintLast Go.Proofs.YtfmlamnkpoloaaaW.PrintMore
set_option linter.unusedVariables false
set_option linter.unusedSimpArgs false
theorem number_some (n : Int) (h0 : -9223372036854775808 ≤ n) (h1 : n ≤ 9223372036854775807) : varint_Number.f n = some (numB n) := by
  unfold varint_Number.f
  rw [if_pos ⟨h0, h1⟩]
theorem ints_cons (c : Nat) (l : List Nat) : ints (c :: l) = (c : Int) :: ints l := rfl
theorem digits_some (f : Nat) (hf : f ≤ 20) : ∀ (k u : Nat), f ≤ k → u < 18446744073709551616 → u < 128 ^ (f + 1) → surmiseref01_digits.f (k + 1) (u : Int) = some (strOfNums (ints (digL (f + 1) u))) := by
  induction f with
  | zero =>
    intro k u hk h64 hu
    have hz : u < 128 := by simpa using hu
    have e : (u : Int) % 256 = (u : Int) := by omega
    rw [surmiseref01_digits.f, digL, if_pos (by omega), if_pos hz, e]
    rfl
  | succ f ih =>
    intro k u hk h64 hu
    obtain ⟨k, rfl⟩ : ∃ m, k = m + 1 := ⟨k - 1, by omega⟩
    rw [surmiseref01_digits.f, digL]
    by_cases h : u < 128
    · rw [if_pos (by omega), if_pos h]
      have e : (u : Int) % 256 = (u : Int) := by omega
      rw [e]
      rfl
    · have e1 : IntKind.u64.wrap (Int.tdiv (u : Int) 128) = ((u / 128 : Nat) : Int) := by
        rw [Int.tdiv_eq_ediv_of_nonneg (by omega), wrap_u64]
        omega
      have e2 : IntKind.u64.wrap (Int.tmod (u : Int) 128 + 128) % 256 = ((u % 128 + 128 : Nat) : Int) := by
        rw [Int.tmod_eq_emod_of_nonneg (by omega), wrap_u64]
        omega
      have hd : u / 128 < 128 ^ (f + 1) := by
        rw [Nat.pow_succ] at hu
        exact Nat.div_lt_of_lt_mul (by rw [Nat.mul_comm]; exact hu)
      have hi := ih (by omega) k (u / 128) (by omega) (by omega) hd
      have hl := digL_length (f + 1) (u / 128)
      rw [if_neg (by omega), if_neg h, e1, e2]
      rw [bind_of rfl, bind_of hi, if_pos]
      · rw [ints_cons, ← strOfNums_append]
        rfl
      · rw [strOfNums_size, strOfNums_size, ints, List.length_map]
        simp only [List.length_cons, List.length_nil]
        omega
theorem refnumber_some (n : Int) (h0 : -9223372036854775808 ≤ n) (h1 : n ≤ 9223372036854775807) (k : Nat) (hk : 10 ≤ k) : surmiseref01_Number.f k n = some (numB n) := by
  obtain ⟨k, rfl⟩ : ∃ m, k = m + 1 := ⟨k - 1, by omega⟩
  have hz := zig_lt n h0 h1
  have e128 : (128 : Nat) ^ (9 + 1) = 1180591620717411303424 := by decide
  have hd := digits_some 9 (by omega) k (zig n) (by omega) hz (by rw [e128]; omega)
  unfold surmiseref01_Number.f
  by_cases hn : n < 0
  · have e : IntKind.u64.wrap ((IntKind.u64.wrap ((IntKind.u64.wrap (wrap64 (-(wrap64 (n + 1))))) * 2)) + 1) = ((zig n : Nat) : Int) := by
      rw [wrap_id (i := n + 1) (by omega) (by omega), wrap_id (by omega) (by omega), wrap_u64, wrap_u64, wrap_u64, zig, if_pos hn]
      omega
    rw [if_pos hn, e, bind_of hd]
    rfl
  · rw [if_neg hn, zig_pos n hn h1, bind_of hd]
    rfl
theorem i64_of {n : Int} (h : (Lit.int .i64 n).wf = true) : -9223372036854775808 ≤ n ∧ n ≤ 9223372036854775807 := by
  have m1 : IntKind.i64.min = -9223372036854775808 := rfl
  have m2 : IntKind.i64.max = 9223372036854775807 := rfl
  simp only [Lit.wf, Bool.and_eq_true, decide_eq_true_eq] at h
  omega
theorem size_app (x y : ByteArray) : (x ++ y).size = x.size + y.size := ByteArray.size_append
theorem app_assoc (a b c : ByteArray) : a ++ b ++ c = a ++ (b ++ c) := bl_inj (by simp only [bl_append, List.append_assoc])
theorem app_nil (a : ByteArray) : a ++ (⟨#[]⟩ : ByteArray) = a := bl_inj (by rw [bl_append]; exact List.append_nil _)
/-- Items laid one behind the other. -/
def catP {α : Type} (T : α → ByteArray × Int) : List α → ByteArray
  | [] => ⟨#[]⟩
  | x :: l => (T x).1 ++ catP T l
theorem wf_i64 (n : Int) (h0 : -9223372036854775808 ≤ n) (h1 : n ≤ 9223372036854775807) : (Lit.int .i64 n).wf = true := by
  have m1 : IntKind.i64.min = -9223372036854775808 := rfl
  have m2 : IntKind.i64.max = 9223372036854775807 := rfl
  simp only [Lit.wf, Bool.and_eq_true, decide_eq_true_eq]
  omega
theorem catP_size {α : Type} (T : α → ByteArray × Int) (M : Nat) (l : List α) : (∀ x ∈ l, (T x).1.size ≤ M) → (catP T l).size ≤ M * l.length := by
  induction l with
  | nil => intro _; exact Nat.zero_le _
  | cons x l ih =>
    intro h
    have h1 := h x (List.mem_cons_self ..)
    have h2 := ih (fun y hy => h y (List.mem_cons_of_mem _ hy))
    rw [catP, size_app, List.length_cons, Nat.mul_succ]
    omega
def wiB (n a b : Int) : Bool := decide (a ≤ n ∧ n ≤ b)
theorem within_some (n a b : Int) : codec_within.f n a b = some (wiB n a b) := by
  unfold codec_within.f wiB
  by_cases h : n ≥ a
  · rw [if_pos h]
    exact congrArg some (decide_eq_decide.mpr ⟨fun h2 => ⟨h, h2⟩, fun h2 => h2.2⟩)
  · rw [if_neg h, decide_eq_false (fun h2 => h h2.1)]
theorem prevdown {i : Nat} (h : 0 < i) (hi : i < 9223372036854775807) : wrap64 ((i : Int) - 1) = ((i - 1 : Nat) : Int) := by
  rw [wrap_id (by omega) (by omega)]
  omega
/-- All are right, and each two side by side are. -/
def chainB {α : Type} (P : α → Bool) (R : α → α → Bool) : Option α → List α → Bool
  | _, [] => true
  | none, x :: l => P x && chainB P R (some x) l
  | some p, x :: l => P x && (R p x && chainB P R (some x) l)
def prevO {α : Type} (l : List α) (i : Nat) : Option α := if i = 0 then none else l[i - 1]?
theorem prevO_next {α : Type} (l : List α) (i : Nat) (h : i < l.length) : prevO l (i + 1) = some l[i] := by
  unfold prevO
  rw [if_neg (by omega), Nat.add_sub_cancel]
  exact List.getElem?_eq_getElem h
theorem prevO_some {α : Type} (l : List α) (i : Nat) (h : 0 < i) (h2 : i < l.length) : prevO l i = some (l[i - 1]'(by omega)) := by
  unfold prevO
  rw [if_neg (by omega)]
  exact List.getElem?_eq_getElem _
theorem prevO_zero {α : Type} (l : List α) : prevO l 0 = none := if_pos rfl
theorem rdV_at (l : List S58) (i : Nat) (h : i < l.length) : rd_T58 l (i : Int) = l[i] := by simp [rd_T58, h]
def verB (x : S58) : Bool := wiB x.f0 1 1099511627776 && wiB x.f1 0 63
def verR (p x : S58) : Bool := !decide (x.f0 ≤ p.f0)
theorem verdicts_l0 (l : List S58) (hl : l.length < 9223372036854775807) (d : Nat) : ∀ (k i : Nat), i + d = l.length → d + 1 ≤ k → codec_verdicts.l0 k l l (l.length : Int) (i : Int) = some (chainB verB verR (prevO l i) (l.drop i) && decide ((l.length : Int) ≤ 32)) := by
  induction d with
  | zero =>
    intro k i hi hk
    obtain ⟨k, rfl⟩ : ∃ k', k = k' + 1 := ⟨k - 1, by omega⟩
    rw [codec_verdicts.l0, if_neg (by omega), List.drop_eq_nil_of_le (by omega), chainB]
    rfl
  | succ d ih =>
    intro k i hi hk
    obtain ⟨k, rfl⟩ : ∃ k', k = k' + 1 := ⟨k - 1, by omega⟩
    have hs := ih k (i + 1) (by omega) (by omega)
    rw [prevO_next l i (by omega)] at hs
    have hgo : ∀ b : Bool, b = verB l[i] → (if b = true then (if (i : Int) > 0 then (if 0 ≤ (wrap64 ((i : Int) - 1)) then (if (wrap64 ((i : Int) - 1)) < (l.length : Int) then (if (l[i].f0) ≤ ((rd_T58 l (wrap64 ((i : Int) - 1))).f0) then (some false) else (codec_verdicts.l0 k l l (l.length : Int) (wrap64 ((i : Int) + 1)))) else none) else none) else (codec_verdicts.l0 k l l (l.length : Int) (wrap64 ((i : Int) + 1)))) else some false) = some (chainB verB verR (prevO l i) (l.drop i) && decide ((l.length : Int) ≤ 32)) := by
      intro b hb
      rw [(List.drop_eq_getElem_cons (by omega) : l.drop i = l[i] :: l.drop (i + 1)), wrap_up (by omega) (by omega)]
      cases b with
      | false =>
        rw [if_neg (by decide)]
        cases prevO l i with
        | none => rw [chainB, ← hb, Bool.false_and, Bool.false_and]
        | some p => rw [chainB, ← hb, Bool.false_and, Bool.false_and]
      | true =>
        rw [if_pos rfl]
        by_cases h0 : i = 0
        · subst h0
          rw [if_neg (by omega), prevO_zero, chainB, ← hb, Bool.true_and]
          exact hs
        · rw [if_pos (by omega), prevdown (by omega) (by omega), if_pos (by omega), if_pos (by omega), prevO_some l i (by omega) (by omega), chainB, ← hb, Bool.true_and]
          rw [rdV_at l (i - 1) (by omega)]
          unfold verR
          by_cases h : l[i].f0 ≤ (l[i - 1]'(by omega)).f0
          · rw [if_pos h, decide_eq_true h]; rfl
          · rw [if_neg h, decide_eq_false h]; exact hs
    rw [codec_verdicts.l0, if_pos (by omega), if_pos (by omega), if_pos (by omega)]
    rw [rdV_at l i (by omega), bind_of (within_some _ _ _)]
    cases h1 : wiB l[i].f0 1 1099511627776 with
    | false => rw [if_neg (by decide)]; have := hgo false (by unfold verB; rw [h1]; rfl); rw [if_neg (by decide)] at this; exact this
    | true =>
      rw [if_pos rfl, bind_of (within_some _ _ _)]
      exact hgo (wiB l[i].f1 0 63) (by unfold verB; rw [h1, Bool.true_and])
def verdictsB (l : List S58) : Bool := chainB verB verR none l && decide ((l.length : Int) ≤ 32)
theorem verdicts_some (l : List S58) (hl : l.length < 9223372036854775807) (k : Nat) (hk : l.length + 1 ≤ k) : codec_verdicts.f k l = some (verdictsB l) := by
  unfold codec_verdicts.f verdictsB
  have h := verdicts_l0 l hl l.length k 0 (by omega) hk
  rw [prevO_zero] at h
  exact h
theorem bytesOf_append (a b : ByteArray) : bytesOf (a ++ b) = bytesOf a ++ bytesOf b := by
  rw [bytesOf_bl, bytesOf_bl, bytesOf_bl, bl_append, List.map_append]
theorem bytesOf_nil : bytesOf (⟨#[]⟩ : ByteArray) = [] := rfl
theorem nil_app (a : ByteArray) : (⟨#[]⟩ : ByteArray) ++ a = a := bl_inj (by rw [bl_append]; rfl)
/-- Items laid one behind the other, each by B; with their number ahead. -/
def catB {α : Type} (B : α → ByteArray) (l : List α) : ByteArray := catP (fun x => (B x, (0 : Int))) l
def listB {α : Type} (B : α → ByteArray) (l : List α) : ByteArray := numB (l.length : Int) ++ catB B l
def numsB (l : List Int) : ByteArray := catB numB l
theorem catB_nil {α : Type} (B : α → ByteArray) : catB B [] = ⟨#[]⟩ := rfl
theorem catB_cons {α : Type} (B : α → ByteArray) (x : α) (l : List α) : catB B (x :: l) = B x ++ catB B l := rfl
theorem catB_size {α : Type} (B : α → ByteArray) (M : Nat) (l : List α) (h : ∀ x ∈ l, (B x).size ≤ M) : (catB B l).size ≤ M * l.length := catP_size _ M l h
theorem numsB_size (l : List Int) : (numsB l).size ≤ 10 * l.length := catB_size numB 10 l (fun x _ => numB_size x)
theorem numsB_two (a b : Int) : numsB [a, b] = numB a ++ numB b := by
  unfold numsB
  rw [catB_cons, catB_cons, catB_nil, app_nil]
theorem numsB_one (a : Int) : numsB [a] = numB a := by
  unfold numsB
  rw [catB_cons, catB_nil, app_nil]
theorem number_l0 (l : List Int) (h : ∀ n ∈ l, (Lit.int .i64 n).wf = true) (hl : l.length ≤ 1048576) (d : Nat) : ∀ (k i : Nat) (acc : ByteArray), i + d = l.length → d + 1 ≤ k → acc.size + 10 * d < 140737488355328 →
    codec_number.l0 k (bytesOf acc) l (l.length : Int) (i : Int) = some (bytesOf (acc ++ numsB (l.drop i))) := by
  induction d with
  | zero =>
    intro k i acc hi hk ha
    obtain ⟨k, rfl⟩ : ∃ m, k = m + 1 := ⟨k - 1, by omega⟩
    rw [codec_number.l0, if_neg (by omega), List.drop_of_length_le (by omega), numsB, catB_nil, app_nil]
  | succ d ih =>
    intro k i acc hi hk ha
    obtain ⟨k, rfl⟩ : ∃ m, k = m + 1 := ⟨k - 1, by omega⟩
    have hlt : i < l.length := by omega
    have hb := i64_of (h _ (List.getElem_mem hlt))
    have hs := numB_size l[i]
    rw [codec_number.l0, if_pos (by omega), if_pos (by omega), if_pos (by omega), rd_at l i hlt, bind_of (number_some _ hb.1 hb.2), if_pos (by rw [bytesOf_length]; omega), wrap_up (by omega) (by omega), List.drop_eq_getElem_cons hlt, ← bytesOf_append]
    have := ih k (i + 1) (acc ++ numB l[i]) (by omega) (by omega) (by rw [size_app]; omega)
    rw [app_assoc] at this
    exact this
theorem codecnumber_some (l : List Int) (h : ∀ n ∈ l, (Lit.int .i64 n).wf = true) (hl : l.length ≤ 1048576) (acc : ByteArray) (ha : acc.size + 10 * l.length < 140737488355328) (k : Nat) (hk : l.length + 1 ≤ k) :
    codec_number.f k (bytesOf acc) l = some (bytesOf (acc ++ numsB l)) := by
  unfold codec_number.f
  exact number_l0 l h hl l.length k 0 acc (by omega) hk ha
theorem wf_two {a b : Int} (ha : (Lit.int .i64 a).wf = true) (hb : (Lit.int .i64 b).wf = true) : ∀ n ∈ [a, b], (Lit.int .i64 n).wf = true := by
  intro n hn
  rcases List.mem_cons.1 hn with rfl | hn
  · exact ha
  · rcases List.mem_cons.1 hn with rfl | hn
    · exact hb
    · cases hn
theorem wf_one {a : Int} (ha : (Lit.int .i64 a).wf = true) : ∀ n ∈ [a], (Lit.int .i64 n).wf = true := by
  intro n hn
  rcases List.mem_cons.1 hn with rfl | hn
  · exact ha
  · cases hn
theorem number_two (a b : Int) (ha : (Lit.int .i64 a).wf = true) (hb : (Lit.int .i64 b).wf = true) (acc : ByteArray) (hacc : acc.size + 20 < 140737488355328) (k : Nat) (hk : 3 ≤ k) :
    codec_number.f k (bytesOf acc) [a, b] = some (bytesOf (acc ++ (numB a ++ numB b))) := by
  rw [codecnumber_some [a, b] (wf_two ha hb) (by simp) acc (by simp; omega) k (by simp; omega), numsB_two]
theorem number_one (a : Int) (ha : (Lit.int .i64 a).wf = true) (acc : ByteArray) (hacc : acc.size + 20 < 140737488355328) (k : Nat) (hk : 3 ≤ k) :
    codec_number.f k (bytesOf acc) [a] = some (bytesOf (acc ++ numB a)) := by
  rw [codecnumber_some [a] (wf_one ha) (by simp) acc (by simp; omega) k (by simp; omega), numsB_one]
def laidP (b : Bool) (y : ByteArray) : ByteArray × Int := if b = true then (y, 0) else (⟨#[]⟩, 2)
theorem laid_some (b : Bool) (y : ByteArray) : codec_laid.f b (bytesOf y) = some (laidP b y) := by
  unfold codec_laid.f laidP
  cases b with
  | true => rw [if_pos rfl, if_pos rfl, strOfNums_bytesOf]
  | false => rw [if_neg (by decide), if_neg (by decide)]
theorem ten_l0 (l : List Int) (h : ∀ n ∈ l, (Lit.int .i64 n).wf = true) (hl : l.length ≤ 1048576) (d : Nat) : ∀ (k i : Nat) (acc : ByteArray), i + d = l.length → d + 20 ≤ k → acc.size ≤ 10 * i →
    surmiseref10_Numbers.l0 k l acc (i : Int) = some (acc ++ numsB (l.drop i)) := by
  induction d with
  | zero =>
    intro k i acc hi hk ha
    obtain ⟨k, rfl⟩ : ∃ m, k = m + 1 := ⟨k - 1, by omega⟩
    rw [surmiseref10_Numbers.l0, if_neg (by omega), List.drop_of_length_le (by omega), numsB, catB_nil, app_nil]
  | succ d ih =>
    intro k i acc hi hk ha
    obtain ⟨k, rfl⟩ : ∃ m, k = m + 1 := ⟨k - 1, by omega⟩
    have hlt : i < l.length := by omega
    have hb := i64_of (h _ (List.getElem_mem hlt))
    have hs := numB_size l[i]
    rw [surmiseref10_Numbers.l0, if_pos (by omega), if_pos (by omega), rd_at l i hlt, bind_of (refnumber_some _ hb.1 hb.2 k (by omega)), if_pos (by omega), wrap_up (by omega) (by omega), List.drop_eq_getElem_cons hlt]
    have := ih k (i + 1) (acc ++ numB l[i]) (by omega) (by omega) (by rw [size_app]; omega)
    rw [app_assoc] at this
    exact this
theorem tennumbers_some (l : List Int) (h : ∀ n ∈ l, (Lit.int .i64 n).wf = true) (hl : l.length ≤ 1048576) (k : Nat) (hk : l.length + 20 ≤ k) : surmiseref10_Numbers.f k l = some (numsB l) := by
  unfold surmiseref10_Numbers.f
  have := ten_l0 l h hl l.length k 0 ⟨#[]⟩ (by omega) hk (Nat.le_refl _)
  rw [List.drop_zero, nil_app] at this
  exact this
theorem tentwo (a b : Int) (ha : (Lit.int .i64 a).wf = true) (hb : (Lit.int .i64 b).wf = true) (k : Nat) (hk : 30 ≤ k) : surmiseref10_Numbers.f k [a, b] = some (numB a ++ numB b) := by
  rw [tennumbers_some [a, b] (wf_two ha hb) (by simp) k (by simp; omega), numsB_two]
def veY (x : S58) : ByteArray := numB x.f0 ++ numB x.f1
def veOK (x : S58) : Prop := (Lit.int .i64 x.f0).wf = true ∧ (Lit.int .i64 x.f1).wf = true
theorem veY_size (x : S58) : (veY x).size ≤ 20 := by
  have h2 := numB_size x.f0
  have h3 := numB_size x.f1
  unfold veY
  rw [size_app]
  omega
theorem putverdicts_l0 (l : List S58) (hl : l.length ≤ 1048576) (h : ∀ x ∈ l, veOK x) (d : Nat) : ∀ (k i : Nat) (acc : ByteArray), i + d = l.length → d + 10 ≤ k → acc.size ≤ 100000000 + 20 * i →
    api_Verdict__by_codec_PutVerdicts_1.l0 k (bytesOf acc) l (l.length : Int) (i : Int) = some (bytesOf (acc ++ catB veY (l.drop i))) := by
  induction d with
  | zero =>
    intro k i acc hi hk ha
    obtain ⟨k, rfl⟩ : ∃ m, k = m + 1 := ⟨k - 1, by omega⟩
    rw [api_Verdict__by_codec_PutVerdicts_1.l0, if_neg (by omega), List.drop_of_length_le (by omega), catB_nil, app_nil]
  | succ d ih =>
    intro k i acc hi hk ha
    obtain ⟨k, rfl⟩ : ∃ m, k = m + 1 := ⟨k - 1, by omega⟩
    have hlt : i < l.length := by omega
    have hx := h _ (List.getElem_mem hlt)
    have hz := veY_size l[i]
    have e : codec_PutVerdicts_1.f k (bytesOf acc) l[i].f0 l[i].f1 = some (bytesOf (acc ++ veY l[i])) := by
      unfold codec_PutVerdicts_1.f
      rw [bind_of (number_two _ _ hx.1 hx.2 acc (by omega) k (by omega))]
      rfl
    rw [api_Verdict__by_codec_PutVerdicts_1.l0, if_pos (by omega), if_pos (by omega), if_pos (by omega), rdV_at l i hlt, bind_of e, wrap_up (by omega) (by omega), List.drop_eq_getElem_cons hlt, catB_cons, ← app_assoc]
    exact ih k (i + 1) (acc ++ veY l[i]) (by omega) (by omega) (by rw [size_app]; omega)
theorem putverdicts_some (l : List S58) (hl : l.length ≤ 1048576) (h : ∀ x ∈ l, veOK x) (k : Nat) (hk : 3000000 ≤ k) : codec_PutVerdicts.f k l = some (laidP (verdictsB l) (listB veY l)) := by
  have h1 := numB_size (l.length : Int)
  have e1 := number_one (l.length : Int) (wf_i64 _ (by omega) (by omega)) ⟨#[]⟩ (by decide) k (by omega)
  rw [bytesOf_nil, nil_app] at e1
  have e2 := putverdicts_l0 l hl h l.length k 0 (numB (l.length : Int)) (by omega) (by omega) (by omega)
  rw [List.drop_zero] at e2
  have e3 : api_Verdict__by_codec_PutVerdicts_1.f k ([] : List Int) l = some (bytesOf (listB veY l)) := by
    unfold api_Verdict__by_codec_PutVerdicts_1.f
    rw [bind_of e1]
    exact e2
  unfold codec_PutVerdicts.f
  rw [bind_of (verdicts_some l (by omega) k (by omega)), bind_of e3, bind_of (laid_some _ _)]
theorem lay_l0 (l : List S58) (hl : l.length ≤ 1048576) (h : ∀ x ∈ l, veOK x) (d : Nat) : ∀ (k i : Nat) (acc : ByteArray), i + d = l.length → d + 40 ≤ k → acc.size ≤ 10 + 20 * i →
    surmiseref10_LayVerdicts.l0 k l acc (i : Int) = some (acc ++ catB veY (l.drop i)) := by
  induction d with
  | zero =>
    intro k i acc hi hk ha
    obtain ⟨k, rfl⟩ : ∃ m, k = m + 1 := ⟨k - 1, by omega⟩
    rw [surmiseref10_LayVerdicts.l0, if_neg (by omega), List.drop_of_length_le (by omega), catB_nil, app_nil]
  | succ d ih =>
    intro k i acc hi hk ha
    obtain ⟨k, rfl⟩ : ∃ m, k = m + 1 := ⟨k - 1, by omega⟩
    have hlt : i < l.length := by omega
    have hx := h _ (List.getElem_mem hlt)
    have hz := veY_size l[i]
    rw [surmiseref10_LayVerdicts.l0, if_pos (by omega), if_pos (by omega), rdV_at l i hlt, bind_of (tentwo _ _ hx.1 hx.2 k (by omega)), if_pos (by unfold veY at hz; omega), wrap_up (by omega) (by omega), List.drop_eq_getElem_cons hlt, catB_cons]
    have h2 := ih k (i + 1) (acc ++ veY l[i]) (by omega) (by omega) (by rw [size_app]; omega)
    rw [app_assoc] at h2
    exact h2
theorem layverdicts_some (l : List S58) (hl : l.length ≤ 1048576) (h : ∀ x ∈ l, veOK x) (k : Nat) (hk : 3000000 ≤ k) : surmiseref10_LayVerdicts.f k l = some (listB veY l) := by
  have h1 := numB_size (l.length : Int)
  unfold surmiseref10_LayVerdicts.f
  rw [bind_of (refnumber_some (l.length : Int) (by omega) (by omega) k (by omega))]
  have := lay_l0 l hl h l.length k 0 (numB (l.length : Int)) (by omega) (by omega) (by omega)
  rw [List.drop_zero] at this
  exact this

end Go.Proofs.Ytfmlamnkpoloaaa.Q

/- The cells of a block, all at once. -/
namespace Go.Proofs.Ytfmlamnkpoloaaa.Q
open Go.RowKit Go.Proofs.YtfmlamnkpoloaaaW.PrintWords Go.Proofs.YtfmlamnkpoloaaaW.PrintLast Go.Proofs.YtfmlamnkpoloaaaW.PrintMore

theorem box1 {w : World} {g t : Nat} {a0 : Value} (h : w.heap[g]? = some (.cells #[a0] t (0, 0))) : w.cell? ⟨g, 0, none⟩ = some a0 ∧ w.frozen? ⟨g, 0, none⟩ = false := ⟨(blk_cell h 0).trans rfl, blk_frozen h 0⟩
theorem box2 {w : World} {g t : Nat} {a0 a1 : Value} (h : w.heap[g]? = some (.cells #[a0, a1] t (0, 0))) : w.cell? ⟨g, 0, none⟩ = some a0 ∧ w.cell? ⟨g, 1, none⟩ = some a1 ∧ w.frozen? ⟨g, 0, none⟩ = false ∧ w.frozen? ⟨g, 1, none⟩ = false := ⟨(blk_cell h 0).trans rfl, (blk_cell h 1).trans rfl, blk_frozen h 0, blk_frozen h 1⟩
theorem box3 {w : World} {g t : Nat} {a0 a1 a2 : Value} (h : w.heap[g]? = some (.cells #[a0, a1, a2] t (0, 0))) : w.cell? ⟨g, 0, none⟩ = some a0 ∧ w.cell? ⟨g, 1, none⟩ = some a1 ∧ w.cell? ⟨g, 2, none⟩ = some a2 ∧ w.frozen? ⟨g, 0, none⟩ = false ∧ w.frozen? ⟨g, 1, none⟩ = false ∧ w.frozen? ⟨g, 2, none⟩ = false := ⟨(blk_cell h 0).trans rfl, (blk_cell h 1).trans rfl, (blk_cell h 2).trans rfl, blk_frozen h 0, blk_frozen h 1, blk_frozen h 2⟩
theorem box4 {w : World} {g t : Nat} {a0 a1 a2 a3 : Value} (h : w.heap[g]? = some (.cells #[a0, a1, a2, a3] t (0, 0))) : w.cell? ⟨g, 0, none⟩ = some a0 ∧ w.cell? ⟨g, 1, none⟩ = some a1 ∧ w.cell? ⟨g, 2, none⟩ = some a2 ∧ w.cell? ⟨g, 3, none⟩ = some a3 ∧ w.frozen? ⟨g, 0, none⟩ = false ∧ w.frozen? ⟨g, 1, none⟩ = false ∧ w.frozen? ⟨g, 2, none⟩ = false ∧ w.frozen? ⟨g, 3, none⟩ = false := ⟨(blk_cell h 0).trans rfl, (blk_cell h 1).trans rfl, (blk_cell h 2).trans rfl, (blk_cell h 3).trans rfl, blk_frozen h 0, blk_frozen h 1, blk_frozen h 2, blk_frozen h 3⟩
theorem box5 {w : World} {g t : Nat} {a0 a1 a2 a3 a4 : Value} (h : w.heap[g]? = some (.cells #[a0, a1, a2, a3, a4] t (0, 0))) : w.cell? ⟨g, 0, none⟩ = some a0 ∧ w.cell? ⟨g, 1, none⟩ = some a1 ∧ w.cell? ⟨g, 2, none⟩ = some a2 ∧ w.cell? ⟨g, 3, none⟩ = some a3 ∧ w.cell? ⟨g, 4, none⟩ = some a4 ∧ w.frozen? ⟨g, 0, none⟩ = false ∧ w.frozen? ⟨g, 1, none⟩ = false ∧ w.frozen? ⟨g, 2, none⟩ = false ∧ w.frozen? ⟨g, 3, none⟩ = false ∧ w.frozen? ⟨g, 4, none⟩ = false := ⟨(blk_cell h 0).trans rfl, (blk_cell h 1).trans rfl, (blk_cell h 2).trans rfl, (blk_cell h 3).trans rfl, (blk_cell h 4).trans rfl, blk_frozen h 0, blk_frozen h 1, blk_frozen h 2, blk_frozen h 3, blk_frozen h 4⟩
theorem box6 {w : World} {g t : Nat} {a0 a1 a2 a3 a4 a5 : Value} (h : w.heap[g]? = some (.cells #[a0, a1, a2, a3, a4, a5] t (0, 0))) : w.cell? ⟨g, 0, none⟩ = some a0 ∧ w.cell? ⟨g, 1, none⟩ = some a1 ∧ w.cell? ⟨g, 2, none⟩ = some a2 ∧ w.cell? ⟨g, 3, none⟩ = some a3 ∧ w.cell? ⟨g, 4, none⟩ = some a4 ∧ w.cell? ⟨g, 5, none⟩ = some a5 ∧ w.frozen? ⟨g, 0, none⟩ = false ∧ w.frozen? ⟨g, 1, none⟩ = false ∧ w.frozen? ⟨g, 2, none⟩ = false ∧ w.frozen? ⟨g, 3, none⟩ = false ∧ w.frozen? ⟨g, 4, none⟩ = false ∧ w.frozen? ⟨g, 5, none⟩ = false := ⟨(blk_cell h 0).trans rfl, (blk_cell h 1).trans rfl, (blk_cell h 2).trans rfl, (blk_cell h 3).trans rfl, (blk_cell h 4).trans rfl, (blk_cell h 5).trans rfl, blk_frozen h 0, blk_frozen h 1, blk_frozen h 2, blk_frozen h 3, blk_frozen h 4, blk_frozen h 5⟩
theorem box7 {w : World} {g t : Nat} {a0 a1 a2 a3 a4 a5 a6 : Value} (h : w.heap[g]? = some (.cells #[a0, a1, a2, a3, a4, a5, a6] t (0, 0))) : w.cell? ⟨g, 0, none⟩ = some a0 ∧ w.cell? ⟨g, 1, none⟩ = some a1 ∧ w.cell? ⟨g, 2, none⟩ = some a2 ∧ w.cell? ⟨g, 3, none⟩ = some a3 ∧ w.cell? ⟨g, 4, none⟩ = some a4 ∧ w.cell? ⟨g, 5, none⟩ = some a5 ∧ w.cell? ⟨g, 6, none⟩ = some a6 ∧ w.frozen? ⟨g, 0, none⟩ = false ∧ w.frozen? ⟨g, 1, none⟩ = false ∧ w.frozen? ⟨g, 2, none⟩ = false ∧ w.frozen? ⟨g, 3, none⟩ = false ∧ w.frozen? ⟨g, 4, none⟩ = false ∧ w.frozen? ⟨g, 5, none⟩ = false ∧ w.frozen? ⟨g, 6, none⟩ = false := ⟨(blk_cell h 0).trans rfl, (blk_cell h 1).trans rfl, (blk_cell h 2).trans rfl, (blk_cell h 3).trans rfl, (blk_cell h 4).trans rfl, (blk_cell h 5).trans rfl, (blk_cell h 6).trans rfl, blk_frozen h 0, blk_frozen h 1, blk_frozen h 2, blk_frozen h 3, blk_frozen h 4, blk_frozen h 5, blk_frozen h 6⟩
theorem box8 {w : World} {g t : Nat} {a0 a1 a2 a3 a4 a5 a6 a7 : Value} (h : w.heap[g]? = some (.cells #[a0, a1, a2, a3, a4, a5, a6, a7] t (0, 0))) : w.cell? ⟨g, 0, none⟩ = some a0 ∧ w.cell? ⟨g, 1, none⟩ = some a1 ∧ w.cell? ⟨g, 2, none⟩ = some a2 ∧ w.cell? ⟨g, 3, none⟩ = some a3 ∧ w.cell? ⟨g, 4, none⟩ = some a4 ∧ w.cell? ⟨g, 5, none⟩ = some a5 ∧ w.cell? ⟨g, 6, none⟩ = some a6 ∧ w.cell? ⟨g, 7, none⟩ = some a7 ∧ w.frozen? ⟨g, 0, none⟩ = false ∧ w.frozen? ⟨g, 1, none⟩ = false ∧ w.frozen? ⟨g, 2, none⟩ = false ∧ w.frozen? ⟨g, 3, none⟩ = false ∧ w.frozen? ⟨g, 4, none⟩ = false ∧ w.frozen? ⟨g, 5, none⟩ = false ∧ w.frozen? ⟨g, 6, none⟩ = false ∧ w.frozen? ⟨g, 7, none⟩ = false := ⟨(blk_cell h 0).trans rfl, (blk_cell h 1).trans rfl, (blk_cell h 2).trans rfl, (blk_cell h 3).trans rfl, (blk_cell h 4).trans rfl, (blk_cell h 5).trans rfl, (blk_cell h 6).trans rfl, (blk_cell h 7).trans rfl, blk_frozen h 0, blk_frozen h 1, blk_frozen h 2, blk_frozen h 3, blk_frozen h 4, blk_frozen h 5, blk_frozen h 6, blk_frozen h 7⟩

end Go.Proofs.Ytfmlamnkpoloaaa.Q

/- A table of clients in memory: what stands there, and how it stays. -/
namespace Go.Proofs.Ytfmlamnkpoloaaa.Q
open Go.RowKit Go.Proofs.YtfmlamnkpoloaaaW.PrintWords Go.Proofs.YtfmlamnkpoloaaaW.PrintLast Go.Proofs.YtfmlamnkpoloaaaW.PrintMore
set_option linter.unusedVariables false
set_option linter.unusedSimpArgs false

/-- Nothing but the blocks of S has changed; new ones may be there. -/
structure Chg (S : Nat → Prop) (w w' : World) : Prop where
  low : Below 0 w w'
  keep : ∀ k, k < w.heap.size → ¬ S k → w'.heap[k]? = w.heap[k]?
theorem Chg.refl (S : Nat → Prop) (w : World) : Chg S w w := ⟨Below.refl _ _, fun _ _ _ => rfl⟩
theorem Chg.trans {S : Nat → Prop} {a b c : World} (h : Chg S a b) (k : Chg S b c) : Chg S a c :=
  ⟨h.low.trans k.low, fun i hi hn => (k.keep i (Nat.lt_of_lt_of_le hi h.low.size) hn).trans (h.keep i hi hn)⟩
theorem Chg.mono {S S' : Nat → Prop} {a b : World} (h : Chg S a b) (hs : ∀ k, S k → S' k) : Chg S' a b := ⟨h.low, fun i hi hn => h.keep i hi (fun hk => hn (hs i hk))⟩
theorem Chg.of_below {a b : World} (h : Below a.heap.size a b) (S : Nat → Prop) : Chg S a b := ⟨h.mono (Nat.zero_le _), fun i hi _ => h.block i hi⟩
theorem Chg.drewN {S : Nat → Prop} {a b : World} (h : Chg S a b) (n : Nat) : Chg S a (b.drewN n) := ⟨pw_below_drewN h.low n, h.keep⟩
theorem Chg.drew {S : Nat → Prop} {a b : World} (h : Chg S a b) : Chg S a b.drew := ⟨below_drew1 h.low, h.keep⟩
theorem Chg.set {S : Nat → Prop} {a b : World} (h : Chg S a b) {p : Addr} (hp : S p.block ∨ a.heap.size ≤ p.block) (u : Value) : Chg S a (b.setCell p u) :=
  ⟨h.low.setCell (Nat.zero_le _) u, fun i hi hn => (Below.heap_setCell b p u i (fun he => by subst he; rcases hp with hp | hp; exact hn hp; omega)).trans (h.keep i hi hn)⟩
theorem Chg.alloc {S : Nat → Prop} {a b : World} (h : Chg S a b) (o : Obj) : Chg S a (b.alloc o) :=
  ⟨h.low.alloc (Nat.zero_le _) o, fun i hi hn => (Below.heap_alloc b o i (Nat.lt_of_lt_of_le hi h.low.size)).trans (h.keep i hi hn)⟩
theorem Chg.below {S : Nat → Prop} {B : Nat} {a b c : World} (h : Chg S b c) (hb : Below B a b) (hB : B ≤ b.heap.size) (hs : ∀ k, S k → B ≤ k) : Below B a c :=
  ⟨h.low.os.trans hb.os, h.low.tape.trans hb.tape, h.low.output.trans hb.output, Nat.le_trans hb.size h.low.size, fun k hk => (h.keep k (by omega) (fun hS => by have := hs k hS; omega)).trans (hb.block k hk)⟩

/-- A client: how many it has got, and the codes of the others. -/
structure Cl where
  got : Int
  codes : List Int
abbrev Tb := Nat → Cl
def Tb.upd (T : Tb) (n : Nat) (c : Cl) : Tb := fun m => if m = n then c else T m
def nextOf (c : Cl) : Int := c.got + c.codes.length + 1
/-- A row of numbers that is read. -/
def RowI (w : World) (ok : Nat → Prop) (v : Value) (xs : List Int) : Prop := Kd.V (Kd.int .i64) 3 w 0 ok v xs
structure TabAt (ok : Nat → Prop) (w : World) (t : Nat) (T : Tb) : Prop where
  mk ::
  all : ∃ cs : Array Value, w.heap[t]? = some (.cells cs 56 (0, 0)) ∧ cs.size = 12 ∧ ∀ n, n < 6 → cs[n * 2]? = some (.int .i64 (T n).got) ∧ ∃ v, cs[n * 2 + 1]? = some v ∧ RowI w ok v (T n).codes
theorem RowI.chg {w w' : World} {ok S : Nat → Prop} {v : Value} {xs : List Int} (h : RowI w ok v xs) (hc : Chg S w w') (hs : ∀ k, ok k → ¬ S k) : RowI w' ok v xs :=
  Kd.V_step h (fun k hk hlt => hc.keep k hlt (hs k hk))
theorem TabAt.chg {w w' : World} {ok S : Nat → Prop} {t : Nat} {T : Tb} (h : TabAt ok w t T) (hc : Chg S w w') (ht : ¬ S t) (hs : ∀ k, ok k → ¬ S k) : TabAt ok w' t T := by
  obtain ⟨cs, hb, hz, ha⟩ := h.all
  refine ⟨cs, (hc.keep t (blk_lt hb) ht).trans hb, hz, fun n hn => ?_⟩
  obtain ⟨h1, v, h2, h3⟩ := ha n hn
  exact ⟨h1, v, h2, h3.chg hc hs⟩
theorem TabAt.lt {w : World} {ok : Nat → Prop} {t : Nat} {T : Tb} (h : TabAt ok w t T) : t < w.heap.size := by
  obtain ⟨cs, hb, -⟩ := h.all
  exact blk_lt hb
/-- What is read at a client's place. -/
theorem TabAt.cells {w : World} {ok : Nat → Prop} {t : Nat} {T : Tb} (h : TabAt ok w t T) {n : Nat} (hn : n < 6) :
    w.cell? ⟨t, n * 2, none⟩ = some (.int .i64 (T n).got) ∧ (∃ A c, w.cell? ⟨t, n * 2 + 1, none⟩ = some (.slice A (T n).codes.length c) ∧ (T n).codes.length ≤ c ∧ RowI w ok (.slice A (T n).codes.length c) (T n).codes) ∧ (∀ j, w.frozen? ⟨t, j, none⟩ = false) := by
  obtain ⟨cs, hb, hz, ha⟩ := h.all
  obtain ⟨h1, v, h2, h3⟩ := ha n hn
  obtain ⟨A, c, rfl⟩ := Kd.V_slice h3
  refine ⟨(blk_cell hb _).trans h1, ⟨A, c, (blk_cell hb _).trans h2, (Kd.V_at h3).2.1, h3⟩, fun j => blk_frozen hb j⟩

end Go.Proofs.Ytfmlamnkpoloaaa.Q

/- The contracts of the table's small functions: New, find, next, Next, First, Code. -/
namespace Go.Proofs.Ytfmlamnkpoloaaa.Q
open Go.RowKit Go.Proofs.YtfmlamnkpoloaaaW.PrintWords Go.Proofs.YtfmlamnkpoloaaaW.PrintLast Go.Proofs.YtfmlamnkpoloaaaW.PrintMore
set_option linter.unusedVariables false
set_option linter.unusedSimpArgs false

def T0 : Tb := fun _ => ⟨0, []⟩
theorem new_calls (w : World) : Calls Try.prog 8 #[] w fun e w' => e = .returned (.pointer (some ⟨w.heap.size, 0, none⟩)) ∧ (∀ ok, TabAt ok w' w.heap.size T0) ∧ Below w.heap.size w w' ∧ w'.heap.size = w.heap.size + 1 := by
  go_enter Try.func8, Try.ntmps8
  go_wp2
  go_ret
  refine ⟨rfl, fun ok => ?_, below_alloc (Below.refl _ _) _, by simp⟩
  refine ⟨_, blk_new _ _, by simp, fun n hn => ?_⟩
  rcases n with _ | _ | _ | _ | _ | _ | n
  case succ.succ.succ.succ.succ.succ => omega
  all_goals exact ⟨rfl, _, rfl, Kd.V_nil _ _ _ _ _⟩

theorem find_ok (t n : Nat) (hn : n < 6) (w : World) : Calls Try.prog 26 #[.pointer (some ⟨t, 0, none⟩), .int .i64 (n : Int)] w fun e w' => e = .returned (.tuple #[.pointer (some ⟨t, n * 2, none⟩), .int .i64 0]) ∧ w = w' := by
  go_enter Try.func26, Try.ntmps26
  go_wp2
  go_ret2
  exact ⟨rfl, rfl⟩
theorem find_bad (t : Nat) (n : Int) (hn : n < 0 ∨ 6 ≤ n) (w : World) : Calls Try.prog 26 #[.pointer (some ⟨t, 0, none⟩), .int .i64 n] w fun e w' => e = .returned (.tuple #[.pointer none, .int .i64 14]) ∧ w = w' := by
  rcases hn with hn | hn
  all_goals
    go_enter Try.func26, Try.ntmps26
    go_wp2
    go_ret2
    exact ⟨rfl, rfl⟩
theorem find_nil (n : Int) (w : World) : Calls Try.prog 26 #[.pointer none, .int .i64 n] w fun e w' => e = .returned (.tuple #[.pointer none, .int .i64 1]) ∧ w = w' := by
  go_enter Try.func26, Try.ntmps26
  go_wp2
  go_ret2
  exact ⟨rfl, rfl⟩
theorem next_calls (t o : Nat) (g : Int) (A : Option Addr) (len c : Nat) (w : World) (h0 : 0 ≤ g) (h1 : g + len ≤ 1152921504606846976) (hg : w.cell? ⟨t, o, none⟩ = some (.int .i64 g)) (hs : w.cell? ⟨t, o + 1, none⟩ = some (.slice A len c)) :
    Calls Try.prog 27 #[.pointer (some ⟨t, o, none⟩)] w fun e w' => e = .returned (.int .i64 (g + len + 1)) ∧ ∃ n, w' = w.drewN n := by
  go_enter Try.func27, Try.ntmps27
  go_wp2
  go_quiet (fail)
  go_wp2
  go_ret
  exact ⟨rfl, _, rfl⟩

end Go.Proofs.Ytfmlamnkpoloaaa.Q

/- The contracts of the table's reading methods: Next, First, Code. -/
namespace Go.Proofs.Ytfmlamnkpoloaaa.Q
open Go.RowKit Go.Proofs.YtfmlamnkpoloaaaW.PrintWords Go.Proofs.YtfmlamnkpoloaaaW.PrintLast Go.Proofs.YtfmlamnkpoloaaaW.PrintMore
set_option linter.unusedVariables false
set_option linter.unusedSimpArgs false

/-- Is there such a client? -/
def isC (n : Int) : Prop := 0 ≤ n ∧ n < 6
instance (n : Int) : Decidable (isC n) := by unfold isC; infer_instance
/-- A client in bounds. -/
def Fine (c : Cl) : Prop := 0 ≤ c.got ∧ c.got + c.codes.length ≤ 1152921504606846976 ∧ c.codes.length ≤ 1099511627776
def dNext (T : Tb) (n : Int) : Int := if isC n then nextOf (T n.toNat) else 0
def dFirst (T : Tb) (n : Int) : Int := if isC n then (T n.toNat).got + 1 else 0
def dCode (T : Tb) (n seq : Int) : Int × Int :=
  if isC n then
    if seq < 1 ∨ nextOf (T n.toNat) ≤ seq then (0, 8) else if seq ≤ (T n.toNat).got then (0, 13) else (rd (T n.toNat).codes (seq - (T n.toNat).got - 1), 0)
  else (0, 14)
theorem isC_nat {n : Int} (h : isC n) : ∃ m : Nat, m < 6 ∧ n = m := ⟨n.toNat, by unfold isC at h; omega, by unfold isC at h; omega⟩
theorem not_isC {n : Int} (h : ¬ isC n) : n < 0 ∨ 6 ≤ n := by unfold isC at h; omega

set_option maxHeartbeats 1000000 in
theorem Next_calls (ok : Nat → Prop) (t : Nat) (T : Tb) (n : Int) (w : World) (hT : TabAt ok w t T) (hF : ∀ m, m < 6 → Fine (T m)) :
    Calls Try.prog 12 #[.pointer (some ⟨t, 0, none⟩), .int .i64 n] w fun e w' => e = .returned (.int .i64 (dNext T n)) ∧ ∃ k, w' = w.drewN k := by
  by_cases hn : isC n
  · obtain ⟨m, hm, rfl⟩ := isC_nat hn
    obtain ⟨hc0, ⟨A, c, hc1, -, -⟩, -⟩ := hT.cells hm
    have hf := hF m hm
    have e : dNext T m = (T m).got + ((T m).codes.length : Int) + 1 := by rw [dNext, if_pos hn, nextOf, Int.toNat_natCast]
    have E := Aside0.mk e
    clear e hn
    go_enter Try.func12, Try.ntmps12
    go_wp2_with (first | (go_at_call 26; refine (find_ok t m hm _).mono ?_; rintro e w' ⟨rfl, rfl⟩) | (go_at_call 27; refine (next_calls t (m * 2) (T m).got A _ c _ hf.1 hf.2.1 hc0 hc1).mono ?_; rintro e w' ⟨rfl, k, rfl⟩))
    go_ret
    exact ⟨ret_int E.out.symm, _, rfl⟩
  · have E := Aside0.mk (show dNext T n = 0 from if_neg hn)
    have hn := not_isC hn
    clear hT hF
    go_enter Try.func12, Try.ntmps12
    go_wp2_with (go_at_call 26; refine (find_bad t n hn _).mono ?_; rintro e w' ⟨rfl, rfl⟩)
    go_ret
    exact ⟨ret_int E.out.symm, 0, rfl⟩
set_option maxHeartbeats 1000000 in
theorem First_calls (ok : Nat → Prop) (t : Nat) (T : Tb) (n : Int) (w : World) (hT : TabAt ok w t T) (hF : ∀ m, m < 6 → Fine (T m)) :
    Calls Try.prog 23 #[.pointer (some ⟨t, 0, none⟩), .int .i64 n] w fun e w' => e = .returned (.int .i64 (dFirst T n)) ∧ ∃ k, w' = w.drewN k := by
  by_cases hn : isC n
  · obtain ⟨m, hm, rfl⟩ := isC_nat hn
    obtain ⟨hc0, -, -⟩ := hT.cells hm
    have hf := (hF m hm).1
    have hf2 : (T m).got ≤ 1152921504606846976 := by have := (hF m hm).2.1; omega
    have E := Aside0.mk (show dFirst T m = (T m).got + 1 by rw [dFirst, if_pos hn, Int.toNat_natCast])
    clear hn
    go_enter Try.func23, Try.ntmps23
    go_wp2_with (go_at_call 26; refine (find_ok t m hm _).mono ?_; rintro e w' ⟨rfl, rfl⟩)
    go_ret
    exact ⟨ret_int E.out.symm, 0, rfl⟩
  · have E := Aside0.mk (show dFirst T n = 0 from if_neg hn)
    have hn := not_isC hn
    clear hT hF
    go_enter Try.func23, Try.ntmps23
    go_wp2_with (go_at_call 26; refine (find_bad t n hn _).mono ?_; rintro e w' ⟨rfl, rfl⟩)
    go_ret
    exact ⟨ret_int E.out.symm, 0, rfl⟩
theorem RowI.cell {w : World} {ok : Nat → Prop} {A : Option Addr} {n c : Nat} {xs : List Int} (h : RowI w ok (.slice A n c) xs) (i : Int) (h0 : 0 ≤ i) (h1 : i < n) : ∃ ad, A = some ad ∧ w.cell? (ad.add i.toNat) = some (.int .i64 (rd xs i)) := by
  obtain ⟨hx, hle, hF⟩ := Kd.V_at h
  subst hx
  obtain ⟨ad, e, hc⟩ := Kd.at_int (Kd.F_now hF) i h0 h1
  exact ⟨ad, e, hc⟩
set_option maxHeartbeats 2000000 in
theorem Code_calls (ok : Nat → Prop) (t : Nat) (T : Tb) (n seq : Int) (w : World) (hT : TabAt ok w t T) (hF : ∀ m, m < 6 → Fine (T m)) :
    Calls Try.prog 14 #[.pointer (some ⟨t, 0, none⟩), .int .i64 n, .int .i64 seq] w fun e w' => e = .returned (.tuple #[.int .i64 (dCode T n seq).1, .int .i64 (dCode T n seq).2]) ∧ ∃ k, w' = w.drewN k := by
  by_cases hn : isC n
  · obtain ⟨m, hm, rfl⟩ := isC_nat hn
    obtain ⟨hc0, ⟨A, c, hc1, hlc, hR⟩, -⟩ := hT.cells hm
    have hf := hF m hm
    have hf0 := hf.1
    have hf1 := hf.2.1
    have e : dCode T m seq = if seq < 1 ∨ nextOf (T m) ≤ seq then (0, 8) else if seq ≤ (T m).got then (0, 13) else (rd (T m).codes (seq - (T m).got - 1), 0) := by rw [dCode, if_pos hn, Int.toNat_natCast]
    rw [e]
    unfold nextOf
    clear e hn hT hF hf
    generalize (T m).got = g at *
    generalize (T m).codes = l at *
    by_cases h1 : seq < 1
    · rw [if_pos (.inl h1)]
      go_enter Try.func14, Try.ntmps14
      go_wp2_with (first | (go_at_call 26; refine (find_ok t m hm _).mono ?_; rintro e w' ⟨rfl, rfl⟩))
      go_ret2
      exact ⟨rfl, 0, rfl⟩
    · by_cases h2 : g + (l.length : Int) + 1 ≤ seq
      · rw [if_pos (.inr h2)]
        go_enter Try.func14, Try.ntmps14
        go_wp2_with (first | (go_at_call 26; refine (find_ok t m hm _).mono ?_; rintro e w' ⟨rfl, rfl⟩) | (go_at_call 27; refine (next_calls t (m * 2) g A _ c _ hf0 hf1 hc0 hc1).mono ?_; rintro e w' ⟨rfl, k, rfl⟩))
        go_ret2
        exact ⟨rfl, _, rfl⟩
      · rw [if_neg (by omega)]
        by_cases h3 : seq ≤ g
        · rw [if_pos h3]
          go_enter Try.func14, Try.ntmps14
          go_wp2_with (first | (go_at_call 26; refine (find_ok t m hm _).mono ?_; rintro e w' ⟨rfl, rfl⟩) | (go_at_call 27; refine (next_calls t (m * 2) g A _ c _ hf0 hf1 hc0 hc1).mono ?_; rintro e w' ⟨rfl, k, rfl⟩))
          go_ret2
          exact ⟨rfl, _, rfl⟩
        · rw [if_neg h3]
          obtain ⟨j, hj⟩ : ∃ j : Nat, seq - g - 1 = j := ⟨(seq - g - 1).toNat, by omega⟩
          rw [hj]
          obtain ⟨ad, rfl, hcell⟩ := hR.cell (j : Int) (by omega) (by omega)
          rw [Int.toNat_natCast] at hcell
          have i1 : (0 : Int) ≤ (j : Int) := by omega
          have i2 : (j : Int) < (l.length : Int) := by omega
          have s2 : IntKind.i64.wrap (seq - g - 1) = (j : Int) := by rw [IntWalk.i64_in _ (by omega), hj]
          have s1 : IntKind.i64.wrap (seq - g) = seq - g := IntWalk.i64_in _ (by omega)
          clear hj
          clear hR
          go_enter Try.func14, Try.ntmps14
          go_wp2_with (first | (go_at_call 26; refine (find_ok t m hm _).mono ?_; rintro e w' ⟨rfl, rfl⟩) | (go_at_call 27; refine (next_calls t (m * 2) g (some ad) _ c _ hf0 hf1 hc0 hc1).mono ?_; rintro e w' ⟨rfl, k, rfl⟩))
          go_region_held3 (fun w' => w'.cell? ⟨t, m * 2, none⟩ = some (.int .i64 g) ∧ w'.cell? ⟨t, m * 2 + 1, none⟩ = some (.slice (some ad) l.length c) ∧ w'.cell? (ad.add j) = some (.int .i64 (rd l (j : Int)))) (go_keep) (fail)
          go_wp2
          go_ret2
          exact ⟨rfl, k + 1, rfl⟩
  · have e : dCode T n seq = (0, 14) := if_neg hn
    rw [e]
    clear e
    show Calls _ _ _ _ fun e w' => e = .returned (.tuple #[.int .i64 0, .int .i64 14]) ∧ ∃ k, w' = w.drewN k
    have hn := not_isC hn
    clear hT hF
    go_enter Try.func14, Try.ntmps14
    go_wp2_with (go_at_call 26; refine (find_bad t n hn _).mono ?_; rintro e w' ⟨rfl, rfl⟩)
    go_ret2
    exact ⟨rfl, 0, rfl⟩

end Go.Proofs.Ytfmlamnkpoloaaa.Q

/- A region that draws its order, walked once, by a plan: a plan lists the operations with what each is: 0 it reads what S tells (taken first), 1 it yields in every world, 2 it alone may come up (S is shown behind it), 3 it alone may come up, and all that reads stands ahead of it. -/
namespace Go.Proofs.Ytfmlamnkpoloaaa.Q
open Go.RowKit Go.Proofs.YtfmlamnkpoloaaaW.PrintWords Go.Proofs.YtfmlamnkpoloaaaW.PrintLast Go.Proofs.YtfmlamnkpoloaaaW.PrintMore
set_option linter.unusedVariables false
set_option linter.unusedSimpArgs false

section
variable {P : Program} {ops : Array Oper} {Q : Exit → Act → World → Prop} {S : World → Prop}
def RP (P : Program) (ops : Array Oper) (Q : Exit → Act → World → Prop) (S : World → Prop) : List (Nat × Nat × Nat) → Act → World → Prop
  | [], a, w => Q .normal a w
  | (i, 0, d) :: r, a, w => ∃ o v, ops[i]? = some o ∧ o.dst = some d ∧ S w ∧ YieldsIf P ops S o v a ∧ RP P ops Q S r (a.put (some d) v) w
  | (i, 1, d) :: r, a, w => ∃ o v, ops[i]? = some o ∧ o.dst = some d ∧ Yields P ops o v a ∧ RP P ops Q S r (a.put (some d) v) w
  | (i, 2, d) :: r, a, w => ∃ o, ops[i]? = some o ∧ o.dst = some d ∧ ∀ K : Act → World → Prop, Shut (∀ a' w', S w' → (S w' → RP P ops Q S r a' w') → K a' w') → if Region.wanted o (yielded ops a.tmps) = true then Oper.wp P o a w K Q else K (a.put (some d) undef) w
  | (i, 3, d) :: r, a, w => ∃ o, ops[i]? = some o ∧ o.dst = none ∧ ∀ K : Act → World → Prop, Shut (∀ a' w', RP P ops Q S r a' w' → K a' w') → if Region.wanted o (yielded ops a.tmps) = true then Oper.wp P o a w K Q else K (a.put (none) undef) w
  | (i, 4, d) :: r, a, w => ∃ o, ops[i]? = some o ∧ o.dst = none ∧ ∀ K : Act → World → Prop, Shut (∀ a' w', S w' → (S w' → RP P ops Q S r a' w') → K a' w') → if Region.wanted o (yielded ops a.tmps) = true then Oper.wp P o a w K Q else K (a.put (none) undef) w
  | (i, _ + 5, d) :: r, a, w => ∃ o, ops[i]? = some o ∧ o.dst = some d ∧ ∀ K : Act → World → Prop, Shut (∀ a' w', RP P ops Q S r a' w' → K a' w') → if Region.wanted o (yielded ops a.tmps) = true then Oper.wp P o a w K Q else K (a.put (some d) undef) w
def planOk (ops : Array Oper) (ds : List Nat) : List (Nat × Nat × Nat) → Array Bool → Bool
  | [], l => Region.ready .any ops l == []
  | (i, 0, _) :: r, l => takeB .any ops ds l (l.setIfInBounds i true) i && planOk ops ds r (l.setIfInBounds i true)
  | (i, 1, _) :: r, l => anyB .any ops l (l.setIfInBounds i true) i && planOk ops ds r (l.setIfInBounds i true)
  | (i, 2, _) :: r, l => (readyB .any ops l (l.setIfInBounds i true) i && !ds.contains i) && planOk ops ds r (l.setIfInBounds i true)
  | (i, 3, _) :: r, l => (readyB .any ops l (l.setIfInBounds i true) i && ds.contains i) && planOk ops ds r (l.setIfInBounds i true)
  | (i, 4, _) :: r, l => (readyB .any ops l (l.setIfInBounds i true) i && !ds.contains i) && planOk ops ds r (l.setIfInBounds i true)
  | (i, _ + 5, _) :: r, l => (readyB .any ops l (l.setIfInBounds i true) i && ds.contains i) && planOk ops ds r (l.setIfInBounds i true)
theorem RP.sound {ds : List Nat} (hQ : ∀ c t v a w, Q (.panic c) (Act.put a t v) w → Q (.panic c) a w) : ∀ (p : List (Nat × Nat × Nat)) (l : Array Bool) (a : Act) (w : World), planOk ops ds p l = true → RP P ops Q S p a w → wpAnyLast P .any ops Q S ds p.length l a w
  | [], l, a, w, hp, h => done_ hp h
  | (i, 0, d) :: r, l, a, w, hp, h => by
    obtain ⟨o, v, ho, hd, hS, hy, h⟩ := h
    simp only [planOk, Bool.and_eq_true] at hp
    exact take_ _ ho hd hp.1 (fun c a w => hQ c _ _ a w) hy hS rfl (RP.sound hQ r _ _ _ hp.2 h)
  | (i, 1, d) :: r, l, a, w, hp, h => by
    obtain ⟨o, v, ho, hd, hy, h⟩ := h
    simp only [planOk, Bool.and_eq_true] at hp
    exact pure_ _ ho hd hp.1 (fun c a w => hQ c _ _ a w) hy rfl (RP.sound hQ r _ _ _ hp.2 h)
  | (i, 2, d) :: r, l, a, w, hp, h => by
    obtain ⟨o, ho, hd, h⟩ := h
    simp only [planOk, Bool.and_eq_true, Bool.not_eq_true'] at hp
    exact one_ _ ho hd hp.1.1 (by have := hp.1.2; simpa using this) (fun K hK => h K (fun a' w' hS' hr => hK a' w' hS' (fun hS2 => RP.sound hQ r _ _ _ hp.2 (hr hS2))))
  | (i, 3, d) :: r, l, a, w, hp, h => by
    obtain ⟨o, ho, hd, h⟩ := h
    simp only [planOk, Bool.and_eq_true] at hp
    exact last_ _ ho hd hp.1.1 (by have := hp.1.2; simpa using this) (fun K hK => h K (fun a' w' hr => hK a' w' (RP.sound hQ r _ _ _ hp.2 hr)))
  | (i, 4, d) :: r, l, a, w, hp, h => by
    obtain ⟨o, ho, hd, h⟩ := h
    simp only [planOk, Bool.and_eq_true, Bool.not_eq_true'] at hp
    exact one_ _ ho hd hp.1.1 (by have := hp.1.2; simpa using this) (fun K hK => h K (fun a' w' hS' hr => hK a' w' hS' (fun hS2 => RP.sound hQ r _ _ _ hp.2 (hr hS2))))
  | (i, _ + 5, d) :: r, l, a, w, hp, h => by
    obtain ⟨o, ho, hd, h⟩ := h
    simp only [planOk, Bool.and_eq_true] at hp
    exact last_ _ ho hd hp.1.1 (by have := hp.1.2; simpa using this) (fun K hK => h K (fun a' w' hr => hK a' w' (RP.sound hQ r _ _ _ hp.2 hr)))
/-- The region, by a plan. -/
theorem wp_plan {id : Nat} {a : Act} {w : World} (p : List (Nat × Nat × Nat)) (ds : List Nat) (S : World → Prop) (hm : P.follows .mixedOrders = true) (hn : ops.size = p.length) (hp : planOk ops ds p (Array.replicate p.length false) = true)
    (hQ : ∀ c t v a w, Q (.panic c) (Act.put a t v) w → Q (.panic c) a w) (hS : S (w.drewN 1)) (h : S (w.drewN 1) → RP P ops Q S p a (w.drewN 1)) : (Code.region id ops true).wp P Q a w :=
  start_ _ hm hn rfl hS (fun hs => RP.sound hQ p _ _ _ hp (h hs))
theorem RP.take {i d : Nat} {r : List (Nat × Nat × Nat)} {a : Act} {w : World} {o : Oper} {v : Value} (ho : ops[i]? = some o) (hd : o.dst = some d) (hS : S w) (hy : YieldsIf P ops S o v a) {a' : Act} (ha : a.put (some d) v = a') (h : RP P ops Q S r a' w) : RP P ops Q S ((i, 0, d) :: r) a w := by
  subst ha
  exact ⟨o, v, ho, hd, hS, hy, h⟩
theorem RP.pure {i d : Nat} {r : List (Nat × Nat × Nat)} {a : Act} {w : World} {o : Oper} {v : Value} (ho : ops[i]? = some o) (hd : o.dst = some d) (hy : Yields P ops o v a) {a' : Act} (ha : a.put (some d) v = a') (h : RP P ops Q S r a' w) : RP P ops Q S ((i, 1, d) :: r) a w := by
  subst ha
  exact ⟨o, v, ho, hd, hy, h⟩
theorem RP.one {i d : Nat} {r : List (Nat × Nat × Nat)} {a : Act} {w : World} {o : Oper} (ho : ops[i]? = some o) (hd : o.dst = some d) (h : ∀ K : Act → World → Prop, Shut (∀ a' w', S w' → (S w' → RP P ops Q S r a' w') → K a' w') → if Region.wanted o (yielded ops a.tmps) = true then Oper.wp P o a w K Q else K (a.put (some d) undef) w) : RP P ops Q S ((i, 2, d) :: r) a w := ⟨o, ho, hd, h⟩
theorem RP.last {i d : Nat} {r : List (Nat × Nat × Nat)} {a : Act} {w : World} {o : Oper} (ho : ops[i]? = some o) (hd : o.dst = none) (h : ∀ K : Act → World → Prop, Shut (∀ a' w', RP P ops Q S r a' w' → K a' w') → if Region.wanted o (yielded ops a.tmps) = true then Oper.wp P o a w K Q else K (a.put (none) undef) w) : RP P ops Q S ((i, 3, d) :: r) a w := ⟨o, ho, hd, h⟩
theorem RP.one0 {i d : Nat} {r : List (Nat × Nat × Nat)} {a : Act} {w : World} {o : Oper} (ho : ops[i]? = some o) (hd : o.dst = none) (h : ∀ K : Act → World → Prop, Shut (∀ a' w', S w' → (S w' → RP P ops Q S r a' w') → K a' w') → if Region.wanted o (yielded ops a.tmps) = true then Oper.wp P o a w K Q else K (a.put (none) undef) w) : RP P ops Q S ((i, 4, d) :: r) a w := ⟨o, ho, hd, h⟩
theorem RP.last1 {i d : Nat} {r : List (Nat × Nat × Nat)} {a : Act} {w : World} {o : Oper} (ho : ops[i]? = some o) (hd : o.dst = some d) (h : ∀ K : Act → World → Prop, Shut (∀ a' w', RP P ops Q S r a' w' → K a' w') → if Region.wanted o (yielded ops a.tmps) = true then Oper.wp P o a w K Q else K (a.put (some d) undef) w) : RP P ops Q S ((i, 5, d) :: r) a w := ⟨o, ho, hd, h⟩
theorem RP.nil {a : Act} {w : World} (h : Q .normal a w) : RP P ops Q S [] a w := h
theorem RP.norm {p : List (Nat × Nat × Nat)} {a a' : Act} {w : World} (ha : a = a') (h : RP P ops Q S p a' w) : RP P ops Q S p a w := by
  subst ha
  exact h
end

end Go.Proofs.Ytfmlamnkpoloaaa.Q

/- The contracts of the table's writing methods: Put, Got. -/
namespace Go.Proofs.Ytfmlamnkpoloaaa.Q
open Go.RowKit Go.Proofs.YtfmlamnkpoloaaaW.PrintWords Go.Proofs.YtfmlamnkpoloaaaW.PrintLast Go.Proofs.YtfmlamnkpoloaaaW.PrintMore
set_option linter.unusedVariables false
set_option linter.unusedSimpArgs false

def dPut (T : Tb) (n seq code : Int) : Int × Tb :=
  if isC n then
    if code < 0 ∨ 63 < code then (2, T) else if 1 ≤ seq ∧ seq < nextOf (T n.toNat) then (9, T) else if seq ≠ nextOf (T n.toNat) then (3, T)
    else if 32 ≤ ((T n.toNat).codes.length : Int) then (10, T) else (0, T.upd n.toNat ⟨(T n.toNat).got, (T n.toNat).codes ++ [code]⟩)
  else (14, T)
def dGot (T : Tb) (n upto : Int) : Int × Tb :=
  if isC n then
    if upto < 0 ∨ nextOf (T n.toNat) ≤ upto then (3, T) else if (T n.toNat).got < upto then (0, T.upd n.toNat ⟨upto, (T n.toNat).codes.drop (upto - (T n.toNat).got).toNat⟩) else (0, T)
  else (14, T)
theorem Chg.grown {S : Nat → Prop} {a b c : World} (h : Chg S a b) (hg : b.grownBy c none) : Chg S a c := h.trans ⟨(Below.refl 0 b).grown hg (Nat.zero_le _) (fun k hk => by cases hk), fun k hk _ => hg.block k hk (by simp)⟩
theorem RowI.far {w : World} {ok : Nat → Prop} {v : Value} {xs : List Int} (h : RowI w ok v xs) {p : Addr} (hok : ∀ k, ok k → k ≠ p.block) (u : Value) : RowI (w.setCell p u) ok v xs := Kd.V_far h hok u
theorem TabAt.setCodes {w : World} {ok : Nat → Prop} {t m : Nat} {T : Tb} {v : Value} {xs : List Int} (h : TabAt ok w t T) (hok : ∀ k, ok k → k ≠ t) (hm : m < 6) (hv : RowI w ok v xs) : TabAt ok (w.setCell ⟨t, m * 2 + 1, none⟩ v) t (T.upd m ⟨(T m).got, xs⟩) := by
  obtain ⟨cs, hb, hz, ha⟩ := h.all
  refine ⟨_, blk_set hb _ _, by simpa using hz, fun n hn => ?_⟩
  obtain ⟨h1, u, h2, h3⟩ := ha n hn
  unfold Tb.upd
  by_cases e : n = m
  · subst e
    rw [if_pos rfl]
    refine ⟨?_, v, ?_, hv.far hok _⟩
    · rw [Array.getElem?_setIfInBounds_ne (by omega)]; exact h1
    · rw [Array.getElem?_setIfInBounds_self_of_lt (by omega)]
  · rw [if_neg e]
    refine ⟨?_, u, ?_, h3.far hok _⟩
    · rw [Array.getElem?_setIfInBounds_ne (by omega)]; exact h1
    · rw [Array.getElem?_setIfInBounds_ne (by omega)]; exact h2
theorem TabAt.setGot {w : World} {ok : Nat → Prop} {t m : Nat} {T : Tb} {g : Int} (h : TabAt ok w t T) (hok : ∀ k, ok k → k ≠ t) (hm : m < 6) : TabAt ok (w.setCell ⟨t, m * 2, none⟩ (.int .i64 g)) t (T.upd m ⟨g, (T m).codes⟩) := by
  obtain ⟨cs, hb, hz, ha⟩ := h.all
  refine ⟨_, blk_set hb _ _, by simpa using hz, fun n hn => ?_⟩
  obtain ⟨h1, u, h2, h3⟩ := ha n hn
  unfold Tb.upd
  by_cases e : n = m
  · subst e
    rw [if_pos rfl]
    refine ⟨?_, u, ?_, h3.far hok _⟩
    · rw [Array.getElem?_setIfInBounds_self_of_lt (by omega)]
    · rw [Array.getElem?_setIfInBounds_ne (by omega)]; exact h2
  · rw [if_neg e]
    refine ⟨?_, u, ?_, h3.far hok _⟩
    · rw [Array.getElem?_setIfInBounds_ne (by omega)]; exact h1
    · rw [Array.getElem?_setIfInBounds_ne (by omega)]; exact h2
theorem infoI : (Try.prog.info? 3).map (fun i => (i.zero, i.size, i.bytes)) = some (some (.int .i64 0), 1, 8) := by kernel_rfl
/-- A row of numbers of the call's own is one that is read. -/
theorem RowI.of_own {w : World} {base n : Nat} {v : Value} {xs : List Int} {ok : Nat → Prop} (h : w.ownsRow base 3 1 v n (xs.map (Value.int .i64))) (hn : n = xs.length) (hok : ∀ k, base ≤ k → ok k) : RowI w ok v xs := by
  subst hn
  exact Kd.R_V (Kd.R_of_own (h1 := fun _ => rfl) h (fun k hk => hok k (own_base h k hk)))
theorem RowI.drewN {w : World} {ok : Nat → Prop} {v : Value} {xs : List Int} (h : RowI w ok v xs) (n : Nat) : RowI (w.drewN n) ok v xs := Kd.V_drewN h n
theorem RowI.drew {w : World} {ok : Nat → Prop} {v : Value} {xs : List Int} (h : RowI w ok v xs) : RowI w.drew ok v xs := Kd.V_drew h
theorem RowI.alloc {w : World} {ok : Nat → Prop} {v : Value} {xs : List Int} (h : RowI w ok v xs) (o : Obj) : RowI (w.alloc o) ok v xs := Kd.V_alloc h o
theorem RowI.none {w : World} {ok : Nat → Prop} {n c : Nat} {xs : List Int} (h : RowI w ok (.slice none n c) xs) : n = 0 := by
  obtain ⟨hx, -, hF⟩ := Kd.V_at h
  rcases Nat.eq_zero_or_pos n with h0 | h0
  · exact h0
  · obtain ⟨ad, e, -⟩ := (Kd.F_now hF).2.2 (hx ▸ h0)
    cases e
theorem RowI.holds {w : World} {ok : Nat → Prop} {A : Option Addr} {n c : Nat} {xs : List Int} (h : RowI w ok (.slice A n c) xs) : ∀ b, A = some b → ∀ j u, (xs.map (Value.int .i64))[j]? = some u → w.cell? (b.add j) = some u := by
  intro b hb j u hu
  obtain ⟨hx, -, -⟩ := Kd.V_at h
  rw [List.getElem?_map, Option.map_eq_some_iff] at hu
  obtain ⟨x, hj, rfl⟩ := hu
  obtain ⟨hlt, hj⟩ := List.getElem?_eq_some_iff.1 hj
  obtain ⟨ad, e, hc⟩ := h.cell (j : Int) (by omega) (by omega)
  subst hb
  cases e
  rw [Int.toNat_natCast] at hc
  rw [hc, ← hj]
  simp [rd, hlt]

/-- One more number behind a row without room: a new row. -/
theorem step_append_one {ops : Array Oper} {o : Oper} {a : Act} {W : World} {K : Act → World → Prop} {Q : Exit → Act → World → Prop} {E : Prop} {ok : Nat → Prop} {A : Option Addr} {c0 g : Nat} {l : List Int} {x : Int}
    (hg : o.guard = none) (s y : Operand) (hop : o.op = Op.call { callee := Callee.builtin Builtin.append, args := #[s, y], argTypes := #[26, 26] })
    (hs : a.eval s = .slice A l.length l.length) (hy : a.eval y = .slice (some ⟨g, 0, none⟩) 1 1) (hR : RowI W ok (.slice A l.length c0) l) (hb : W.heap[g]? = some (.cells #[.int .i64 x] 3 (0, 0))) (hl : l.length < 1099511627776) (hok : ∀ k, W.heap.size ≤ k → ok k)
    (hK : ∀ A1 c1 w1, RowI w1 ok (.slice A1 (l.length + 1) c1) (l ++ [x]) → W.grownBy w1 none → K (a.put o.dst (.slice A1 (l.length + 1) c1)) w1) :
    if Region.wanted o (yielded ops a.tmps) = true then Oper.wp Try.prog o a W K Q else E := by
  obtain ⟨i0, hi, hz0, hz1, hz2⟩ := info_parts infoI
  refine step_append_grows hg s y 26 hop 3 i0 (.int .i64 0) 1 8 Try.underlying26 hi hz0 hz1 hz2 rfl (by decide) A l.length l.length (l.map (Value.int .i64)) hs (fun e => by subst e; exact ⟨hR.none, hR.none⟩) (by simp) hR.holds ⟨g, 0, Option.none⟩ 1 1 [.int .i64 x] hy rfl
    (World.news_of_block (cs := #[.int .i64 x]) hb) (by simp [Value.oneCell']) (by omega) (by unfold maxLen; omega) (by omega) (fun v' w' hown hgrow => ?_)
  have HR1 := RowI.of_own (xs := l ++ [x]) (ok := ok) (by simpa using hown) (by simp) hok
  obtain ⟨A1, c1, rfl⟩ := Kd.V_slice HR1
  have e : (l ++ [x]).length = l.length + 1 := by simp
  rw [e] at HR1 ⊢
  exact hK A1 c1 w' HR1 hgrow
theorem below_cell {w : World} {t j n : Nat} {o : Obj} (hlt : t < w.heap.size) : ((w.drewN n).alloc o).cell? ⟨t, j, none⟩ = w.cell? ⟨t, j, none⟩ := (below_alloc (Below.refl (w.drewN n).heap.size _) o).cell (p := ⟨t, j, none⟩) hlt
theorem below_frozen {w : World} {t j n : Nat} {o : Obj} (hlt : t < w.heap.size) : ((w.drewN n).alloc o).frozen? ⟨t, j, none⟩ = w.frozen? ⟨t, j, none⟩ := (below_alloc (Below.refl (w.drewN n).heap.size _) o).frozen (p := ⟨t, j, none⟩) hlt
set_option maxHeartbeats 2000000 in
theorem put_last (ok : Nat → Prop) (t m : Nat) (hm : m < 6) (T : Tb) (code : Int) (w : World) (hT : TabAt ok w t T) (hF : ∀ m, m < 6 → Fine (T m)) (hok : ∀ k, ok k → k ≠ t) (hnew : ∀ k, w.heap.size ≤ k → ok k) (c1 : ¬ code < 0) (c2 : ¬ 63 < code) (c5 : ¬ 32 ≤ (T m).codes.length) :
    Calls Try.prog 13 #[.pointer (some ⟨t, 0, none⟩), .int .i64 (m : Int), .int .i64 ((T m).got + ((T m).codes.length : Int) + 1), .int .i64 code] w fun e w' => e = .returned (.int .i64 0) ∧ TabAt ok w' t (T.upd m ⟨(T m).got, (T m).codes ++ [code]⟩) ∧ Chg (fun k => k = t) w w' := by
  obtain ⟨hc0, ⟨A, c, hc1, hlc, hR⟩, hfz⟩ := hT.cells hm
  have hlt := hT.lt
  have hf := hF m hm
  have hf0 := hf.1
  have hf1 := hf.2.1
  have hfr := hfz (m * 2 + 1)
  have HT := Aside0.mk hT
  have HR := Aside0.mk hR
  have HN := Aside0.mk hnew
  have HO := Aside0.mk hok
  have HNo := Aside0.mk (show A = none → (T m).codes.length = 0 ∧ (T m).codes.length = 0 from fun e => by subst e; exact ⟨hR.none, hR.none⟩)
  obtain ⟨i0, hi, hz0, hz1, hz2⟩ := info_parts infoI
  clear hT hF hf hfz hR hnew hok
  generalize hg : (T m).got = g at *
  have HG := Aside0.mk hg
  clear hg
  generalize (T m).codes = l at *
  have e1 : ¬ (1 ≤ g + (l.length : Int) + 1 ∧ g + (l.length : Int) + 1 < g + (l.length : Int) + 1) := by omega
  go_enter Try.func13, Try.ntmps13
  go_wp2_with (first | (go_at_call 26; refine (find_ok t m hm _).mono ?_; rintro e w' ⟨rfl, rfl⟩) | (go_at_call 27; refine (next_calls t (m * 2) g A _ c _ hf0 hf1 (by exact hc0) (by exact hc1)).mono ?_; rintro e w' ⟨rfl, k, rfl⟩))
  refine wp_plan [(0, 0, 49), (1, 0, 50), (2, 0, 51), (3, 0, 52), (4, 0, 53), (5, 0, 54), (6, 0, 55), (7, 0, 56), (8, 0, 57), (9, 0, 58), (10, 0, 59), (11, 0, 60), (12, 0, 61), (13, 0, 62), (14, 0, 63), (15, 0, 64), (16, 0, 65), (17, 2, 66), (18, 2, 67), (19, 1, 68), (20, 1, 69), (21, 3, 0)] [21] (fun W => W.cell? ⟨t, m * 2 + 1, none⟩ = some (.slice A l.length c)) (by kernel_rfl) rfl (by kernel_rfl) (fun _ t _ _ _ h => by cases t <;> exact h) hc1 (fun hS => ?_)
  repeat (refine RP.take (v := ?_) (a' := ?_) rfl rfl (by assumption) (Or.inl ⟨by rfl, ?_⟩) ?_ ?_; rotate_left; (focus (intro w' hS; go_simp; with_reducible rfl)); rotate_left; (focus (simp only [Act.put, List.setIfInBounds_toArray, List.set_cons_zero, List.set_cons_succ, i64_w, i32_w]; rfl)))
  refine RP.one rfl rfl (fun K hK => ?_)
  go_simp
  refine hK.out _ _ ((below_cell hlt).trans hc1) (fun hS => ?_)
  clear hK K
  refine RP.one rfl rfl (fun K hK => ?_)
  refine step_append_one (ok := ok) (A := A) (c0 := c) (g := w.heap.size) (l := l) (x := code) (by rfl) (.tmp 64) (.tmp 66) (by rfl) (by rfl) (by rfl) ((HR.out.drewN _).alloc _) (heap_alloc_new _ _) (by omega) (fun k hk => HN.out k (Nat.le_trans (below_alloc (Below.refl _ (w.drewN _)) _).size hk)) ?_
  intro A1 c1 w1 HR1 hgrow
  have hcz1 : w1.cell? ⟨t, m * 2 + 1, none⟩ = some (.slice A l.length c) := (hgrow.cell_far _ (by simp; omega) (by simp)).trans ((below_cell hlt).trans hc1)
  have hfz1 : w1.frozen? ⟨t, m * 2 + 1, none⟩ = false := (hgrow.frozen_far _ (by simp; omega) (by simp)).trans ((below_frozen hlt).trans hfr)
  refine hK.out _ _ hcz1 (fun hS => ?_)
  clear hK K
  have hg2 := Aside0.mk (Chg.grown (((Chg.refl (fun _ => False) w).drewN _).alloc _) hgrow)
  have HR2 := Aside0.mk HR1
  clear hgrow HR1
  refine RP.norm (a' := ?_) ?_ ?_
  rotate_left
  · simp only [Act.put, List.setIfInBounds_toArray, List.set_cons_zero, List.set_cons_succ, i64_w, i32_w]
    rfl
  repeat (refine RP.pure (v := ?_) (a' := ?_) rfl rfl (Or.inl ⟨by rfl, ?_⟩) ?_ ?_; rotate_left; (focus (intro w'; go_simp; with_reducible rfl)); rotate_left; (focus (simp only [Act.put, List.setIfInBounds_toArray, List.set_cons_zero, List.set_cons_succ, i64_w, i32_w]; rfl)))
  refine RP.last rfl rfl (fun K hK => ?_)
  go_simp
  refine hK.out _ _ (RP.nil ?_)
  clear hK K
  go_wp2
  go_ret
  refine ⟨rfl, ?_, Chg.set (S := fun k => k = t) (p := ⟨t, m * 2 + 1, none⟩) (hg2.out.mono (fun _ h => h.elim)) (.inl rfl) _⟩
  rw [← HG.out]
  exact (HT.out.chg hg2.out (fun h => h) (fun _ _ h => h)).setCodes HO.out hm HR2.out
set_option maxHeartbeats 2000000 in
theorem put_not (ok : Nat → Prop) (t m : Nat) (hm : m < 6) (T : Tb) (seq code r : Int) (w : World) (hT : TabAt ok w t T) (hF : ∀ m, m < 6 → Fine (T m))
    (h : code < 0 ∧ r = 2 ∨ 63 < code ∧ r = 2 ∨ (¬ code < 0 ∧ ¬ 63 < code ∧ 1 ≤ seq ∧ seq < nextOf (T m) ∧ r = 9) ∨ (¬ code < 0 ∧ ¬ 63 < code ∧ ¬ (1 ≤ seq ∧ seq < nextOf (T m)) ∧ seq ≠ nextOf (T m) ∧ r = 3) ∨ (¬ code < 0 ∧ ¬ 63 < code ∧ seq = nextOf (T m) ∧ 32 ≤ ((T m).codes.length : Int) ∧ r = 10)) :
    Calls Try.prog 13 #[.pointer (some ⟨t, 0, none⟩), .int .i64 (m : Int), .int .i64 seq, .int .i64 code] w fun e w' => e = .returned (.int .i64 r) ∧ ∃ k, w' = w.drewN k := by
  obtain ⟨hc0, ⟨A, c, hc1, hlc, -⟩, -⟩ := hT.cells hm
  have hf := hF m hm
  have hf0 := hf.1
  have hf1 := hf.2.1
  unfold nextOf at h
  clear hT hF hf
  generalize (T m).got = g at *
  generalize (T m).codes = l at *
  have hl0 : 0 ≤ (l.length : Int) := by omega
  rcases h with ⟨h1, rfl⟩ | ⟨h1, rfl⟩ | ⟨h1, h2, h3, h4, rfl⟩ | ⟨h1, h2, h3, h4, rfl⟩ | ⟨h1, h2, rfl, h4, rfl⟩
  case' inr.inr.inr.inl => by_cases h5 : 1 ≤ seq
  all_goals
    go_enter Try.func13, Try.ntmps13
    go_wp2_with (first | (go_at_call 26; refine (find_ok t m hm _).mono ?_; rintro e w' ⟨rfl, rfl⟩) | (go_at_call 27; refine (next_calls t (m * 2) g A _ c _ hf0 hf1 (by exact hc0) (by exact hc1)).mono ?_; rintro e w' ⟨rfl, k, rfl⟩))
  all_goals go_ret
  all_goals exact ⟨rfl, by first | exact ⟨_, rfl⟩ | exact ⟨0, rfl⟩⟩

theorem Put_calls (ok : Nat → Prop) (t : Nat) (T : Tb) (n seq code : Int) (w : World) (hT : TabAt ok w t T) (hF : ∀ m, m < 6 → Fine (T m)) (hok : ∀ k, ok k → k ≠ t) (hnew : ∀ k, w.heap.size ≤ k → ok k) :
    Calls Try.prog 13 #[.pointer (some ⟨t, 0, none⟩), .int .i64 n, .int .i64 seq, .int .i64 code] w fun e w' => e = .returned (.int .i64 (dPut T n seq code).1) ∧ TabAt ok w' t (dPut T n seq code).2 ∧ Chg (fun k => k = t) w w' := by
  have quiet : ∀ {r : Int} {n : Int}, (Calls Try.prog 13 #[.pointer (some ⟨t, 0, none⟩), .int .i64 n, .int .i64 seq, .int .i64 code] w fun e w' => e = .returned (.int .i64 r) ∧ ∃ k, w' = w.drewN k) →
      Calls Try.prog 13 #[.pointer (some ⟨t, 0, none⟩), .int .i64 n, .int .i64 seq, .int .i64 code] w fun e w' => e = .returned (.int .i64 r) ∧ TabAt ok w' t T ∧ Chg (fun k => k = t) w w' := by
    intro r n h
    refine h.mono fun e w' he => ?_
    obtain ⟨he, k, rfl⟩ := he
    have hc := (Chg.refl (fun k : Nat => False) w).drewN k
    exact ⟨he, hT.chg hc (fun h => h) (fun _ _ h => h), hc.mono (fun _ h => h.elim)⟩
  by_cases hn : isC n
  · obtain ⟨m, hm, rfl⟩ := isC_nat hn
    unfold dPut
    rw [if_pos hn, Int.toNat_natCast]
    by_cases h1 : code < 0 ∨ 63 < code
    · rw [if_pos h1]
      exact quiet (put_not ok t m hm T seq code 2 w hT hF (by omega))
    · rw [if_neg h1]
      by_cases h2 : 1 ≤ seq ∧ seq < nextOf (T m)
      · rw [if_pos h2]
        exact quiet (put_not ok t m hm T seq code 9 w hT hF (by omega))
      · rw [if_neg h2]
        by_cases h3 : seq ≠ nextOf (T m)
        · rw [if_pos h3]
          exact quiet (put_not ok t m hm T seq code 3 w hT hF (by omega))
        · rw [if_neg h3]
          have h3 : seq = nextOf (T m) := by omega
          by_cases h4 : 32 ≤ ((T m).codes.length : Int)
          · rw [if_pos h4]
            exact quiet (put_not ok t m hm T seq code 10 w hT hF (by omega))
          · rw [if_neg h4]
            subst h3
            exact put_last ok t m hm T code w hT hF hok hnew (by omega) (by omega) (by omega)
  · have e : dPut T n seq code = (14, T) := if_neg hn
    rw [e]
    refine quiet ?_
    have hn := not_isC hn
    clear e quiet hT hF hok hnew
    go_enter Try.func13, Try.ntmps13
    go_wp2_with (go_at_call 26; refine (find_bad t n hn _).mono ?_; rintro e w' ⟨rfl, rfl⟩)
    go_ret
    exact ⟨rfl, 0, rfl⟩

end Go.Proofs.Ytfmlamnkpoloaaa.Q
