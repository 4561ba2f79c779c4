/- Texts of this session laid together (merge.py): YtlcgmlfiggkppaaQf37, YtlcgmlfiggkppaaQf18, YtlcgmlfiggkppaaHRef, YtlcgmlfiggkppaaHLists, YtlcgmlfiggkppaaHSame, YtlcgmlfiggkppaaHJoin, YtlcgmlfiggkppaaPurePatternWhole. -/
import Derived.Test.YtlcgmlfiggkppaaTPatternWholef
-- By px.py, a program of this session that drives the kit's printer: laid out of the translation; Lean checks it.
namespace Go.Proofs.Ytlcgmlfiggkppaa.Q
open Go.RowKit Go.Proofs.YtlcgmlfiggkppaaW.PrintWords Go.Proofs.YtlcgmlfiggkppaaW.PrintLast Go.Proofs.YtlcgmlfiggkppaaW.PrintMore
attribute [local go_sem] max2_int min2_int max_two min_two max_three min_three max_four min_four   -- for this text's walks alone
set_option linter.unusedVariables false
set_option linter.unusedSimpArgs false

/-! ### surmiseref08_meets: function 37 -/
mutual
def surmiseref08_meets.j0 : Nat → List ByteArray → List ByteArray → Bool → Option (Bool)
  | 0, _, _, _ => none
  | k + 1, x0, x1, x24 => if x24 = true then (some true) else (if (x0.length : Int) = 0 then (some ((x1.length : Int) == 0)) else (if (x1.length : Int) = 0 then (some false) else (if 0 < (x0.length : Int) then (if (rdOf ByteArray.empty x0 0).toList = ([42] : List UInt8) then (if 1 ≤ (x0.length : Int) then (if 1 ≤ (x1.length : Int) then ((surmiseref08_meets.f k (x0.drop 1) (x1.drop 1)).bind fun t261 => (some t261)) else (none)) else (none)) else (if 0 < (x1.length : Int) then (if (rdOf ByteArray.empty x1 0).toList = ([42] : List UInt8) then (if 1 ≤ (x0.length : Int) then (if 1 ≤ (x1.length : Int) then ((surmiseref08_meets.f k (x0.drop 1) (x1.drop 1)).bind fun t265 => (some t265)) else (none)) else (none)) else (if (rdOf ByteArray.empty x0 0).toList = (rdOf ByteArray.empty x1 0).toList then (if 1 ≤ (x0.length : Int) then (if 1 ≤ (x1.length : Int) then ((surmiseref08_meets.f k (x0.drop 1) (x1.drop 1)).bind fun t270 => (some t270)) else (none)) else (none)) else (some false))) else (none))) else (none))))
def surmiseref08_meets.f : Nat → List ByteArray → List ByteArray → Option (Bool)
  | 0, _, _ => none
  | k + 1, l0, l1 => if (l0.length : Int) = 1 then (if 0 < (l0.length : Int) then (if (rdOf ByteArray.empty l0 0).toList = ([42, 42] : List UInt8) then (surmiseref08_meets.j0 k l0 l1 true) else (if (l1.length : Int) = 1 then (if 0 < (l1.length : Int) then (surmiseref08_meets.j0 k l0 l1 ((rdOf ByteArray.empty l1 0).toList == ([42, 42] : List UInt8))) else (none)) else (surmiseref08_meets.j0 k l0 l1 false))) else (none)) else (if (l1.length : Int) = 1 then (if 0 < (l1.length : Int) then (surmiseref08_meets.j0 k l0 l1 ((rdOf ByteArray.empty l1 0).toList == ([42, 42] : List UInt8))) else (none)) else (surmiseref08_meets.j0 k l0 l1 false))
end
theorem surmiseref08_meets.mono_l : ∀ k, (∀ y0 y1, LeO (surmiseref08_meets.f k y0 y1) (surmiseref08_meets.f (k + 1) y0 y1)) ∧ (∀ y0 y1 y2, LeO (surmiseref08_meets.j0 k y0 y1 y2) (surmiseref08_meets.j0 (k + 1) y0 y1 y2))
  | 0 => ⟨fun _ _ r h => by simp [surmiseref08_meets.f] at h, fun _ _ _ r h => by simp [surmiseref08_meets.j0] at h⟩
  | k + 1 => by
    obtain ⟨ih0, ih1⟩ := surmiseref08_meets.mono_l k
    refine ⟨?_, ?_⟩
    · intro y0 y1
      unfold surmiseref08_meets.f
      repeat' first
      | (with_reducible exact ih0 _ _)
      | (with_reducible exact ih1 _ _ _)
      | (with_reducible exact LeO.refl _)
      | (with_reducible exact LeO.none _)
      | (with_reducible refine LeO.ite ?_ ?_)
      | (with_reducible refine LeO.bind ?_ (fun _ => ?_))
      | exact ih0 _ _
      | exact ih1 _ _ _
      | exact LeO.none _
      | refine LeO.ite ?_ ?_
      | refine LeO.bind ?_ (fun _ => ?_)
    · intro y0 y1 y2
      unfold surmiseref08_meets.j0
      repeat' first
      | (with_reducible exact ih0 _ _)
      | (with_reducible exact ih1 _ _ _)
      | (with_reducible exact LeO.refl _)
      | (with_reducible exact LeO.none _)
      | (with_reducible refine LeO.ite ?_ ?_)
      | (with_reducible refine LeO.bind ?_ (fun _ => ?_))
      | exact ih0 _ _
      | exact ih1 _ _ _
      | exact LeO.none _
      | refine LeO.ite ?_ ?_
      | refine LeO.bind ?_ (fun _ => ?_)
theorem surmiseref08_meets.mono : ∀ a0 a1 k, LeO (surmiseref08_meets.f k a0 a1) (surmiseref08_meets.f (k + 1) a0 a1) := by
  intro a0 a1 k
  obtain ⟨ih0, ih1⟩ := surmiseref08_meets.mono_l k
  exact ih0 a0 a1
def surmiseref08_meets.T5 : Bool × List (List Nat × List Nat) := (true, [([], []), ([0], [0]), ([1], [1]), ([2], [2]), ([3], [3]), ([4], [4]), ([5, 4], [4, 5]), ([6, 4], [4, 6]), ([7, 4], [4, 7]), ([4, 8], [4, 8]), ([9, 4], [9]), ([10], [10]), ([11, 10], [10, 11]), ([12, 10], [10, 12]), ([10], [10]), ([14, 10], [10, 14]), ([15, 10], [10, 15]), ([13, 16, 10], [10, 13, 16]), ([10, 17], [10, 17]), ([18, 10], [18]), ([19], [19]), ([20, 19], [19, 20]), ([19], [19]), ([22, 19], [19, 22]), ([21, 23, 19, 19], [19, 21, 23]), ([19, 24], [19, 24]), ([25, 24, 0, 1, 2, 3, 4, 5, 6, 7, 8, 9, 10, 11, 12, 13, 14, 15, 16, 17, 18, 19, 20, 21, 22, 23, 24, 25], [25])])
def surmiseref08_meets.B5 : List Nat := [0, 1, 3, 7, 15, 31, 63, 127, 255, 511, 1023, 2047, 4095, 8191, 2047, 18431, 51199, 131071, 262143, 524287, 1048575, 2097151, 1048575, 5242879, 16777215, 33554431, 67108863]
theorem surmiseref08_meets.tab5 : rtab .any (opsOf Try.f37 5) = surmiseref08_meets.T5 := by kernel_rfl
theorem surmiseref08_meets.bits5 : waitsOk surmiseref08_meets.T5.2 surmiseref08_meets.B5 = true := by kernel_rfl
set_option maxHeartbeats 8000000 in
set_option maxRecDepth 100000 in
theorem surmiseref08_meets.calls (k : Nat) : ∀ (A0 : Option Addr) (c0 : Nat) (l0 : List ByteArray) (A1 : Option Addr) (c1 : Nat) (l1 : List ByteArray) (r : Bool) (w : World) (hr0 : Kd.C Kd.string w A0 l0.length l0) (hc0 : l0.length ≤ c0) (hr1 : Kd.C Kd.string w A1 l1.length l1) (hc1 : l1.length ≤ c1) (h : surmiseref08_meets.f k l0 l1 = some r),
    Calls Try.prog 37 #[.slice A0 l0.length c0, .slice A1 l1.length c1] w fun e w' => e = .returned (.bool r) ∧ Below w.heap.size w w' := by
  induction k using Nat.strongRecOn with
  | _ k ih =>
  intro A0 c0 l0 A1 c1 l1 r w hr0 hc0 hr1 hc1 h
  cases k with
  | zero => exact absurd h (by simp [surmiseref08_meets.f])
  | succ k =>
  simp only [surmiseref08_meets.f] at h
  have HR0 := Aside0.mk hr0
  have HC0 := Aside0.mk hc0
  clear hr0 hc0
  have HR1 := Aside0.mk hr1
  have HC1 := Aside0.mk hc1
  clear hr1 hc1
  have HB := Aside0.mk (Below.refl w.heap.size w)
  have H : (if (l0.length : Int) = 1 then (if 0 < (l0.length : Int) then (if (rdOf ByteArray.empty l0 0).toList = ([42, 42] : List UInt8) then (surmiseref08_meets.j0 k l0 l1 true) else (if (l1.length : Int) = 1 then (if 0 < (l1.length : Int) then (surmiseref08_meets.j0 k l0 l1 ((rdOf ByteArray.empty l1 0).toList == ([42, 42] : List UInt8))) else (none)) else (surmiseref08_meets.j0 k l0 l1 false))) else (none)) else (if (l1.length : Int) = 1 then (if 0 < (l1.length : Int) then (surmiseref08_meets.j0 k l0 l1 ((rdOf ByteArray.empty l1 0).toList == ([42, 42] : List UInt8))) else (none)) else (surmiseref08_meets.j0 k l0 l1 false))) = some r := h
  clear h
  have HC3 := Aside0.mk H
  clear H
  go_enter Try.func37, Try.ntmps37
  go_upto_region 1 with (fail)
  go_cut [24] (fun v24 wc => ∃ (kq : Nat) (x24_2 : Bool), v24 = .bool x24_2 ∧ Aside0 (surmiseref08_meets.j0 kq l0 l1 x24_2 = some r) ∧ Aside0 (kq ≤ k) ∧ Aside0 (Below w.heap.size w wc))
  case first =>
    have H := HC3.out
    clear HC3
    by_cases c4 : (l0.length : Int) = 1
    · rw [if_pos c4] at H
      have c4b0 : ((l0.length : Int) == 1) = true := beq_iff_eq.mpr c4
      have c4b1 : ((l0.length : Int) != 1) = false := bne_eq_false_iff_eq.mpr c4
      clear c4
      (first | rw [c4b0] | (simp only [i64_w, i32_w]; rw [c4b0]) | skip)
      by_cases c5 : 0 < (l0.length : Int)
      · rw [if_pos c5] at H
        have c5b0 : decide (0 < (l0.length : Int)) = true := decide_eq_true c5
        have c5b1 : decide (0 < l0.length) = true := decide_eq_true (by omega)
        clear c5
        by_cases c6 : (rdOf ByteArray.empty l0 0).toList = ([42, 42] : List UInt8)
        · rw [if_pos c6] at H
          have c6b0 : ((rdOf ByteArray.empty l0 0).toList == ([42, 42] : List UInt8)) = true := beq_iff_eq.mpr c6
          have c6b1 : ((rdOf ByteArray.empty l0 0).toList != ([42, 42] : List UInt8)) = false := bne_eq_false_iff_eq.mpr c6
          clear c6
          have H' := Aside0.mk H
          clear H
          have p255 : 0 ≤ (0 : Int) := (by omega)
          have q255 : 0 < (l0.length : Int) := of_decide_eq_true (by first | (with_reducible assumption) | assumption)
          obtain ⟨ad255, e255, hx255_0⟩ := Kd.at_string HR0.out 0 p255 q255
          cases e255
          have qi255 : (0 < l0.length) = True := eq_true (by omega)
          (try rw [show ((0 : Int)).toNat = 0 from rfl] at hx255_0)
          (try rw [Addr.add_zero'] at hx255_0)
          replace hx255_0 := (HB.out.cell (World.block_lt_of_cell? w _ hx255_0)).trans hx255_0
          replace p255 := eq_true p255
          replace q255 := eq_true q255
          go_wp2
          go_meet
          case rel => exact ⟨_, (true), (by first | rfl | (simp; done) | (simp [*]; done)), H', ⟨by first | omega | exact Nat.le_refl _⟩, ⟨by repeat (first | (with_reducible first | exact HB.out | apply below_alloc | apply pw_below_drewN | apply below_drew1) | exact HB.out)⟩⟩
        · rw [if_neg c6] at H
          have c6b0 : ((rdOf ByteArray.empty l0 0).toList == ([42, 42] : List UInt8)) = false := beq_eq_false_iff_ne.mpr c6
          have c6b1 : ((rdOf ByteArray.empty l0 0).toList != ([42, 42] : List UInt8)) = true := bne_iff_ne.mpr c6
          by_cases c7 : (l1.length : Int) = 1
          · rw [if_pos c7] at H
            have c7b0 : ((l1.length : Int) == 1) = true := beq_iff_eq.mpr c7
            have c7b1 : ((l1.length : Int) != 1) = false := bne_eq_false_iff_eq.mpr c7
            clear c7
            by_cases c8 : 0 < (l1.length : Int)
            · rw [if_pos c8] at H
              have c8b0 : decide (0 < (l1.length : Int)) = true := decide_eq_true c8
              have c8b1 : decide (0 < l1.length) = true := decide_eq_true (by omega)
              clear c8
              have H' := Aside0.mk H
              clear H
              have p255 : 0 ≤ (0 : Int) := (by omega)
              have q255 : 0 < (l0.length : Int) := of_decide_eq_true (by first | (with_reducible assumption) | assumption)
              obtain ⟨ad255, e255, hx255_0⟩ := Kd.at_string HR0.out 0 p255 q255
              cases e255
              have qi255 : (0 < l0.length) = True := eq_true (by omega)
              (try rw [show ((0 : Int)).toNat = 0 from rfl] at hx255_0)
              (try rw [Addr.add_zero'] at hx255_0)
              replace hx255_0 := (HB.out.cell (World.block_lt_of_cell? w _ hx255_0)).trans hx255_0
              replace p255 := eq_true p255
              replace q255 := eq_true q255
              have p256 : 0 ≤ (0 : Int) := (by omega)
              have q256 : 0 < (l1.length : Int) := of_decide_eq_true (by first | (with_reducible assumption) | assumption)
              obtain ⟨ad256, e256, hx256_0⟩ := Kd.at_string HR1.out 0 p256 q256
              cases e256
              have qi256 : (0 < l1.length) = True := eq_true (by omega)
              (try rw [show ((0 : Int)).toNat = 0 from rfl] at hx256_0)
              (try rw [Addr.add_zero'] at hx256_0)
              replace hx256_0 := (HB.out.cell (World.block_lt_of_cell? w _ hx256_0)).trans hx256_0
              replace p256 := eq_true p256
              replace q256 := eq_true q256
              go_wp2
              go_meet
              case rel => exact ⟨_, (((rdOf ByteArray.empty l1 0).toList == ([42, 42] : List UInt8))), (by first | rfl | (simp; done) | (simp [*]; done)), H', ⟨by first | omega | exact Nat.le_refl _⟩, ⟨by repeat (first | (with_reducible first | exact HB.out | apply below_alloc | apply pw_below_drewN | apply below_drew1) | exact HB.out)⟩⟩
            · rw [if_neg c8] at H
              exact absurd H (by simp)
          · rw [if_neg c7] at H
            have c7b0 : ((l1.length : Int) == 1) = false := beq_eq_false_iff_ne.mpr c7
            have c7b1 : ((l1.length : Int) != 1) = true := bne_iff_ne.mpr c7
            have H' := Aside0.mk H
            clear H
            have p255 : 0 ≤ (0 : Int) := (by omega)
            have q255 : 0 < (l0.length : Int) := of_decide_eq_true (by first | (with_reducible assumption) | assumption)
            obtain ⟨ad255, e255, hx255_0⟩ := Kd.at_string HR0.out 0 p255 q255
            cases e255
            have qi255 : (0 < l0.length) = True := eq_true (by omega)
            (try rw [show ((0 : Int)).toNat = 0 from rfl] at hx255_0)
            (try rw [Addr.add_zero'] at hx255_0)
            replace hx255_0 := (HB.out.cell (World.block_lt_of_cell? w _ hx255_0)).trans hx255_0
            replace p255 := eq_true p255
            replace q255 := eq_true q255
            go_wp2
            go_meet
            case rel => exact ⟨_, (false), (by first | rfl | (simp; done) | (simp [*]; done)), H', ⟨by first | omega | exact Nat.le_refl _⟩, ⟨by repeat (first | (with_reducible first | exact HB.out | apply below_alloc | apply pw_below_drewN | apply below_drew1) | exact HB.out)⟩⟩
      · rw [if_neg c5] at H
        exact absurd H (by simp)
    · rw [if_neg c4] at H
      have c4b0 : ((l0.length : Int) == 1) = false := beq_eq_false_iff_ne.mpr c4
      have c4b1 : ((l0.length : Int) != 1) = true := bne_iff_ne.mpr c4
      (first | rw [c4b0] | (simp only [i64_w, i32_w]; rw [c4b0]) | skip)
      by_cases c9 : (l1.length : Int) = 1
      · rw [if_pos c9] at H
        have c9b0 : ((l1.length : Int) == 1) = true := beq_iff_eq.mpr c9
        have c9b1 : ((l1.length : Int) != 1) = false := bne_eq_false_iff_eq.mpr c9
        clear c9
        by_cases c10 : 0 < (l1.length : Int)
        · rw [if_pos c10] at H
          have c10b0 : decide (0 < (l1.length : Int)) = true := decide_eq_true c10
          have c10b1 : decide (0 < l1.length) = true := decide_eq_true (by omega)
          clear c10
          have H' := Aside0.mk H
          clear H
          have p257 : 0 ≤ (0 : Int) := (by omega)
          have q257 : 0 < (l1.length : Int) := of_decide_eq_true (by first | (with_reducible assumption) | assumption)
          obtain ⟨ad257, e257, hx257_0⟩ := Kd.at_string HR1.out 0 p257 q257
          cases e257
          have qi257 : (0 < l1.length) = True := eq_true (by omega)
          (try rw [show ((0 : Int)).toNat = 0 from rfl] at hx257_0)
          (try rw [Addr.add_zero'] at hx257_0)
          replace hx257_0 := (HB.out.cell (World.block_lt_of_cell? w _ hx257_0)).trans hx257_0
          replace p257 := eq_true p257
          replace q257 := eq_true q257
          go_wp2
          go_meet
          case rel => exact ⟨_, (((rdOf ByteArray.empty l1 0).toList == ([42, 42] : List UInt8))), (by first | rfl | (simp; done) | (simp [*]; done)), H', ⟨by first | omega | exact Nat.le_refl _⟩, ⟨by repeat (first | (with_reducible first | exact HB.out | apply below_alloc | apply pw_below_drewN | apply below_drew1) | exact HB.out)⟩⟩
        · rw [if_neg c10] at H
          exact absurd H (by simp)
      · rw [if_neg c9] at H
        have c9b0 : ((l1.length : Int) == 1) = false := beq_eq_false_iff_ne.mpr c9
        have c9b1 : ((l1.length : Int) != 1) = true := bne_iff_ne.mpr c9
        have H' := Aside0.mk H
        clear H
        go_wp2
        go_meet
        case rel => exact ⟨_, (false), (by first | rfl | (simp; done) | (simp [*]; done)), H', ⟨by first | omega | exact Nat.le_refl _⟩, ⟨by repeat (first | (with_reducible first | exact HB.out | apply below_alloc | apply pw_below_drewN | apply below_drew1) | exact HB.out)⟩⟩
  case rest =>
    clear HC3
    try clear c1
    try clear p2
    try clear q2
    try clear hx2
    try clear qi2
    try clear c3
    try clear c4
    try clear c4b0
    try clear c4b1
    try clear c5
    try clear c5b0
    try clear c5b1
    try clear c6
    try clear c6b0
    try clear c6b1
    try clear c7
    try clear c7b0
    try clear c7b1
    try clear c8
    try clear c8b0
    try clear c8b1
    try clear c9
    try clear c9b0
    try clear c9b1
    try clear c10
    try clear c10b0
    try clear c10b1
    try clear hx255_0
    try clear hx256_0
    try clear hx257_0
    try clear p255
    try clear p256
    try clear p257
    try clear q255
    try clear q256
    try clear q257
    obtain ⟨kq, x24_2, rfl, HA, HJ2, HB⟩ := hcut
    cases kq with
    | zero => exact absurd HA.out (by simp [surmiseref08_meets.j0])
    | succ kj2 =>
      have H := HA.out
      clear HA
      simp only [surmiseref08_meets.j0] at H
      by_cases c11 : x24_2 = true
      · subst c11
        have H1 : (some true) = some r := by rw [if_pos rfl] at H; exact H
        clear H
        have H := H1
        clear H1
        obtain rfl := Option.some.inj H
        go_wp2
        go_ret
        exact ⟨by first | rfl | (simp [errW_none, errW_some] <;> rfl) | (simp [*, errW_none, errW_some] <;> rfl), by repeat (first | (with_reducible first | exact HB.out | apply below_alloc | apply pw_below_drewN | apply below_drew1) | exact HB.out)⟩
      · replace c11 := Bool.eq_false_iff.mpr c11
        subst c11
        have H1 : (if (l0.length : Int) = 0 then (some ((l1.length : Int) == 0)) else (if (l1.length : Int) = 0 then (some false) else (if 0 < (l0.length : Int) then (if (rdOf ByteArray.empty l0 0).toList = ([42] : List UInt8) then (if 1 ≤ (l0.length : Int) then (if 1 ≤ (l1.length : Int) then ((surmiseref08_meets.f kj2 (l0.drop 1) (l1.drop 1)).bind fun t261 => (some t261)) else (none)) else (none)) else (if 0 < (l1.length : Int) then (if (rdOf ByteArray.empty l1 0).toList = ([42] : List UInt8) then (if 1 ≤ (l0.length : Int) then (if 1 ≤ (l1.length : Int) then ((surmiseref08_meets.f kj2 (l0.drop 1) (l1.drop 1)).bind fun t265 => (some t265)) else (none)) else (none)) else (if (rdOf ByteArray.empty l0 0).toList = (rdOf ByteArray.empty l1 0).toList then (if 1 ≤ (l0.length : Int) then (if 1 ≤ (l1.length : Int) then ((surmiseref08_meets.f kj2 (l0.drop 1) (l1.drop 1)).bind fun t270 => (some t270)) else (none)) else (none)) else (some false))) else (none))) else (none)))) = some r := by rw [if_neg (show ¬ (false = true) by decide)] at H; exact H
        clear H
        have H := H1
        clear H1
        by_cases c12 : (l0.length : Int) = 0
        · rw [if_pos c12] at H
          have c12b0 : ((l0.length : Int) == 0) = true := beq_iff_eq.mpr c12
          have c12b1 : ((l0.length : Int) != 0) = false := bne_eq_false_iff_eq.mpr c12
          clear c12
          obtain rfl := Option.some.inj H
          go_wp2
          go_ret
          exact ⟨by first | rfl | (simp [errW_none, errW_some] <;> rfl) | (simp [*, errW_none, errW_some] <;> rfl), by repeat (first | (with_reducible first | exact HB.out | apply below_alloc | apply pw_below_drewN | apply below_drew1) | exact HB.out)⟩
        · rw [if_neg c12] at H
          have c12b0 : ((l0.length : Int) == 0) = false := beq_eq_false_iff_ne.mpr c12
          have c12b1 : ((l0.length : Int) != 0) = true := bne_iff_ne.mpr c12
          have c12b2 : ¬ (l0 = []) := fun h_ => c12 (by rw [h_]; rfl)
          by_cases c13 : (l1.length : Int) = 0
          · rw [if_pos c13] at H
            have c13b0 : ((l1.length : Int) == 0) = true := beq_iff_eq.mpr c13
            have c13b1 : ((l1.length : Int) != 0) = false := bne_eq_false_iff_eq.mpr c13
            clear c13
            obtain rfl := Option.some.inj H
            go_wp2
            go_ret
            exact ⟨by first | rfl | (simp [errW_none, errW_some] <;> rfl) | (simp [*, errW_none, errW_some] <;> rfl), by repeat (first | (with_reducible first | exact HB.out | apply below_alloc | apply pw_below_drewN | apply below_drew1) | exact HB.out)⟩
          · rw [if_neg c13] at H
            have c13b0 : ((l1.length : Int) == 0) = false := beq_eq_false_iff_ne.mpr c13
            have c13b1 : ((l1.length : Int) != 0) = true := bne_iff_ne.mpr c13
            have c13b2 : ¬ (l1 = []) := fun h_ => c13 (by rw [h_]; rfl)
            by_cases c14 : 0 < (l0.length : Int)
            · rw [if_pos c14] at H
              have c14b0 : decide (0 < (l0.length : Int)) = true := decide_eq_true c14
              have c14b1 : decide (0 < l0.length) = true := decide_eq_true (by omega)
              clear c14
              by_cases c15 : (rdOf ByteArray.empty l0 0).toList = ([42] : List UInt8)
              · rw [if_pos c15] at H
                have c15b0 : ((rdOf ByteArray.empty l0 0).toList == ([42] : List UInt8)) = true := beq_iff_eq.mpr c15
                have c15b1 : ((rdOf ByteArray.empty l0 0).toList != ([42] : List UInt8)) = false := bne_eq_false_iff_eq.mpr c15
                clear c15
                by_cases c16 : 1 ≤ (l0.length : Int)
                · rw [if_pos c16] at H
                  have c16b0 := eq_true c16
                  have c16b1 : decide (1 ≤ (l0.length : Int)) = true := decide_eq_true c16
                  clear c16
                  by_cases c17 : 1 ≤ (l1.length : Int)
                  · rw [if_pos c17] at H
                    have c17b0 := eq_true c17
                    have c17b1 : decide (1 ≤ (l1.length : Int)) = true := decide_eq_true c17
                    clear c17
                    replace H := Option.bind_eq_some_iff.mp H
                    obtain ⟨t261, A180, H⟩ := H
                    replace H : (some t261) = some r := H
                    have A18 := Aside0.mk A180
                    clear A180
                    obtain rfl := Option.some.inj H
                    try go_wp2
                    have n0_ := Aside0.mk (below_drew1 HB.out)
                    clear HB
                    have HB := n0_
                    clear n0_
                    have p258 : 0 ≤ (0 : Int) := (by omega)
                    have q258 : 0 < (l0.length : Int) := of_decide_eq_true (by first | (with_reducible assumption) | assumption)
                    obtain ⟨ad258, e258, hx258_0⟩ := Kd.at_string HR0.out 0 p258 q258
                    have hw258_0 := hx258_0
                    (try rw [show ((0 : Int)).toNat = 0 from rfl] at hw258_0)
                    (try rw [show 0 * 1 = 0 from rfl] at hw258_0)
                    (try rw [Addr.add_zero'] at hw258_0)
                    cases e258
                    have qi258 : (0 < l0.length) = True := eq_true (by omega)
                    (try rw [show ((0 : Int)).toNat = 0 from rfl] at hx258_0)
                    (try rw [Addr.add_zero'] at hx258_0)
                    replace hx258_0 := (HB.out.cell (World.block_lt_of_cell? w _ hx258_0)).trans hx258_0
                    replace p258 := eq_true p258
                    replace q258 := eq_true q258
                    obtain ⟨i020, hi020, _, hsz20, _⟩ := info_parts info9
                    obtain ⟨A20, hcut20, hA20, hC20⟩ := print_drop_of (P := Try.prog) Value.string (⟨#[]⟩ : ByteArray) 31 9 .i64 Try.underlying31 hi020 hsz20 (some ad258) c0 l0 1 (by omega) (of_decide_eq_true (by first | (with_reducible assumption) | assumption)) HC0.out
                    have HR259 := Aside0.mk (Kd.C_of_reads (h1 := fun _ => rfl) (hA20 _ (Kd.reads_of_C HR0.out)))
                    have HC259 := Aside0.mk hC20
                    clear hA20 hC20 hi020 hsz20
                    obtain ⟨i021, hi021, _, hsz21, _⟩ := info_parts info9
                    obtain ⟨A21, hcut21, hA21, hC21⟩ := print_drop_of (P := Try.prog) Value.string (⟨#[]⟩ : ByteArray) 31 9 .i64 Try.underlying31 hi021 hsz21 A1 c1 l1 1 (by omega) (of_decide_eq_true (by first | (with_reducible assumption) | assumption)) HC1.out
                    have HR260 := Aside0.mk (Kd.C_of_reads (h1 := fun _ => rfl) (hA21 _ (Kd.reads_of_C HR1.out)))
                    have HC260 := Aside0.mk hC21
                    clear hA21 hC21 hi021 hsz21
                    refine start_ (n := 27) (S := fun w' => w'.cell? ad258 = some (.string (rdOf ByteArray.empty l0 0))) (ds := []) #[false, false, false, false, false, false, false, false, false, false, false, false, false, false, false, false, false, false, false, false, false, false, false, false, false, false, false] (by kernel_rfl) rfl rfl (((HB.out.cell (World.block_lt_of_cell? w _ hw258_0)).trans hw258_0)) (fun hHeld => ?_); refine with_tabW surmiseref08_meets.tab5 surmiseref08_meets.bits5 (fun HT_ HW_ => ?_)
                    generalize wc.drew = w19 at HB HR259 HR260 hx258_0 hHeld ⊢
                    refine pure_ (i := 0) (N := some 41) (v := ?_) (a' := ?_) #[true, false, false, false, false, false, false, false, false, false, false, false, false, false, false, false, false, false, false, false, false, false, false, false, false, false, false] rfl rfl (any_of HT_.out (by kernel_rfl)) (fun _ _ _ h => h) (Or.inl ⟨by rfl, ?_⟩) ?_ ?_
                    rotate_left
                    · intro w'
                      go_simp
                      with_reducible rfl
                    rotate_left
                    · simp only [Act.put, List.setIfInBounds_toArray, List.set_cons_zero, List.set_cons_succ, i64_w, i32_w]
                      rfl
                    refine pure_ (i := 1) (N := some 42) (v := ?_) (a' := ?_) #[true, true, false, false, false, false, false, false, false, false, false, false, false, false, false, false, false, false, false, false, false, false, false, false, false, false, false] rfl rfl (any_of HT_.out (by kernel_rfl)) (fun _ _ _ h => h) (Or.inl ⟨by rfl, ?_⟩) ?_ ?_
                    rotate_left
                    · intro w'
                      go_simp
                      with_reducible rfl
                    rotate_left
                    · simp only [Act.put, List.setIfInBounds_toArray, List.set_cons_zero, List.set_cons_succ, i64_w, i32_w]
                      rfl
                    refine take_ (i := 2) (N := some 43) (v := ?_) (a' := ?_) #[true, true, true, false, false, false, false, false, false, false, false, false, false, false, false, false, false, false, false, false, false, false, false, false, false, false, false] rfl rfl (take_ofW HT_.out HW_.out (by kernel_rfl)) (fun _ _ _ h => h) (Or.inl ⟨by rfl, ?_⟩) hHeld ?_ ?_
                    rotate_left
                    · intro w' s0
                      go_simp
                      with_reducible rfl
                    rotate_left
                    · simp only [Act.put, List.setIfInBounds_toArray, List.set_cons_zero, List.set_cons_succ, i64_w, i32_w]
                      rfl
                    refine pure_ (i := 3) (N := some 44) (v := ?_) (a' := ?_) #[true, true, true, true, false, false, false, false, false, false, false, false, false, false, false, false, false, false, false, false, false, false, false, false, false, false, false] rfl rfl (any_of HT_.out (by kernel_rfl)) (fun _ _ _ h => h) (Or.inl ⟨by rfl, ?_⟩) ?_ ?_
                    rotate_left
                    · intro w'
                      go_simp
                      with_reducible rfl
                    rotate_left
                    · simp only [Act.put, List.setIfInBounds_toArray, List.set_cons_zero, List.set_cons_succ, i64_w, i32_w]
                      rfl
                    refine pure_ (i := 4) (N := some 45) (v := ?_) (a' := ?_) #[true, true, true, true, true, false, false, false, false, false, false, false, false, false, false, false, false, false, false, false, false, false, false, false, false, false, false] rfl rfl (any_of HT_.out (by kernel_rfl)) (fun _ _ _ h => h) (Or.inl ⟨by rfl, ?_⟩) ?_ ?_
                    rotate_left
                    · intro w'
                      go_simp
                      with_reducible rfl
                    rotate_left
                    · simp only [Act.put, List.setIfInBounds_toArray, List.set_cons_zero, List.set_cons_succ, i64_w, i32_w]
                      rfl
                    refine pure_ (i := 5) (N := some 46) (v := undef) (a' := ?_) #[true, true, true, true, true, true, false, false, false, false, false, false, false, false, false, false, false, false, false, false, false, false, false, false, false, false, false] rfl rfl (any_of HT_.out (by kernel_rfl)) (fun _ _ _ h => h) (Or.inr ⟨by rfl, rfl⟩) ?_ ?_
                    rotate_left
                    · simp only [Act.put, List.setIfInBounds_toArray, List.set_cons_zero, List.set_cons_succ, i64_w, i32_w]
                      rfl
                    refine pure_ (i := 6) (N := some 47) (v := undef) (a' := ?_) #[true, true, true, true, true, true, true, false, false, false, false, false, false, false, false, false, false, false, false, false, false, false, false, false, false, false, false] rfl rfl (any_of HT_.out (by kernel_rfl)) (fun _ _ _ h => h) (Or.inr ⟨by rfl, rfl⟩) ?_ ?_
                    rotate_left
                    · simp only [Act.put, List.setIfInBounds_toArray, List.set_cons_zero, List.set_cons_succ, i64_w, i32_w]
                      rfl
                    refine pure_ (i := 7) (N := some 48) (v := undef) (a' := ?_) #[true, true, true, true, true, true, true, true, false, false, false, false, false, false, false, false, false, false, false, false, false, false, false, false, false, false, false] rfl rfl (any_of HT_.out (by kernel_rfl)) (fun _ _ _ h => h) (Or.inr ⟨by rfl, rfl⟩) ?_ ?_
                    rotate_left
                    · simp only [Act.put, List.setIfInBounds_toArray, List.set_cons_zero, List.set_cons_succ, i64_w, i32_w]
                      rfl
                    refine pure_ (i := 8) (N := some 49) (v := undef) (a' := ?_) #[true, true, true, true, true, true, true, true, true, false, false, false, false, false, false, false, false, false, false, false, false, false, false, false, false, false, false] rfl rfl (any_of HT_.out (by kernel_rfl)) (fun _ _ _ h => h) (Or.inr ⟨by rfl, rfl⟩) ?_ ?_
                    rotate_left
                    · simp only [Act.put, List.setIfInBounds_toArray, List.set_cons_zero, List.set_cons_succ, i64_w, i32_w]
                      rfl
                    refine pure_ (i := 9) (N := some 50) (v := ?_) (a' := ?_) #[true, true, true, true, true, true, true, true, true, true, false, false, false, false, false, false, false, false, false, false, false, false, false, false, false, false, false] rfl rfl (any_of HT_.out (by kernel_rfl)) (fun _ _ _ h => h) (Or.inl ⟨by rfl, ?_⟩) ?_ ?_
                    rotate_left
                    · intro w'
                      go_simp
                      with_reducible rfl
                    rotate_left
                    · simp only [Act.put, List.setIfInBounds_toArray, List.set_cons_zero, List.set_cons_succ, i64_w, i32_w]
                      rfl
                    refine pure_ (i := 10) (N := some 51) (v := ?_) (a' := ?_) #[true, true, true, true, true, true, true, true, true, true, true, false, false, false, false, false, false, false, false, false, false, false, false, false, false, false, false] rfl rfl (any_of HT_.out (by kernel_rfl)) (fun _ _ _ h => h) (Or.inl ⟨by rfl, ?_⟩) ?_ ?_
                    rotate_left
                    · intro w'
                      go_simp
                      with_reducible rfl
                    rotate_left
                    · simp only [Act.put, List.setIfInBounds_toArray, List.set_cons_zero, List.set_cons_succ, i64_w, i32_w]
                      rfl
                    refine pure_ (i := 11) (N := some 52) (v := undef) (a' := ?_) #[true, true, true, true, true, true, true, true, true, true, true, true, false, false, false, false, false, false, false, false, false, false, false, false, false, false, false] rfl rfl (any_of HT_.out (by kernel_rfl)) (fun _ _ _ h => h) (Or.inr ⟨by rfl, rfl⟩) ?_ ?_
                    rotate_left
                    · simp only [Act.put, List.setIfInBounds_toArray, List.set_cons_zero, List.set_cons_succ, i64_w, i32_w]
                      rfl
                    refine pure_ (i := 12) (N := some 53) (v := undef) (a' := ?_) #[true, true, true, true, true, true, true, true, true, true, true, true, true, false, false, false, false, false, false, false, false, false, false, false, false, false, false] rfl rfl (any_of HT_.out (by kernel_rfl)) (fun _ _ _ h => h) (Or.inr ⟨by rfl, rfl⟩) ?_ ?_
                    rotate_left
                    · simp only [Act.put, List.setIfInBounds_toArray, List.set_cons_zero, List.set_cons_succ, i64_w, i32_w]
                      rfl
                    refine pure_ (i := 13) (N := some 54) (v := undef) (a' := ?_) #[true, true, true, true, true, true, true, true, true, true, true, true, true, true, false, false, false, false, false, false, false, false, false, false, false, false, false] rfl rfl (any_of HT_.out (by kernel_rfl)) (fun _ _ _ h => h) (Or.inr ⟨by rfl, rfl⟩) ?_ ?_
                    rotate_left
                    · simp only [Act.put, List.setIfInBounds_toArray, List.set_cons_zero, List.set_cons_succ, i64_w, i32_w]
                      rfl
                    refine pure_ (i := 14) (N := some 55) (v := undef) (a' := ?_) #[true, true, true, true, true, true, true, true, true, true, true, true, true, true, true, false, false, false, false, false, false, false, false, false, false, false, false] rfl rfl (any_of HT_.out (by kernel_rfl)) (fun _ _ _ h => h) (Or.inr ⟨by rfl, rfl⟩) ?_ ?_
                    rotate_left
                    · simp only [Act.put, List.setIfInBounds_toArray, List.set_cons_zero, List.set_cons_succ, i64_w, i32_w]
                      rfl
                    refine pure_ (i := 15) (N := some 56) (v := undef) (a' := ?_) #[true, true, true, true, true, true, true, true, true, true, true, true, true, true, true, true, false, false, false, false, false, false, false, false, false, false, false] rfl rfl (any_of HT_.out (by kernel_rfl)) (fun _ _ _ h => h) (Or.inr ⟨by rfl, rfl⟩) ?_ ?_
                    rotate_left
                    · simp only [Act.put, List.setIfInBounds_toArray, List.set_cons_zero, List.set_cons_succ, i64_w, i32_w]
                      rfl
                    refine pure_ (i := 16) (N := some 57) (v := undef) (a' := ?_) #[true, true, true, true, true, true, true, true, true, true, true, true, true, true, true, true, true, false, false, false, false, false, false, false, false, false, false] rfl rfl (any_of HT_.out (by kernel_rfl)) (fun _ _ _ h => h) (Or.inr ⟨by rfl, rfl⟩) ?_ ?_
                    rotate_left
                    · simp only [Act.put, List.setIfInBounds_toArray, List.set_cons_zero, List.set_cons_succ, i64_w, i32_w]
                      rfl
                    refine pure_ (i := 17) (N := some 58) (v := undef) (a' := ?_) #[true, true, true, true, true, true, true, true, true, true, true, true, true, true, true, true, true, true, false, false, false, false, false, false, false, false, false] rfl rfl (any_of HT_.out (by kernel_rfl)) (fun _ _ _ h => h) (Or.inr ⟨by rfl, rfl⟩) ?_ ?_
                    rotate_left
                    · simp only [Act.put, List.setIfInBounds_toArray, List.set_cons_zero, List.set_cons_succ, i64_w, i32_w]
                      rfl
                    refine pure_ (i := 18) (N := some 59) (v := ?_) (a' := ?_) #[true, true, true, true, true, true, true, true, true, true, true, true, true, true, true, true, true, true, true, false, false, false, false, false, false, false, false] rfl rfl (any_of HT_.out (by kernel_rfl)) (fun _ _ _ h => h) (Or.inl ⟨by rfl, ?_⟩) ?_ ?_
                    rotate_left
                    · intro w'
                      go_simp
                      with_reducible rfl
                    rotate_left
                    · simp only [Act.put, List.setIfInBounds_toArray, List.set_cons_zero, List.set_cons_succ, i64_w, i32_w]
                      rfl
                    refine pure_ (i := 19) (N := some 60) (v := ?_) (a' := ?_) #[true, true, true, true, true, true, true, true, true, true, true, true, true, true, true, true, true, true, true, true, false, false, false, false, false, false, false] rfl rfl (any_of HT_.out (by kernel_rfl)) (fun _ _ _ h => h) (Or.inl ⟨by rfl, ?_⟩) ?_ ?_
                    rotate_left
                    · intro w'
                      go_simp
                      with_reducible rfl
                    rotate_left
                    · simp only [Act.put, List.setIfInBounds_toArray, List.set_cons_zero, List.set_cons_succ, i64_w, i32_w]
                      rfl
                    refine pure_ (i := 20) (N := some 61) (v := ?_) (a' := ?_) #[true, true, true, true, true, true, true, true, true, true, true, true, true, true, true, true, true, true, true, true, true, false, false, false, false, false, false] rfl rfl (any_of HT_.out (by kernel_rfl)) (fun _ _ _ h => h) (Or.inl ⟨by rfl, ?_⟩) ?_ ?_
                    rotate_left
                    · intro w'
                      go_simp
                      with_reducible rfl
                    rotate_left
                    · simp only [Act.put, List.setIfInBounds_toArray, List.set_cons_zero, List.set_cons_succ, i64_w, i32_w]
                      rfl
                    refine pure_ (i := 21) (N := some 62) (v := ?_) (a' := ?_) #[true, true, true, true, true, true, true, true, true, true, true, true, true, true, true, true, true, true, true, true, true, true, false, false, false, false, false] rfl rfl (any_of HT_.out (by kernel_rfl)) (fun _ _ _ h => h) (Or.inl ⟨by rfl, ?_⟩) ?_ ?_
                    rotate_left
                    · intro w'
                      go_simp
                      with_reducible rfl
                    rotate_left
                    · simp only [Act.put, List.setIfInBounds_toArray, List.set_cons_zero, List.set_cons_succ, i64_w, i32_w]
                      rfl
                    refine pure_ (i := 22) (N := some 63) (v := ?_) (a' := ?_) #[true, true, true, true, true, true, true, true, true, true, true, true, true, true, true, true, true, true, true, true, true, true, true, false, false, false, false] rfl rfl (any_of HT_.out (by kernel_rfl)) (fun _ _ _ h => h) (Or.inl ⟨by rfl, ?_⟩) ?_ ?_
                    rotate_left
                    · intro w'
                      go_simp
                      with_reducible rfl
                    rotate_left
                    · simp only [Act.put, List.setIfInBounds_toArray, List.set_cons_zero, List.set_cons_succ, i64_w, i32_w]
                      rfl
                    refine pure_ (i := 23) (N := some 64) (v := ?_) (a' := ?_) #[true, true, true, true, true, true, true, true, true, true, true, true, true, true, true, true, true, true, true, true, true, true, true, true, false, false, false] rfl rfl (any_of HT_.out (by kernel_rfl)) (fun _ _ _ h => h) (Or.inl ⟨by rfl, ?_⟩) ?_ ?_
                    rotate_left
                    · intro w'
                      go_simp
                      with_reducible rfl
                    rotate_left
                    · simp only [Act.put, List.setIfInBounds_toArray, List.set_cons_zero, List.set_cons_succ, i64_w, i32_w]
                      rfl
                    refine one_ (i := 24) (N := some 65) #[true, true, true, true, true, true, true, true, true, true, true, true, true, true, true, true, true, true, true, true, true, true, true, true, true, false, false] rfl rfl (one_of HT_.out (by kernel_rfl)) (by decide) (fun K hK => ?_)
                    refine goes_ Try.func37 (by kernel_rfl) rfl #[.slice A20 (l0.drop 1).length (c0 - 1), .slice A21 (l1.drop 1).length (c1 - 1)] (by rfl) rfl rfl (by (try simp only [List.map_toArray, List.map_cons, List.map_nil]); first | done | (rw [show (l0.drop 1).length = (l0.length - 1) from List.length_drop] <;> rfl) | (rw [show (l1.drop 1).length = (l1.length - 1) from List.length_drop] <;> rfl) | rfl | (simp only [List.length_drop, List.length_take]; rfl)) ?_
                    with_reducible refine (ih kj2 (by have := HJ2.out; omega) _ _ (l0.drop 1) _ _ (l1.drop 1) t261 _ ?side1 ?side2 ?side3 ?side4 A18.out).mono ?_
                    (case side1 => repeat (first | exact (Kd.C_below HR259.out HB.out) | (with_reducible refine Kd.C_alloc ?_ _) | (with_reducible refine Kd.C_drewN ?_ _) | (with_reducible refine Kd.C_drew ?_)))
                    (case side2 => exact HC259.out)
                    (case side3 => repeat (first | exact (Kd.C_below HR260.out HB.out) | (with_reducible refine Kd.C_alloc ?_ _) | (with_reducible refine Kd.C_drewN ?_ _) | (with_reducible refine Kd.C_drew ?_)))
                    (case side4 => exact HC260.out)
                    rintro e w22 ⟨rfl, hb⟩
                    refine ⟨_, rfl, ?_⟩
                    have n0_ := Aside0.mk (below_step (by repeat (first | (with_reducible first | exact HB.out | apply below_alloc | apply pw_below_drewN | apply below_drew1) | exact HB.out)) hb)
                    clear HB
                    have HB := n0_
                    clear n0_
                    (try clear hb)
                    (try clear hb2)
                    (try clear hk)
                    (try clear hi)
                    refine hK.out _ _ (((HB.out.cell (World.block_lt_of_cell? w _ hw258_0)).trans hw258_0)) (fun hHeld => ?_)
                    clear hK K
                    refine norm_ (a' := ?_) ?_ ?_
                    rotate_left
                    · show Act.put _ (some 65) _ = _
                      simp only [Act.put, List.setIfInBounds_toArray, List.set_cons_zero, List.set_cons_succ, i64_w, i32_w]
                      rfl
                    refine pure_ (i := 25) (N := some 66) (v := ?_) (a' := ?_) #[true, true, true, true, true, true, true, true, true, true, true, true, true, true, true, true, true, true, true, true, true, true, true, true, true, true, false] rfl rfl (any_of HT_.out (by kernel_rfl)) (fun _ _ _ h => h) (Or.inl ⟨by rfl, ?_⟩) ?_ ?_
                    rotate_left
                    · intro w'
                      go_simp
                      with_reducible rfl
                    rotate_left
                    · simp only [Act.put, List.setIfInBounds_toArray, List.set_cons_zero, List.set_cons_succ, i64_w, i32_w]
                      rfl
                    refine pure_ (i := 26) (N := some 4) (v := ?_) (a' := ?_) #[true, true, true, true, true, true, true, true, true, true, true, true, true, true, true, true, true, true, true, true, true, true, true, true, true, true, true] rfl rfl (any_of HT_.out (by kernel_rfl)) (fun _ _ _ h => h) (Or.inl ⟨by rfl, ?_⟩) ?_ ?_
                    rotate_left
                    · intro w'
                      go_simp
                      with_reducible rfl
                    rotate_left
                    · simp only [Act.put, List.setIfInBounds_toArray, List.set_cons_zero, List.set_cons_succ, i64_w, i32_w]
                      rfl
                    refine done_ (done_of HT_.out (by kernel_rfl)) ?_
                    try go_wp2
                    go_ret
                    exact ⟨by first | rfl | (simp [errW_none, errW_some] <;> rfl) | (simp [*, errW_none, errW_some] <;> rfl), by repeat (first | (with_reducible first | exact HB.out | apply below_alloc | apply pw_below_drewN | apply below_drew1) | exact HB.out)⟩
                  · rw [if_neg c17] at H
                    exact absurd H (by simp)
                · rw [if_neg c16] at H
                  exact absurd H (by simp)
              · rw [if_neg c15] at H
                have c15b0 : ((rdOf ByteArray.empty l0 0).toList == ([42] : List UInt8)) = false := beq_eq_false_iff_ne.mpr c15
                have c15b1 : ((rdOf ByteArray.empty l0 0).toList != ([42] : List UInt8)) = true := bne_iff_ne.mpr c15
                by_cases c23 : 0 < (l1.length : Int)
                · rw [if_pos c23] at H
                  have c23b0 : decide (0 < (l1.length : Int)) = true := decide_eq_true c23
                  have c23b1 : decide (0 < l1.length) = true := decide_eq_true (by omega)
                  clear c23
                  by_cases c24 : (rdOf ByteArray.empty l1 0).toList = ([42] : List UInt8)
                  · rw [if_pos c24] at H
                    have c24b0 : ((rdOf ByteArray.empty l1 0).toList == ([42] : List UInt8)) = true := beq_iff_eq.mpr c24
                    have c24b1 : ((rdOf ByteArray.empty l1 0).toList != ([42] : List UInt8)) = false := bne_eq_false_iff_eq.mpr c24
                    clear c24
                    by_cases c25 : 1 ≤ (l0.length : Int)
                    · rw [if_pos c25] at H
                      have c25b0 := eq_true c25
                      have c25b1 : decide (1 ≤ (l0.length : Int)) = true := decide_eq_true c25
                      clear c25
                      by_cases c26 : 1 ≤ (l1.length : Int)
                      · rw [if_pos c26] at H
                        have c26b0 := eq_true c26
                        have c26b1 : decide (1 ≤ (l1.length : Int)) = true := decide_eq_true c26
                        clear c26
                        replace H := Option.bind_eq_some_iff.mp H
                        obtain ⟨t265, A270, H⟩ := H
                        replace H : (some t265) = some r := H
                        have A27 := Aside0.mk A270
                        clear A270
                        obtain rfl := Option.some.inj H
                        try go_wp2
                        have n0_ := Aside0.mk (below_drew1 HB.out)
                        clear HB
                        have HB := n0_
                        clear n0_
                        have p258 : 0 ≤ (0 : Int) := (by omega)
                        have q258 : 0 < (l0.length : Int) := of_decide_eq_true (by first | (with_reducible assumption) | assumption)
                        obtain ⟨ad258, e258, hx258_0⟩ := Kd.at_string HR0.out 0 p258 q258
                        have hw258_0 := hx258_0
                        (try rw [show ((0 : Int)).toNat = 0 from rfl] at hw258_0)
                        (try rw [show 0 * 1 = 0 from rfl] at hw258_0)
                        (try rw [Addr.add_zero'] at hw258_0)
                        cases e258
                        have qi258 : (0 < l0.length) = True := eq_true (by omega)
                        (try rw [show ((0 : Int)).toNat = 0 from rfl] at hx258_0)
                        (try rw [Addr.add_zero'] at hx258_0)
                        replace hx258_0 := (HB.out.cell (World.block_lt_of_cell? w _ hx258_0)).trans hx258_0
                        replace p258 := eq_true p258
                        replace q258 := eq_true q258
                        have p262 : 0 ≤ (0 : Int) := (by omega)
                        have q262 : 0 < (l1.length : Int) := of_decide_eq_true (by first | (with_reducible assumption) | assumption)
                        obtain ⟨ad262, e262, hx262_0⟩ := Kd.at_string HR1.out 0 p262 q262
                        have hw262_0 := hx262_0
                        (try rw [show ((0 : Int)).toNat = 0 from rfl] at hw262_0)
                        (try rw [show 0 * 1 = 0 from rfl] at hw262_0)
                        (try rw [Addr.add_zero'] at hw262_0)
                        cases e262
                        have qi262 : (0 < l1.length) = True := eq_true (by omega)
                        (try rw [show ((0 : Int)).toNat = 0 from rfl] at hx262_0)
                        (try rw [Addr.add_zero'] at hx262_0)
                        replace hx262_0 := (HB.out.cell (World.block_lt_of_cell? w _ hx262_0)).trans hx262_0
                        replace p262 := eq_true p262
                        replace q262 := eq_true q262
                        obtain ⟨i029, hi029, _, hsz29, _⟩ := info_parts info9
                        obtain ⟨A29, hcut29, hA29, hC29⟩ := print_drop_of (P := Try.prog) Value.string (⟨#[]⟩ : ByteArray) 31 9 .i64 Try.underlying31 hi029 hsz29 (some ad258) c0 l0 1 (by omega) (of_decide_eq_true (by first | (with_reducible assumption) | assumption)) HC0.out
                        have HR263 := Aside0.mk (Kd.C_of_reads (h1 := fun _ => rfl) (hA29 _ (Kd.reads_of_C HR0.out)))
                        have HC263 := Aside0.mk hC29
                        clear hA29 hC29 hi029 hsz29
                        obtain ⟨i030, hi030, _, hsz30, _⟩ := info_parts info9
                        obtain ⟨A30, hcut30, hA30, hC30⟩ := print_drop_of (P := Try.prog) Value.string (⟨#[]⟩ : ByteArray) 31 9 .i64 Try.underlying31 hi030 hsz30 (some ad262) c1 l1 1 (by omega) (of_decide_eq_true (by first | (with_reducible assumption) | assumption)) HC1.out
                        have HR264 := Aside0.mk (Kd.C_of_reads (h1 := fun _ => rfl) (hA30 _ (Kd.reads_of_C HR1.out)))
                        have HC264 := Aside0.mk hC30
                        clear hA30 hC30 hi030 hsz30
                        refine start_ (n := 27) (S := fun w' => w'.cell? ad258 = some (.string (rdOf ByteArray.empty l0 0)) ∧ w'.cell? ad262 = some (.string (rdOf ByteArray.empty l1 0))) (ds := []) #[false, false, false, false, false, false, false, false, false, false, false, false, false, false, false, false, false, false, false, false, false, false, false, false, false, false, false] (by kernel_rfl) rfl rfl ⟨((HB.out.cell (World.block_lt_of_cell? w _ hw258_0)).trans hw258_0), ((HB.out.cell (World.block_lt_of_cell? w _ hw262_0)).trans hw262_0)⟩ (fun hHeld => ?_); refine with_tabW surmiseref08_meets.tab5 surmiseref08_meets.bits5 (fun HT_ HW_ => ?_)
                        generalize wc.drew = w28 at HB HR263 HR264 hx258_0 hx262_0 hHeld ⊢
                        refine pure_ (i := 0) (N := some 41) (v := ?_) (a' := ?_) #[true, false, false, false, false, false, false, false, false, false, false, false, false, false, false, false, false, false, false, false, false, false, false, false, false, false, false] rfl rfl (any_of HT_.out (by kernel_rfl)) (fun _ _ _ h => h) (Or.inl ⟨by rfl, ?_⟩) ?_ ?_
                        rotate_left
                        · intro w'
                          go_simp
                          with_reducible rfl
                        rotate_left
                        · simp only [Act.put, List.setIfInBounds_toArray, List.set_cons_zero, List.set_cons_succ, i64_w, i32_w]
                          rfl
                        refine pure_ (i := 1) (N := some 42) (v := ?_) (a' := ?_) #[true, true, false, false, false, false, false, false, false, false, false, false, false, false, false, false, false, false, false, false, false, false, false, false, false, false, false] rfl rfl (any_of HT_.out (by kernel_rfl)) (fun _ _ _ h => h) (Or.inl ⟨by rfl, ?_⟩) ?_ ?_
                        rotate_left
                        · intro w'
                          go_simp
                          with_reducible rfl
                        rotate_left
                        · simp only [Act.put, List.setIfInBounds_toArray, List.set_cons_zero, List.set_cons_succ, i64_w, i32_w]
                          rfl
                        refine take_ (i := 2) (N := some 43) (v := ?_) (a' := ?_) #[true, true, true, false, false, false, false, false, false, false, false, false, false, false, false, false, false, false, false, false, false, false, false, false, false, false, false] rfl rfl (take_ofW HT_.out HW_.out (by kernel_rfl)) (fun _ _ _ h => h) (Or.inl ⟨by rfl, ?_⟩) hHeld ?_ ?_
                        rotate_left
                        · rintro w' ⟨s0, s1⟩
                          go_simp
                          with_reducible rfl
                        rotate_left
                        · simp only [Act.put, List.setIfInBounds_toArray, List.set_cons_zero, List.set_cons_succ, i64_w, i32_w]
                          rfl
                        refine pure_ (i := 3) (N := some 44) (v := ?_) (a' := ?_) #[true, true, true, true, false, false, false, false, false, false, false, false, false, false, false, false, false, false, false, false, false, false, false, false, false, false, false] rfl rfl (any_of HT_.out (by kernel_rfl)) (fun _ _ _ h => h) (Or.inl ⟨by rfl, ?_⟩) ?_ ?_
                        rotate_left
                        · intro w'
                          go_simp
                          with_reducible rfl
                        rotate_left
                        · simp only [Act.put, List.setIfInBounds_toArray, List.set_cons_zero, List.set_cons_succ, i64_w, i32_w]
                          rfl
                        refine pure_ (i := 4) (N := some 45) (v := ?_) (a' := ?_) #[true, true, true, true, true, false, false, false, false, false, false, false, false, false, false, false, false, false, false, false, false, false, false, false, false, false, false] rfl rfl (any_of HT_.out (by kernel_rfl)) (fun _ _ _ h => h) (Or.inl ⟨by rfl, ?_⟩) ?_ ?_
                        rotate_left
                        · intro w'
                          go_simp
                          with_reducible rfl
                        rotate_left
                        · simp only [Act.put, List.setIfInBounds_toArray, List.set_cons_zero, List.set_cons_succ, i64_w, i32_w]
                          rfl
                        refine pure_ (i := 5) (N := some 46) (v := ?_) (a' := ?_) #[true, true, true, true, true, true, false, false, false, false, false, false, false, false, false, false, false, false, false, false, false, false, false, false, false, false, false] rfl rfl (any_of HT_.out (by kernel_rfl)) (fun _ _ _ h => h) (Or.inl ⟨by rfl, ?_⟩) ?_ ?_
                        rotate_left
                        · intro w'
                          go_simp
                          with_reducible rfl
                        rotate_left
                        · simp only [Act.put, List.setIfInBounds_toArray, List.set_cons_zero, List.set_cons_succ, i64_w, i32_w]
                          rfl
                        refine pure_ (i := 6) (N := some 47) (v := ?_) (a' := ?_) #[true, true, true, true, true, true, true, false, false, false, false, false, false, false, false, false, false, false, false, false, false, false, false, false, false, false, false] rfl rfl (any_of HT_.out (by kernel_rfl)) (fun _ _ _ h => h) (Or.inl ⟨by rfl, ?_⟩) ?_ ?_
                        rotate_left
                        · intro w'
                          go_simp
                          with_reducible rfl
                        rotate_left
                        · simp only [Act.put, List.setIfInBounds_toArray, List.set_cons_zero, List.set_cons_succ, i64_w, i32_w]
                          rfl
                        refine take_ (i := 7) (N := some 48) (v := ?_) (a' := ?_) #[true, true, true, true, true, true, true, true, false, false, false, false, false, false, false, false, false, false, false, false, false, false, false, false, false, false, false] rfl rfl (take_ofW HT_.out HW_.out (by kernel_rfl)) (fun _ _ _ h => h) (Or.inl ⟨by rfl, ?_⟩) hHeld ?_ ?_
                        rotate_left
                        · rintro w' ⟨s0, s1⟩
                          go_simp
                          with_reducible rfl
                        rotate_left
                        · simp only [Act.put, List.setIfInBounds_toArray, List.set_cons_zero, List.set_cons_succ, i64_w, i32_w]
                          rfl
                        refine pure_ (i := 8) (N := some 49) (v := ?_) (a' := ?_) #[true, true, true, true, true, true, true, true, true, false, false, false, false, false, false, false, false, false, false, false, false, false, false, false, false, false, false] rfl rfl (any_of HT_.out (by kernel_rfl)) (fun _ _ _ h => h) (Or.inl ⟨by rfl, ?_⟩) ?_ ?_
                        rotate_left
                        · intro w'
                          go_simp
                          with_reducible rfl
                        rotate_left
                        · simp only [Act.put, List.setIfInBounds_toArray, List.set_cons_zero, List.set_cons_succ, i64_w, i32_w]
                          rfl
                        refine pure_ (i := 9) (N := some 50) (v := ?_) (a' := ?_) #[true, true, true, true, true, true, true, true, true, true, false, false, false, false, false, false, false, false, false, false, false, false, false, false, false, false, false] rfl rfl (any_of HT_.out (by kernel_rfl)) (fun _ _ _ h => h) (Or.inl ⟨by rfl, ?_⟩) ?_ ?_
                        rotate_left
                        · intro w'
                          go_simp
                          with_reducible rfl
                        rotate_left
                        · simp only [Act.put, List.setIfInBounds_toArray, List.set_cons_zero, List.set_cons_succ, i64_w, i32_w]
                          rfl
                        refine pure_ (i := 10) (N := some 51) (v := ?_) (a' := ?_) #[true, true, true, true, true, true, true, true, true, true, true, false, false, false, false, false, false, false, false, false, false, false, false, false, false, false, false] rfl rfl (any_of HT_.out (by kernel_rfl)) (fun _ _ _ h => h) (Or.inl ⟨by rfl, ?_⟩) ?_ ?_
                        rotate_left
                        · intro w'
                          go_simp
                          with_reducible rfl
                        rotate_left
                        · simp only [Act.put, List.setIfInBounds_toArray, List.set_cons_zero, List.set_cons_succ, i64_w, i32_w]
                          rfl
                        refine pure_ (i := 11) (N := some 52) (v := undef) (a' := ?_) #[true, true, true, true, true, true, true, true, true, true, true, true, false, false, false, false, false, false, false, false, false, false, false, false, false, false, false] rfl rfl (any_of HT_.out (by kernel_rfl)) (fun _ _ _ h => h) (Or.inr ⟨by rfl, rfl⟩) ?_ ?_
                        rotate_left
                        · simp only [Act.put, List.setIfInBounds_toArray, List.set_cons_zero, List.set_cons_succ, i64_w, i32_w]
                          rfl
                        refine pure_ (i := 12) (N := some 53) (v := undef) (a' := ?_) #[true, true, true, true, true, true, true, true, true, true, true, true, true, false, false, false, false, false, false, false, false, false, false, false, false, false, false] rfl rfl (any_of HT_.out (by kernel_rfl)) (fun _ _ _ h => h) (Or.inr ⟨by rfl, rfl⟩) ?_ ?_
                        rotate_left
                        · simp only [Act.put, List.setIfInBounds_toArray, List.set_cons_zero, List.set_cons_succ, i64_w, i32_w]
                          rfl
                        refine pure_ (i := 13) (N := some 54) (v := undef) (a' := ?_) #[true, true, true, true, true, true, true, true, true, true, true, true, true, true, false, false, false, false, false, false, false, false, false, false, false, false, false] rfl rfl (any_of HT_.out (by kernel_rfl)) (fun _ _ _ h => h) (Or.inr ⟨by rfl, rfl⟩) ?_ ?_
                        rotate_left
                        · simp only [Act.put, List.setIfInBounds_toArray, List.set_cons_zero, List.set_cons_succ, i64_w, i32_w]
                          rfl
                        refine pure_ (i := 14) (N := some 55) (v := undef) (a' := ?_) #[true, true, true, true, true, true, true, true, true, true, true, true, true, true, true, false, false, false, false, false, false, false, false, false, false, false, false] rfl rfl (any_of HT_.out (by kernel_rfl)) (fun _ _ _ h => h) (Or.inr ⟨by rfl, rfl⟩) ?_ ?_
                        rotate_left
                        · simp only [Act.put, List.setIfInBounds_toArray, List.set_cons_zero, List.set_cons_succ, i64_w, i32_w]
                          rfl
                        refine pure_ (i := 15) (N := some 56) (v := undef) (a' := ?_) #[true, true, true, true, true, true, true, true, true, true, true, true, true, true, true, true, false, false, false, false, false, false, false, false, false, false, false] rfl rfl (any_of HT_.out (by kernel_rfl)) (fun _ _ _ h => h) (Or.inr ⟨by rfl, rfl⟩) ?_ ?_
                        rotate_left
                        · simp only [Act.put, List.setIfInBounds_toArray, List.set_cons_zero, List.set_cons_succ, i64_w, i32_w]
                          rfl
                        refine pure_ (i := 16) (N := some 57) (v := undef) (a' := ?_) #[true, true, true, true, true, true, true, true, true, true, true, true, true, true, true, true, true, false, false, false, false, false, false, false, false, false, false] rfl rfl (any_of HT_.out (by kernel_rfl)) (fun _ _ _ h => h) (Or.inr ⟨by rfl, rfl⟩) ?_ ?_
                        rotate_left
                        · simp only [Act.put, List.setIfInBounds_toArray, List.set_cons_zero, List.set_cons_succ, i64_w, i32_w]
                          rfl
                        refine pure_ (i := 17) (N := some 58) (v := undef) (a' := ?_) #[true, true, true, true, true, true, true, true, true, true, true, true, true, true, true, true, true, true, false, false, false, false, false, false, false, false, false] rfl rfl (any_of HT_.out (by kernel_rfl)) (fun _ _ _ h => h) (Or.inr ⟨by rfl, rfl⟩) ?_ ?_
                        rotate_left
                        · simp only [Act.put, List.setIfInBounds_toArray, List.set_cons_zero, List.set_cons_succ, i64_w, i32_w]
                          rfl
                        refine pure_ (i := 18) (N := some 59) (v := ?_) (a' := ?_) #[true, true, true, true, true, true, true, true, true, true, true, true, true, true, true, true, true, true, true, false, false, false, false, false, false, false, false] rfl rfl (any_of HT_.out (by kernel_rfl)) (fun _ _ _ h => h) (Or.inl ⟨by rfl, ?_⟩) ?_ ?_
                        rotate_left
                        · intro w'
                          go_simp
                          with_reducible rfl
                        rotate_left
                        · simp only [Act.put, List.setIfInBounds_toArray, List.set_cons_zero, List.set_cons_succ, i64_w, i32_w]
                          rfl
                        refine pure_ (i := 19) (N := some 60) (v := ?_) (a' := ?_) #[true, true, true, true, true, true, true, true, true, true, true, true, true, true, true, true, true, true, true, true, false, false, false, false, false, false, false] rfl rfl (any_of HT_.out (by kernel_rfl)) (fun _ _ _ h => h) (Or.inl ⟨by rfl, ?_⟩) ?_ ?_
                        rotate_left
                        · intro w'
                          go_simp
                          with_reducible rfl
                        rotate_left
                        · simp only [Act.put, List.setIfInBounds_toArray, List.set_cons_zero, List.set_cons_succ, i64_w, i32_w]
                          rfl
                        refine pure_ (i := 20) (N := some 61) (v := ?_) (a' := ?_) #[true, true, true, true, true, true, true, true, true, true, true, true, true, true, true, true, true, true, true, true, true, false, false, false, false, false, false] rfl rfl (any_of HT_.out (by kernel_rfl)) (fun _ _ _ h => h) (Or.inl ⟨by rfl, ?_⟩) ?_ ?_
                        rotate_left
                        · intro w'
                          go_simp
                          with_reducible rfl
                        rotate_left
                        · simp only [Act.put, List.setIfInBounds_toArray, List.set_cons_zero, List.set_cons_succ, i64_w, i32_w]
                          rfl
                        refine pure_ (i := 21) (N := some 62) (v := ?_) (a' := ?_) #[true, true, true, true, true, true, true, true, true, true, true, true, true, true, true, true, true, true, true, true, true, true, false, false, false, false, false] rfl rfl (any_of HT_.out (by kernel_rfl)) (fun _ _ _ h => h) (Or.inl ⟨by rfl, ?_⟩) ?_ ?_
                        rotate_left
                        · intro w'
                          go_simp
                          with_reducible rfl
                        rotate_left
                        · simp only [Act.put, List.setIfInBounds_toArray, List.set_cons_zero, List.set_cons_succ, i64_w, i32_w]
                          rfl
                        refine pure_ (i := 22) (N := some 63) (v := ?_) (a' := ?_) #[true, true, true, true, true, true, true, true, true, true, true, true, true, true, true, true, true, true, true, true, true, true, true, false, false, false, false] rfl rfl (any_of HT_.out (by kernel_rfl)) (fun _ _ _ h => h) (Or.inl ⟨by rfl, ?_⟩) ?_ ?_
                        rotate_left
                        · intro w'
                          go_simp
                          with_reducible rfl
                        rotate_left
                        · simp only [Act.put, List.setIfInBounds_toArray, List.set_cons_zero, List.set_cons_succ, i64_w, i32_w]
                          rfl
                        refine pure_ (i := 23) (N := some 64) (v := ?_) (a' := ?_) #[true, true, true, true, true, true, true, true, true, true, true, true, true, true, true, true, true, true, true, true, true, true, true, true, false, false, false] rfl rfl (any_of HT_.out (by kernel_rfl)) (fun _ _ _ h => h) (Or.inl ⟨by rfl, ?_⟩) ?_ ?_
                        rotate_left
                        · intro w'
                          go_simp
                          with_reducible rfl
                        rotate_left
                        · simp only [Act.put, List.setIfInBounds_toArray, List.set_cons_zero, List.set_cons_succ, i64_w, i32_w]
                          rfl
                        refine one_ (i := 24) (N := some 65) #[true, true, true, true, true, true, true, true, true, true, true, true, true, true, true, true, true, true, true, true, true, true, true, true, true, false, false] rfl rfl (one_of HT_.out (by kernel_rfl)) (by decide) (fun K hK => ?_)
                        refine goes_ Try.func37 (by kernel_rfl) rfl #[.slice A29 (l0.drop 1).length (c0 - 1), .slice A30 (l1.drop 1).length (c1 - 1)] (by rfl) rfl rfl (by (try simp only [List.map_toArray, List.map_cons, List.map_nil]); first | done | (rw [show (l0.drop 1).length = (l0.length - 1) from List.length_drop] <;> rfl) | (rw [show (l1.drop 1).length = (l1.length - 1) from List.length_drop] <;> rfl) | rfl | (simp only [List.length_drop, List.length_take]; rfl)) ?_
                        with_reducible refine (ih kj2 (by have := HJ2.out; omega) _ _ (l0.drop 1) _ _ (l1.drop 1) t265 _ ?side1 ?side2 ?side3 ?side4 A27.out).mono ?_
                        (case side1 => repeat (first | exact (Kd.C_below HR263.out HB.out) | (with_reducible refine Kd.C_alloc ?_ _) | (with_reducible refine Kd.C_drewN ?_ _) | (with_reducible refine Kd.C_drew ?_)))
                        (case side2 => exact HC263.out)
                        (case side3 => repeat (first | exact (Kd.C_below HR264.out HB.out) | (with_reducible refine Kd.C_alloc ?_ _) | (with_reducible refine Kd.C_drewN ?_ _) | (with_reducible refine Kd.C_drew ?_)))
                        (case side4 => exact HC264.out)
                        rintro e w31 ⟨rfl, hb⟩
                        refine ⟨_, rfl, ?_⟩
                        have n0_ := Aside0.mk (below_step (by repeat (first | (with_reducible first | exact HB.out | apply below_alloc | apply pw_below_drewN | apply below_drew1) | exact HB.out)) hb)
                        clear HB
                        have HB := n0_
                        clear n0_
                        (try clear hb)
                        (try clear hb2)
                        (try clear hk)
                        (try clear hi)
                        refine hK.out _ _ ⟨((HB.out.cell (World.block_lt_of_cell? w _ hw258_0)).trans hw258_0), ((HB.out.cell (World.block_lt_of_cell? w _ hw262_0)).trans hw262_0)⟩ (fun hHeld => ?_)
                        clear hK K
                        refine norm_ (a' := ?_) ?_ ?_
                        rotate_left
                        · show Act.put _ (some 65) _ = _
                          simp only [Act.put, List.setIfInBounds_toArray, List.set_cons_zero, List.set_cons_succ, i64_w, i32_w]
                          rfl
                        refine pure_ (i := 25) (N := some 66) (v := ?_) (a' := ?_) #[true, true, true, true, true, true, true, true, true, true, true, true, true, true, true, true, true, true, true, true, true, true, true, true, true, true, false] rfl rfl (any_of HT_.out (by kernel_rfl)) (fun _ _ _ h => h) (Or.inl ⟨by rfl, ?_⟩) ?_ ?_
                        rotate_left
                        · intro w'
                          go_simp
                          with_reducible rfl
                        rotate_left
                        · simp only [Act.put, List.setIfInBounds_toArray, List.set_cons_zero, List.set_cons_succ, i64_w, i32_w]
                          rfl
                        refine pure_ (i := 26) (N := some 4) (v := ?_) (a' := ?_) #[true, true, true, true, true, true, true, true, true, true, true, true, true, true, true, true, true, true, true, true, true, true, true, true, true, true, true] rfl rfl (any_of HT_.out (by kernel_rfl)) (fun _ _ _ h => h) (Or.inl ⟨by rfl, ?_⟩) ?_ ?_
                        rotate_left
                        · intro w'
                          go_simp
                          with_reducible rfl
                        rotate_left
                        · simp only [Act.put, List.setIfInBounds_toArray, List.set_cons_zero, List.set_cons_succ, i64_w, i32_w]
                          rfl
                        refine done_ (done_of HT_.out (by kernel_rfl)) ?_
                        try go_wp2
                        go_ret
                        exact ⟨by first | rfl | (simp [errW_none, errW_some] <;> rfl) | (simp [*, errW_none, errW_some] <;> rfl), by repeat (first | (with_reducible first | exact HB.out | apply below_alloc | apply pw_below_drewN | apply below_drew1) | exact HB.out)⟩
                      · rw [if_neg c26] at H
                        exact absurd H (by simp)
                    · rw [if_neg c25] at H
                      exact absurd H (by simp)
                  · rw [if_neg c24] at H
                    have c24b0 : ((rdOf ByteArray.empty l1 0).toList == ([42] : List UInt8)) = false := beq_eq_false_iff_ne.mpr c24
                    have c24b1 : ((rdOf ByteArray.empty l1 0).toList != ([42] : List UInt8)) = true := bne_iff_ne.mpr c24
                    by_cases c32 : (rdOf ByteArray.empty l0 0).toList = (rdOf ByteArray.empty l1 0).toList
                    · rw [if_pos c32] at H
                      have c32b0 : ((rdOf ByteArray.empty l0 0).toList == (rdOf ByteArray.empty l1 0).toList) = true := beq_iff_eq.mpr c32
                      have c32b1 : ((rdOf ByteArray.empty l0 0).toList != (rdOf ByteArray.empty l1 0).toList) = false := bne_eq_false_iff_eq.mpr c32
                      clear c32
                      by_cases c33 : 1 ≤ (l0.length : Int)
                      · rw [if_pos c33] at H
                        have c33b0 := eq_true c33
                        have c33b1 : decide (1 ≤ (l0.length : Int)) = true := decide_eq_true c33
                        clear c33
                        by_cases c34 : 1 ≤ (l1.length : Int)
                        · rw [if_pos c34] at H
                          have c34b0 := eq_true c34
                          have c34b1 : decide (1 ≤ (l1.length : Int)) = true := decide_eq_true c34
                          clear c34
                          replace H := Option.bind_eq_some_iff.mp H
                          obtain ⟨t270, A350, H⟩ := H
                          replace H : (some t270) = some r := H
                          have A35 := Aside0.mk A350
                          clear A350
                          obtain rfl := Option.some.inj H
                          try go_wp2
                          have n0_ := Aside0.mk (below_drew1 HB.out)
                          clear HB
                          have HB := n0_
                          clear n0_
                          have p258 : 0 ≤ (0 : Int) := (by omega)
                          have q258 : 0 < (l0.length : Int) := of_decide_eq_true (by first | (with_reducible assumption) | assumption)
                          obtain ⟨ad258, e258, hx258_0⟩ := Kd.at_string HR0.out 0 p258 q258
                          have hw258_0 := hx258_0
                          (try rw [show ((0 : Int)).toNat = 0 from rfl] at hw258_0)
                          (try rw [show 0 * 1 = 0 from rfl] at hw258_0)
                          (try rw [Addr.add_zero'] at hw258_0)
                          cases e258
                          have qi258 : (0 < l0.length) = True := eq_true (by omega)
                          (try rw [show ((0 : Int)).toNat = 0 from rfl] at hx258_0)
                          (try rw [Addr.add_zero'] at hx258_0)
                          replace hx258_0 := (HB.out.cell (World.block_lt_of_cell? w _ hx258_0)).trans hx258_0
                          replace p258 := eq_true p258
                          replace q258 := eq_true q258
                          have p262 : 0 ≤ (0 : Int) := (by omega)
                          have q262 : 0 < (l1.length : Int) := of_decide_eq_true (by first | (with_reducible assumption) | assumption)
                          obtain ⟨ad262, e262, hx262_0⟩ := Kd.at_string HR1.out 0 p262 q262
                          have hw262_0 := hx262_0
                          (try rw [show ((0 : Int)).toNat = 0 from rfl] at hw262_0)
                          (try rw [show 0 * 1 = 0 from rfl] at hw262_0)
                          (try rw [Addr.add_zero'] at hw262_0)
                          cases e262
                          have qi262 : (0 < l1.length) = True := eq_true (by omega)
                          (try rw [show ((0 : Int)).toNat = 0 from rfl] at hx262_0)
                          (try rw [Addr.add_zero'] at hx262_0)
                          replace hx262_0 := (HB.out.cell (World.block_lt_of_cell? w _ hx262_0)).trans hx262_0
                          replace p262 := eq_true p262
                          replace q262 := eq_true q262
                          have p266 : 0 ≤ (0 : Int) := (by omega)
                          have q266 : 0 < (l0.length : Int) := of_decide_eq_true (by first | (with_reducible assumption) | assumption)
                          obtain ⟨ad266, e266, hx266_0⟩ := Kd.at_string HR0.out 0 p266 q266
                          have hw266_0 := hx266_0
                          (try rw [show ((0 : Int)).toNat = 0 from rfl] at hw266_0)
                          (try rw [show 0 * 1 = 0 from rfl] at hw266_0)
                          (try rw [Addr.add_zero'] at hw266_0)
                          obtain rfl : ad258 = ad266 := (by injection e266)
                          have qi266 : (0 < l0.length) = True := eq_true (by omega)
                          (try rw [show ((0 : Int)).toNat = 0 from rfl] at hx266_0)
                          (try rw [Addr.add_zero'] at hx266_0)
                          replace hx266_0 := (HB.out.cell (World.block_lt_of_cell? w _ hx266_0)).trans hx266_0
                          replace p266 := eq_true p266
                          replace q266 := eq_true q266
                          have p267 : 0 ≤ (0 : Int) := (by omega)
                          have q267 : 0 < (l1.length : Int) := of_decide_eq_true (by first | (with_reducible assumption) | assumption)
                          obtain ⟨ad267, e267, hx267_0⟩ := Kd.at_string HR1.out 0 p267 q267
                          have hw267_0 := hx267_0
                          (try rw [show ((0 : Int)).toNat = 0 from rfl] at hw267_0)
                          (try rw [show 0 * 1 = 0 from rfl] at hw267_0)
                          (try rw [Addr.add_zero'] at hw267_0)
                          obtain rfl : ad262 = ad267 := (by injection e267)
                          have qi267 : (0 < l1.length) = True := eq_true (by omega)
                          (try rw [show ((0 : Int)).toNat = 0 from rfl] at hx267_0)
                          (try rw [Addr.add_zero'] at hx267_0)
                          replace hx267_0 := (HB.out.cell (World.block_lt_of_cell? w _ hx267_0)).trans hx267_0
                          replace p267 := eq_true p267
                          replace q267 := eq_true q267
                          obtain ⟨i037, hi037, _, hsz37, _⟩ := info_parts info9
                          obtain ⟨A37, hcut37, hA37, hC37⟩ := print_drop_of (P := Try.prog) Value.string (⟨#[]⟩ : ByteArray) 31 9 .i64 Try.underlying31 hi037 hsz37 (some ad258) c0 l0 1 (by omega) (of_decide_eq_true (by first | (with_reducible assumption) | assumption)) HC0.out
                          have HR268 := Aside0.mk (Kd.C_of_reads (h1 := fun _ => rfl) (hA37 _ (Kd.reads_of_C HR0.out)))
                          have HC268 := Aside0.mk hC37
                          clear hA37 hC37 hi037 hsz37
                          obtain ⟨i038, hi038, _, hsz38, _⟩ := info_parts info9
                          obtain ⟨A38, hcut38, hA38, hC38⟩ := print_drop_of (P := Try.prog) Value.string (⟨#[]⟩ : ByteArray) 31 9 .i64 Try.underlying31 hi038 hsz38 (some ad262) c1 l1 1 (by omega) (of_decide_eq_true (by first | (with_reducible assumption) | assumption)) HC1.out
                          have HR269 := Aside0.mk (Kd.C_of_reads (h1 := fun _ => rfl) (hA38 _ (Kd.reads_of_C HR1.out)))
                          have HC269 := Aside0.mk hC38
                          clear hA38 hC38 hi038 hsz38
                          refine start_ (n := 27) (S := fun w' => w'.cell? ad258 = some (.string (rdOf ByteArray.empty l0 0)) ∧ w'.cell? ad262 = some (.string (rdOf ByteArray.empty l1 0)) ∧ w'.cell? ad258 = some (.string (rdOf ByteArray.empty l0 0)) ∧ w'.cell? ad262 = some (.string (rdOf ByteArray.empty l1 0))) (ds := []) #[false, false, false, false, false, false, false, false, false, false, false, false, false, false, false, false, false, false, false, false, false, false, false, false, false, false, false] (by kernel_rfl) rfl rfl ⟨((HB.out.cell (World.block_lt_of_cell? w _ hw258_0)).trans hw258_0), ((HB.out.cell (World.block_lt_of_cell? w _ hw262_0)).trans hw262_0), ((HB.out.cell (World.block_lt_of_cell? w _ hw266_0)).trans hw266_0), ((HB.out.cell (World.block_lt_of_cell? w _ hw267_0)).trans hw267_0)⟩ (fun hHeld => ?_); refine with_tabW surmiseref08_meets.tab5 surmiseref08_meets.bits5 (fun HT_ HW_ => ?_)
                          generalize wc.drew = w36 at HB HR268 HR269 hx258_0 hx262_0 hx266_0 hx267_0 hHeld ⊢
                          refine pure_ (i := 0) (N := some 41) (v := ?_) (a' := ?_) #[true, false, false, false, false, false, false, false, false, false, false, false, false, false, false, false, false, false, false, false, false, false, false, false, false, false, false] rfl rfl (any_of HT_.out (by kernel_rfl)) (fun _ _ _ h => h) (Or.inl ⟨by rfl, ?_⟩) ?_ ?_
                          rotate_left
                          · intro w'
                            go_simp
                            with_reducible rfl
                          rotate_left
                          · simp only [Act.put, List.setIfInBounds_toArray, List.set_cons_zero, List.set_cons_succ, i64_w, i32_w]
                            rfl
                          refine pure_ (i := 1) (N := some 42) (v := ?_) (a' := ?_) #[true, true, false, false, false, false, false, false, false, false, false, false, false, false, false, false, false, false, false, false, false, false, false, false, false, false, false] rfl rfl (any_of HT_.out (by kernel_rfl)) (fun _ _ _ h => h) (Or.inl ⟨by rfl, ?_⟩) ?_ ?_
                          rotate_left
                          · intro w'
                            go_simp
                            with_reducible rfl
                          rotate_left
                          · simp only [Act.put, List.setIfInBounds_toArray, List.set_cons_zero, List.set_cons_succ, i64_w, i32_w]
                            rfl
                          refine take_ (i := 2) (N := some 43) (v := ?_) (a' := ?_) #[true, true, true, false, false, false, false, false, false, false, false, false, false, false, false, false, false, false, false, false, false, false, false, false, false, false, false] rfl rfl (take_ofW HT_.out HW_.out (by kernel_rfl)) (fun _ _ _ h => h) (Or.inl ⟨by rfl, ?_⟩) hHeld ?_ ?_
                          rotate_left
                          · rintro w' ⟨s0, s1, s2, s3⟩
                            go_simp
                            with_reducible rfl
                          rotate_left
                          · simp only [Act.put, List.setIfInBounds_toArray, List.set_cons_zero, List.set_cons_succ, i64_w, i32_w]
                            rfl
                          refine pure_ (i := 3) (N := some 44) (v := ?_) (a' := ?_) #[true, true, true, true, false, false, false, false, false, false, false, false, false, false, false, false, false, false, false, false, false, false, false, false, false, false, false] rfl rfl (any_of HT_.out (by kernel_rfl)) (fun _ _ _ h => h) (Or.inl ⟨by rfl, ?_⟩) ?_ ?_
                          rotate_left
                          · intro w'
                            go_simp
                            with_reducible rfl
                          rotate_left
                          · simp only [Act.put, List.setIfInBounds_toArray, List.set_cons_zero, List.set_cons_succ, i64_w, i32_w]
                            rfl
                          refine pure_ (i := 4) (N := some 45) (v := ?_) (a' := ?_) #[true, true, true, true, true, false, false, false, false, false, false, false, false, false, false, false, false, false, false, false, false, false, false, false, false, false, false] rfl rfl (any_of HT_.out (by kernel_rfl)) (fun _ _ _ h => h) (Or.inl ⟨by rfl, ?_⟩) ?_ ?_
                          rotate_left
                          · intro w'
                            go_simp
                            with_reducible rfl
                          rotate_left
                          · simp only [Act.put, List.setIfInBounds_toArray, List.set_cons_zero, List.set_cons_succ, i64_w, i32_w]
                            rfl
                          refine pure_ (i := 5) (N := some 46) (v := ?_) (a' := ?_) #[true, true, true, true, true, true, false, false, false, false, false, false, false, false, false, false, false, false, false, false, false, false, false, false, false, false, false] rfl rfl (any_of HT_.out (by kernel_rfl)) (fun _ _ _ h => h) (Or.inl ⟨by rfl, ?_⟩) ?_ ?_
                          rotate_left
                          · intro w'
                            go_simp
                            with_reducible rfl
                          rotate_left
                          · simp only [Act.put, List.setIfInBounds_toArray, List.set_cons_zero, List.set_cons_succ, i64_w, i32_w]
                            rfl
                          refine pure_ (i := 6) (N := some 47) (v := ?_) (a' := ?_) #[true, true, true, true, true, true, true, false, false, false, false, false, false, false, false, false, false, false, false, false, false, false, false, false, false, false, false] rfl rfl (any_of HT_.out (by kernel_rfl)) (fun _ _ _ h => h) (Or.inl ⟨by rfl, ?_⟩) ?_ ?_
                          rotate_left
                          · intro w'
                            go_simp
                            with_reducible rfl
                          rotate_left
                          · simp only [Act.put, List.setIfInBounds_toArray, List.set_cons_zero, List.set_cons_succ, i64_w, i32_w]
                            rfl
                          refine take_ (i := 7) (N := some 48) (v := ?_) (a' := ?_) #[true, true, true, true, true, true, true, true, false, false, false, false, false, false, false, false, false, false, false, false, false, false, false, false, false, false, false] rfl rfl (take_ofW HT_.out HW_.out (by kernel_rfl)) (fun _ _ _ h => h) (Or.inl ⟨by rfl, ?_⟩) hHeld ?_ ?_
                          rotate_left
                          · rintro w' ⟨s0, s1, s2, s3⟩
                            go_simp
                            with_reducible rfl
                          rotate_left
                          · simp only [Act.put, List.setIfInBounds_toArray, List.set_cons_zero, List.set_cons_succ, i64_w, i32_w]
                            rfl
                          refine pure_ (i := 8) (N := some 49) (v := ?_) (a' := ?_) #[true, true, true, true, true, true, true, true, true, false, false, false, false, false, false, false, false, false, false, false, false, false, false, false, false, false, false] rfl rfl (any_of HT_.out (by kernel_rfl)) (fun _ _ _ h => h) (Or.inl ⟨by rfl, ?_⟩) ?_ ?_
                          rotate_left
                          · intro w'
                            go_simp
                            with_reducible rfl
                          rotate_left
                          · simp only [Act.put, List.setIfInBounds_toArray, List.set_cons_zero, List.set_cons_succ, i64_w, i32_w]
                            rfl
                          refine pure_ (i := 9) (N := some 50) (v := ?_) (a' := ?_) #[true, true, true, true, true, true, true, true, true, true, false, false, false, false, false, false, false, false, false, false, false, false, false, false, false, false, false] rfl rfl (any_of HT_.out (by kernel_rfl)) (fun _ _ _ h => h) (Or.inl ⟨by rfl, ?_⟩) ?_ ?_
                          rotate_left
                          · intro w'
                            go_simp
                            with_reducible rfl
                          rotate_left
                          · simp only [Act.put, List.setIfInBounds_toArray, List.set_cons_zero, List.set_cons_succ, i64_w, i32_w]
                            rfl
                          refine pure_ (i := 10) (N := some 51) (v := ?_) (a' := ?_) #[true, true, true, true, true, true, true, true, true, true, true, false, false, false, false, false, false, false, false, false, false, false, false, false, false, false, false] rfl rfl (any_of HT_.out (by kernel_rfl)) (fun _ _ _ h => h) (Or.inl ⟨by rfl, ?_⟩) ?_ ?_
                          rotate_left
                          · intro w'
                            go_simp
                            with_reducible rfl
                          rotate_left
                          · simp only [Act.put, List.setIfInBounds_toArray, List.set_cons_zero, List.set_cons_succ, i64_w, i32_w]
                            rfl
                          refine pure_ (i := 11) (N := some 52) (v := ?_) (a' := ?_) #[true, true, true, true, true, true, true, true, true, true, true, true, false, false, false, false, false, false, false, false, false, false, false, false, false, false, false] rfl rfl (any_of HT_.out (by kernel_rfl)) (fun _ _ _ h => h) (Or.inl ⟨by rfl, ?_⟩) ?_ ?_
                          rotate_left
                          · intro w'
                            go_simp
                            with_reducible rfl
                          rotate_left
                          · simp only [Act.put, List.setIfInBounds_toArray, List.set_cons_zero, List.set_cons_succ, i64_w, i32_w]
                            rfl
                          refine pure_ (i := 12) (N := some 53) (v := ?_) (a' := ?_) #[true, true, true, true, true, true, true, true, true, true, true, true, true, false, false, false, false, false, false, false, false, false, false, false, false, false, false] rfl rfl (any_of HT_.out (by kernel_rfl)) (fun _ _ _ h => h) (Or.inl ⟨by rfl, ?_⟩) ?_ ?_
                          rotate_left
                          · intro w'
                            go_simp
                            with_reducible rfl
                          rotate_left
                          · simp only [Act.put, List.setIfInBounds_toArray, List.set_cons_zero, List.set_cons_succ, i64_w, i32_w]
                            rfl
                          refine pure_ (i := 14) (N := some 55) (v := ?_) (a' := ?_) #[true, true, true, true, true, true, true, true, true, true, true, true, true, false, true, false, false, false, false, false, false, false, false, false, false, false, false] rfl rfl (any_of HT_.out (by kernel_rfl)) (fun _ _ _ h => h) (Or.inl ⟨by rfl, ?_⟩) ?_ ?_
                          rotate_left
                          · intro w'
                            go_simp
                            with_reducible rfl
                          rotate_left
                          · simp only [Act.put, List.setIfInBounds_toArray, List.set_cons_zero, List.set_cons_succ, i64_w, i32_w]
                            rfl
                          refine pure_ (i := 15) (N := some 56) (v := ?_) (a' := ?_) #[true, true, true, true, true, true, true, true, true, true, true, true, true, false, true, true, false, false, false, false, false, false, false, false, false, false, false] rfl rfl (any_of HT_.out (by kernel_rfl)) (fun _ _ _ h => h) (Or.inl ⟨by rfl, ?_⟩) ?_ ?_
                          rotate_left
                          · intro w'
                            go_simp
                            with_reducible rfl
                          rotate_left
                          · simp only [Act.put, List.setIfInBounds_toArray, List.set_cons_zero, List.set_cons_succ, i64_w, i32_w]
                            rfl
                          refine take_ (i := 13) (N := some 54) (v := ?_) (a' := ?_) #[true, true, true, true, true, true, true, true, true, true, true, true, true, true, true, true, false, false, false, false, false, false, false, false, false, false, false] rfl rfl (take_ofW HT_.out HW_.out (by kernel_rfl)) (fun _ _ _ h => h) (Or.inl ⟨by rfl, ?_⟩) hHeld ?_ ?_
                          rotate_left
                          · rintro w' ⟨s0, s1, s2, s3⟩
                            go_simp
                            with_reducible rfl
                          rotate_left
                          · simp only [Act.put, List.setIfInBounds_toArray, List.set_cons_zero, List.set_cons_succ, i64_w, i32_w]
                            rfl
                          refine take_ (i := 16) (N := some 57) (v := ?_) (a' := ?_) #[true, true, true, true, true, true, true, true, true, true, true, true, true, true, true, true, true, false, false, false, false, false, false, false, false, false, false] rfl rfl (take_ofW HT_.out HW_.out (by kernel_rfl)) (fun _ _ _ h => h) (Or.inl ⟨by rfl, ?_⟩) hHeld ?_ ?_
                          rotate_left
                          · rintro w' ⟨s0, s1, s2, s3⟩
                            go_simp
                            with_reducible rfl
                          rotate_left
                          · simp only [Act.put, List.setIfInBounds_toArray, List.set_cons_zero, List.set_cons_succ, i64_w, i32_w]
                            rfl
                          refine pure_ (i := 17) (N := some 58) (v := ?_) (a' := ?_) #[true, true, true, true, true, true, true, true, true, true, true, true, true, true, true, true, true, true, false, false, false, false, false, false, false, false, false] rfl rfl (any_of HT_.out (by kernel_rfl)) (fun _ _ _ h => h) (Or.inl ⟨by rfl, ?_⟩) ?_ ?_
                          rotate_left
                          · intro w'
                            go_simp
                            with_reducible rfl
                          rotate_left
                          · simp only [Act.put, List.setIfInBounds_toArray, List.set_cons_zero, List.set_cons_succ, i64_w, i32_w]
                            rfl
                          refine pure_ (i := 18) (N := some 59) (v := ?_) (a' := ?_) #[true, true, true, true, true, true, true, true, true, true, true, true, true, true, true, true, true, true, true, false, false, false, false, false, false, false, false] rfl rfl (any_of HT_.out (by kernel_rfl)) (fun _ _ _ h => h) (Or.inl ⟨by rfl, ?_⟩) ?_ ?_
                          rotate_left
                          · intro w'
                            go_simp
                            with_reducible rfl
                          rotate_left
                          · simp only [Act.put, List.setIfInBounds_toArray, List.set_cons_zero, List.set_cons_succ, i64_w, i32_w]
                            rfl
                          refine pure_ (i := 19) (N := some 60) (v := ?_) (a' := ?_) #[true, true, true, true, true, true, true, true, true, true, true, true, true, true, true, true, true, true, true, true, false, false, false, false, false, false, false] rfl rfl (any_of HT_.out (by kernel_rfl)) (fun _ _ _ h => h) (Or.inl ⟨by rfl, ?_⟩) ?_ ?_
                          rotate_left
                          · intro w'
                            go_simp
                            with_reducible rfl
                          rotate_left
                          · simp only [Act.put, List.setIfInBounds_toArray, List.set_cons_zero, List.set_cons_succ, i64_w, i32_w]
                            rfl
                          refine pure_ (i := 20) (N := some 61) (v := ?_) (a' := ?_) #[true, true, true, true, true, true, true, true, true, true, true, true, true, true, true, true, true, true, true, true, true, false, false, false, false, false, false] rfl rfl (any_of HT_.out (by kernel_rfl)) (fun _ _ _ h => h) (Or.inl ⟨by rfl, ?_⟩) ?_ ?_
                          rotate_left
                          · intro w'
                            go_simp
                            with_reducible rfl
                          rotate_left
                          · simp only [Act.put, List.setIfInBounds_toArray, List.set_cons_zero, List.set_cons_succ, i64_w, i32_w]
                            rfl
                          refine pure_ (i := 21) (N := some 62) (v := ?_) (a' := ?_) #[true, true, true, true, true, true, true, true, true, true, true, true, true, true, true, true, true, true, true, true, true, true, false, false, false, false, false] rfl rfl (any_of HT_.out (by kernel_rfl)) (fun _ _ _ h => h) (Or.inl ⟨by rfl, ?_⟩) ?_ ?_
                          rotate_left
                          · intro w'
                            go_simp
                            with_reducible rfl
                          rotate_left
                          · simp only [Act.put, List.setIfInBounds_toArray, List.set_cons_zero, List.set_cons_succ, i64_w, i32_w]
                            rfl
                          refine pure_ (i := 22) (N := some 63) (v := ?_) (a' := ?_) #[true, true, true, true, true, true, true, true, true, true, true, true, true, true, true, true, true, true, true, true, true, true, true, false, false, false, false] rfl rfl (any_of HT_.out (by kernel_rfl)) (fun _ _ _ h => h) (Or.inl ⟨by rfl, ?_⟩) ?_ ?_
                          rotate_left
                          · intro w'
                            go_simp
                            with_reducible rfl
                          rotate_left
                          · simp only [Act.put, List.setIfInBounds_toArray, List.set_cons_zero, List.set_cons_succ, i64_w, i32_w]
                            rfl
                          refine pure_ (i := 23) (N := some 64) (v := ?_) (a' := ?_) #[true, true, true, true, true, true, true, true, true, true, true, true, true, true, true, true, true, true, true, true, true, true, true, true, false, false, false] rfl rfl (any_of HT_.out (by kernel_rfl)) (fun _ _ _ h => h) (Or.inl ⟨by rfl, ?_⟩) ?_ ?_
                          rotate_left
                          · intro w'
                            go_simp
                            with_reducible rfl
                          rotate_left
                          · simp only [Act.put, List.setIfInBounds_toArray, List.set_cons_zero, List.set_cons_succ, i64_w, i32_w]
                            rfl
                          refine one_ (i := 24) (N := some 65) #[true, true, true, true, true, true, true, true, true, true, true, true, true, true, true, true, true, true, true, true, true, true, true, true, true, false, false] rfl rfl (one_of HT_.out (by kernel_rfl)) (by decide) (fun K hK => ?_)
                          refine goes_ Try.func37 (by kernel_rfl) rfl #[.slice A37 (l0.drop 1).length (c0 - 1), .slice A38 (l1.drop 1).length (c1 - 1)] (by rfl) rfl rfl (by (try simp only [List.map_toArray, List.map_cons, List.map_nil]); first | done | (rw [show (l0.drop 1).length = (l0.length - 1) from List.length_drop] <;> rfl) | (rw [show (l1.drop 1).length = (l1.length - 1) from List.length_drop] <;> rfl) | rfl | (simp only [List.length_drop, List.length_take]; rfl)) ?_
                          with_reducible refine (ih kj2 (by have := HJ2.out; omega) _ _ (l0.drop 1) _ _ (l1.drop 1) t270 _ ?side1 ?side2 ?side3 ?side4 A35.out).mono ?_
                          (case side1 => repeat (first | exact (Kd.C_below HR268.out HB.out) | (with_reducible refine Kd.C_alloc ?_ _) | (with_reducible refine Kd.C_drewN ?_ _) | (with_reducible refine Kd.C_drew ?_)))
                          (case side2 => exact HC268.out)
                          (case side3 => repeat (first | exact (Kd.C_below HR269.out HB.out) | (with_reducible refine Kd.C_alloc ?_ _) | (with_reducible refine Kd.C_drewN ?_ _) | (with_reducible refine Kd.C_drew ?_)))
                          (case side4 => exact HC269.out)
                          rintro e w39 ⟨rfl, hb⟩
                          refine ⟨_, rfl, ?_⟩
                          have n0_ := Aside0.mk (below_step (by repeat (first | (with_reducible first | exact HB.out | apply below_alloc | apply pw_below_drewN | apply below_drew1) | exact HB.out)) hb)
                          clear HB
                          have HB := n0_
                          clear n0_
                          (try clear hb)
                          (try clear hb2)
                          (try clear hk)
                          (try clear hi)
                          refine hK.out _ _ ⟨((HB.out.cell (World.block_lt_of_cell? w _ hw258_0)).trans hw258_0), ((HB.out.cell (World.block_lt_of_cell? w _ hw262_0)).trans hw262_0), ((HB.out.cell (World.block_lt_of_cell? w _ hw266_0)).trans hw266_0), ((HB.out.cell (World.block_lt_of_cell? w _ hw267_0)).trans hw267_0)⟩ (fun hHeld => ?_)
                          clear hK K
                          refine norm_ (a' := ?_) ?_ ?_
                          rotate_left
                          · show Act.put _ (some 65) _ = _
                            simp only [Act.put, List.setIfInBounds_toArray, List.set_cons_zero, List.set_cons_succ, i64_w, i32_w]
                            rfl
                          refine pure_ (i := 25) (N := some 66) (v := ?_) (a' := ?_) #[true, true, true, true, true, true, true, true, true, true, true, true, true, true, true, true, true, true, true, true, true, true, true, true, true, true, false] rfl rfl (any_of HT_.out (by kernel_rfl)) (fun _ _ _ h => h) (Or.inl ⟨by rfl, ?_⟩) ?_ ?_
                          rotate_left
                          · intro w'
                            go_simp
                            with_reducible rfl
                          rotate_left
                          · simp only [Act.put, List.setIfInBounds_toArray, List.set_cons_zero, List.set_cons_succ, i64_w, i32_w]
                            rfl
                          refine pure_ (i := 26) (N := some 4) (v := ?_) (a' := ?_) #[true, true, true, true, true, true, true, true, true, true, true, true, true, true, true, true, true, true, true, true, true, true, true, true, true, true, true] rfl rfl (any_of HT_.out (by kernel_rfl)) (fun _ _ _ h => h) (Or.inl ⟨by rfl, ?_⟩) ?_ ?_
                          rotate_left
                          · intro w'
                            go_simp
                            with_reducible rfl
                          rotate_left
                          · simp only [Act.put, List.setIfInBounds_toArray, List.set_cons_zero, List.set_cons_succ, i64_w, i32_w]
                            rfl
                          refine done_ (done_of HT_.out (by kernel_rfl)) ?_
                          try go_wp2
                          go_ret
                          exact ⟨by first | rfl | (simp [errW_none, errW_some] <;> rfl) | (simp [*, errW_none, errW_some] <;> rfl), by repeat (first | (with_reducible first | exact HB.out | apply below_alloc | apply pw_below_drewN | apply below_drew1) | exact HB.out)⟩
                        · rw [if_neg c34] at H
                          exact absurd H (by simp)
                      · rw [if_neg c33] at H
                        exact absurd H (by simp)
                    · rw [if_neg c32] at H
                      have c32b0 : ((rdOf ByteArray.empty l0 0).toList == (rdOf ByteArray.empty l1 0).toList) = false := beq_eq_false_iff_ne.mpr c32
                      have c32b1 : ((rdOf ByteArray.empty l0 0).toList != (rdOf ByteArray.empty l1 0).toList) = true := bne_iff_ne.mpr c32
                      obtain rfl := Option.some.inj H
                      try go_wp2
                      have n0_ := Aside0.mk (below_drew1 HB.out)
                      clear HB
                      have HB := n0_
                      clear n0_
                      have p258 : 0 ≤ (0 : Int) := (by omega)
                      have q258 : 0 < (l0.length : Int) := of_decide_eq_true (by first | (with_reducible assumption) | assumption)
                      obtain ⟨ad258, e258, hx258_0⟩ := Kd.at_string HR0.out 0 p258 q258
                      have hw258_0 := hx258_0
                      (try rw [show ((0 : Int)).toNat = 0 from rfl] at hw258_0)
                      (try rw [show 0 * 1 = 0 from rfl] at hw258_0)
                      (try rw [Addr.add_zero'] at hw258_0)
                      cases e258
                      have qi258 : (0 < l0.length) = True := eq_true (by omega)
                      (try rw [show ((0 : Int)).toNat = 0 from rfl] at hx258_0)
                      (try rw [Addr.add_zero'] at hx258_0)
                      replace hx258_0 := (HB.out.cell (World.block_lt_of_cell? w _ hx258_0)).trans hx258_0
                      replace p258 := eq_true p258
                      replace q258 := eq_true q258
                      have p262 : 0 ≤ (0 : Int) := (by omega)
                      have q262 : 0 < (l1.length : Int) := of_decide_eq_true (by first | (with_reducible assumption) | assumption)
                      obtain ⟨ad262, e262, hx262_0⟩ := Kd.at_string HR1.out 0 p262 q262
                      have hw262_0 := hx262_0
                      (try rw [show ((0 : Int)).toNat = 0 from rfl] at hw262_0)
                      (try rw [show 0 * 1 = 0 from rfl] at hw262_0)
                      (try rw [Addr.add_zero'] at hw262_0)
                      cases e262
                      have qi262 : (0 < l1.length) = True := eq_true (by omega)
                      (try rw [show ((0 : Int)).toNat = 0 from rfl] at hx262_0)
                      (try rw [Addr.add_zero'] at hx262_0)
                      replace hx262_0 := (HB.out.cell (World.block_lt_of_cell? w _ hx262_0)).trans hx262_0
                      replace p262 := eq_true p262
                      replace q262 := eq_true q262
                      have p266 : 0 ≤ (0 : Int) := (by omega)
                      have q266 : 0 < (l0.length : Int) := of_decide_eq_true (by first | (with_reducible assumption) | assumption)
                      obtain ⟨ad266, e266, hx266_0⟩ := Kd.at_string HR0.out 0 p266 q266
                      have hw266_0 := hx266_0
                      (try rw [show ((0 : Int)).toNat = 0 from rfl] at hw266_0)
                      (try rw [show 0 * 1 = 0 from rfl] at hw266_0)
                      (try rw [Addr.add_zero'] at hw266_0)
                      obtain rfl : ad258 = ad266 := (by injection e266)
                      have qi266 : (0 < l0.length) = True := eq_true (by omega)
                      (try rw [show ((0 : Int)).toNat = 0 from rfl] at hx266_0)
                      (try rw [Addr.add_zero'] at hx266_0)
                      replace hx266_0 := (HB.out.cell (World.block_lt_of_cell? w _ hx266_0)).trans hx266_0
                      replace p266 := eq_true p266
                      replace q266 := eq_true q266
                      have p267 : 0 ≤ (0 : Int) := (by omega)
                      have q267 : 0 < (l1.length : Int) := of_decide_eq_true (by first | (with_reducible assumption) | assumption)
                      obtain ⟨ad267, e267, hx267_0⟩ := Kd.at_string HR1.out 0 p267 q267
                      have hw267_0 := hx267_0
                      (try rw [show ((0 : Int)).toNat = 0 from rfl] at hw267_0)
                      (try rw [show 0 * 1 = 0 from rfl] at hw267_0)
                      (try rw [Addr.add_zero'] at hw267_0)
                      obtain rfl : ad262 = ad267 := (by injection e267)
                      have qi267 : (0 < l1.length) = True := eq_true (by omega)
                      (try rw [show ((0 : Int)).toNat = 0 from rfl] at hx267_0)
                      (try rw [Addr.add_zero'] at hx267_0)
                      replace hx267_0 := (HB.out.cell (World.block_lt_of_cell? w _ hx267_0)).trans hx267_0
                      replace p267 := eq_true p267
                      replace q267 := eq_true q267
                      refine start_ (n := 27) (S := fun w' => w'.cell? ad258 = some (.string (rdOf ByteArray.empty l0 0)) ∧ w'.cell? ad262 = some (.string (rdOf ByteArray.empty l1 0)) ∧ w'.cell? ad258 = some (.string (rdOf ByteArray.empty l0 0)) ∧ w'.cell? ad262 = some (.string (rdOf ByteArray.empty l1 0))) (ds := []) #[false, false, false, false, false, false, false, false, false, false, false, false, false, false, false, false, false, false, false, false, false, false, false, false, false, false, false] (by kernel_rfl) rfl rfl ⟨((HB.out.cell (World.block_lt_of_cell? w _ hw258_0)).trans hw258_0), ((HB.out.cell (World.block_lt_of_cell? w _ hw262_0)).trans hw262_0), ((HB.out.cell (World.block_lt_of_cell? w _ hw266_0)).trans hw266_0), ((HB.out.cell (World.block_lt_of_cell? w _ hw267_0)).trans hw267_0)⟩ (fun hHeld => ?_); refine with_tabW surmiseref08_meets.tab5 surmiseref08_meets.bits5 (fun HT_ HW_ => ?_)
                      generalize wc.drew = w40 at HB hx258_0 hx262_0 hx266_0 hx267_0 hHeld ⊢
                      refine pure_ (i := 0) (N := some 41) (v := ?_) (a' := ?_) #[true, false, false, false, false, false, false, false, false, false, false, false, false, false, false, false, false, false, false, false, false, false, false, false, false, false, false] rfl rfl (any_of HT_.out (by kernel_rfl)) (fun _ _ _ h => h) (Or.inl ⟨by rfl, ?_⟩) ?_ ?_
                      rotate_left
                      · intro w'
                        go_simp
                        with_reducible rfl
                      rotate_left
                      · simp only [Act.put, List.setIfInBounds_toArray, List.set_cons_zero, List.set_cons_succ, i64_w, i32_w]
                        rfl
                      refine pure_ (i := 1) (N := some 42) (v := ?_) (a' := ?_) #[true, true, false, false, false, false, false, false, false, false, false, false, false, false, false, false, false, false, false, false, false, false, false, false, false, false, false] rfl rfl (any_of HT_.out (by kernel_rfl)) (fun _ _ _ h => h) (Or.inl ⟨by rfl, ?_⟩) ?_ ?_
                      rotate_left
                      · intro w'
                        go_simp
                        with_reducible rfl
                      rotate_left
                      · simp only [Act.put, List.setIfInBounds_toArray, List.set_cons_zero, List.set_cons_succ, i64_w, i32_w]
                        rfl
                      refine take_ (i := 2) (N := some 43) (v := ?_) (a' := ?_) #[true, true, true, false, false, false, false, false, false, false, false, false, false, false, false, false, false, false, false, false, false, false, false, false, false, false, false] rfl rfl (take_ofW HT_.out HW_.out (by kernel_rfl)) (fun _ _ _ h => h) (Or.inl ⟨by rfl, ?_⟩) hHeld ?_ ?_
                      rotate_left
                      · rintro w' ⟨s0, s1, s2, s3⟩
                        go_simp
                        with_reducible rfl
                      rotate_left
                      · simp only [Act.put, List.setIfInBounds_toArray, List.set_cons_zero, List.set_cons_succ, i64_w, i32_w]
                        rfl
                      refine pure_ (i := 3) (N := some 44) (v := ?_) (a' := ?_) #[true, true, true, true, false, false, false, false, false, false, false, false, false, false, false, false, false, false, false, false, false, false, false, false, false, false, false] rfl rfl (any_of HT_.out (by kernel_rfl)) (fun _ _ _ h => h) (Or.inl ⟨by rfl, ?_⟩) ?_ ?_
                      rotate_left
                      · intro w'
                        go_simp
                        with_reducible rfl
                      rotate_left
                      · simp only [Act.put, List.setIfInBounds_toArray, List.set_cons_zero, List.set_cons_succ, i64_w, i32_w]
                        rfl
                      refine pure_ (i := 4) (N := some 45) (v := ?_) (a' := ?_) #[true, true, true, true, true, false, false, false, false, false, false, false, false, false, false, false, false, false, false, false, false, false, false, false, false, false, false] rfl rfl (any_of HT_.out (by kernel_rfl)) (fun _ _ _ h => h) (Or.inl ⟨by rfl, ?_⟩) ?_ ?_
                      rotate_left
                      · intro w'
                        go_simp
                        with_reducible rfl
                      rotate_left
                      · simp only [Act.put, List.setIfInBounds_toArray, List.set_cons_zero, List.set_cons_succ, i64_w, i32_w]
                        rfl
                      refine pure_ (i := 5) (N := some 46) (v := ?_) (a' := ?_) #[true, true, true, true, true, true, false, false, false, false, false, false, false, false, false, false, false, false, false, false, false, false, false, false, false, false, false] rfl rfl (any_of HT_.out (by kernel_rfl)) (fun _ _ _ h => h) (Or.inl ⟨by rfl, ?_⟩) ?_ ?_
                      rotate_left
                      · intro w'
                        go_simp
                        with_reducible rfl
                      rotate_left
                      · simp only [Act.put, List.setIfInBounds_toArray, List.set_cons_zero, List.set_cons_succ, i64_w, i32_w]
                        rfl
                      refine pure_ (i := 6) (N := some 47) (v := ?_) (a' := ?_) #[true, true, true, true, true, true, true, false, false, false, false, false, false, false, false, false, false, false, false, false, false, false, false, false, false, false, false] rfl rfl (any_of HT_.out (by kernel_rfl)) (fun _ _ _ h => h) (Or.inl ⟨by rfl, ?_⟩) ?_ ?_
                      rotate_left
                      · intro w'
                        go_simp
                        with_reducible rfl
                      rotate_left
                      · simp only [Act.put, List.setIfInBounds_toArray, List.set_cons_zero, List.set_cons_succ, i64_w, i32_w]
                        rfl
                      refine take_ (i := 7) (N := some 48) (v := ?_) (a' := ?_) #[true, true, true, true, true, true, true, true, false, false, false, false, false, false, false, false, false, false, false, false, false, false, false, false, false, false, false] rfl rfl (take_ofW HT_.out HW_.out (by kernel_rfl)) (fun _ _ _ h => h) (Or.inl ⟨by rfl, ?_⟩) hHeld ?_ ?_
                      rotate_left
                      · rintro w' ⟨s0, s1, s2, s3⟩
                        go_simp
                        with_reducible rfl
                      rotate_left
                      · simp only [Act.put, List.setIfInBounds_toArray, List.set_cons_zero, List.set_cons_succ, i64_w, i32_w]
                        rfl
                      refine pure_ (i := 8) (N := some 49) (v := ?_) (a' := ?_) #[true, true, true, true, true, true, true, true, true, false, false, false, false, false, false, false, false, false, false, false, false, false, false, false, false, false, false] rfl rfl (any_of HT_.out (by kernel_rfl)) (fun _ _ _ h => h) (Or.inl ⟨by rfl, ?_⟩) ?_ ?_
                      rotate_left
                      · intro w'
                        go_simp
                        with_reducible rfl
                      rotate_left
                      · simp only [Act.put, List.setIfInBounds_toArray, List.set_cons_zero, List.set_cons_succ, i64_w, i32_w]
                        rfl
                      refine pure_ (i := 9) (N := some 50) (v := ?_) (a' := ?_) #[true, true, true, true, true, true, true, true, true, true, false, false, false, false, false, false, false, false, false, false, false, false, false, false, false, false, false] rfl rfl (any_of HT_.out (by kernel_rfl)) (fun _ _ _ h => h) (Or.inl ⟨by rfl, ?_⟩) ?_ ?_
                      rotate_left
                      · intro w'
                        go_simp
                        with_reducible rfl
                      rotate_left
                      · simp only [Act.put, List.setIfInBounds_toArray, List.set_cons_zero, List.set_cons_succ, i64_w, i32_w]
                        rfl
                      refine pure_ (i := 10) (N := some 51) (v := ?_) (a' := ?_) #[true, true, true, true, true, true, true, true, true, true, true, false, false, false, false, false, false, false, false, false, false, false, false, false, false, false, false] rfl rfl (any_of HT_.out (by kernel_rfl)) (fun _ _ _ h => h) (Or.inl ⟨by rfl, ?_⟩) ?_ ?_
                      rotate_left
                      · intro w'
                        go_simp
                        with_reducible rfl
                      rotate_left
                      · simp only [Act.put, List.setIfInBounds_toArray, List.set_cons_zero, List.set_cons_succ, i64_w, i32_w]
                        rfl
                      refine pure_ (i := 11) (N := some 52) (v := ?_) (a' := ?_) #[true, true, true, true, true, true, true, true, true, true, true, true, false, false, false, false, false, false, false, false, false, false, false, false, false, false, false] rfl rfl (any_of HT_.out (by kernel_rfl)) (fun _ _ _ h => h) (Or.inl ⟨by rfl, ?_⟩) ?_ ?_
                      rotate_left
                      · intro w'
                        go_simp
                        with_reducible rfl
                      rotate_left
                      · simp only [Act.put, List.setIfInBounds_toArray, List.set_cons_zero, List.set_cons_succ, i64_w, i32_w]
                        rfl
                      refine pure_ (i := 12) (N := some 53) (v := ?_) (a' := ?_) #[true, true, true, true, true, true, true, true, true, true, true, true, true, false, false, false, false, false, false, false, false, false, false, false, false, false, false] rfl rfl (any_of HT_.out (by kernel_rfl)) (fun _ _ _ h => h) (Or.inl ⟨by rfl, ?_⟩) ?_ ?_
                      rotate_left
                      · intro w'
                        go_simp
                        with_reducible rfl
                      rotate_left
                      · simp only [Act.put, List.setIfInBounds_toArray, List.set_cons_zero, List.set_cons_succ, i64_w, i32_w]
                        rfl
                      refine pure_ (i := 14) (N := some 55) (v := ?_) (a' := ?_) #[true, true, true, true, true, true, true, true, true, true, true, true, true, false, true, false, false, false, false, false, false, false, false, false, false, false, false] rfl rfl (any_of HT_.out (by kernel_rfl)) (fun _ _ _ h => h) (Or.inl ⟨by rfl, ?_⟩) ?_ ?_
                      rotate_left
                      · intro w'
                        go_simp
                        with_reducible rfl
                      rotate_left
                      · simp only [Act.put, List.setIfInBounds_toArray, List.set_cons_zero, List.set_cons_succ, i64_w, i32_w]
                        rfl
                      refine pure_ (i := 15) (N := some 56) (v := ?_) (a' := ?_) #[true, true, true, true, true, true, true, true, true, true, true, true, true, false, true, true, false, false, false, false, false, false, false, false, false, false, false] rfl rfl (any_of HT_.out (by kernel_rfl)) (fun _ _ _ h => h) (Or.inl ⟨by rfl, ?_⟩) ?_ ?_
                      rotate_left
                      · intro w'
                        go_simp
                        with_reducible rfl
                      rotate_left
                      · simp only [Act.put, List.setIfInBounds_toArray, List.set_cons_zero, List.set_cons_succ, i64_w, i32_w]
                        rfl
                      refine take_ (i := 13) (N := some 54) (v := ?_) (a' := ?_) #[true, true, true, true, true, true, true, true, true, true, true, true, true, true, true, true, false, false, false, false, false, false, false, false, false, false, false] rfl rfl (take_ofW HT_.out HW_.out (by kernel_rfl)) (fun _ _ _ h => h) (Or.inl ⟨by rfl, ?_⟩) hHeld ?_ ?_
                      rotate_left
                      · rintro w' ⟨s0, s1, s2, s3⟩
                        go_simp
                        with_reducible rfl
                      rotate_left
                      · simp only [Act.put, List.setIfInBounds_toArray, List.set_cons_zero, List.set_cons_succ, i64_w, i32_w]
                        rfl
                      refine take_ (i := 16) (N := some 57) (v := ?_) (a' := ?_) #[true, true, true, true, true, true, true, true, true, true, true, true, true, true, true, true, true, false, false, false, false, false, false, false, false, false, false] rfl rfl (take_ofW HT_.out HW_.out (by kernel_rfl)) (fun _ _ _ h => h) (Or.inl ⟨by rfl, ?_⟩) hHeld ?_ ?_
                      rotate_left
                      · rintro w' ⟨s0, s1, s2, s3⟩
                        go_simp
                        with_reducible rfl
                      rotate_left
                      · simp only [Act.put, List.setIfInBounds_toArray, List.set_cons_zero, List.set_cons_succ, i64_w, i32_w]
                        rfl
                      refine pure_ (i := 17) (N := some 58) (v := ?_) (a' := ?_) #[true, true, true, true, true, true, true, true, true, true, true, true, true, true, true, true, true, true, false, false, false, false, false, false, false, false, false] rfl rfl (any_of HT_.out (by kernel_rfl)) (fun _ _ _ h => h) (Or.inl ⟨by rfl, ?_⟩) ?_ ?_
                      rotate_left
                      · intro w'
                        go_simp
                        with_reducible rfl
                      rotate_left
                      · simp only [Act.put, List.setIfInBounds_toArray, List.set_cons_zero, List.set_cons_succ, i64_w, i32_w]
                        rfl
                      refine pure_ (i := 18) (N := some 59) (v := ?_) (a' := ?_) #[true, true, true, true, true, true, true, true, true, true, true, true, true, true, true, true, true, true, true, false, false, false, false, false, false, false, false] rfl rfl (any_of HT_.out (by kernel_rfl)) (fun _ _ _ h => h) (Or.inl ⟨by rfl, ?_⟩) ?_ ?_
                      rotate_left
                      · intro w'
                        go_simp
                        with_reducible rfl
                      rotate_left
                      · simp only [Act.put, List.setIfInBounds_toArray, List.set_cons_zero, List.set_cons_succ, i64_w, i32_w]
                        rfl
                      refine pure_ (i := 19) (N := some 60) (v := ?_) (a' := ?_) #[true, true, true, true, true, true, true, true, true, true, true, true, true, true, true, true, true, true, true, true, false, false, false, false, false, false, false] rfl rfl (any_of HT_.out (by kernel_rfl)) (fun _ _ _ h => h) (Or.inl ⟨by rfl, ?_⟩) ?_ ?_
                      rotate_left
                      · intro w'
                        go_simp
                        with_reducible rfl
                      rotate_left
                      · simp only [Act.put, List.setIfInBounds_toArray, List.set_cons_zero, List.set_cons_succ, i64_w, i32_w]
                        rfl
                      refine pure_ (i := 20) (N := some 61) (v := undef) (a' := ?_) #[true, true, true, true, true, true, true, true, true, true, true, true, true, true, true, true, true, true, true, true, true, false, false, false, false, false, false] rfl rfl (any_of HT_.out (by kernel_rfl)) (fun _ _ _ h => h) (Or.inr ⟨by rfl, rfl⟩) ?_ ?_
                      rotate_left
                      · simp only [Act.put, List.setIfInBounds_toArray, List.set_cons_zero, List.set_cons_succ, i64_w, i32_w]
                        rfl
                      refine pure_ (i := 21) (N := some 62) (v := undef) (a' := ?_) #[true, true, true, true, true, true, true, true, true, true, true, true, true, true, true, true, true, true, true, true, true, true, false, false, false, false, false] rfl rfl (any_of HT_.out (by kernel_rfl)) (fun _ _ _ h => h) (Or.inr ⟨by rfl, rfl⟩) ?_ ?_
                      rotate_left
                      · simp only [Act.put, List.setIfInBounds_toArray, List.set_cons_zero, List.set_cons_succ, i64_w, i32_w]
                        rfl
                      refine pure_ (i := 22) (N := some 63) (v := undef) (a' := ?_) #[true, true, true, true, true, true, true, true, true, true, true, true, true, true, true, true, true, true, true, true, true, true, true, false, false, false, false] rfl rfl (any_of HT_.out (by kernel_rfl)) (fun _ _ _ h => h) (Or.inr ⟨by rfl, rfl⟩) ?_ ?_
                      rotate_left
                      · simp only [Act.put, List.setIfInBounds_toArray, List.set_cons_zero, List.set_cons_succ, i64_w, i32_w]
                        rfl
                      refine pure_ (i := 23) (N := some 64) (v := undef) (a' := ?_) #[true, true, true, true, true, true, true, true, true, true, true, true, true, true, true, true, true, true, true, true, true, true, true, true, false, false, false] rfl rfl (any_of HT_.out (by kernel_rfl)) (fun _ _ _ h => h) (Or.inr ⟨by rfl, rfl⟩) ?_ ?_
                      rotate_left
                      · simp only [Act.put, List.setIfInBounds_toArray, List.set_cons_zero, List.set_cons_succ, i64_w, i32_w]
                        rfl
                      refine pure_ (i := 24) (N := some 65) (v := undef) (a' := ?_) #[true, true, true, true, true, true, true, true, true, true, true, true, true, true, true, true, true, true, true, true, true, true, true, true, true, false, false] rfl rfl (any_of HT_.out (by kernel_rfl)) (fun _ _ _ h => h) (Or.inr ⟨by rfl, rfl⟩) ?_ ?_
                      rotate_left
                      · simp only [Act.put, List.setIfInBounds_toArray, List.set_cons_zero, List.set_cons_succ, i64_w, i32_w]
                        rfl
                      refine pure_ (i := 25) (N := some 66) (v := ?_) (a' := ?_) #[true, true, true, true, true, true, true, true, true, true, true, true, true, true, true, true, true, true, true, true, true, true, true, true, true, true, false] rfl rfl (any_of HT_.out (by kernel_rfl)) (fun _ _ _ h => h) (Or.inl ⟨by rfl, ?_⟩) ?_ ?_
                      rotate_left
                      · intro w'
                        go_simp
                        with_reducible rfl
                      rotate_left
                      · simp only [Act.put, List.setIfInBounds_toArray, List.set_cons_zero, List.set_cons_succ, i64_w, i32_w]
                        rfl
                      refine pure_ (i := 26) (N := some 4) (v := ?_) (a' := ?_) #[true, true, true, true, true, true, true, true, true, true, true, true, true, true, true, true, true, true, true, true, true, true, true, true, true, true, true] rfl rfl (any_of HT_.out (by kernel_rfl)) (fun _ _ _ h => h) (Or.inl ⟨by rfl, ?_⟩) ?_ ?_
                      rotate_left
                      · intro w'
                        go_simp
                        with_reducible rfl
                      rotate_left
                      · simp only [Act.put, List.setIfInBounds_toArray, List.set_cons_zero, List.set_cons_succ, i64_w, i32_w]
                        rfl
                      refine done_ (done_of HT_.out (by kernel_rfl)) ?_
                      try go_wp2
                      go_ret
                      exact ⟨by first | rfl | (simp [errW_none, errW_some] <;> rfl) | (simp [*, errW_none, errW_some] <;> rfl), by repeat (first | (with_reducible first | exact HB.out | apply below_alloc | apply pw_below_drewN | apply below_drew1) | exact HB.out)⟩
                · rw [if_neg c23] at H
                  exact absurd H (by simp)
            · rw [if_neg c14] at H
              exact absurd H (by simp)

end Go.Proofs.Ytlcgmlfiggkppaa.Q

-- By px.py, a program of this session that drives the kit's printer: laid out of the translation; Lean checks it.
namespace Go.Proofs.Ytlcgmlfiggkppaa.Q
open Go.RowKit Go.Proofs.YtlcgmlfiggkppaaW.PrintWords Go.Proofs.YtlcgmlfiggkppaaW.PrintLast Go.Proofs.YtlcgmlfiggkppaaW.PrintMore
attribute [local go_sem] max2_int min2_int max_two min_two max_three min_three max_four min_four   -- for this text's walks alone
set_option linter.unusedVariables false
set_option linter.unusedSimpArgs false

/-! ### surmiseref08_Meets: function 18 -/
def surmiseref08_Meets.f (k : Nat) (a0 : ByteArray) (a1 : ByteArray) : Option (Bool) := (surmiseref08_Pattern.f k a0).bind fun t271 => (if t271 = true then ((surmiseref08_Pattern.f k a1).bind fun t272 => (if t272 = true then ((surmiseref08_Parts.f k a0).bind fun t273 => ((surmiseref08_Parts.f k a1).bind fun t276 => ((surmiseref08_meets.f k t273 t276).bind fun t279 => (some t279)))) else (some false))) else (some false))
theorem surmiseref08_Meets.mono : ∀ a0 a1 k, LeO (surmiseref08_Meets.f k a0 a1) (surmiseref08_Meets.f (k + 1) a0 a1) := by
  intro a0 a1 k
  unfold surmiseref08_Meets.f
  repeat' first
      | (with_reducible exact surmiseref08_Parts.mono _ _)
      | (with_reducible exact surmiseref08_Pattern.mono _ _)
      | (with_reducible exact surmiseref08_meets.mono _ _ _)
      | (with_reducible exact LeO.refl _)
      | (with_reducible exact LeO.none _)
      | (with_reducible refine LeO.ite ?_ ?_)
      | (with_reducible refine LeO.bind ?_ (fun _ => ?_))
      | exact surmiseref08_Parts.mono _ _
      | exact surmiseref08_Pattern.mono _ _
      | exact surmiseref08_meets.mono _ _ _
      | exact LeO.none _
      | refine LeO.ite ?_ ?_
      | refine LeO.bind ?_ (fun _ => ?_)
set_option maxHeartbeats 8000000 in
set_option maxRecDepth 100000 in
theorem surmiseref08_Meets.calls (k : Nat) (a0 : ByteArray) (a1 : ByteArray) (r : Bool) (w : World) (h : surmiseref08_Meets.f k a0 a1 = some r) :
    Calls Try.prog 18 #[.string a0, .string a1] w fun e w' => e = .returned (.bool r) ∧ Below w.heap.size w w' := by
  have HB := Aside0.mk (Below.refl w.heap.size w)
  have H : ((surmiseref08_Pattern.f k a0).bind fun t271 => (if t271 = true then ((surmiseref08_Pattern.f k a1).bind fun t272 => (if t272 = true then ((surmiseref08_Parts.f k a0).bind fun t273 => ((surmiseref08_Parts.f k a1).bind fun t276 => ((surmiseref08_meets.f k t273 t276).bind fun t279 => (some t279)))) else (some false))) else (some false))) = some r := h
  clear h
  replace H := Option.bind_eq_some_iff.mp H
  obtain ⟨t271, A30, H⟩ := H
  replace H : (if t271 = true then ((surmiseref08_Pattern.f k a1).bind fun t272 => (if t272 = true then ((surmiseref08_Parts.f k a0).bind fun t273 => ((surmiseref08_Parts.f k a1).bind fun t276 => ((surmiseref08_meets.f k t273 t276).bind fun t279 => (some t279)))) else (some false))) else (some false)) = some r := H
  have A3 := Aside0.mk A30
  clear A30
  by_cases c4 : t271 = true
  · subst c4
    have H1 : ((surmiseref08_Pattern.f k a1).bind fun t272 => (if t272 = true then ((surmiseref08_Parts.f k a0).bind fun t273 => ((surmiseref08_Parts.f k a1).bind fun t276 => ((surmiseref08_meets.f k t273 t276).bind fun t279 => (some t279)))) else (some false))) = some r := by rw [if_pos rfl] at H; exact H
    clear H
    have H := H1
    clear H1
    replace H := Option.bind_eq_some_iff.mp H
    obtain ⟨t272, A50, H⟩ := H
    replace H : (if t272 = true then ((surmiseref08_Parts.f k a0).bind fun t273 => ((surmiseref08_Parts.f k a1).bind fun t276 => ((surmiseref08_meets.f k t273 t276).bind fun t279 => (some t279)))) else (some false)) = some r := H
    have A5 := Aside0.mk A50
    clear A50
    by_cases c6 : t272 = true
    · subst c6
      have H1 : ((surmiseref08_Parts.f k a0).bind fun t273 => ((surmiseref08_Parts.f k a1).bind fun t276 => ((surmiseref08_meets.f k t273 t276).bind fun t279 => (some t279)))) = some r := by rw [if_pos rfl] at H; exact H
      clear H
      have H := H1
      clear H1
      replace H := Option.bind_eq_some_iff.mp H
      obtain ⟨t273, A70, H⟩ := H
      replace H : ((surmiseref08_Parts.f k a1).bind fun t276 => ((surmiseref08_meets.f k t273 t276).bind fun t279 => (some t279))) = some r := H
      have A7 := Aside0.mk A70
      clear A70
      replace H := Option.bind_eq_some_iff.mp H
      obtain ⟨t276, A80, H⟩ := H
      replace H : ((surmiseref08_meets.f k t273 t276).bind fun t279 => (some t279)) = some r := H
      have A8 := Aside0.mk A80
      clear A80
      replace H := Option.bind_eq_some_iff.mp H
      obtain ⟨t279, A90, H⟩ := H
      replace H : (some t279) = some r := H
      have A9 := Aside0.mk A90
      clear A90
      obtain rfl := Option.some.inj H
      go_enter Try.func18, Try.ntmps18
      go_wp2_with (first | ((with_reducible refine gate_callee (f := 12) rfl ?_); refine goesL_ (some 6) rfl rfl Try.func12 (by kernel_rfl) rfl #[.string a0] rfl (by (try simp only [List.map_toArray, List.map_cons, List.map_nil]); first | done | rfl | (simp only [List.length_drop, List.length_take]; rfl)) ?_; (with_reducible refine (surmiseref08_Pattern.calls k a0 true _ A3.out).mono ?_); rintro e w10 ⟨rfl, hb⟩; refine ⟨_, rfl, ?_⟩; have n0_ := Aside0.mk (below_step (by repeat (first | (with_reducible first | exact HB.out | apply below_alloc | apply pw_below_drewN | apply below_drew1) | exact HB.out)) hb); clear HB; have HB := n0_; clear n0_; (try clear hb); (try clear hb2); (try clear hk); (try clear hi)) | (go_at_call 12; (with_reducible refine (surmiseref08_Pattern.calls k a1 true _ A5.out).mono ?_); rintro e w11 ⟨rfl, hb⟩; have n0_ := Aside0.mk (below_step (by repeat (first | (with_reducible first | exact HB.out | apply below_alloc | apply pw_below_drewN | apply below_drew1) | exact HB.out)) hb); clear HB; have HB := n0_; clear n0_; (try clear hb); (try clear hb2); (try clear hk); (try clear hi)) | (go_at_call 26; (with_reducible refine (surmiseref08_Parts.calls k a0 t273 _ A7.out).mono ?_); rintro e w12 ⟨v274, rfl, ho0, hb⟩; have n0_ := Aside0.mk (Kd.R_lower ho0 (below_size (by repeat (first | (with_reducible first | exact HB.out | apply below_alloc | apply pw_below_drewN | apply below_drew1) | exact HB.out)))); have n1_ := Aside0.mk (below_step (by repeat (first | (with_reducible first | exact HB.out | apply below_alloc | apply pw_below_drewN | apply below_drew1) | exact HB.out)) hb); clear HB; have HO275 := n0_; have HB := n1_; clear n0_ n1_; (try clear hb); (try clear hb2); (try clear hk); (try clear hi); (try clear ho0)) | (go_at_call 26; (with_reducible refine (surmiseref08_Parts.calls k a1 t276 _ A8.out).mono ?_); rintro e w13 ⟨v277, rfl, ho0, hb⟩; have n0_ := Aside0.mk (Kd.R_elder' (by (with_reducible repeat (first | apply Kd.R_alloc | apply Kd.R_drewN | apply Kd.R_drew)); exact HO275.out) (Kd.R_base ho0) hb); have n1_ := Aside0.mk (Kd.R_lower (Kd.R_new' ho0 (Kd.R_lt (by (with_reducible repeat (first | apply Kd.R_alloc | apply Kd.R_drewN | apply Kd.R_drew)); exact HO275.out))) (below_size (by repeat (first | (with_reducible first | exact HB.out | apply below_alloc | apply pw_below_drewN | apply below_drew1) | exact HB.out)))); have n2_ := Aside0.mk (below_step (by repeat (first | (with_reducible first | exact HB.out | apply below_alloc | apply pw_below_drewN | apply below_drew1) | exact HB.out)) hb); clear HO275; clear HB; have HO275 := n0_; have HO278 := n1_; have HB := n2_; clear n0_ n1_ n2_; (try clear hb); (try clear hb2); (try clear hk); (try clear hi); (try clear ho0); obtain ⟨Ao14, co14, eo14⟩ := Kd.R_slice HO275.out; subst eo14; obtain ⟨Ao15, co15, eo15⟩ := Kd.R_slice HO278.out; subst eo15) | (go_at_call 37; (with_reducible refine (surmiseref08_meets.calls k _ _ t273 _ _ t276 t279 _ ?side1 ?side2 ?side3 ?side4 A9.out).mono ?_); (case side1 => repeat (first | exact (Kd.R_reads' HO275.out).2.2 | (with_reducible refine Kd.C_alloc ?_ _) | (with_reducible refine Kd.C_drewN ?_ _) | (with_reducible refine Kd.C_drew ?_))); (case side2 => exact (Kd.R_reads' HO275.out).2.1); (case side3 => repeat (first | exact (Kd.R_reads' HO278.out).2.2 | (with_reducible refine Kd.C_alloc ?_ _) | (with_reducible refine Kd.C_drewN ?_ _) | (with_reducible refine Kd.C_drew ?_))); (case side4 => exact (Kd.R_reads' HO278.out).2.1); rintro e w16 ⟨rfl, hb⟩; have n0_ := Aside0.mk (Kd.R_below (by (with_reducible repeat (first | apply Kd.R_alloc | apply Kd.R_drewN | apply Kd.R_drew)); exact HO275.out) hb); have n1_ := Aside0.mk (Kd.R_below (by (with_reducible repeat (first | apply Kd.R_alloc | apply Kd.R_drewN | apply Kd.R_drew)); exact HO278.out) hb); have n2_ := Aside0.mk (below_step (by repeat (first | (with_reducible first | exact HB.out | apply below_alloc | apply pw_below_drewN | apply below_drew1) | exact HB.out)) hb); clear HO275; clear HO278; clear HB; have HO275 := n0_; have HO278 := n1_; have HB := n2_; clear n0_ n1_ n2_; (try clear hb); (try clear hb2); (try clear hk); (try clear hi)))
      go_ret
      exact ⟨by first | rfl | (simp [errW_none, errW_some] <;> rfl) | (simp [*, errW_none, errW_some] <;> rfl), by repeat (first | (with_reducible first | exact HB.out | apply below_alloc | apply pw_below_drewN | apply below_drew1) | exact HB.out)⟩
    · replace c6 := Bool.eq_false_iff.mpr c6
      subst c6
      have H1 : (some false) = some r := by rw [if_neg (show ¬ (false = true) by decide)] at H; exact H
      clear H
      have H := H1
      clear H1
      obtain rfl := Option.some.inj H
      go_enter Try.func18, Try.ntmps18
      go_wp2_with (first | ((with_reducible refine gate_callee (f := 12) rfl ?_); refine goesL_ (some 6) rfl rfl Try.func12 (by kernel_rfl) rfl #[.string a0] rfl (by (try simp only [List.map_toArray, List.map_cons, List.map_nil]); first | done | rfl | (simp only [List.length_drop, List.length_take]; rfl)) ?_; (with_reducible refine (surmiseref08_Pattern.calls k a0 true _ A3.out).mono ?_); rintro e w17 ⟨rfl, hb⟩; refine ⟨_, rfl, ?_⟩; have n0_ := Aside0.mk (below_step (by repeat (first | (with_reducible first | exact HB.out | apply below_alloc | apply pw_below_drewN | apply below_drew1) | exact HB.out)) hb); clear HB; have HB := n0_; clear n0_; (try clear hb); (try clear hb2); (try clear hk); (try clear hi)) | (go_at_call 12; (with_reducible refine (surmiseref08_Pattern.calls k a1 false _ A5.out).mono ?_); rintro e w18 ⟨rfl, hb⟩; have n0_ := Aside0.mk (below_step (by repeat (first | (with_reducible first | exact HB.out | apply below_alloc | apply pw_below_drewN | apply below_drew1) | exact HB.out)) hb); clear HB; have HB := n0_; clear n0_; (try clear hb); (try clear hb2); (try clear hk); (try clear hi)))
      go_ret
      exact ⟨by first | rfl | (simp [errW_none, errW_some] <;> rfl) | (simp [*, errW_none, errW_some] <;> rfl), by repeat (first | (with_reducible first | exact HB.out | apply below_alloc | apply pw_below_drewN | apply below_drew1) | exact HB.out)⟩
  · replace c4 := Bool.eq_false_iff.mpr c4
    subst c4
    have H1 : (some false) = some r := by rw [if_neg (show ¬ (false = true) by decide)] at H; exact H
    clear H
    have H := H1
    clear H1
    obtain rfl := Option.some.inj H
    go_enter Try.func18, Try.ntmps18
    go_wp2_with (first | ((with_reducible refine gate_callee (f := 12) rfl ?_); refine goesL_ (some 6) rfl rfl Try.func12 (by kernel_rfl) rfl #[.string a0] rfl (by (try simp only [List.map_toArray, List.map_cons, List.map_nil]); first | done | rfl | (simp only [List.length_drop, List.length_take]; rfl)) ?_; (with_reducible refine (surmiseref08_Pattern.calls k a0 false _ A3.out).mono ?_); rintro e w19 ⟨rfl, hb⟩; refine ⟨_, rfl, ?_⟩; have n0_ := Aside0.mk (below_step (by repeat (first | (with_reducible first | exact HB.out | apply below_alloc | apply pw_below_drewN | apply below_drew1) | exact HB.out)) hb); clear HB; have HB := n0_; clear n0_; (try clear hb); (try clear hb2); (try clear hk); (try clear hi)))
    go_ret
    exact ⟨by first | rfl | (simp [errW_none, errW_some] <;> rfl) | (simp [*, errW_none, errW_some] <;> rfl), by repeat (first | (with_reducible first | exact HB.out | apply below_alloc | apply pw_below_drewN | apply below_drew1) | exact HB.out)⟩

end Go.Proofs.Ytlcgmlfiggkppaa.Q

/- The reference's match, covers and meets tell the same. -/
namespace Go.Proofs.Ytlcgmlfiggkppaa.Q
open Go.RowKit Go.Proofs.YtlcgmlfiggkppaaW.PrintWords Go.Proofs.YtlcgmlfiggkppaaW.PrintLast Go.Proofs.YtlcgmlfiggkppaaW.PrintMore
set_option linter.unusedVariables false
set_option linter.unusedSimpArgs false

theorem openL_cons (x : ByteArray) (l : List ByteArray) (h : x ≠ stars) : openL (x :: l) = (x :: (openL l).1, (openL l).2) := by
  cases l with
  | nil => show (if x = stars then _ else _) = _; rw [if_neg h]; rfl
  | cons y l => rw [openL]
theorem openL_stars : openL [stars] = ([], true) := by rw [openL, if_pos rfl]
theorem matL_cons (x y : ByteArray) (l t : List ByteArray) (h : x ≠ stars) : matL (x :: l) (y :: t) = (okM x y && matL l t) := by
  unfold matL
  rw [openL_cons x l h, agL, Bool.and_assoc, List.length_cons, List.length_cons]
  have e : decide ((openL l).1.length + 1 = t.length + 1) = decide ((openL l).1.length = t.length) := decide_eq_decide.mpr (by omega)
  rw [e]
theorem stars_plain : plainB stars = false := by decide +kernel
theorem stars_star : stars ≠ star := by decide +kernel
theorem patL_stars (l : List ByteArray) (h : patL (stars :: l) = true) : l = [] := by
  rw [patL, stars_plain, decide_eq_false stars_star] at h
  simp at h
  exact h.1
theorem rd_zero (x : ByteArray) (l : List ByteArray) : rdOf ByteArray.empty (x :: l) 0 = x := rfl
theorem len_cons_pos (x : ByteArray) (l : List ByteArray) : ¬ (((x :: l).length : Nat) : Int) = 0 := by
  rw [List.length_cons]
  omega
theorem refmatch_l (p : List ByteArray) : ∀ (s : List ByteArray) (k : Nat), patL p = true → 2 * p.length + 2 ≤ k → surmiseref08_match.f k p s = some (matL p s) := by
  induction p with
  | nil =>
    intro s k _ hk
    obtain ⟨k, rfl⟩ : ∃ k', k = k' + 2 := ⟨k - 2, by omega⟩
    have e0 : ((([] : List ByteArray).length : Nat) : Int) = 0 := rfl
    rw [surmiseref08_match.f, if_pos e0, surmiseref08_match.j0, if_pos rfl, if_pos e0]
    cases s with
    | nil => rw [if_pos e0]; rfl
    | cons y t => rw [if_neg (len_cons_pos y t), if_neg (by rw [e0]; decide)]; rfl
  | cons x l ih =>
    intro s k hp hk
    rw [List.length_cons] at hk
    obtain ⟨k, rfl⟩ : ∃ k', k = k' + 2 := ⟨k - 2, by omega⟩
    rw [surmiseref08_match.f, if_neg (len_cons_pos x l)]
    cases s with
    | nil =>
      have eb : (((([] : List ByteArray).length : Nat) : Int) == 0) = true := rfl
      rw [eb, surmiseref08_match.j0, if_pos rfl, if_neg (len_cons_pos x l)]
      cases l with
      | nil =>
        have e1 : ((([x] : List ByteArray).length : Nat) : Int) = 1 := rfl
        have e2 : (0 : Int) < ((([x] : List ByteArray).length : Nat) : Int) := by rw [e1]; decide
        have e3 : (x.toList == ([42, 42] : List UInt8)) = decide (x = stars) := by rw [Bool.eq_iff_iff, beq_iff_eq, decide_eq_true_eq, is_stars]
        rw [if_pos e1, if_pos e2, rd_zero, e3]
        by_cases h : x = stars
        · rw [h, decide_eq_true rfl]; rw [matL, openL_stars]; rfl
        · rw [decide_eq_false h, matL, openL_cons x [] h]; rfl
      | cons y l =>
        have hx : x ≠ stars := by
          rintro rfl
          exact absurd (patL_stars _ hp) (List.cons_ne_nil _ _)
        rw [if_neg (by rw [List.length_cons, List.length_cons]; omega), matL, openL_cons x _ hx]
        rfl
    | cons y t =>
      have eb : (((((y :: t) : List ByteArray).length : Nat) : Int) == 0) = false := beq_eq_false_iff_ne.mpr (len_cons_pos y t)
      have e1 : (0 : Int) < (((x :: l).length : Nat) : Int) := by rw [List.length_cons]; omega
      have e2 : (0 : Int) < (((y :: t).length : Nat) : Int) := by rw [List.length_cons]; omega
      have e3 : (1 : Int) ≤ (((x :: l).length : Nat) : Int) := by omega
      have e4 : (1 : Int) ≤ (((y :: t).length : Nat) : Int) := by omega
      rw [eb, surmiseref08_match.j0, if_neg (by decide), if_pos e1, rd_zero]
      by_cases h : x = stars
      · rw [if_pos ((is_stars x).mpr h)]
        subst h
        rw [patL_stars l hp, matL, openL_stars]
        rfl
      · have hp2 : patL l = true := by
          rw [patL, Bool.and_eq_true] at hp
          exact hp.2
        have hi := ih t k hp2 (by omega)
        rw [if_neg (fun h' => h ((is_stars x).mp h')), matL_cons x y l t h, okM, if_pos e3, if_pos e4, rd_zero, List.drop_one, List.drop_one, List.tail_cons, List.tail_cons, bind_of hi]
        by_cases h1 : x = star
        · rw [if_pos ((is_star x).mpr h1), decide_eq_true h1, Bool.true_or, Bool.true_and]
        · rw [if_neg (fun h' => h1 ((is_star x).mp h')), decide_eq_false h1, Bool.false_or, if_pos e2]
          by_cases h2 : x = y
          · rw [if_pos (toList_iff.mpr h2), decide_eq_true h2, Bool.true_and]
          · rw [if_neg (fun h' => h2 (toList_iff.mp h')), decide_eq_false h2, Bool.false_and]
theorem covL_cons (x y : ByteArray) (l t : List ByteArray) (h : x ≠ stars) (h2 : y ≠ stars) : covL (x :: l) (y :: t) = (okM x y && covL l t) := by
  unfold covL
  rw [openL_cons x l h, openL_cons y t h2, agL, Bool.and_assoc, List.length_cons, List.length_cons]
  have e : decide ((openL l).1.length + 1 = (openL t).1.length + 1) = decide ((openL l).1.length = (openL t).1.length) := decide_eq_decide.mpr (by omega)
  rw [e]
theorem stars_dec (x : ByteArray) : (x.toList == ([42, 42] : List UInt8)) = decide (x = stars) := by rw [Bool.eq_iff_iff, beq_iff_eq, decide_eq_true_eq, is_stars]
theorem refcovers_l (p : List ByteArray) : ∀ (q : List ByteArray) (k : Nat), patL p = true → patL q = true → 3 * p.length + 3 ≤ k → surmiseref08_covers.f k p q = some (covL p q) := by
  induction p with
  | nil =>
    intro q k _ hq hk
    obtain ⟨k, rfl⟩ : ∃ k', k = k' + 3 := ⟨k - 3, by omega⟩
    have e0 : ((([] : List ByteArray).length : Nat) : Int) = 0 := rfl
    rw [surmiseref08_covers.f, if_neg (by rw [e0]; decide), surmiseref08_covers.j0, if_neg (by decide), if_pos e0, surmiseref08_covers.j1, if_pos rfl, if_pos e0]
    cases q with
    | nil => rfl
    | cons y t =>
      have eb : (((((y :: t) : List ByteArray).length : Nat) : Int) == 0) = false := beq_eq_false_iff_ne.mpr (len_cons_pos y t)
      rw [eb]
      by_cases h : y = stars
      · subst h
        rw [patL_stars t hq, covL, openL_stars]
        rfl
      · rw [covL, openL_cons y t h]
        rfl
  | cons x l ih =>
    intro q k hp hq hk
    rw [List.length_cons] at hk
    obtain ⟨k, rfl⟩ : ∃ k', k = k' + 3 := ⟨k - 3, by omega⟩
    have e1 : (0 : Int) < (((x :: l).length : Nat) : Int) := by rw [List.length_cons]; omega
    by_cases hx : x = stars
    · subst hx
      rw [patL_stars l hp]
      have e2 : ((([stars] : List ByteArray).length : Nat) : Int) = 1 := rfl
      rw [surmiseref08_covers.f, if_pos e2, if_pos (by rw [e2]; decide), rd_zero, stars_dec, decide_eq_true rfl, surmiseref08_covers.j0, if_pos rfl, covL, openL_stars]
      rfl
    · have hf : surmiseref08_covers.f (k + 3) (x :: l) q = surmiseref08_covers.j0 (k + 2) (x :: l) q false := by
        rw [surmiseref08_covers.f, rd_zero, stars_dec, decide_eq_false hx]
        split <;> first | rfl | rw [if_pos e1]
      have hp2 : patL l = true := by
        rw [patL, Bool.and_eq_true] at hp
        exact hp.2
      rw [hf, surmiseref08_covers.j0, if_neg (by decide), if_neg (len_cons_pos x l), surmiseref08_covers.j1]
      cases q with
      | nil =>
        have eb : (((([] : List ByteArray).length : Nat) : Int) == 0) = true := rfl
        rw [eb, if_pos rfl, if_neg (len_cons_pos x l), covL, openL_cons x l hx]
        rfl
      | cons y t =>
        have eb : (((((y :: t) : List ByteArray).length : Nat) : Int) == 0) = false := beq_eq_false_iff_ne.mpr (len_cons_pos y t)
        have e2 : (0 : Int) < (((y :: t).length : Nat) : Int) := by rw [List.length_cons]; omega
        have e3 : (1 : Int) ≤ (((x :: l).length : Nat) : Int) := by omega
        have e4 : (1 : Int) ≤ (((y :: t).length : Nat) : Int) := by omega
        rw [eb, if_neg (by decide), if_pos e2, rd_zero]
        by_cases hy : y = stars
        · rw [if_pos ((is_stars y).mpr hy)]
          subst hy
          rw [patL_stars t hq, covL, openL_stars, openL_cons x l hx]
          rfl
        · have hq2 : patL t = true := by
            rw [patL, Bool.and_eq_true] at hq
            exact hq.2
          have hi := ih t k hp2 hq2 (by omega)
          rw [if_neg (fun h' => hy ((is_stars y).mp h')), if_pos e1, rd_zero, covL_cons x y l t hx hy, okM, if_pos e3, if_pos e4, List.drop_one, List.drop_one, List.tail_cons, List.tail_cons, bind_of hi]
          by_cases h1 : x = star
          · rw [if_pos ((is_star x).mpr h1), decide_eq_true h1, Bool.true_or, Bool.true_and]
          · rw [if_neg (fun h' => h1 ((is_star x).mp h')), decide_eq_false h1, Bool.false_or]
            by_cases h2 : x = y
            · rw [if_pos (toList_iff.mpr h2), decide_eq_true h2, Bool.true_and]
            · rw [if_neg (fun h' => h2 (toList_iff.mp h')), decide_eq_false h2, Bool.false_and]
theorem meeL_cons (x y : ByteArray) (l t : List ByteArray) (h : x ≠ stars) (h2 : y ≠ stars) : meeL (x :: l) (y :: t) = (okX x y && meeL l t) := by
  unfold meeL
  rw [openL_cons x l h, openL_cons y t h2]
  generalize openL l = a
  generalize openL t = b
  have e0 : min (x :: a.1).length (y :: b.1).length = min a.1.length b.1.length + 1 := by
    rw [List.length_cons, List.length_cons]
    omega
  rw [e0, List.take_succ_cons, List.take_succ_cons, agL, Bool.and_assoc, List.length_cons, List.length_cons]
  have e1 : decide (a.1.length + 1 = b.1.length + 1) = decide (a.1.length = b.1.length) := decide_eq_decide.mpr (by omega)
  have e2 : decide (a.1.length + 1 < b.1.length + 1) = decide (a.1.length < b.1.length) := decide_eq_decide.mpr (by omega)
  have e3 : decide (b.1.length + 1 < a.1.length + 1) = decide (b.1.length < a.1.length) := decide_eq_decide.mpr (by omega)
  rw [e1, e2, e3]
def isS (p : List ByteArray) : Bool := decide (p = [stars])
theorem isS_one (x : ByteArray) : isS [x] = decide (x = stars) := decide_eq_decide.mpr ⟨fun h => (List.cons.inj h).1, fun h => by rw [h]⟩
theorem isS_more (x y : ByteArray) (l : List ByteArray) : isS (x :: y :: l) = false := decide_eq_false (fun h => absurd (List.cons.inj h).2 (List.cons_ne_nil _ _))
theorem one_only {p : List ByteArray} (h : (p.length : Int) = 1) : ∃ x, p = [x] := by
  match p, h with
  | [x], _ => exact ⟨x, rfl⟩
  | [], h => exact absurd h (by decide)
  | _ :: _ :: _, h => rw [List.length_cons, List.length_cons] at h; omega
theorem isS_not {p : List ByteArray} (h : ¬ (p.length : Int) = 1) : isS p = false := decide_eq_false (fun h' => h (by rw [h']; rfl))
theorem refmeets_f (p q : List ByteArray) (k : Nat) : surmiseref08_meets.f (k + 1) p q = surmiseref08_meets.j0 k p q (isS p || isS q) := by
  have hq : (if (q.length : Int) = 1 then (if 0 < (q.length : Int) then (surmiseref08_meets.j0 k p q ((rdOf ByteArray.empty q 0).toList == ([42, 42] : List UInt8))) else (none)) else (surmiseref08_meets.j0 k p q false)) = surmiseref08_meets.j0 k p q (isS q) := by
    by_cases h : (q.length : Int) = 1
    · obtain ⟨y, rfl⟩ := one_only h
      rw [if_pos h, if_pos (by rw [h]; decide), rd_zero, stars_dec, isS_one]
    · rw [if_neg h, isS_not h]
  rw [surmiseref08_meets.f]
  by_cases h : (p.length : Int) = 1
  · obtain ⟨x, rfl⟩ := one_only h
    rw [if_pos h, if_pos (by rw [h]; decide), rd_zero, isS_one]
    by_cases h2 : x = stars
    · rw [if_pos ((is_stars x).mpr h2), decide_eq_true h2, Bool.true_or]
    · rw [if_neg (fun h' => h2 ((is_stars x).mp h')), decide_eq_false h2, Bool.false_or, hq]
  · rw [if_neg h, isS_not h, Bool.false_or, hq]
theorem agL_nil (ok : ByteArray → ByteArray → Bool) (b : List ByteArray) : agL ok [] b = true := by rw [agL]
theorem meeL_stars_left (q : List ByteArray) : meeL [stars] q = true := by
  unfold meeL
  rw [openL_stars, List.take_nil, agL_nil, Bool.true_and]
  generalize openL q = b
  by_cases h : b.1.length = 0
  · have h1 : ([] : List ByteArray).length = b.1.length := h.symm
    rw [decide_eq_true h1]
    rfl
  · have h1 : ([] : List ByteArray).length < b.1.length := Nat.pos_of_ne_zero h
    rw [decide_eq_true h1, Bool.and_self, Bool.or_true, Bool.true_or]
theorem meeL_stars_right (p : List ByteArray) : meeL p [stars] = true := by
  unfold meeL
  rw [openL_stars]
  generalize openL p = a
  have e : min a.1.length ([] : List ByteArray).length = 0 := by rw [List.length_nil]; omega
  rw [e, List.take_zero, agL_nil, Bool.true_and]
  by_cases h : a.1.length = 0
  · have h1 : a.1.length = ([] : List ByteArray).length := h
    rw [decide_eq_true h1]
    rfl
  · have h1 : ([] : List ByteArray).length < a.1.length := Nat.pos_of_ne_zero h
    rw [decide_eq_true h1, Bool.and_self, Bool.or_true]
theorem refmeets_l (p : List ByteArray) : ∀ (q : List ByteArray) (k : Nat), patL p = true → patL q = true → 2 * p.length + 2 ≤ k → surmiseref08_meets.f k p q = some (meeL p q) := by
  induction p with
  | nil =>
    intro q k _ hq hk
    obtain ⟨k, rfl⟩ : ∃ k', k = k' + 2 := ⟨k - 2, by omega⟩
    have e0 : ((([] : List ByteArray).length : Nat) : Int) = 0 := rfl
    have eS : isS [] = false := rfl
    rw [refmeets_f, surmiseref08_meets.j0, eS, Bool.false_or]
    cases q with
    | nil => rfl
    | cons y t =>
      have eb : (((((y :: t) : List ByteArray).length : Nat) : Int) == 0) = false := beq_eq_false_iff_ne.mpr (len_cons_pos y t)
      by_cases h : y = stars
      · subst h
        rw [patL_stars t hq, isS_one, decide_eq_true rfl, if_pos rfl, meeL_stars_right]
      · have eS2 : isS (y :: t) = false := decide_eq_false (fun h' => h (List.cons.inj h').1)
        rw [eS2, if_neg (by decide), if_pos e0, eb, meeL, openL_cons y t h]
        rfl
  | cons x l ih =>
    intro q k hp hq hk
    rw [List.length_cons] at hk
    obtain ⟨k, rfl⟩ : ∃ k', k = k' + 2 := ⟨k - 2, by omega⟩
    have e1 : (0 : Int) < (((x :: l).length : Nat) : Int) := by rw [List.length_cons]; omega
    have e3 : (1 : Int) ≤ (((x :: l).length : Nat) : Int) := by omega
    rw [refmeets_f, surmiseref08_meets.j0]
    by_cases hx : x = stars
    · subst hx
      rw [patL_stars l hp, isS_one, decide_eq_true rfl, Bool.true_or, if_pos rfl, meeL_stars_left]
    · have eS : isS (x :: l) = false := decide_eq_false (fun h' => hx (List.cons.inj h').1)
      have hp2 : patL l = true := by
        rw [patL, Bool.and_eq_true] at hp
        exact hp.2
      rw [eS, Bool.false_or]
      cases q with
      | nil =>
        have e0 : ((([] : List ByteArray).length : Nat) : Int) = 0 := rfl
        have eS2 : isS [] = false := rfl
        rw [eS2, if_neg (by decide), if_neg (len_cons_pos x l), if_pos e0, meeL, openL_cons x l hx]
        rfl
      | cons y t =>
        have e2 : (0 : Int) < (((y :: t).length : Nat) : Int) := by rw [List.length_cons]; omega
        have e4 : (1 : Int) ≤ (((y :: t).length : Nat) : Int) := by omega
        by_cases hy : y = stars
        · subst hy
          rw [patL_stars t hq, isS_one, decide_eq_true rfl, if_pos rfl, meeL_stars_right]
        · have eS2 : isS (y :: t) = false := decide_eq_false (fun h' => hy (List.cons.inj h').1)
          have hq2 : patL t = true := by
            rw [patL, Bool.and_eq_true] at hq
            exact hq.2
          have hi := ih t k hp2 hq2 (by omega)
          rw [eS2, if_neg (by decide), if_neg (len_cons_pos x l), if_neg (len_cons_pos y t), if_pos e1, rd_zero, if_pos e3, if_pos e4, if_pos e2, rd_zero, List.drop_one, List.drop_one, List.tail_cons, List.tail_cons, bind_of hi, meeL_cons x y l t hx hy, okX]
          by_cases h1 : x = star
          · rw [if_pos ((is_star x).mpr h1), decide_eq_true h1, Bool.true_or, Bool.true_or, Bool.true_and]
          · rw [if_neg (fun h' => h1 ((is_star x).mp h')), decide_eq_false h1, Bool.false_or]
            by_cases h3 : y = star
            · rw [if_pos ((is_star y).mpr h3), decide_eq_true h3, Bool.true_or, Bool.true_and]
            · rw [if_neg (fun h' => h3 ((is_star y).mp h')), decide_eq_false h3, Bool.false_or]
              by_cases h2 : x = y
              · rw [if_pos (toList_iff.mpr h2), decide_eq_true h2, Bool.true_and]
              · rw [if_neg (fun h' => h2 (toList_iff.mp h')), decide_eq_false h2, Bool.false_and]

end Go.Proofs.Ytlcgmlfiggkppaa.Q

/- Plain laws on lists of parts: what is covered is matched; what both match meets; meeting is the same from either side. -/
namespace Go.Proofs.Ytlcgmlfiggkppaa.Q
open Go.RowKit Go.Proofs.YtlcgmlfiggkppaaW.PrintWords Go.Proofs.YtlcgmlfiggkppaaW.PrintLast Go.Proofs.YtlcgmlfiggkppaaW.PrintMore
set_option linter.unusedVariables false
set_option linter.unusedSimpArgs false

theorem pat_cons (x : ByteArray) (l : List ByteArray) (h : patL (x :: l) = true) : patL l = true := by
  rw [patL, Bool.and_eq_true] at h
  exact h.2
theorem okM_iff (x y : ByteArray) : okM x y = true ↔ x = star ∨ x = y := by
  unfold okM
  rw [Bool.or_eq_true, decide_eq_true_eq, decide_eq_true_eq]
theorem okX_iff (x y : ByteArray) : okX x y = true ↔ x = star ∨ y = star ∨ x = y := by
  unfold okX
  rw [Bool.or_eq_true, Bool.or_eq_true, decide_eq_true_eq, decide_eq_true_eq, decide_eq_true_eq, or_assoc]
theorem okX_comm (x y : ByteArray) : okX x y = okX y x := by
  rw [Bool.eq_iff_iff, okX_iff, okX_iff]
  constructor
  · rintro (h | h | h)
    · exact Or.inr (Or.inl h)
    · exact Or.inl h
    · exact Or.inr (Or.inr h.symm)
  · rintro (h | h | h)
    · exact Or.inr (Or.inl h)
    · exact Or.inl h
    · exact Or.inr (Or.inr h.symm)
theorem mat_stars (s : List ByteArray) : matL [stars] s = true := by
  unfold matL
  rw [openL_stars, agL_nil]
  rfl
theorem mat_nil_nil : matL [] [] = true := rfl
theorem mat_nil_cons (y : ByteArray) (t : List ByteArray) : matL [] (y :: t) = false := rfl
theorem mat_cons_nil (x : ByteArray) (l : List ByteArray) (h : x ≠ stars) : matL (x :: l) [] = false := by
  unfold matL
  rw [openL_cons x l h]
  rfl
theorem cov_stars (q : List ByteArray) : covL [stars] q = true := by
  unfold covL
  rw [openL_stars, agL_nil]
  rfl
theorem cov_nil_nil : covL [] [] = true := rfl
theorem cov_nil_cons (y : ByteArray) (t : List ByteArray) (h : patL (y :: t) = true) : covL [] (y :: t) = false := by
  by_cases hy : y = stars
  · subst hy
    rw [patL_stars t h]
    unfold covL
    rw [openL_stars]
    rfl
  · unfold covL
    rw [openL_cons y t hy]
    rfl
theorem cov_cons_nil (x : ByteArray) (l : List ByteArray) (h : x ≠ stars) : covL (x :: l) [] = false := by
  unfold covL
  rw [openL_cons x l h]
  rfl
theorem cov_cons_stars (x : ByteArray) (l : List ByteArray) (h : x ≠ stars) : covL (x :: l) [stars] = false := by
  unfold covL
  rw [openL_cons x l h, openL_stars]
  rfl
theorem mee_nil_nil : meeL [] [] = true := rfl
theorem mee_nil_cons (y : ByteArray) (t : List ByteArray) (h : y ≠ stars) : meeL [] (y :: t) = false := by
  unfold meeL
  rw [openL_cons y t h]
  rfl
theorem mee_cons_nil (x : ByteArray) (l : List ByteArray) (h : x ≠ stars) : meeL (x :: l) [] = false := by
  unfold meeL
  rw [openL_cons x l h]
  rfl
/-- What a pattern matches, each one that covers it matches. -/
theorem cov_mat (p : List ByteArray) : ∀ q s : List ByteArray, patL p = true → patL q = true → covL p q = true → matL q s = true → matL p s = true := by
  induction p with
  | nil =>
    intro q s _ hq hc hm
    cases q with
    | nil => exact hm
    | cons y t => rw [cov_nil_cons y t hq] at hc; exact absurd hc (by decide)
  | cons x l ih =>
    intro q s hp hq hc hm
    by_cases hx : x = stars
    · subst hx
      rw [patL_stars l hp]
      exact mat_stars s
    · cases q with
      | nil => rw [cov_cons_nil x l hx] at hc; exact absurd hc (by decide)
      | cons y t =>
        by_cases hy : y = stars
        · subst hy
          rw [patL_stars t hq, cov_cons_stars x l hx] at hc
          exact absurd hc (by decide)
        · rw [covL_cons x y l t hx hy, Bool.and_eq_true, okM_iff] at hc
          cases s with
          | nil => rw [mat_cons_nil y t hy] at hm; exact absurd hm (by decide)
          | cons z u =>
            rw [matL_cons y z t u hy, Bool.and_eq_true, okM_iff] at hm
            rw [matL_cons x z l u hx, Bool.and_eq_true, okM_iff]
            refine ⟨?_, ih t u (pat_cons x l hp) (pat_cons y t hq) hc.2 hm.2⟩
            rcases hc.1 with h | h
            · exact Or.inl h
            · rcases hm.1 with h2 | h2
              · exact Or.inl (h.trans h2)
              · exact Or.inr (h.trans h2)
/-- Covering goes on over a third one. -/
theorem cov_cov (p : List ByteArray) : ∀ q s : List ByteArray, patL p = true → patL q = true → patL s = true → covL p q = true → covL q s = true → covL p s = true := by
  induction p with
  | nil =>
    intro q s _ hq hs hc hm
    cases q with
    | nil => exact hm
    | cons y t => rw [cov_nil_cons y t hq] at hc; exact absurd hc (by decide)
  | cons x l ih =>
    intro q s hp hq hs hc hm
    by_cases hx : x = stars
    · subst hx
      rw [patL_stars l hp]
      exact cov_stars s
    · cases q with
      | nil => rw [cov_cons_nil x l hx] at hc; exact absurd hc (by decide)
      | cons y t =>
        by_cases hy : y = stars
        · subst hy
          rw [patL_stars t hq, cov_cons_stars x l hx] at hc
          exact absurd hc (by decide)
        · rw [covL_cons x y l t hx hy, Bool.and_eq_true, okM_iff] at hc
          cases s with
          | nil => rw [cov_cons_nil y t hy] at hm; exact absurd hm (by decide)
          | cons z u =>
            by_cases hz : z = stars
            · subst hz
              rw [patL_stars u hs, cov_cons_stars y t hy] at hm
              exact absurd hm (by decide)
            · rw [covL_cons y z t u hy hz, Bool.and_eq_true, okM_iff] at hm
              rw [covL_cons x z l u hx hz, Bool.and_eq_true, okM_iff]
              refine ⟨?_, ih t u (pat_cons x l hp) (pat_cons y t hq) (pat_cons z u hs) hc.2 hm.2⟩
              rcases hc.1 with h | h
              · exact Or.inl h
              · rcases hm.1 with h2 | h2
                · exact Or.inl (h.trans h2)
                · exact Or.inr (h.trans h2)
/-- Each covers itself. -/
theorem cov_self (p : List ByteArray) (hp : patL p = true) : covL p p = true := by
  induction p with
  | nil => rfl
  | cons x l ih =>
    by_cases hx : x = stars
    · subst hx
      rw [patL_stars l hp]
      exact cov_stars _
    · rw [covL_cons x x l l hx hx, ih (pat_cons x l hp), Bool.and_true, okM_iff]
      exact Or.inr rfl
/-- If one name is matched by two, they meet. -/
theorem mat_mee (p : List ByteArray) : ∀ q s : List ByteArray, patL p = true → patL q = true → matL p s = true → matL q s = true → meeL p q = true := by
  induction p with
  | nil =>
    intro q s _ hq h1 h2
    cases s with
    | cons z u => rw [mat_nil_cons] at h1; exact absurd h1 (by decide)
    | nil =>
      cases q with
      | nil => rfl
      | cons y t =>
        by_cases hy : y = stars
        · subst hy
          rw [patL_stars t hq]
          exact meeL_stars_right _
        · rw [mat_cons_nil y t hy] at h2; exact absurd h2 (by decide)
  | cons x l ih =>
    intro q s hp hq h1 h2
    by_cases hx : x = stars
    · subst hx
      rw [patL_stars l hp]
      exact meeL_stars_left q
    · cases s with
      | nil => rw [mat_cons_nil x l hx] at h1; exact absurd h1 (by decide)
      | cons z u =>
        rw [matL_cons x z l u hx, Bool.and_eq_true, okM_iff] at h1
        cases q with
        | nil => rw [mat_nil_cons] at h2; exact absurd h2 (by decide)
        | cons y t =>
          by_cases hy : y = stars
          · subst hy
            rw [patL_stars t hq]
            exact meeL_stars_right _
          · rw [matL_cons y z t u hy, Bool.and_eq_true, okM_iff] at h2
            rw [meeL_cons x y l t hx hy, Bool.and_eq_true, okX_iff]
            refine ⟨?_, ih t u (pat_cons x l hp) (pat_cons y t hq) h1.2 h2.2⟩
            rcases h1.1 with h | h
            · exact Or.inl h
            · rcases h2.1 with h' | h'
              · exact Or.inr (Or.inl h')
              · exact Or.inr (Or.inr (h.trans h'.symm))
/-- If one covers another one, they meet. -/
theorem cov_mee (p : List ByteArray) : ∀ q : List ByteArray, patL p = true → patL q = true → covL p q = true → meeL p q = true := by
  induction p with
  | nil =>
    intro q _ hq h
    cases q with
    | nil => rfl
    | cons y t => rw [cov_nil_cons y t hq] at h; exact absurd h (by decide)
  | cons x l ih =>
    intro q hp hq h
    by_cases hx : x = stars
    · subst hx
      rw [patL_stars l hp]
      exact meeL_stars_left q
    · cases q with
      | nil => rw [cov_cons_nil x l hx] at h; exact absurd h (by decide)
      | cons y t =>
        by_cases hy : y = stars
        · subst hy
          rw [patL_stars t hq]
          exact meeL_stars_right _
        · rw [covL_cons x y l t hx hy, Bool.and_eq_true, okM_iff] at h
          rw [meeL_cons x y l t hx hy, Bool.and_eq_true, okX_iff]
          refine ⟨?_, ih t (pat_cons x l hp) (pat_cons y t hq) h.2⟩
          rcases h.1 with h' | h'
          · exact Or.inl h'
          · exact Or.inr (Or.inr h')
/-- Meeting is the same from either side. -/
theorem mee_comm (p : List ByteArray) : ∀ q : List ByteArray, patL p = true → patL q = true → meeL p q = meeL q p := by
  induction p with
  | nil =>
    intro q _ hq
    cases q with
    | nil => rfl
    | cons y t =>
      by_cases hy : y = stars
      · subst hy
        rw [patL_stars t hq, meeL_stars_left, meeL_stars_right]
      · rw [mee_nil_cons y t hy, mee_cons_nil y t hy]
  | cons x l ih =>
    intro q hp hq
    by_cases hx : x = stars
    · subst hx
      rw [patL_stars l hp, meeL_stars_left, meeL_stars_right]
    · cases q with
      | nil => rw [mee_nil_cons x l hx, mee_cons_nil x l hx]
      | cons y t =>
        by_cases hy : y = stars
        · subst hy
          rw [patL_stars t hq, meeL_stars_left, meeL_stars_right]
        · rw [meeL_cons x y l t hx hy, meeL_cons y x t l hy hx, okX_comm, ih t (pat_cons x l hp) (pat_cons y t hq)]
/-- Parts with a part in the place of each star. -/
def fillL (c : ByteArray) (l : List ByteArray) : List ByteArray := l.map fun y => if y = star then c else y
/-- What matches a pattern whose stars are filled by a part that stands in neither covers it. -/
theorem mat_fill (c : ByteArray) (p : List ByteArray) : ∀ q : List ByteArray, patL p = true → stars ∉ q → c ∉ p → matL p (fillL c q) = true → covL p q = true := by
  induction p with
  | nil =>
    intro q _ _ _ h
    cases q with
    | nil => rfl
    | cons y t => exact absurd h (by rw [fillL, List.map_cons, mat_nil_cons]; decide)
  | cons x l ih =>
    intro q hp hq hc h
    by_cases hx : x = stars
    · subst hx
      rw [patL_stars l hp]
      exact cov_stars q
    · cases q with
      | nil => rw [fillL, List.map_nil, mat_cons_nil x l hx] at h; exact absurd h (by decide)
      | cons y t =>
        have hy : y ≠ stars := fun h' => hq (h' ▸ List.mem_cons_self)
        rw [fillL, List.map_cons, matL_cons x _ l _ hx, Bool.and_eq_true, okM_iff] at h
        rw [covL_cons x y l t hx hy, Bool.and_eq_true, okM_iff]
        refine ⟨?_, ih t (pat_cons x l hp) (fun h' => hq (List.mem_cons_of_mem _ h')) (fun h' => hc (List.mem_cons_of_mem _ h')) h.2⟩
        rcases h.1 with h' | h'
        · exact Or.inl h'
        · by_cases hs : y = star
          · rw [if_pos hs] at h'
            exact absurd (h' ▸ List.mem_cons_self) hc
          · rw [if_neg hs] at h'
            exact Or.inr h'

end Go.Proofs.Ytlcgmlfiggkppaa.Q

/- The reference's answers on texts are the program's; what must come at any rate comes. -/
namespace Go.Proofs.Ytlcgmlfiggkppaa.Q
open Go.RowKit Go.Proofs.YtlcgmlfiggkppaaW.PrintWords Go.Proofs.YtlcgmlfiggkppaaW.PrintLast Go.Proofs.YtlcgmlfiggkppaaW.PrintMore
set_option linter.unusedVariables false
set_option linter.unusedSimpArgs false

theorem pat_pat (s : ByteArray) (h : patternB s = true) : patL (partsP s) = true := by
  unfold patternB at h
  rw [Bool.and_eq_true, Bool.and_eq_true] at h
  exact h.2.1
theorem parts_few (s : ByteArray) (h : s.size ≤ 32) : (partsP s).length ≤ 33 := by
  have := parts_len s
  omega
theorem refmatch_some (p s : ByteArray) (k : Nat) (hk : 400 ≤ k) : surmiseref08_Match.f k p s = some (matchB p s) := by
  unfold surmiseref08_Match.f matchB
  rw [bind_of (refpattern_some p k (by omega))]
  cases hp : patternB p with
  | false => rfl
  | true =>
    rw [if_pos rfl, bind_of (refstream_some s k (by omega))]
    cases hs : streamB s with
    | false => rfl
    | true =>
      have h1 := pat_size p hp
      have h2 := str_size s hs
      have h3 := parts_few p h1
      rw [if_pos rfl, bind_of (refparts_some p (by omega) k (by omega)), bind_of (refparts_some s (by omega) k (by omega)), refmatch_l (partsP p) (partsP s) k (pat_pat p hp) (by omega)]
      rfl
theorem refcovers_some (p q : ByteArray) (k : Nat) (hk : 400 ≤ k) : surmiseref08_Covers.f k p q = some (coversB p q) := by
  unfold surmiseref08_Covers.f coversB
  rw [bind_of (refpattern_some p k (by omega))]
  cases hp : patternB p with
  | false => rfl
  | true =>
    rw [if_pos rfl, bind_of (refpattern_some q k (by omega))]
    cases hq : patternB q with
    | false => rfl
    | true =>
      have h1 := pat_size p hp
      have h2 := pat_size q hq
      have h3 := parts_few p h1
      rw [if_pos rfl, bind_of (refparts_some p (by omega) k (by omega)), bind_of (refparts_some q (by omega) k (by omega)), refcovers_l (partsP p) (partsP q) k (pat_pat p hp) (pat_pat q hq) (by omega)]
      rfl
theorem refmeets_some (p q : ByteArray) (k : Nat) (hk : 400 ≤ k) : surmiseref08_Meets.f k p q = some (meetsB p q) := by
  unfold surmiseref08_Meets.f meetsB
  rw [bind_of (refpattern_some p k (by omega))]
  cases hp : patternB p with
  | false => rfl
  | true =>
    rw [if_pos rfl, bind_of (refpattern_some q k (by omega))]
    cases hq : patternB q with
    | false => rfl
    | true =>
      have h1 := pat_size p hp
      have h2 := pat_size q hq
      have h3 := parts_few p h1
      rw [if_pos rfl, bind_of (refparts_some p (by omega) k (by omega)), bind_of (refparts_some q (by omega) k (by omega)), refmeets_l (partsP p) (partsP q) k (pat_pat p hp) (pat_pat q hq) (by omega)]
      rfl
theorem awake_some (k : Nat) (hk : 400 ≤ k) : surmiselaw08_awake.f k = some true := by
  unfold surmiselaw08_awake.f
  have e1 : matchB (⟨#[97, 47, 42]⟩ : ByteArray) (⟨#[97, 47, 98]⟩ : ByteArray) = true := by decide +kernel
  have e2 : matchB (⟨#[97, 47, 42]⟩ : ByteArray) (⟨#[97, 47, 98, 47, 99]⟩ : ByteArray) = false := by decide +kernel
  have e3 : matchB (⟨#[97, 47, 42, 42]⟩ : ByteArray) (⟨#[97]⟩ : ByteArray) = true := by decide +kernel
  have e4 : coversB (⟨#[97, 47, 42, 42]⟩ : ByteArray) (⟨#[97, 47, 42, 47, 99]⟩ : ByteArray) = true := by decide +kernel
  have e5 : coversB (⟨#[97, 47, 42]⟩ : ByteArray) (⟨#[97, 47, 42, 42]⟩ : ByteArray) = false := by decide +kernel
  have e6 : meetsB (⟨#[42, 47, 98]⟩ : ByteArray) (⟨#[97, 47, 42]⟩ : ByteArray) = true := by decide +kernel
  have e7 : pattern_Compare.f (⟨#[97]⟩ : ByteArray) (⟨#[98]⟩ : ByteArray) = some (-1) := by decide +kernel
  rw [bind_of ((match_some _ _ k hk).trans (congrArg some e1)), if_pos rfl, bind_of ((match_some _ _ k hk).trans (congrArg some e2)), if_neg (by decide), bind_of ((match_some _ _ k hk).trans (congrArg some e3)), if_pos rfl, bind_of ((covers_some _ _ k hk).trans (congrArg some e4)), if_pos rfl, bind_of ((covers_some _ _ k hk).trans (congrArg some e5)), if_neg (by decide), bind_of ((meets_some _ _ k hk).trans (congrArg some e6)), if_pos rfl, bind_of e7]
  rfl

end Go.Proofs.Ytlcgmlfiggkppaa.Q

/- Parts joined and cut again; a letter that a text has not. -/
namespace Go.Proofs.Ytlcgmlfiggkppaa.Q
open Go.RowKit Go.Proofs.YtlcgmlfiggkppaaW.PrintWords Go.Proofs.YtlcgmlfiggkppaaW.PrintLast Go.Proofs.YtlcgmlfiggkppaaW.PrintMore
set_option linter.unusedVariables false
set_option linter.unusedSimpArgs false

/-! ## lists of numbers -/
def splitN : List Nat → List Nat → List (List Nat)
  | [], a => [a]
  | c :: l, a => if c = 47 then a :: splitN l [] else splitN l (a ++ [c])
def joinN : List (List Nat) → List Nat
  | [] => []
  | [x] => x
  | x :: y :: l => x ++ 47 :: joinN (y :: l)
theorem split_plain (x : List Nat) (h : 47 ∉ x) (r a : List Nat) : splitN (x ++ r) a = splitN r (a ++ x) := by
  induction x generalizing a with
  | nil => rw [List.nil_append, List.append_nil]
  | cons c x ih =>
    have hc : c ≠ 47 := fun h' => h (h' ▸ List.mem_cons_self)
    rw [List.cons_append, splitN, if_neg hc, ih (fun h' => h (List.mem_cons_of_mem _ h')), List.append_assoc]
    rfl
theorem split_join (l : List (List Nat)) : ∀ x : List Nat, (∀ y ∈ x :: l, 47 ∉ y) → splitN (joinN (x :: l)) [] = x :: l := by
  induction l with
  | nil =>
    intro x h
    have := split_plain x (h x List.mem_cons_self) [] []
    rw [List.append_nil, List.nil_append] at this
    rw [joinN, this, splitN]
  | cons y l ih =>
    intro x h
    rw [joinN, split_plain x (h x List.mem_cons_self), List.nil_append, splitN, if_pos rfl, ih y (fun z hz => h z (List.mem_cons_of_mem _ hz))]
theorem cuts_split (s : ByteArray) (d : Nat) : ∀ a, d ≤ s.size → a ≤ s.size - d → (cuts s d a).map bl = splitN ((bl s).drop (s.size - d)) (((bl s).take (s.size - d)).drop a) := by
  induction d with
  | zero =>
    intro a _ ha
    have e : (bl s).drop (s.size - 0) = [] := List.drop_eq_nil_of_le (by rw [bl_length]; omega)
    rw [e, splitN, cuts, List.map_cons, List.map_nil, bl_extract]
    rfl
  | succ d ih =>
    intro a hd ha
    have hi : s.size - (d + 1) < s.size := by omega
    have e1 : s.size - (d + 1) + 1 = s.size - d := by omega
    have e2 : (bl s).getD (s.size - (d + 1)) 0 = (bl s)[s.size - (d + 1)]'(by rw [bl_length]; exact hi) := getD_at _ _ _
    rw [bl_drop s _ hi, splitN, cuts, e2, e1]
    by_cases h : (bl s)[s.size - (d + 1)]'(by rw [bl_length]; exact hi) = 47
    · have e3 : ((bl s).take (s.size - d)).drop (s.size - d) = [] := List.drop_eq_nil_of_le (by rw [List.length_take]; omega)
      rw [if_pos h, if_pos h, List.map_cons, bl_extract, ih (s.size - d) (by omega) (Nat.le_refl _), e3]
    · rw [if_neg h, if_neg h, ih a (by omega) (by omega), ← e1, List.take_succ_eq_append_getElem (by rw [bl_length]; exact hi), List.drop_append_of_le_length (by rw [List.length_take, bl_length]; omega)]
theorem parts_split (s : ByteArray) : (partsP s).map bl = splitN (bl s) [] := by
  have h := cuts_split s s.size 0 (Nat.le_refl _) (by omega)
  rw [Nat.sub_self] at h
  exact h
theorem map_bl_inj : ∀ a b : List ByteArray, a.map bl = b.map bl → a = b
  | [], [], _ => rfl
  | [], _ :: _, h => by simp at h
  | _ :: _, [], h => by simp at h
  | x :: a, y :: b, h => by
    rw [List.map_cons, List.map_cons, List.cons.injEq] at h
    rw [bl_inj h.1, map_bl_inj a b h.2]
/-- The letters of a part are letters of the text. -/
theorem cuts_mem (s : ByteArray) (d : Nat) : ∀ a, ∀ x ∈ cuts s d a, ∀ n ∈ bl x, n ∈ bl s := by
  have hz : ∀ a b, ∀ n ∈ bl (s.extract a b), n ∈ bl s := fun a b n hn => by
    rw [bl_extract] at hn
    exact List.mem_of_mem_take (List.mem_of_mem_drop hn)
  induction d with
  | zero => intro a x hx; rw [cuts, List.mem_singleton] at hx; rw [hx]; exact hz _ _
  | succ d ih =>
    intro a x
    rw [cuts]
    split
    · intro hx
      rcases List.mem_cons.mp hx with rfl | hx
      · exact hz _ _
      · exact ih _ x hx
    · exact ih _ x
theorem parts_mem (s x : ByteArray) (h : x ∈ partsP s) : ∀ n ∈ bl x, n ∈ bl s := cuts_mem s s.size 0 x h

/-! ## a letter that a text has not -/
def oneB (c : Nat) : ByteArray := strOfNums [(c : Int)]
theorem oneB_bl (c : Nat) (h : c < 256) : bl (oneB c) = [c] := by
  unfold oneB
  rw [bl_nums _ (by intro x hx; rw [List.mem_singleton] at hx; omega)]
  rfl
def okT (p t : ByteArray) : Prop := t.size = 0 ∨ ∃ c : Nat, 97 ≤ c ∧ c ≤ 122 ∧ c ∉ bl p ∧ t = oneB c
theorem other_l1 (p q : ByteArray) (hp : p.size ≤ 140737488351232) (c : Nat) (r : ByteArray) (K : Nat) (d : Nat) : ∀ (k i : Nat) (f : Bool), i + d = p.size → (∀ k', K ≤ k' → surmiselaw08_other.l2 k' p q (c : Int) (f || decide (c ∈ (bl p).drop i)) 0 = some r) → K + d + 1 ≤ k → surmiselaw08_other.l1 k p q (c : Int) f (i : Int) = some r := by
  induction d with
  | zero =>
    intro k i f hi h hk
    obtain ⟨k, rfl⟩ : ∃ k', k = k' + 1 := ⟨k - 1, by omega⟩
    have e : (bl p).drop i = [] := List.drop_eq_nil_of_le (by rw [bl_length]; omega)
    have e2 : (f || decide (c ∈ (bl p).drop i)) = f := by rw [e, decide_eq_false List.not_mem_nil, Bool.or_false]
    rw [e2] at h
    rw [surmiselaw08_other.l1, if_neg (by omega)]
    exact h k (by omega)
  | succ d ih =>
    intro k i f hi h hk
    obtain ⟨k, rfl⟩ : ∃ k', k = k' + 1 := ⟨k - 1, by omega⟩
    have e : wrap64 ((i : Int) + 1) = ((i + 1 : Nat) : Int) := wrap_up (by omega) (by omega)
    rw [bl_drop p i (by omega)] at h
    rw [surmiselaw08_other.l1, if_pos (by omega), e]
    cases f with
    | true =>
      rw [if_pos rfl]
      exact ih k (i + 1) true (by omega) (fun k' hk' => by rw [Bool.true_or]; have := h k' hk'; rw [Bool.true_or] at this; exact this) (by omega)
    | false =>
      rw [if_neg (by decide), if_pos (by omega), bl_bt p i (by omega)]
      refine ih k (i + 1) _ (by omega) (fun k' hk' => ?_) (by omega)
      have := h k' hk'
      rw [Bool.false_or] at this
      have e2 : ((((bl p)[i]'(by rw [bl_length]; omega) : Nat) : Int) == (c : Int)) = decide (c = (bl p)[i]'(by rw [bl_length]; omega)) := by
        rw [len_dec]
        exact decide_eq_decide.mpr eq_comm
      rw [e2]
      have e3 : (decide (c = (bl p)[i]'(by rw [bl_length]; omega)) || decide (c ∈ (bl p).drop (i + 1))) = decide (c ∈ (bl p)[i]'(by rw [bl_length]; omega) :: (bl p).drop (i + 1)) := by
        rw [Bool.eq_iff_iff, Bool.or_eq_true, decide_eq_true_eq, decide_eq_true_eq, decide_eq_true_eq, List.mem_cons]
      rw [e3]
      exact this
theorem other_l2 (p q : ByteArray) (hq : q.size ≤ 140737488351232) (c : Nat) (hc : c + 1 < 256) (K : Nat) (d : Nat) : ∀ (k i : Nat) (f : Bool), i + d = q.size → (f = false → c ∉ bl p) → 97 ≤ c → c ≤ 122 → (∀ k', K ≤ k' → ∃ r, surmiselaw08_other.l0 k' p q ((c + 1 : Nat) : Int) = some r ∧ okT p r) → K + d + 1 ≤ k → ∃ r, surmiselaw08_other.l2 k p q (c : Int) f (i : Int) = some r ∧ okT p r := by
  induction d with
  | zero =>
    intro k i f hi hf h1 h2 h hk
    obtain ⟨k, rfl⟩ : ∃ k', k = k' + 1 := ⟨k - 1, by omega⟩
    rw [surmiselaw08_other.l2, if_neg (by omega)]
    cases f with
    | true =>
      have e : ((c : Int) + 1) % 256 = ((c + 1 : Nat) : Int) := by omega
      rw [if_pos rfl, e]
      exact h k (by omega)
    | false =>
      rw [if_neg (by decide)]
      exact ⟨_, rfl, Or.inr ⟨c, h1, h2, hf rfl, rfl⟩⟩
  | succ d ih =>
    intro k i f hi hf h1 h2 h hk
    obtain ⟨k, rfl⟩ : ∃ k', k = k' + 1 := ⟨k - 1, by omega⟩
    have e : wrap64 ((i : Int) + 1) = ((i + 1 : Nat) : Int) := wrap_up (by omega) (by omega)
    rw [surmiselaw08_other.l2, if_pos (by omega), e]
    cases f with
    | true =>
      rw [if_pos rfl]
      exact ih k (i + 1) true (by omega) hf h1 h2 h (by omega)
    | false =>
      rw [if_neg (by decide), if_pos (by omega)]
      exact ih k (i + 1) _ (by omega) (fun _ => hf rfl) h1 h2 h (by omega)
theorem other_l0 (p q : ByteArray) (hp : p.size ≤ 140737488351232) (hq : q.size ≤ 140737488351232) (d : Nat) : ∀ (k c : Nat), c + d = 123 → 97 ≤ c → d * (p.size + q.size + 4) + 1 ≤ k → ∃ r, surmiselaw08_other.l0 k p q (c : Int) = some r ∧ okT p r := by
  induction d with
  | zero =>
    intro k c hc h1 hk
    obtain ⟨k, rfl⟩ : ∃ k', k = k' + 1 := ⟨k - 1, by omega⟩
    rw [surmiselaw08_other.l0, if_neg (by omega)]
    exact ⟨_, rfl, Or.inl rfl⟩
  | succ d ih =>
    intro k c hc h1 hk
    rw [Nat.succ_mul] at hk
    obtain ⟨k, rfl⟩ : ∃ k', k = k' + 1 := ⟨k - 1, by omega⟩
    generalize hX : d * (p.size + q.size + 4) = X at hk ih
    have h2 : ∀ k', X + 1 + q.size + 1 ≤ k' → ∀ f : Bool, (f = false → c ∉ bl p) → ∃ r, surmiselaw08_other.l2 k' p q (c : Int) f 0 = some r ∧ okT p r := fun k' hk' f hf =>
      other_l2 p q hq c (by omega) (X + 1) q.size k' 0 f (by omega) hf h1 (by omega) (fun k2 hk2 => ih k2 (c + 1) (by omega) (by omega) (by omega)) (by omega)
    obtain ⟨r, hr, ho⟩ := h2 k (by omega) (false || decide (c ∈ (bl p).drop 0)) (fun h => by rw [Bool.false_or, decide_eq_false_iff_not] at h; exact h)
    have hmono : ∀ k', X + 1 + q.size + 1 ≤ k' → surmiselaw08_other.l2 k' p q (c : Int) (false || decide (c ∈ (bl p).drop 0)) 0 = some r := by
      intro k' hk'
      obtain ⟨r', hr', _⟩ := h2 k' hk' (false || decide (c ∈ (bl p).drop 0)) (fun h => by rw [Bool.false_or, decide_eq_false_iff_not] at h; exact h)
      have hm : ∀ e j, LeO (surmiselaw08_other.l2 j p q (c : Int) (false || decide (c ∈ (bl p).drop 0)) 0) (surmiselaw08_other.l2 (j + e) p q (c : Int) (false || decide (c ∈ (bl p).drop 0)) 0) := by
        intro e
        induction e with
        | zero => intro j r h; exact h
        | succ e ihe => intro j r h; exact (surmiselaw08_other.mono_l (j + e)).2.2 _ _ _ _ _ _ (ihe j r h)
      have a1 := hm k' k r hr
      have a2 := hm k k' r' hr'
      rw [Nat.add_comm k' k] at a2
      rw [hr', ← Option.some.inj (a1.symm.trans a2)]
    rw [surmiselaw08_other.l0, if_pos (by omega)]
    exact ⟨r, other_l1 p q hp c r (X + 1 + q.size + 1) p.size k 0 false (by omega) hmono (by omega), ho⟩
theorem other_some (p q : ByteArray) (hp : p.size ≤ 140737488351232) (hq : q.size ≤ 140737488351232) (k : Nat) (hk : 26 * (p.size + q.size + 4) + 1 ≤ k) : ∃ r, surmiselaw08_other.f k p q = some r ∧ okT p r := by
  unfold surmiselaw08_other.f
  exact other_l0 p q hp hq 26 k 97 (by omega) (by omega) hk

/-! ## a name that a pattern matches -/
def addB (o x : ByteArray) : ByteArray := if o.toList = ([] : List UInt8) then o ++ x else (o ++ (⟨#[47]⟩ : ByteArray)) ++ x
def pieceB (c y : ByteArray) : ByteArray := if y = star ∨ y = stars then c else y
def timesB (m : Nat) (y : ByteArray) : Nat := if y = stars then m else 1
def expL (c : ByteArray) (m : Nat) (l : List ByteArray) : List ByteArray := l.flatMap fun y => List.replicate (timesB m y) (pieceB c y)
theorem addB_size (o x : ByteArray) : (addB o x).size ≤ o.size + 1 + x.size := by
  have e1 : ∀ a b : ByteArray, (a ++ b).size = a.size + b.size := fun a b => by rw [← bl_length, bl_append, List.length_append, bl_length, bl_length]
  unfold addB
  split
  · rw [e1]; omega
  · rw [e1, e1]
    show o.size + 1 + x.size ≤ _
    omega
theorem piece_size (c y : ByteArray) (hc : c.size ≤ 32) (hy : y.size ≤ 32) : (pieceB c y).size ≤ 32 := by
  unfold pieceB
  split <;> assumption
theorem one_l1 (c : ByteArray) (hc : c.size ≤ 32) (m : Int) (l : List ByteArray) (i : Nat) (hi : i < l.length) (hl : l.length ≤ 100) (hy : l[i].size ≤ 32) (n : Nat) (hn : n ≤ 100) (r : ByteArray) (K : Nat) (d : Nat) : ∀ (k j : Nat) (o : ByteArray), j + d = n → o.size + 33 * d ≤ 1000000 →
    (∀ k', K ≤ k' → surmiselaw08_one.l0 k' c m l ((List.replicate d (pieceB c l[i])).foldl addB o) ((i + 1 : Nat) : Int) = some r) → K + 2 * d + 1 ≤ k → surmiselaw08_one.l1 k c m l o (i : Int) (n : Int) (j : Int) = some r := by
  induction d with
  | zero =>
    intro k j o hj ho h hk
    obtain ⟨k, rfl⟩ : ∃ k', k = k' + 1 := ⟨k - 1, by omega⟩
    have e : wrap64 ((i : Int) + 1) = ((i + 1 : Nat) : Int) := wrap_up (by omega) (by omega)
    rw [surmiselaw08_one.l1, if_neg (by omega), e]
    exact h k (by omega)
  | succ d ih =>
    intro k j o hj ho h hk
    obtain ⟨k, rfl⟩ : ∃ k', k = k' + 2 := ⟨k - 2, by omega⟩
    have e : wrap64 ((j : Int) + 1) = ((j + 1 : Nat) : Int) := wrap_up (by omega) (by omega)
    have hp := piece_size c l[i] hc hy
    have hs := addB_size o (pieceB c l[i])
    have e2 : (o ++ (⟨#[47]⟩ : ByteArray)).size = o.size + 1 := by rw [← bl_length, bl_append, List.length_append, bl_length, bl_length]; rfl
    have hnext : surmiselaw08_one.l1 k c m l (addB o (pieceB c l[i])) (i : Int) (n : Int) ((j + 1 : Nat) : Int) = some r :=
      ih k (j + 1) _ (by omega) (by omega) (fun k' hk' => by have := h k' hk'; rw [List.replicate_succ, List.foldl_cons] at this; exact this) (by omega)
    have hj3 : ∀ b : Bool, b = decide (l[i] = star ∨ l[i] = stars) → surmiselaw08_one.j3 (k + 1) c m l o (i : Int) (n : Int) (j : Int) l[i] b = some r := by
      intro b hb
      rw [surmiselaw08_one.j3, e, e2]
      by_cases hst : l[i] = star ∨ l[i] = stars
      · have epc : pieceB c l[i] = c := by unfold pieceB; rw [if_pos hst]
        rw [epc] at hnext
        rw [hb, decide_eq_true hst, if_pos rfl]
        unfold addB at hnext
        split
        · rename_i h0
          rw [if_pos h0] at hnext
          rw [if_pos (by omega)]
          exact hnext
        · rename_i h0
          rw [if_neg h0] at hnext
          rw [if_pos (by omega), if_pos (by omega)]
          exact hnext
      · have epc : pieceB c l[i] = l[i] := by unfold pieceB; rw [if_neg hst]
        rw [epc] at hnext
        rw [hb, decide_eq_false hst, if_neg (by decide)]
        unfold addB at hnext
        split
        · rename_i h0
          rw [if_pos h0] at hnext
          rw [if_pos (by omega)]
          exact hnext
        · rename_i h0
          rw [if_neg h0] at hnext
          rw [if_pos (by omega), if_pos (by omega)]
          exact hnext
    rw [surmiselaw08_one.l1, if_pos (by omega), if_pos (by omega), if_pos (by omega), rd_at l i hi]
    by_cases h1 : l[i] = star
    · rw [if_pos ((is_star _).mpr h1)]
      exact hj3 true (decide_eq_true (Or.inl h1)).symm
    · rw [if_neg (fun h' => h1 ((is_star _).mp h')), stars_dec]
      refine hj3 _ (decide_eq_decide.mpr ⟨Or.inr, fun h' => h'.resolve_left h1⟩)
theorem fold_size (l : List ByteArray) : ∀ o : ByteArray, (∀ x ∈ l, x.size ≤ 32) → (l.foldl addB o).size ≤ o.size + 33 * l.length := by
  induction l with
  | nil => intro o _; exact Nat.le_refl _
  | cons x l ih =>
    intro o h
    have h1 := ih (addB o x) (fun y hy => h y (List.mem_cons_of_mem _ hy))
    have h2 := addB_size o x
    have h3 := h x List.mem_cons_self
    rw [List.foldl_cons, List.length_cons]
    omega
theorem one_l0 (c : ByteArray) (hc : c.size ≤ 32) (m : Nat) (hm : m ≤ 100) (l : List ByteArray) (hl : l.length ≤ 100) (hy : ∀ x ∈ l, x.size ≤ 32) (d : Nat) : ∀ (k i : Nat) (o : ByteArray), i + d = l.length → o.size + 3400 * d ≤ 1000000 → 300 * d + 1 ≤ k →
    surmiselaw08_one.l0 k c (m : Int) l o (i : Int) = some ((expL c m (l.drop i)).foldl addB o) := by
  induction d with
  | zero =>
    intro k i o hi ho hk
    obtain ⟨k, rfl⟩ : ∃ k', k = k' + 1 := ⟨k - 1, by omega⟩
    rw [surmiselaw08_one.l0, if_neg (by omega), List.drop_eq_nil_of_le (by omega)]
    rfl
  | succ d ih =>
    intro k i o hi ho hk
    obtain ⟨k, rfl⟩ : ∃ k', k = k' + 2 := ⟨k - 2, by omega⟩
    have hyi : l[i].size ≤ 32 := hy _ (List.getElem_mem _)
    have ht : timesB m l[i] ≤ 100 := by unfold timesB; split <;> omega
    have hfs := fold_size (List.replicate (timesB m l[i]) (pieceB c l[i])) o (fun x hx => by rw [(List.mem_replicate.mp hx).2]; exact piece_size c _ hc hyi)
    rw [List.length_replicate] at hfs
    have e : (expL c m (l.drop i)).foldl addB o = (expL c m (l.drop (i + 1))).foldl addB ((List.replicate (timesB m l[i]) (pieceB c l[i])).foldl addB o) := by
      rw [List.drop_eq_getElem_cons (by omega)]
      unfold expL
      rw [List.flatMap_cons, List.foldl_append]
    have hj1 : ∀ n : Nat, n = timesB m l[i] → surmiselaw08_one.j1 (k + 1) c (m : Int) l o (i : Int) (n : Int) = some ((expL c m (l.drop i)).foldl addB o) := by
      intro n hn
      rw [surmiselaw08_one.j1]
      refine one_l1 c hc m l i (by omega) hl hyi n (by omega) _ (300 * d + 1) n k 0 o (by omega) (by omega) (fun k' hk' => ?_) (by omega)
      rw [hn, e]
      exact ih k' (i + 1) _ (by omega) (by omega) hk'
    rw [surmiselaw08_one.l0, if_pos (by omega), if_pos (by omega), rd_at l i (by omega)]
    by_cases h : l[i] = stars
    · rw [if_pos ((is_stars _).mpr h)]
      exact hj1 m (by unfold timesB; rw [if_pos h])
    · rw [if_neg (fun h' => h ((is_stars _).mp h'))]
      exact hj1 1 (by unfold timesB; rw [if_neg h])
theorem one_some (q c : ByteArray) (hc : c.size ≤ 32) (hq : q.size ≤ 32) (m : Nat) (hm : m ≤ 100) (k : Nat) (hk : 10000 ≤ k) : surmiselaw08_one.f k q c (m : Int) = some ((expL c m (partsP q)).foldl addB (⟨#[]⟩ : ByteArray)) := by
  have h1 := parts_few q hq
  unfold surmiselaw08_one.f
  rw [bind_of (refparts_some q (by omega) k (by omega))]
  exact one_l0 c hc m hm (partsP q) (by omega) (fun x hx => Nat.le_trans (parts_size q x hx) hq) (partsP q).length k 0 _ (by omega) (by show 0 + _ ≤ _; omega) (by omega)

/-! ## what is joined, cut again -/
def addN (o x : List Nat) : List Nat := if o = [] then x else o ++ 47 :: x
theorem addB_bl (o x : ByteArray) : bl (addB o x) = addN (bl o) (bl x) := by
  unfold addB addN
  by_cases h : o.toList = ([] : List UInt8)
  · have h2 : bl o = [] := List.eq_nil_of_length_eq_zero (by rw [bl_length]; exact (toList_nil o).mp h)
    rw [if_pos h, if_pos h2, bl_append, h2, List.nil_append]
  · have h2 : bl o ≠ [] := fun h' => h ((toList_nil o).mpr (by rw [← bl_length, h']; rfl))
    rw [if_neg h, if_neg h2, bl_append, bl_append, List.append_assoc]
    rfl
theorem fold_bl (l : List ByteArray) : ∀ o : ByteArray, bl (l.foldl addB o) = (l.map bl).foldl addN (bl o) := by
  induction l with
  | nil => intro o; rfl
  | cons x l ih => intro o; rw [List.foldl_cons, ih, addB_bl]; rfl
theorem join_app (a x : List Nat) (l : List (List Nat)) : joinN ((a ++ 47 :: x) :: l) = a ++ 47 :: joinN (x :: l) := by
  cases l with
  | nil => rfl
  | cons y l =>
    rw [joinN, joinN, List.append_assoc]
    rfl
theorem fold_join (l : List (List Nat)) : ∀ o : List Nat, o ≠ [] → l.foldl addN o = joinN (o :: l) := by
  induction l with
  | nil => intro o _; rfl
  | cons x l ih =>
    intro o ho
    have e : addN o x = o ++ 47 :: x := by unfold addN; rw [if_neg ho]
    rw [List.foldl_cons, e, ih _ (by simp), join_app, joinN]
theorem parts_fold (l : List ByteArray) (h0 : l ≠ []) (h1 : ∀ x ∈ l, 47 ∉ bl x ∧ 0 < x.size) : partsP (l.foldl addB (⟨#[]⟩ : ByteArray)) = l := by
  cases l with
  | nil => exact absurd rfl h0
  | cons x l =>
    apply map_bl_inj
    have hx : bl x ≠ [] := fun h => by have := (h1 x List.mem_cons_self).2; rw [← bl_length, h] at this; exact absurd this (by decide)
    have e : bl ((x :: l).foldl addB (⟨#[]⟩ : ByteArray)) = joinN ((x :: l).map bl) := by
      rw [fold_bl, List.map_cons, List.foldl_cons]
      have e2 : addN (bl (⟨#[]⟩ : ByteArray)) (bl x) = bl x := rfl
      rw [e2, fold_join _ _ hx]
    rw [parts_split, e, List.map_cons]
    apply split_join
    intro y hy
    rw [← List.map_cons, List.mem_map] at hy
    obtain ⟨z, hz, rfl⟩ := hy
    exact (h1 z hz).1

end Go.Proofs.Ytlcgmlfiggkppaa.Q

/- PatternWhole: if a pattern does not cover another one, there is a name that shows it (if it is not too long, and a letter is left). Conditions: the row's own alone. -/
namespace Go.Proofs.Ytlcgmlfiggkppaa.Pure
open Go.RowKit Go.Proofs.Ytlcgmlfiggkppaa.Q Go.Proofs.YtlcgmlfiggkppaaW.PrintWords Go.Proofs.YtlcgmlfiggkppaaW.PrintLast

theorem stream_parts (s : ByteArray) (h : streamB s = true) : (∀ x ∈ partsP s, plainB x = true) ∧ (partsP s).length ≤ 4 := by
  unfold streamB streamL at h
  rw [Bool.and_eq_true, Bool.and_eq_true, List.all_eq_true, decide_eq_true_eq, decide_eq_true_eq] at h
  exact ⟨h.2.1, h.2.2⟩
theorem plain_no (x : ByteArray) (h : plainB x = true) : 47 ∉ bl x ∧ 0 < x.size := by
  unfold plainB allOk at h
  rw [Bool.and_eq_true, decide_eq_true_eq, List.all_eq_true] at h
  refine ⟨fun h' => ?_, h.1⟩
  exact absurd (h.2 47 h') (by decide)
theorem pat_pieces (c : ByteArray) (hc : 47 ∉ bl c ∧ 0 < c.size) (l : List ByteArray) (h : patL l = true) : ∀ y ∈ l, 47 ∉ bl (pieceB c y) ∧ 0 < (pieceB c y).size := by
  induction l with
  | nil => intro y hy; exact absurd hy List.not_mem_nil
  | cons x l ih =>
    intro y hy
    rcases List.mem_cons.mp hy with rfl | hy
    · unfold pieceB
      split
      · exact hc
      · rename_i hn
        rw [patL, Bool.and_eq_true, Bool.or_eq_true, Bool.or_eq_true, decide_eq_true_eq, decide_eq_true_eq] at h
        rcases h.1 with (h1 | h1) | h1
        · exact plain_no y h1
        · exact absurd (Or.inl h1) hn
        · exact absurd (Or.inr h1.1) hn
    · exact ih (pat_cons x l h) y hy
theorem exp_pieces (c : ByteArray) (hc : 47 ∉ bl c ∧ 0 < c.size) (m : Nat) (l : List ByteArray) (h : patL l = true) : ∀ x ∈ expL c m l, 47 ∉ bl x ∧ 0 < x.size := by
  intro x hx
  unfold expL at hx
  rw [List.mem_flatMap] at hx
  obtain ⟨y, hy, hx⟩ := hx
  rw [(List.mem_replicate.mp hx).2]
  exact pat_pieces c hc l h y hy
theorem exp_cons (c : ByteArray) (m : Nat) (x : ByteArray) (l : List ByteArray) (hx : x ≠ stars) : expL c m (x :: l) = (if x = star then c else x) :: expL c m l := by
  unfold expL
  have e : timesB m x = 1 := by unfold timesB; rw [if_neg hx]
  have e2 : pieceB c x = if x = star then c else x := by
    unfold pieceB
    by_cases h : x = star
    · rw [if_pos h, if_pos (Or.inl h)]
    · rw [if_neg h, if_neg (fun h' => h'.elim h hx)]
  rw [List.flatMap_cons, e, e2]
  rfl
theorem exp_mat (c : ByteArray) (m : Nat) (l : List ByteArray) (h : patL l = true) : matL l (expL c m l) = true := by
  induction l with
  | nil => rfl
  | cons x l ih =>
    by_cases hx : x = stars
    · subst hx
      rw [patL_stars l h]
      exact mat_stars _
    · rw [exp_cons c m x l hx, matL_cons x _ l _ hx, ih (pat_cons x l h), Bool.and_true, okM_iff]
      by_cases h2 : x = star
      · exact Or.inl h2
      · rw [if_neg h2]
        exact Or.inr rfl
theorem exp_fill (c : ByteArray) (m : Nat) (l : List ByteArray) (h : stars ∉ l) : expL c m l = fillL c l := by
  induction l with
  | nil => rfl
  | cons x l ih =>
    have hx : x ≠ stars := fun h' => h (h' ▸ List.mem_cons_self)
    rw [exp_cons c m x l hx, ih (fun h' => h (List.mem_cons_of_mem _ h'))]
    rfl
theorem exp_long (c : ByteArray) (m : Nat) (l : List ByteArray) (h : patL l = true) (hs : stars ∈ l) : (expL c m l).length + 1 = l.length + m := by
  induction l with
  | nil => exact absurd hs List.not_mem_nil
  | cons x l ih =>
    by_cases hx : x = stars
    · subst hx
      rw [patL_stars l h]
      have e : expL c m [stars] = List.replicate m (pieceB c stars) ++ [] := by
        unfold expL
        have e : timesB m stars = m := by unfold timesB; rw [if_pos rfl]
        rw [List.flatMap_cons, e]
        rfl
      rw [e, List.append_nil, List.length_replicate, List.length_singleton]
      omega
    · rw [exp_cons c m x l hx, List.length_cons, List.length_cons]
      have h2 : stars ∈ l := (List.mem_cons.mp hs).resolve_left (fun h' => hx h'.symm)
      have := ih (pat_cons x l h) h2
      omega
/-- The name that is made of a pattern. -/
def nameB (q c : ByteArray) (m : Nat) : ByteArray := (expL c m (partsP q)).foldl addB (⟨#[]⟩ : ByteArray)
theorem name_parts (q c : ByteArray) (hc : 47 ∉ bl c ∧ 0 < c.size) (m : Nat) (hq : patternB q = true) (hs : streamB (nameB q c m) = true) : expL c m (partsP q) ≠ [] ∧ partsP (nameB q c m) = expL c m (partsP q) := by
  have h1 : expL c m (partsP q) ≠ [] := by
    intro h
    have e : nameB q c m = (⟨#[]⟩ : ByteArray) := by unfold nameB; rw [h]; rfl
    rw [e] at hs
    exact absurd hs (by decide +kernel)
  exact ⟨h1, parts_fold _ h1 (exp_pieces c hc m (partsP q) (pat_pat q hq))⟩
theorem whole_match (q c : ByteArray) (hc : 47 ∉ bl c ∧ 0 < c.size) (m : Nat) (hq : patternB q = true) (hs : streamB (nameB q c m) = true) : matchB q (nameB q c m) = true := by
  unfold matchB
  rw [hq, hs, (name_parts q c hc m hq hs).2, exp_mat c m _ (pat_pat q hq)]
  rfl
theorem whole_l0 (p q c : ByteArray) (hc : 47 ∉ bl c ∧ 0 < c.size) (hc2 : c.size ≤ 32) (hq : patternB q = true) (d : Nat) : ∀ (k m : Nat) (f : Bool), m + d = 5 → d + 10001 ≤ k → (f = true ∨ ∃ j, m ≤ j ∧ j < 5 ∧ (streamB (nameB q c j) = false ∨ matchB p (nameB q c j) = false)) → surmiselaw08_PatternWhole.l0 k p q c f (m : Int) = some true := by
  induction d with
  | zero =>
    intro k m f hm hk h
    obtain ⟨k, rfl⟩ : ∃ k', k = k' + 1 := ⟨k - 1, by omega⟩
    rw [surmiselaw08_PatternWhole.l0, if_neg (by omega)]
    rcases h with h | ⟨j, h1, h2, _⟩
    · rw [h]
    · omega
  | succ d ih =>
    intro k m f hm hk h
    obtain ⟨k, rfl⟩ : ∃ k', k = k' + 1 := ⟨k - 1, by omega⟩
    have e : wrap64 ((m : Int) + 1) = ((m + 1 : Nat) : Int) := wrap_up (by omega) (by omega)
    have h1 : surmiselaw08_one.f k q c (m : Int) = some (nameB q c m) := one_some q c hc2 (pat_size q hq) m (by omega) k (by omega)
    rw [surmiselaw08_PatternWhole.l0, if_pos (by omega), bind_of h1, bind_of (refstream_some _ k (by omega)), e]
    cases hs : streamB (nameB q c m) with
    | false =>
      rw [if_neg (by decide)]
      exact ih k (m + 1) true (by omega) (by omega) (Or.inl rfl)
    | true =>
      rw [if_pos rfl, bind_of (match_some q _ k (by omega)), whole_match q c hc m hq hs, if_pos rfl, bind_of (match_some p _ k (by omega))]
      cases hp : matchB p (nameB q c m) with
      | false => rw [if_neg (by decide)]
      | true =>
        rw [if_pos rfl]
        refine ih k (m + 1) f (by omega) (by omega) ?_
        rcases h with h | ⟨j, h1, h2, h3⟩
        · exact Or.inl h
        · refine Or.inr ⟨j, ?_, h2, h3⟩
          rcases Nat.lt_or_ge m j with h4 | h4
          · omega
          · have : j = m := by omega
            subst this
            rw [hs, hp] at h3
            exact absurd h3 (by decide)
theorem whole_bad (p q c : ByteArray) (hc : 47 ∉ bl c ∧ 0 < c.size) (hp : patternB p = true) (hq : patternB q = true) (hcp : c ∉ partsP p) (hcov : coversB p q = false) : ∃ j, 0 ≤ j ∧ j < 5 ∧ (streamB (nameB q c j) = false ∨ matchB p (nameB q c j) = false) := by
  have hcl : covL (partsP p) (partsP q) = false := by
    unfold coversB at hcov
    rw [hp, hq] at hcov
    exact hcov
  by_cases hst : stars ∈ partsP q
  · have hlen := parts_len q
    rcases Nat.lt_or_ge 1 (partsP q).length with h1 | h1
    · refine ⟨4, by omega, by omega, Or.inl ?_⟩
      cases hs : streamB (nameB q c 4) with
      | false => rfl
      | true =>
        have h2 := exp_long c 4 (partsP q) (pat_pat q hq) hst
        have h3 := (stream_parts _ hs).2
        rw [(name_parts q c hc 4 hq hs).2] at h3
        omega
    · refine ⟨0, by omega, by omega, Or.inl ?_⟩
      cases hs : streamB (nameB q c 0) with
      | false => rfl
      | true =>
        have h2 := exp_long c 0 (partsP q) (pat_pat q hq) hst
        have h3 := (name_parts q c hc 0 hq hs).1
        exact absurd (List.eq_nil_of_length_eq_zero (by omega)) h3
  · refine ⟨0, by omega, by omega, ?_⟩
    cases hs : streamB (nameB q c 0) with
    | false => exact Or.inl rfl
    | true =>
      refine Or.inr ?_
      cases hm : matchB p (nameB q c 0) with
      | false => rfl
      | true =>
        unfold matchB at hm
        rw [hp, hs, (name_parts q c hc 0 hq hs).2, exp_fill c 0 _ hst] at hm
        have := mat_fill c (partsP p) (partsP q) (pat_pat p hp) hst hcp hm
        rw [this] at hcl
        exact absurd hcl (by decide)
theorem PatternWhole : surmiselaw08_PatternWhole.Pure := by
  intro p q hp0 hq0
  obtain ⟨K, hK⟩ : ∃ K, K = 26 * (p.size + q.size + 4) + 20000 := ⟨_, rfl⟩
  refine ⟨K + 1, ?_⟩
  have ha : surmiselaw08_PatternWhole.j0 (K + 1) p q true = some true := by
    rw [surmiselaw08_PatternWhole.j0, if_pos rfl, bind_of (awake_some K (by omega))]
  unfold surmiselaw08_PatternWhole.f
  rw [bind_of (awake_some (K + 1) (by omega)), if_pos rfl, bind_of (refpattern_some p (K + 1) (by omega))]
  cases hp : patternB p with
  | false => rw [if_neg (by decide)]; exact ha
  | true =>
    rw [if_pos rfl, bind_of (refpattern_some q (K + 1) (by omega))]
    cases hq : patternB q with
    | false => rw [if_neg (by decide)]; exact ha
    | true =>
      rw [if_pos rfl, bind_of (covers_some p q (K + 1) (by omega))]
      cases hcov : coversB p q with
      | true => exact ha
      | false =>
        rw [surmiselaw08_PatternWhole.j0, if_neg (by decide)]
        obtain ⟨t, ht, ho⟩ := other_some p q hp0 hq0 K (by omega)
        rw [bind_of ht]
        rcases ho with h0 | ⟨c, h1, h2, h3, rfl⟩
        · rw [if_pos ((toList_nil t).mpr h0)]
        · have hb := oneB_bl c (by omega)
          have hz : (oneB c).size = 1 := by rw [← bl_length, hb]; rfl
          have hc : 47 ∉ bl (oneB c) ∧ 0 < (oneB c).size := ⟨by rw [hb, List.mem_singleton]; omega, by omega⟩
          rw [if_neg (fun h => by have := (toList_nil _).mp h; omega)]
          refine whole_l0 p q (oneB c) hc (by omega) hq 5 K 0 false (by omega) (by omega) (Or.inr (whole_bad p q (oneB c) hc hp hq (fun hm => ?_) hcov))
          exact h3 (parts_mem p _ hm c (by rw [hb]; exact List.mem_singleton.mpr rfl))

end Go.Proofs.Ytlcgmlfiggkppaa.Pure
