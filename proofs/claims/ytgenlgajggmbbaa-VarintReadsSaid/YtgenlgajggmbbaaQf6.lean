-- By px.py, a program of this session that drives the kit's printer: laid out of the translation; Lean checks it.
import Derived.Test.YtgenlgajggmbbaaQ0
import Derived.Test.YtgenlgajggmbbaaQf18
import Derived.Test.YtgenlgajggmbbaaQf19
import Derived.Test.YtgenlgajggmbbaaQf20
import Derived.Test.YtgenlgajggmbbaaQf21
import Derived.Test.YtgenlgajggmbbaaQf22
import Derived.Test.YtgenlgajggmbbaaQf23
import Derived.Test.YtgenlgajggmbbaaQf24
import Derived.Test.YtgenlgajggmbbaaQf25
import Derived.Test.YtgenlgajggmbbaaQf26
import Derived.Test.YtgenlgajggmbbaaQf27
import Derived.Test.YtgenlgajggmbbaaQf9
namespace Go.Proofs.Ytgenlgajggmbbaa.Q
open Go.RowKit Go.Proofs.YtgenlgajggmbbaaW.PrintWords Go.Proofs.YtgenlgajggmbbaaW.PrintLast Go.Proofs.YtgenlgajggmbbaaW.PrintMore
attribute [local go_sem] max2_int min2_int max_two min_two max_three min_three max_four min_four   -- for this text's walks alone
set_option linter.unusedVariables false
set_option linter.unusedSimpArgs false

/-! ### surmiselaw01_VarintReads: function 6 -/
mutual
def surmiselaw01_VarintReads.j0 : Nat → ByteArray → Int → Bool → Option (Bool)
  | 0, _, _, _ => none
  | k + 1, x0, x1, x47 => if x47 = true then (some false) else ((varint_ReadText.f k x0 x1).bind fun bt211 => ((surmiseref01_ReadText.f k x0 x1).bind fun bt214 => (if bt211.1.toList = bt214.1.toList then (if bt211.2.1 = bt214.2.1 then (surmiselaw01_VarintReads.j1 k x0 x1 (bt211.2.2 != bt214.2.2)) else (surmiselaw01_VarintReads.j1 k x0 x1 true)) else (surmiselaw01_VarintReads.j1 k x0 x1 true))))
def surmiselaw01_VarintReads.j1 : Nat → ByteArray → Int → Bool → Option (Bool)
  | 0, _, _, _ => none
  | k + 1, x0, x1, x74 => if x74 = true then (some false) else ((varint_ReadNumbers.f k x0 x1).bind fun bt217 => ((surmiseref01_ReadNumbers.f k x0 x1).bind fun bt222 => ((surmiseref01_Ints.f k bt217.1 bt222.1).bind fun t227 => (if t227 = true then (if bt217.2.1 = bt222.2.1 then (surmiselaw01_VarintReads.j2 k x0 x1 (bt217.2.2 != bt222.2.2)) else (surmiselaw01_VarintReads.j2 k x0 x1 true)) else (surmiselaw01_VarintReads.j2 k x0 x1 true)))))
def surmiselaw01_VarintReads.j2 : Nat → ByteArray → Int → Bool → Option (Bool)
  | 0, _, _, _ => none
  | k + 1, x0, x1, x102 => if x102 = true then (some false) else ((varint_ReadTexts.f k x0 x1).bind fun bt228 => ((surmiseref01_ReadTexts.f k x0 x1).bind fun bt233 => ((surmiseref01_Same.f k bt228.1 bt233.1).bind fun t238 => (if t238 = true then (if bt228.2.1 = bt233.2.1 then (some (bt228.2.2 == bt233.2.2)) else (some false)) else (some false)))))
end
def surmiselaw01_VarintReads.f (k : Nat) (a0 : ByteArray) (a1 : Int) : Option (Bool) := (varint_ReadNumber.f k a0 a1).bind fun bt204 => ((surmiseref01_ReadNumber.f k a0 a1).bind fun bt207 => (if bt204.1 = bt207.1 then (if bt204.2.1 = bt207.2.1 then (if bt204.2.2 = bt207.2.2 then ((surmiselaw01_awake.f k).bind fun t210 => (surmiselaw01_VarintReads.j0 k a0 a1 (!t210))) else (surmiselaw01_VarintReads.j0 k a0 a1 true)) else (surmiselaw01_VarintReads.j0 k a0 a1 true)) else (surmiselaw01_VarintReads.j0 k a0 a1 true)))
theorem surmiselaw01_VarintReads.mono_l : ∀ k, (∀ y0 y1 y2, LeO (surmiselaw01_VarintReads.j0 k y0 y1 y2) (surmiselaw01_VarintReads.j0 (k + 1) y0 y1 y2)) ∧ (∀ y0 y1 y2, LeO (surmiselaw01_VarintReads.j1 k y0 y1 y2) (surmiselaw01_VarintReads.j1 (k + 1) y0 y1 y2)) ∧ (∀ y0 y1 y2, LeO (surmiselaw01_VarintReads.j2 k y0 y1 y2) (surmiselaw01_VarintReads.j2 (k + 1) y0 y1 y2))
  | 0 => ⟨fun _ _ _ r h => by simp [surmiselaw01_VarintReads.j0] at h, fun _ _ _ r h => by simp [surmiselaw01_VarintReads.j1] at h, fun _ _ _ r h => by simp [surmiselaw01_VarintReads.j2] at h⟩
  | k + 1 => by
    obtain ⟨ih0, ih1, ih2⟩ := surmiselaw01_VarintReads.mono_l k
    refine ⟨?_, ?_, ?_⟩
    · intro y0 y1 y2
      unfold surmiselaw01_VarintReads.j0
      repeat' first
      | (with_reducible exact ih0 _ _ _)
      | (with_reducible exact ih1 _ _ _)
      | (with_reducible exact ih2 _ _ _)
      | (with_reducible exact surmiselaw01_awake.mono _)
      | (with_reducible exact surmiseref01_Ints.mono _ _ _)
      | (with_reducible exact surmiseref01_ReadNumber.mono _ _ _)
      | (with_reducible exact surmiseref01_ReadNumbers.mono _ _ _)
      | (with_reducible exact surmiseref01_ReadText.mono _ _ _)
      | (with_reducible exact surmiseref01_ReadTexts.mono _ _ _)
      | (with_reducible exact surmiseref01_Same.mono _ _ _)
      | (with_reducible exact varint_ReadNumber.mono _ _ _)
      | (with_reducible exact varint_ReadNumbers.mono _ _ _)
      | (with_reducible exact varint_ReadText.mono _ _ _)
      | (with_reducible exact varint_ReadTexts.mono _ _ _)
      | (with_reducible exact LeO.refl _)
      | (with_reducible exact LeO.none _)
      | (with_reducible refine LeO.ite ?_ ?_)
      | (with_reducible refine LeO.bind ?_ (fun _ => ?_))
      | exact ih0 _ _ _
      | exact ih1 _ _ _
      | exact ih2 _ _ _
      | exact surmiselaw01_awake.mono _
      | exact surmiseref01_Ints.mono _ _ _
      | exact surmiseref01_ReadNumber.mono _ _ _
      | exact surmiseref01_ReadNumbers.mono _ _ _
      | exact surmiseref01_ReadText.mono _ _ _
      | exact surmiseref01_ReadTexts.mono _ _ _
      | exact surmiseref01_Same.mono _ _ _
      | exact varint_ReadNumber.mono _ _ _
      | exact varint_ReadNumbers.mono _ _ _
      | exact varint_ReadText.mono _ _ _
      | exact varint_ReadTexts.mono _ _ _
      | exact LeO.none _
      | refine LeO.ite ?_ ?_
      | refine LeO.bind ?_ (fun _ => ?_)
    · intro y0 y1 y2
      unfold surmiselaw01_VarintReads.j1
      repeat' first
      | (with_reducible exact ih0 _ _ _)
      | (with_reducible exact ih1 _ _ _)
      | (with_reducible exact ih2 _ _ _)
      | (with_reducible exact surmiselaw01_awake.mono _)
      | (with_reducible exact surmiseref01_Ints.mono _ _ _)
      | (with_reducible exact surmiseref01_ReadNumber.mono _ _ _)
      | (with_reducible exact surmiseref01_ReadNumbers.mono _ _ _)
      | (with_reducible exact surmiseref01_ReadText.mono _ _ _)
      | (with_reducible exact surmiseref01_ReadTexts.mono _ _ _)
      | (with_reducible exact surmiseref01_Same.mono _ _ _)
      | (with_reducible exact varint_ReadNumber.mono _ _ _)
      | (with_reducible exact varint_ReadNumbers.mono _ _ _)
      | (with_reducible exact varint_ReadText.mono _ _ _)
      | (with_reducible exact varint_ReadTexts.mono _ _ _)
      | (with_reducible exact LeO.refl _)
      | (with_reducible exact LeO.none _)
      | (with_reducible refine LeO.ite ?_ ?_)
      | (with_reducible refine LeO.bind ?_ (fun _ => ?_))
      | exact ih0 _ _ _
      | exact ih1 _ _ _
      | exact ih2 _ _ _
      | exact surmiselaw01_awake.mono _
      | exact surmiseref01_Ints.mono _ _ _
      | exact surmiseref01_ReadNumber.mono _ _ _
      | exact surmiseref01_ReadNumbers.mono _ _ _
      | exact surmiseref01_ReadText.mono _ _ _
      | exact surmiseref01_ReadTexts.mono _ _ _
      | exact surmiseref01_Same.mono _ _ _
      | exact varint_ReadNumber.mono _ _ _
      | exact varint_ReadNumbers.mono _ _ _
      | exact varint_ReadText.mono _ _ _
      | exact varint_ReadTexts.mono _ _ _
      | exact LeO.none _
      | refine LeO.ite ?_ ?_
      | refine LeO.bind ?_ (fun _ => ?_)
    · intro y0 y1 y2
      unfold surmiselaw01_VarintReads.j2
      repeat' first
      | (with_reducible exact ih0 _ _ _)
      | (with_reducible exact ih1 _ _ _)
      | (with_reducible exact ih2 _ _ _)
      | (with_reducible exact surmiselaw01_awake.mono _)
      | (with_reducible exact surmiseref01_Ints.mono _ _ _)
      | (with_reducible exact surmiseref01_ReadNumber.mono _ _ _)
      | (with_reducible exact surmiseref01_ReadNumbers.mono _ _ _)
      | (with_reducible exact surmiseref01_ReadText.mono _ _ _)
      | (with_reducible exact surmiseref01_ReadTexts.mono _ _ _)
      | (with_reducible exact surmiseref01_Same.mono _ _ _)
      | (with_reducible exact varint_ReadNumber.mono _ _ _)
      | (with_reducible exact varint_ReadNumbers.mono _ _ _)
      | (with_reducible exact varint_ReadText.mono _ _ _)
      | (with_reducible exact varint_ReadTexts.mono _ _ _)
      | (with_reducible exact LeO.refl _)
      | (with_reducible exact LeO.none _)
      | (with_reducible refine LeO.ite ?_ ?_)
      | (with_reducible refine LeO.bind ?_ (fun _ => ?_))
      | exact ih0 _ _ _
      | exact ih1 _ _ _
      | exact ih2 _ _ _
      | exact surmiselaw01_awake.mono _
      | exact surmiseref01_Ints.mono _ _ _
      | exact surmiseref01_ReadNumber.mono _ _ _
      | exact surmiseref01_ReadNumbers.mono _ _ _
      | exact surmiseref01_ReadText.mono _ _ _
      | exact surmiseref01_ReadTexts.mono _ _ _
      | exact surmiseref01_Same.mono _ _ _
      | exact varint_ReadNumber.mono _ _ _
      | exact varint_ReadNumbers.mono _ _ _
      | exact varint_ReadText.mono _ _ _
      | exact varint_ReadTexts.mono _ _ _
      | exact LeO.none _
      | refine LeO.ite ?_ ?_
      | refine LeO.bind ?_ (fun _ => ?_)
theorem surmiselaw01_VarintReads.mono : ∀ a0 a1 k, LeO (surmiselaw01_VarintReads.f k a0 a1) (surmiselaw01_VarintReads.f (k + 1) a0 a1) := by
  intro a0 a1 k
  obtain ⟨ih0, ih1, ih2⟩ := surmiselaw01_VarintReads.mono_l k
  unfold surmiselaw01_VarintReads.f
  repeat' first
      | (with_reducible exact ih0 _ _ _)
      | (with_reducible exact ih1 _ _ _)
      | (with_reducible exact ih2 _ _ _)
      | (with_reducible exact surmiselaw01_awake.mono _)
      | (with_reducible exact surmiseref01_Ints.mono _ _ _)
      | (with_reducible exact surmiseref01_ReadNumber.mono _ _ _)
      | (with_reducible exact surmiseref01_ReadNumbers.mono _ _ _)
      | (with_reducible exact surmiseref01_ReadText.mono _ _ _)
      | (with_reducible exact surmiseref01_ReadTexts.mono _ _ _)
      | (with_reducible exact surmiseref01_Same.mono _ _ _)
      | (with_reducible exact varint_ReadNumber.mono _ _ _)
      | (with_reducible exact varint_ReadNumbers.mono _ _ _)
      | (with_reducible exact varint_ReadText.mono _ _ _)
      | (with_reducible exact varint_ReadTexts.mono _ _ _)
      | (with_reducible exact LeO.refl _)
      | (with_reducible exact LeO.none _)
      | (with_reducible refine LeO.ite ?_ ?_)
      | (with_reducible refine LeO.bind ?_ (fun _ => ?_))
      | exact ih0 _ _ _
      | exact ih1 _ _ _
      | exact ih2 _ _ _
      | exact surmiselaw01_awake.mono _
      | exact surmiseref01_Ints.mono _ _ _
      | exact surmiseref01_ReadNumber.mono _ _ _
      | exact surmiseref01_ReadNumbers.mono _ _ _
      | exact surmiseref01_ReadText.mono _ _ _
      | exact surmiseref01_ReadTexts.mono _ _ _
      | exact surmiseref01_Same.mono _ _ _
      | exact varint_ReadNumber.mono _ _ _
      | exact varint_ReadNumbers.mono _ _ _
      | exact varint_ReadText.mono _ _ _
      | exact varint_ReadTexts.mono _ _ _
      | exact LeO.none _
      | refine LeO.ite ?_ ?_
      | refine LeO.bind ?_ (fun _ => ?_)
set_option maxHeartbeats 8000000 in
set_option maxRecDepth 100000 in
theorem surmiselaw01_VarintReads.calls (k : Nat) (a0 : ByteArray) (a1 : Int) (r : Bool) (w : World) (h : surmiselaw01_VarintReads.f k a0 a1 = some r) :
    Calls Try.prog 6 #[.string a0, .int .i64 a1] w fun e w' => e = .returned (.bool r) ∧ Below w.heap.size w w' := by
  have HB := Aside0.mk (Below.refl w.heap.size w)
  have H : ((varint_ReadNumber.f k a0 a1).bind fun bt204 => ((surmiseref01_ReadNumber.f k a0 a1).bind fun bt207 => (if bt204.1 = bt207.1 then (if bt204.2.1 = bt207.2.1 then (if bt204.2.2 = bt207.2.2 then ((surmiselaw01_awake.f k).bind fun t210 => (surmiselaw01_VarintReads.j0 k a0 a1 (!t210))) else (surmiselaw01_VarintReads.j0 k a0 a1 true)) else (surmiselaw01_VarintReads.j0 k a0 a1 true)) else (surmiselaw01_VarintReads.j0 k a0 a1 true)))) = some r := h
  clear h
  replace H := Option.bind_eq_some_iff.mp H
  obtain ⟨⟨t204, t205, t206⟩, A30, H⟩ := H
  replace H : ((surmiseref01_ReadNumber.f k a0 a1).bind fun bt207 => (if t204 = bt207.1 then (if t205 = bt207.2.1 then (if t206 = bt207.2.2 then ((surmiselaw01_awake.f k).bind fun t210 => (surmiselaw01_VarintReads.j0 k a0 a1 (!t210))) else (surmiselaw01_VarintReads.j0 k a0 a1 true)) else (surmiselaw01_VarintReads.j0 k a0 a1 true)) else (surmiselaw01_VarintReads.j0 k a0 a1 true))) = some r := H
  have A3 := Aside0.mk A30
  clear A30
  replace H := Option.bind_eq_some_iff.mp H
  obtain ⟨⟨t207, t208, t209⟩, A40, H⟩ := H
  replace H : (if t204 = t207 then (if t205 = t208 then (if t206 = t209 then ((surmiselaw01_awake.f k).bind fun t210 => (surmiselaw01_VarintReads.j0 k a0 a1 (!t210))) else (surmiselaw01_VarintReads.j0 k a0 a1 true)) else (surmiselaw01_VarintReads.j0 k a0 a1 true)) else (surmiselaw01_VarintReads.j0 k a0 a1 true)) = some r := H
  have A4 := Aside0.mk A40
  clear A40
  have HC5 := Aside0.mk H
  clear H
  go_enter Try.func6, Try.ntmps6
  go_upto_region 3 with (first | ((with_reducible refine gate_callee (f := 18) rfl ?_); refine goesL_ (some 20) rfl rfl Try.func18 (by kernel_rfl) rfl #[.string a0, .int .i64 a1] rfl (by (try simp only [List.map_toArray, List.map_cons, List.map_nil]); first | done | rfl | (simp only [List.length_drop, List.length_take]; rfl)) ?_; (with_reducible refine (varint_ReadNumber.calls k a0 a1 t204 t205 t206 _ A3.out).mono ?_); rintro e w' ⟨rfl, ⟨nd, rfl⟩⟩; refine ⟨_, rfl, ?_⟩) | ((with_reducible refine gate_callee (f := 19) rfl ?_); refine goesL_ (some 27) rfl rfl Try.func19 (by kernel_rfl) rfl #[.string a0, .int .i64 a1] rfl (by (try simp only [List.map_toArray, List.map_cons, List.map_nil]); first | done | rfl | (simp only [List.length_drop, List.length_take]; rfl)) ?_; (with_reducible refine (surmiseref01_ReadNumber.calls k a0 a1 t207 t208 t209 _ A4.out).mono ?_); rintro e w' ⟨rfl, ⟨nd, rfl⟩⟩; refine ⟨_, rfl, ?_⟩))
  (try simp only [Act.put, List.setIfInBounds_toArray, List.set_cons_zero, List.set_cons_succ])
  go_cut [47] (fun v47 wc => ∃ (kq : Nat) (x47_4 : Bool), v47 = .bool x47_4 ∧ Aside0 (surmiselaw01_VarintReads.j0 kq a0 a1 x47_4 = some r) ∧ Aside0 (kq ≤ k) ∧ Aside0 (Below w.heap.size w wc))
  case first =>
    have H := HC5.out
    clear HC5
    by_cases c6 : t204 = t207
    · rw [if_pos c6] at H
      have c6b0 : (t204 == t207) = true := beq_iff_eq.mpr c6
      have c6b1 : (t204 != t207) = false := bne_eq_false_iff_eq.mpr c6
      clear c6
      (first | rw [c6b0] | (simp only [i64_w, i32_w]; rw [c6b0]) | skip)
      by_cases c7 : t205 = t208
      · rw [if_pos c7] at H
        have c7b0 : (t205 == t208) = true := beq_iff_eq.mpr c7
        have c7b1 : (t205 != t208) = false := bne_eq_false_iff_eq.mpr c7
        clear c7
        by_cases c8 : t206 = t209
        · rw [if_pos c8] at H
          have c8b0 : (t206 == t209) = true := beq_iff_eq.mpr c8
          have c8b1 : (t206 != t209) = false := bne_eq_false_iff_eq.mpr c8
          clear c8
          replace H := Option.bind_eq_some_iff.mp H
          obtain ⟨t210, A90, H⟩ := H
          replace H : (surmiselaw01_VarintReads.j0 k a0 a1 (!t210)) = some r := H
          have A9 := Aside0.mk A90
          clear A90
          have H' := Aside0.mk H
          clear H
          go_wp2_with (first | (go_at_call 9; (with_reducible refine (surmiselaw01_awake.calls k  t210 _ A9.out).mono ?_); rintro e w10 ⟨rfl, hb⟩; have n0_ := Aside0.mk (below_step (by repeat (first | (with_reducible first | exact HB.out | apply below_alloc | apply pw_below_drewN | apply below_drew1) | exact HB.out)) hb); clear HB; have HB := n0_; clear n0_; (try clear hb); (try clear hb2); (try clear hk); (try clear hi)))
          go_meet
          case rel => exact ⟨_, (!t210), (by first | rfl | (simp; done) | (simp [*]; done)), H', ⟨by first | omega | exact Nat.le_refl _⟩, ⟨by repeat (first | (with_reducible first | exact HB.out | apply below_alloc | apply pw_below_drewN | apply below_drew1) | exact HB.out)⟩⟩
        · rw [if_neg c8] at H
          have c8b0 : (t206 == t209) = false := beq_eq_false_iff_ne.mpr c8
          have c8b1 : (t206 != t209) = true := bne_iff_ne.mpr c8
          have H' := Aside0.mk H
          clear H
          go_wp2
          go_meet
          case rel => exact ⟨_, (true), (by first | rfl | (simp; done) | (simp [*]; done)), H', ⟨by first | omega | exact Nat.le_refl _⟩, ⟨by repeat (first | (with_reducible first | exact HB.out | apply below_alloc | apply pw_below_drewN | apply below_drew1) | exact HB.out)⟩⟩
      · rw [if_neg c7] at H
        have c7b0 : (t205 == t208) = false := beq_eq_false_iff_ne.mpr c7
        have c7b1 : (t205 != t208) = true := bne_iff_ne.mpr c7
        have H' := Aside0.mk H
        clear H
        go_wp2
        go_meet
        case rel => exact ⟨_, (true), (by first | rfl | (simp; done) | (simp [*]; done)), H', ⟨by first | omega | exact Nat.le_refl _⟩, ⟨by repeat (first | (with_reducible first | exact HB.out | apply below_alloc | apply pw_below_drewN | apply below_drew1) | exact HB.out)⟩⟩
    · rw [if_neg c6] at H
      have c6b0 : (t204 == t207) = false := beq_eq_false_iff_ne.mpr c6
      have c6b1 : (t204 != t207) = true := bne_iff_ne.mpr c6
      (first | rw [c6b0] | (simp only [i64_w, i32_w]; rw [c6b0]) | skip)
      have H' := Aside0.mk H
      clear H
      go_wp2
      go_meet
      case rel => exact ⟨_, (true), (by first | rfl | (simp; done) | (simp [*]; done)), H', ⟨by first | omega | exact Nat.le_refl _⟩, ⟨by repeat (first | (with_reducible first | exact HB.out | apply below_alloc | apply pw_below_drewN | apply below_drew1) | exact HB.out)⟩⟩
  case rest =>
    clear HC5
    try clear c1
    try clear p2
    try clear c6
    try clear c6b0
    try clear c6b1
    try clear c7
    try clear c7b0
    try clear c7b1
    try clear c8
    try clear c8b0
    try clear c8b1
    obtain ⟨kq, x47_4, rfl, HA, HJ4, HB⟩ := hcut
    cases kq with
    | zero => exact absurd HA.out (by simp [surmiselaw01_VarintReads.j0])
    | succ kj4 =>
      have H := HA.out
      clear HA
      simp only [surmiselaw01_VarintReads.j0] at H
      by_cases c11 : x47_4 = true
      · subst c11
        have H1 : (some false) = some r := by rw [if_pos rfl] at H; exact H
        clear H
        have H := H1
        clear H1
        obtain rfl := Option.some.inj H
        go_wp2
        go_ret
        exact ⟨by first | rfl | (simp [errW_none, errW_some] <;> rfl) | (simp [*, errW_none, errW_some] <;> rfl), by repeat (first | (with_reducible first | exact HB.out | apply below_alloc | apply pw_below_drewN | apply below_drew1) | exact HB.out)⟩
      · replace c11 := Bool.eq_false_iff.mpr c11
        subst c11
        have H1 : ((varint_ReadText.f kj4 a0 a1).bind fun bt211 => ((surmiseref01_ReadText.f kj4 a0 a1).bind fun bt214 => (if bt211.1.toList = bt214.1.toList then (if bt211.2.1 = bt214.2.1 then (surmiselaw01_VarintReads.j1 kj4 a0 a1 (bt211.2.2 != bt214.2.2)) else (surmiselaw01_VarintReads.j1 kj4 a0 a1 true)) else (surmiselaw01_VarintReads.j1 kj4 a0 a1 true)))) = some r := by rw [if_neg (show ¬ (false = true) by decide)] at H; exact H
        clear H
        have H := H1
        clear H1
        replace H := Option.bind_eq_some_iff.mp H
        obtain ⟨⟨t211, t212, t213⟩, A120, H⟩ := H
        replace H : ((surmiseref01_ReadText.f kj4 a0 a1).bind fun bt214 => (if t211.toList = bt214.1.toList then (if t212 = bt214.2.1 then (surmiselaw01_VarintReads.j1 kj4 a0 a1 (t213 != bt214.2.2)) else (surmiselaw01_VarintReads.j1 kj4 a0 a1 true)) else (surmiselaw01_VarintReads.j1 kj4 a0 a1 true))) = some r := H
        have A12 := Aside0.mk A120
        clear A120
        replace H := Option.bind_eq_some_iff.mp H
        obtain ⟨⟨t214, t215, t216⟩, A130, H⟩ := H
        replace H : (if t211.toList = t214.toList then (if t212 = t215 then (surmiselaw01_VarintReads.j1 kj4 a0 a1 (t213 != t216)) else (surmiselaw01_VarintReads.j1 kj4 a0 a1 true)) else (surmiselaw01_VarintReads.j1 kj4 a0 a1 true)) = some r := H
        have A13 := Aside0.mk A130
        clear A130
        have HC14 := Aside0.mk H
        clear H
        go_upto_region 7 with (first | ((with_reducible refine gate_callee (f := 20) rfl ?_); refine goesL_ (some 51) rfl rfl Try.func20 (by kernel_rfl) rfl #[.string a0, .int .i64 a1] rfl (by (try simp only [List.map_toArray, List.map_cons, List.map_nil]); first | done | rfl | (simp only [List.length_drop, List.length_take]; rfl)) ?_; (with_reducible refine (varint_ReadText.calls kj4 a0 a1 t211 t212 t213 _ A12.out).mono ?_); rintro e w' ⟨rfl, ⟨nd, rfl⟩⟩; refine ⟨_, rfl, ?_⟩) | ((with_reducible refine gate_callee (f := 21) rfl ?_); refine goesL_ (some 58) rfl rfl Try.func21 (by kernel_rfl) rfl #[.string a0, .int .i64 a1] rfl (by (try simp only [List.map_toArray, List.map_cons, List.map_nil]); first | done | rfl | (simp only [List.length_drop, List.length_take]; rfl)) ?_; (with_reducible refine (surmiseref01_ReadText.calls kj4 a0 a1 t214 t215 t216 _ A13.out).mono ?_); rintro e w' ⟨rfl, ⟨nd, rfl⟩⟩; refine ⟨_, rfl, ?_⟩))
        (try simp only [Act.put, List.setIfInBounds_toArray, List.set_cons_zero, List.set_cons_succ])
        go_cut [74] (fun v74 wc => ∃ (kq : Nat) (x74_13 : Bool), v74 = .bool x74_13 ∧ Aside0 (surmiselaw01_VarintReads.j1 kq a0 a1 x74_13 = some r) ∧ Aside0 (kq ≤ kj4) ∧ Aside0 (Below w.heap.size w wc))
        case first =>
          have H := HC14.out
          clear HC14
          by_cases c15 : t211.toList = t214.toList
          · rw [if_pos c15] at H
            have c15b0 : (t211.toList == t214.toList) = true := beq_iff_eq.mpr c15
            have c15b1 : (t211.toList != t214.toList) = false := bne_eq_false_iff_eq.mpr c15
            clear c15
            (first | rw [c15b0] | (simp only [i64_w, i32_w]; rw [c15b0]) | skip)
            by_cases c16 : t212 = t215
            · rw [if_pos c16] at H
              have c16b0 : (t212 == t215) = true := beq_iff_eq.mpr c16
              have c16b1 : (t212 != t215) = false := bne_eq_false_iff_eq.mpr c16
              clear c16
              have H' := Aside0.mk H
              clear H
              go_wp2
              go_meet
              case rel => exact ⟨_, ((t213 != t216)), (by first | rfl | (simp; done) | (simp [*]; done)), H', ⟨by have := HJ4.out; first | omega | exact Nat.le_refl _⟩, ⟨by repeat (first | (with_reducible first | exact HB.out | apply below_alloc | apply pw_below_drewN | apply below_drew1) | exact HB.out)⟩⟩
            · rw [if_neg c16] at H
              have c16b0 : (t212 == t215) = false := beq_eq_false_iff_ne.mpr c16
              have c16b1 : (t212 != t215) = true := bne_iff_ne.mpr c16
              have H' := Aside0.mk H
              clear H
              go_wp2
              go_meet
              case rel => exact ⟨_, (true), (by first | rfl | (simp; done) | (simp [*]; done)), H', ⟨by have := HJ4.out; first | omega | exact Nat.le_refl _⟩, ⟨by repeat (first | (with_reducible first | exact HB.out | apply below_alloc | apply pw_below_drewN | apply below_drew1) | exact HB.out)⟩⟩
          · rw [if_neg c15] at H
            have c15b0 : (t211.toList == t214.toList) = false := beq_eq_false_iff_ne.mpr c15
            have c15b1 : (t211.toList != t214.toList) = true := bne_iff_ne.mpr c15
            (first | rw [c15b0] | (simp only [i64_w, i32_w]; rw [c15b0]) | skip)
            have H' := Aside0.mk H
            clear H
            go_wp2
            go_meet
            case rel => exact ⟨_, (true), (by first | rfl | (simp; done) | (simp [*]; done)), H', ⟨by have := HJ4.out; first | omega | exact Nat.le_refl _⟩, ⟨by repeat (first | (with_reducible first | exact HB.out | apply below_alloc | apply pw_below_drewN | apply below_drew1) | exact HB.out)⟩⟩
        case rest =>
          clear HC14
          try clear c1
          try clear c2
          try clear p2
          try clear c6
          try clear c6b0
          try clear c6b1
          try clear c7
          try clear c7b0
          try clear c7b1
          try clear c8
          try clear c8b0
          try clear c8b1
          try clear c11
          try clear c15
          try clear c15b0
          try clear c15b1
          try clear c16
          try clear c16b0
          try clear c16b1
          try clear p2
          obtain ⟨kq, x74_13, rfl, HA, HJ13, HB⟩ := hcut
          cases kq with
          | zero => exact absurd HA.out (by simp [surmiselaw01_VarintReads.j1])
          | succ kj13 =>
            have H := HA.out
            clear HA
            simp only [surmiselaw01_VarintReads.j1] at H
            by_cases c17 : x74_13 = true
            · subst c17
              have H1 : (some false) = some r := by rw [if_pos rfl] at H; exact H
              clear H
              have H := H1
              clear H1
              obtain rfl := Option.some.inj H
              go_wp2
              go_ret
              exact ⟨by first | rfl | (simp [errW_none, errW_some] <;> rfl) | (simp [*, errW_none, errW_some] <;> rfl), by repeat (first | (with_reducible first | exact HB.out | apply below_alloc | apply pw_below_drewN | apply below_drew1) | exact HB.out)⟩
            · replace c17 := Bool.eq_false_iff.mpr c17
              subst c17
              have H1 : ((varint_ReadNumbers.f kj13 a0 a1).bind fun bt217 => ((surmiseref01_ReadNumbers.f kj13 a0 a1).bind fun bt222 => ((surmiseref01_Ints.f kj13 bt217.1 bt222.1).bind fun t227 => (if t227 = true then (if bt217.2.1 = bt222.2.1 then (surmiselaw01_VarintReads.j2 kj13 a0 a1 (bt217.2.2 != bt222.2.2)) else (surmiselaw01_VarintReads.j2 kj13 a0 a1 true)) else (surmiselaw01_VarintReads.j2 kj13 a0 a1 true))))) = some r := by rw [if_neg (show ¬ (false = true) by decide)] at H; exact H
              clear H
              have H := H1
              clear H1
              replace H := Option.bind_eq_some_iff.mp H
              obtain ⟨⟨t217, t218, t219⟩, A180, H⟩ := H
              replace H : ((surmiseref01_ReadNumbers.f kj13 a0 a1).bind fun bt222 => ((surmiseref01_Ints.f kj13 t217 bt222.1).bind fun t227 => (if t227 = true then (if t218 = bt222.2.1 then (surmiselaw01_VarintReads.j2 kj13 a0 a1 (t219 != bt222.2.2)) else (surmiselaw01_VarintReads.j2 kj13 a0 a1 true)) else (surmiselaw01_VarintReads.j2 kj13 a0 a1 true)))) = some r := H
              have A18 := Aside0.mk A180
              clear A180
              replace H := Option.bind_eq_some_iff.mp H
              obtain ⟨⟨t222, t223, t224⟩, A190, H⟩ := H
              replace H : ((surmiseref01_Ints.f kj13 t217 t222).bind fun t227 => (if t227 = true then (if t218 = t223 then (surmiselaw01_VarintReads.j2 kj13 a0 a1 (t219 != t224)) else (surmiselaw01_VarintReads.j2 kj13 a0 a1 true)) else (surmiselaw01_VarintReads.j2 kj13 a0 a1 true))) = some r := H
              have A19 := Aside0.mk A190
              clear A190
              have HC20 := Aside0.mk H
              clear H
              go_upto_region 11 with (first | ((with_reducible refine gate_callee (f := 22) rfl ?_); refine goesL_ (some 78) rfl rfl Try.func22 (by kernel_rfl) rfl #[.string a0, .int .i64 a1] rfl (by (try simp only [List.map_toArray, List.map_cons, List.map_nil]); first | done | rfl | (simp only [List.length_drop, List.length_take]; rfl)) ?_; (with_reducible refine (varint_ReadNumbers.calls kj13 a0 a1 t217 t218 t219 _ A18.out).mono ?_); rintro e w21 ⟨v220, rfl, ho0, hb⟩; refine ⟨_, rfl, ?_⟩; have n0_ := Aside0.mk (Kd.R_lower ho0 (below_size (by repeat (first | (with_reducible first | exact HB.out | apply below_alloc | apply pw_below_drewN | apply below_drew1) | exact HB.out)))); have n1_ := Aside0.mk (below_step (by repeat (first | (with_reducible first | exact HB.out | apply below_alloc | apply pw_below_drewN | apply below_drew1) | exact HB.out)) hb); clear HB; have HO221 := n0_; have HB := n1_; clear n0_ n1_; (try clear hb); (try clear hb2); (try clear hk); (try clear hi); (try clear ho0)) | ((with_reducible refine gate_callee (f := 23) rfl ?_); refine goesL_ (some 85) rfl rfl Try.func23 (by kernel_rfl) rfl #[.string a0, .int .i64 a1] rfl (by (try simp only [List.map_toArray, List.map_cons, List.map_nil]); first | done | rfl | (simp only [List.length_drop, List.length_take]; rfl)) ?_; (with_reducible refine (surmiseref01_ReadNumbers.calls kj13 a0 a1 t222 t223 t224 _ A19.out).mono ?_); rintro e w22 ⟨v225, rfl, ho0, hb⟩; refine ⟨_, rfl, ?_⟩; have n0_ := Aside0.mk (Kd.R_elder' (by (with_reducible repeat (first | apply Kd.R_alloc | apply Kd.R_drewN | apply Kd.R_drew)); exact HO221.out) (Kd.R_base ho0) hb); have n1_ := Aside0.mk (Kd.R_lower (Kd.R_new' ho0 (Kd.R_lt (by (with_reducible repeat (first | apply Kd.R_alloc | apply Kd.R_drewN | apply Kd.R_drew)); exact HO221.out))) (below_size (by repeat (first | (with_reducible first | exact HB.out | apply below_alloc | apply pw_below_drewN | apply below_drew1) | exact HB.out)))); have n2_ := Aside0.mk (below_step (by repeat (first | (with_reducible first | exact HB.out | apply below_alloc | apply pw_below_drewN | apply below_drew1) | exact HB.out)) hb); clear HO221; clear HB; have HO221 := n0_; have HO226 := n1_; have HB := n2_; clear n0_ n1_ n2_; (try clear hb); (try clear hb2); (try clear hk); (try clear hi); (try clear ho0)))
              (try simp only [Act.put, List.setIfInBounds_toArray, List.set_cons_zero, List.set_cons_succ])
              go_cut [102] (fun v102 wc => ∃ (kq : Nat) (x102_19 : Bool), v102 = .bool x102_19 ∧ Aside0 (surmiselaw01_VarintReads.j2 kq a0 a1 x102_19 = some r) ∧ Aside0 (kq ≤ kj13) ∧ Aside0 (Below w.heap.size w wc))
              case first =>
                have H := HC20.out
                clear HC20
                replace H := Option.bind_eq_some_iff.mp H
                obtain ⟨t227, A230, H⟩ := H
                replace H : (if t227 = true then (if t218 = t223 then (surmiselaw01_VarintReads.j2 kj13 a0 a1 (t219 != t224)) else (surmiselaw01_VarintReads.j2 kj13 a0 a1 true)) else (surmiselaw01_VarintReads.j2 kj13 a0 a1 true)) = some r := H
                have A23 := Aside0.mk A230
                clear A230
                by_cases c24 : t227 = true
                · subst c24
                  have H1 : (if t218 = t223 then (surmiselaw01_VarintReads.j2 kj13 a0 a1 (t219 != t224)) else (surmiselaw01_VarintReads.j2 kj13 a0 a1 true)) = some r := by rw [if_pos rfl] at H; exact H
                  clear H
                  have H := H1
                  clear H1
                  by_cases c25 : t218 = t223
                  · rw [if_pos c25] at H
                    have c25b0 : (t218 == t223) = true := beq_iff_eq.mpr c25
                    have c25b1 : (t218 != t223) = false := bne_eq_false_iff_eq.mpr c25
                    clear c25
                    (first | rw [c25b0] | (simp only [i64_w, i32_w]; rw [c25b0]) | skip)
                    have H' := Aside0.mk H
                    clear H
                    obtain ⟨Ao26, co26, eo26⟩ := Kd.R_slice HO221.out
                    subst eo26
                    obtain ⟨Ao27, co27, eo27⟩ := Kd.R_slice HO226.out
                    subst eo27
                    go_wp2_with (first | ((with_reducible refine gate_callee (f := 24) rfl ?_); refine goesL_ (some 91) rfl rfl Try.func24 (by kernel_rfl) rfl #[.slice Ao26 t217.length co26, .slice Ao27 t222.length co27] rfl (by (try simp only [List.map_toArray, List.map_cons, List.map_nil]); first | done | rfl | (simp only [List.length_drop, List.length_take]; rfl)) ?_; (with_reducible refine (surmiseref01_Ints.calls kj13 _ _ t217 _ _ t222 true _ ?side1 ?side2 ?side3 ?side4 A23.out).mono ?_); (case side1 => repeat (first | exact (Kd.R_reads' HO221.out).2.2 | (with_reducible refine Kd.C_alloc ?_ _) | (with_reducible refine Kd.C_drewN ?_ _) | (with_reducible refine Kd.C_drew ?_))); (case side2 => exact (Kd.R_reads' HO221.out).2.1); (case side3 => repeat (first | exact (Kd.R_reads' HO226.out).2.2 | (with_reducible refine Kd.C_alloc ?_ _) | (with_reducible refine Kd.C_drewN ?_ _) | (with_reducible refine Kd.C_drew ?_))); (case side4 => exact (Kd.R_reads' HO226.out).2.1); rintro e w' ⟨rfl, ⟨nd, rfl⟩⟩; refine ⟨_, rfl, ?_⟩))
                    go_meet
                    case rel => exact ⟨_, ((t219 != t224)), (by first | rfl | (simp; done) | (simp [*]; done)), H', ⟨by have := HJ4.out; have := HJ13.out; first | omega | exact Nat.le_refl _⟩, ⟨by repeat (first | (with_reducible first | exact HB.out | apply below_alloc | apply pw_below_drewN | apply below_drew1) | exact HB.out)⟩⟩
                  · rw [if_neg c25] at H
                    have c25b0 : (t218 == t223) = false := beq_eq_false_iff_ne.mpr c25
                    have c25b1 : (t218 != t223) = true := bne_iff_ne.mpr c25
                    (first | rw [c25b0] | (simp only [i64_w, i32_w]; rw [c25b0]) | skip)
                    have H' := Aside0.mk H
                    clear H
                    obtain ⟨Ao28, co28, eo28⟩ := Kd.R_slice HO221.out
                    subst eo28
                    obtain ⟨Ao29, co29, eo29⟩ := Kd.R_slice HO226.out
                    subst eo29
                    go_wp2_with (first | ((with_reducible refine gate_callee (f := 24) rfl ?_); refine goesL_ (some 91) rfl rfl Try.func24 (by kernel_rfl) rfl #[.slice Ao28 t217.length co28, .slice Ao29 t222.length co29] rfl (by (try simp only [List.map_toArray, List.map_cons, List.map_nil]); first | done | rfl | (simp only [List.length_drop, List.length_take]; rfl)) ?_; (with_reducible refine (surmiseref01_Ints.calls kj13 _ _ t217 _ _ t222 true _ ?side1 ?side2 ?side3 ?side4 A23.out).mono ?_); (case side1 => repeat (first | exact (Kd.R_reads' HO221.out).2.2 | (with_reducible refine Kd.C_alloc ?_ _) | (with_reducible refine Kd.C_drewN ?_ _) | (with_reducible refine Kd.C_drew ?_))); (case side2 => exact (Kd.R_reads' HO221.out).2.1); (case side3 => repeat (first | exact (Kd.R_reads' HO226.out).2.2 | (with_reducible refine Kd.C_alloc ?_ _) | (with_reducible refine Kd.C_drewN ?_ _) | (with_reducible refine Kd.C_drew ?_))); (case side4 => exact (Kd.R_reads' HO226.out).2.1); rintro e w' ⟨rfl, ⟨nd, rfl⟩⟩; refine ⟨_, rfl, ?_⟩))
                    go_meet
                    case rel => exact ⟨_, (true), (by first | rfl | (simp; done) | (simp [*]; done)), H', ⟨by have := HJ4.out; have := HJ13.out; first | omega | exact Nat.le_refl _⟩, ⟨by repeat (first | (with_reducible first | exact HB.out | apply below_alloc | apply pw_below_drewN | apply below_drew1) | exact HB.out)⟩⟩
                · replace c24 := Bool.eq_false_iff.mpr c24
                  subst c24
                  have H1 : (surmiselaw01_VarintReads.j2 kj13 a0 a1 true) = some r := by rw [if_neg (show ¬ (false = true) by decide)] at H; exact H
                  clear H
                  have H := H1
                  clear H1
                  have H' := Aside0.mk H
                  clear H
                  obtain ⟨Ao30, co30, eo30⟩ := Kd.R_slice HO221.out
                  subst eo30
                  obtain ⟨Ao31, co31, eo31⟩ := Kd.R_slice HO226.out
                  subst eo31
                  go_wp2_with (first | ((with_reducible refine gate_callee (f := 24) rfl ?_); refine goesL_ (some 91) rfl rfl Try.func24 (by kernel_rfl) rfl #[.slice Ao30 t217.length co30, .slice Ao31 t222.length co31] rfl (by (try simp only [List.map_toArray, List.map_cons, List.map_nil]); first | done | rfl | (simp only [List.length_drop, List.length_take]; rfl)) ?_; (with_reducible refine (surmiseref01_Ints.calls kj13 _ _ t217 _ _ t222 false _ ?side1 ?side2 ?side3 ?side4 A23.out).mono ?_); (case side1 => repeat (first | exact (Kd.R_reads' HO221.out).2.2 | (with_reducible refine Kd.C_alloc ?_ _) | (with_reducible refine Kd.C_drewN ?_ _) | (with_reducible refine Kd.C_drew ?_))); (case side2 => exact (Kd.R_reads' HO221.out).2.1); (case side3 => repeat (first | exact (Kd.R_reads' HO226.out).2.2 | (with_reducible refine Kd.C_alloc ?_ _) | (with_reducible refine Kd.C_drewN ?_ _) | (with_reducible refine Kd.C_drew ?_))); (case side4 => exact (Kd.R_reads' HO226.out).2.1); rintro e w' ⟨rfl, ⟨nd, rfl⟩⟩; refine ⟨_, rfl, ?_⟩))
                  go_meet
                  case rel => exact ⟨_, (true), (by first | rfl | (simp; done) | (simp [*]; done)), H', ⟨by have := HJ4.out; have := HJ13.out; first | omega | exact Nat.le_refl _⟩, ⟨by repeat (first | (with_reducible first | exact HB.out | apply below_alloc | apply pw_below_drewN | apply below_drew1) | exact HB.out)⟩⟩
              case rest =>
                clear HC20
                try clear c1
                try clear c2
                try clear p2
                try clear c6
                try clear c6b0
                try clear c6b1
                try clear c7
                try clear c7b0
                try clear c7b1
                try clear c8
                try clear c8b0
                try clear c8b1
                try clear c11
                try clear c15
                try clear c15b0
                try clear c15b1
                try clear c16
                try clear c16b0
                try clear c16b1
                try clear c17
                try clear c18
                try clear c19
                try clear c20
                try clear c21
                try clear c22
                try clear c23
                try clear c24
                try clear c25
                try clear c25b0
                try clear c25b1
                try clear p2
                obtain ⟨kq, x102_19, rfl, HA, HJ19, HB⟩ := hcut
                cases kq with
                | zero => exact absurd HA.out (by simp [surmiselaw01_VarintReads.j2])
                | succ kj19 =>
                  have H := HA.out
                  clear HA
                  simp only [surmiselaw01_VarintReads.j2] at H
                  by_cases c32 : x102_19 = true
                  · subst c32
                    have H1 : (some false) = some r := by rw [if_pos rfl] at H; exact H
                    clear H
                    have H := H1
                    clear H1
                    obtain rfl := Option.some.inj H
                    go_wp2
                    go_ret
                    exact ⟨by first | rfl | (simp [errW_none, errW_some] <;> rfl) | (simp [*, errW_none, errW_some] <;> rfl), by repeat (first | (with_reducible first | exact HB.out | apply below_alloc | apply pw_below_drewN | apply below_drew1) | exact HB.out)⟩
                  · replace c32 := Bool.eq_false_iff.mpr c32
                    subst c32
                    have H1 : ((varint_ReadTexts.f kj19 a0 a1).bind fun bt228 => ((surmiseref01_ReadTexts.f kj19 a0 a1).bind fun bt233 => ((surmiseref01_Same.f kj19 bt228.1 bt233.1).bind fun t238 => (if t238 = true then (if bt228.2.1 = bt233.2.1 then (some (bt228.2.2 == bt233.2.2)) else (some false)) else (some false))))) = some r := by rw [if_neg (show ¬ (false = true) by decide)] at H; exact H
                    clear H
                    have H := H1
                    clear H1
                    replace H := Option.bind_eq_some_iff.mp H
                    obtain ⟨⟨t228, t229, t230⟩, A330, H⟩ := H
                    replace H : ((surmiseref01_ReadTexts.f kj19 a0 a1).bind fun bt233 => ((surmiseref01_Same.f kj19 t228 bt233.1).bind fun t238 => (if t238 = true then (if t229 = bt233.2.1 then (some (t230 == bt233.2.2)) else (some false)) else (some false)))) = some r := H
                    have A33 := Aside0.mk A330
                    clear A330
                    replace H := Option.bind_eq_some_iff.mp H
                    obtain ⟨⟨t233, t234, t235⟩, A340, H⟩ := H
                    replace H : ((surmiseref01_Same.f kj19 t228 t233).bind fun t238 => (if t238 = true then (if t229 = t234 then (some (t230 == t235)) else (some false)) else (some false))) = some r := H
                    have A34 := Aside0.mk A340
                    clear A340
                    replace H := Option.bind_eq_some_iff.mp H
                    obtain ⟨t238, A350, H⟩ := H
                    replace H : (if t238 = true then (if t229 = t234 then (some (t230 == t235)) else (some false)) else (some false)) = some r := H
                    have A35 := Aside0.mk A350
                    clear A350
                    by_cases c36 : t238 = true
                    · subst c36
                      have H1 : (if t229 = t234 then (some (t230 == t235)) else (some false)) = some r := by rw [if_pos rfl] at H; exact H
                      clear H
                      have H := H1
                      clear H1
                      by_cases c37 : t229 = t234
                      · rw [if_pos c37] at H
                        have c37b0 : (t229 == t234) = true := beq_iff_eq.mpr c37
                        have c37b1 : (t229 != t234) = false := bne_eq_false_iff_eq.mpr c37
                        clear c37
                        obtain rfl := Option.some.inj H
                        go_wp2_with (first | ((with_reducible refine gate_callee (f := 25) rfl ?_); refine goesL_ (some 106) rfl rfl Try.func25 (by kernel_rfl) rfl #[.string a0, .int .i64 a1] rfl (by (try simp only [List.map_toArray, List.map_cons, List.map_nil]); first | done | rfl | (simp only [List.length_drop, List.length_take]; rfl)) ?_; (with_reducible refine (varint_ReadTexts.calls kj19 a0 a1 t228 t229 t230 _ A33.out).mono ?_); rintro e w38 ⟨v231, rfl, ho0, hb⟩; refine ⟨_, rfl, ?_⟩; have n0_ := Aside0.mk (Kd.R_lower ho0 (below_size (by repeat (first | (with_reducible first | exact HB.out | apply below_alloc | apply pw_below_drewN | apply below_drew1) | exact HB.out)))); have n1_ := Aside0.mk (below_step (by repeat (first | (with_reducible first | exact HB.out | apply below_alloc | apply pw_below_drewN | apply below_drew1) | exact HB.out)) hb); clear HB; have HO232 := n0_; have HB := n1_; clear n0_ n1_; (try clear hb); (try clear hb2); (try clear hk); (try clear hi); (try clear ho0)) | ((with_reducible refine gate_callee (f := 26) rfl ?_); refine goesL_ (some 113) rfl rfl Try.func26 (by kernel_rfl) rfl #[.string a0, .int .i64 a1] rfl (by (try simp only [List.map_toArray, List.map_cons, List.map_nil]); first | done | rfl | (simp only [List.length_drop, List.length_take]; rfl)) ?_; (with_reducible refine (surmiseref01_ReadTexts.calls kj19 a0 a1 t233 t234 t235 _ A34.out).mono ?_); rintro e w39 ⟨v236, rfl, ho0, hb⟩; refine ⟨_, rfl, ?_⟩; have n0_ := Aside0.mk (Kd.R_elder' (by (with_reducible repeat (first | apply Kd.R_alloc | apply Kd.R_drewN | apply Kd.R_drew)); exact HO232.out) (Kd.R_base ho0) hb); have n1_ := Aside0.mk (Kd.R_lower (Kd.R_new' ho0 (Kd.R_lt (by (with_reducible repeat (first | apply Kd.R_alloc | apply Kd.R_drewN | apply Kd.R_drew)); exact HO232.out))) (below_size (by repeat (first | (with_reducible first | exact HB.out | apply below_alloc | apply pw_below_drewN | apply below_drew1) | exact HB.out)))); have n2_ := Aside0.mk (below_step (by repeat (first | (with_reducible first | exact HB.out | apply below_alloc | apply pw_below_drewN | apply below_drew1) | exact HB.out)) hb); clear HO232; clear HB; have HO232 := n0_; have HO237 := n1_; have HB := n2_; clear n0_ n1_ n2_; (try clear hb); (try clear hb2); (try clear hk); (try clear hi); (try clear ho0); obtain ⟨Ao40, co40, eo40⟩ := Kd.R_slice HO232.out; subst eo40; obtain ⟨Ao41, co41, eo41⟩ := Kd.R_slice HO237.out; subst eo41) | ((with_reducible refine gate_callee (f := 27) rfl ?_); refine goesL_ (some 119) rfl rfl Try.func27 (by kernel_rfl) rfl #[.slice Ao40 t228.length co40, .slice Ao41 t233.length co41] rfl (by (try simp only [List.map_toArray, List.map_cons, List.map_nil]); first | done | rfl | (simp only [List.length_drop, List.length_take]; rfl)) ?_; (with_reducible refine (surmiseref01_Same.calls kj19 _ _ t228 _ _ t233 true _ ?side1 ?side2 ?side3 ?side4 A35.out).mono ?_); (case side1 => repeat (first | exact (Kd.R_reads' HO232.out).2.2 | (with_reducible refine Kd.C_alloc ?_ _) | (with_reducible refine Kd.C_drewN ?_ _) | (with_reducible refine Kd.C_drew ?_))); (case side2 => exact (Kd.R_reads' HO232.out).2.1); (case side3 => repeat (first | exact (Kd.R_reads' HO237.out).2.2 | (with_reducible refine Kd.C_alloc ?_ _) | (with_reducible refine Kd.C_drewN ?_ _) | (with_reducible refine Kd.C_drew ?_))); (case side4 => exact (Kd.R_reads' HO237.out).2.1); rintro e w' ⟨rfl, ⟨nd, rfl⟩⟩; refine ⟨_, rfl, ?_⟩))
                        go_ret
                        exact ⟨by first | rfl | (simp [errW_none, errW_some] <;> rfl) | (simp [*, errW_none, errW_some] <;> rfl), by repeat (first | (with_reducible first | exact HB.out | apply below_alloc | apply pw_below_drewN | apply below_drew1) | exact HB.out)⟩
                      · rw [if_neg c37] at H
                        have c37b0 : (t229 == t234) = false := beq_eq_false_iff_ne.mpr c37
                        have c37b1 : (t229 != t234) = true := bne_iff_ne.mpr c37
                        obtain rfl := Option.some.inj H
                        go_wp2_with (first | ((with_reducible refine gate_callee (f := 25) rfl ?_); refine goesL_ (some 106) rfl rfl Try.func25 (by kernel_rfl) rfl #[.string a0, .int .i64 a1] rfl (by (try simp only [List.map_toArray, List.map_cons, List.map_nil]); first | done | rfl | (simp only [List.length_drop, List.length_take]; rfl)) ?_; (with_reducible refine (varint_ReadTexts.calls kj19 a0 a1 t228 t229 t230 _ A33.out).mono ?_); rintro e w42 ⟨v231, rfl, ho0, hb⟩; refine ⟨_, rfl, ?_⟩; have n0_ := Aside0.mk (Kd.R_lower ho0 (below_size (by repeat (first | (with_reducible first | exact HB.out | apply below_alloc | apply pw_below_drewN | apply below_drew1) | exact HB.out)))); have n1_ := Aside0.mk (below_step (by repeat (first | (with_reducible first | exact HB.out | apply below_alloc | apply pw_below_drewN | apply below_drew1) | exact HB.out)) hb); clear HB; have HO232 := n0_; have HB := n1_; clear n0_ n1_; (try clear hb); (try clear hb2); (try clear hk); (try clear hi); (try clear ho0)) | ((with_reducible refine gate_callee (f := 26) rfl ?_); refine goesL_ (some 113) rfl rfl Try.func26 (by kernel_rfl) rfl #[.string a0, .int .i64 a1] rfl (by (try simp only [List.map_toArray, List.map_cons, List.map_nil]); first | done | rfl | (simp only [List.length_drop, List.length_take]; rfl)) ?_; (with_reducible refine (surmiseref01_ReadTexts.calls kj19 a0 a1 t233 t234 t235 _ A34.out).mono ?_); rintro e w43 ⟨v236, rfl, ho0, hb⟩; refine ⟨_, rfl, ?_⟩; have n0_ := Aside0.mk (Kd.R_elder' (by (with_reducible repeat (first | apply Kd.R_alloc | apply Kd.R_drewN | apply Kd.R_drew)); exact HO232.out) (Kd.R_base ho0) hb); have n1_ := Aside0.mk (Kd.R_lower (Kd.R_new' ho0 (Kd.R_lt (by (with_reducible repeat (first | apply Kd.R_alloc | apply Kd.R_drewN | apply Kd.R_drew)); exact HO232.out))) (below_size (by repeat (first | (with_reducible first | exact HB.out | apply below_alloc | apply pw_below_drewN | apply below_drew1) | exact HB.out)))); have n2_ := Aside0.mk (below_step (by repeat (first | (with_reducible first | exact HB.out | apply below_alloc | apply pw_below_drewN | apply below_drew1) | exact HB.out)) hb); clear HO232; clear HB; have HO232 := n0_; have HO237 := n1_; have HB := n2_; clear n0_ n1_ n2_; (try clear hb); (try clear hb2); (try clear hk); (try clear hi); (try clear ho0); obtain ⟨Ao44, co44, eo44⟩ := Kd.R_slice HO232.out; subst eo44; obtain ⟨Ao45, co45, eo45⟩ := Kd.R_slice HO237.out; subst eo45) | ((with_reducible refine gate_callee (f := 27) rfl ?_); refine goesL_ (some 119) rfl rfl Try.func27 (by kernel_rfl) rfl #[.slice Ao44 t228.length co44, .slice Ao45 t233.length co45] rfl (by (try simp only [List.map_toArray, List.map_cons, List.map_nil]); first | done | rfl | (simp only [List.length_drop, List.length_take]; rfl)) ?_; (with_reducible refine (surmiseref01_Same.calls kj19 _ _ t228 _ _ t233 true _ ?side1 ?side2 ?side3 ?side4 A35.out).mono ?_); (case side1 => repeat (first | exact (Kd.R_reads' HO232.out).2.2 | (with_reducible refine Kd.C_alloc ?_ _) | (with_reducible refine Kd.C_drewN ?_ _) | (with_reducible refine Kd.C_drew ?_))); (case side2 => exact (Kd.R_reads' HO232.out).2.1); (case side3 => repeat (first | exact (Kd.R_reads' HO237.out).2.2 | (with_reducible refine Kd.C_alloc ?_ _) | (with_reducible refine Kd.C_drewN ?_ _) | (with_reducible refine Kd.C_drew ?_))); (case side4 => exact (Kd.R_reads' HO237.out).2.1); rintro e w' ⟨rfl, ⟨nd, rfl⟩⟩; refine ⟨_, rfl, ?_⟩))
                        go_ret
                        exact ⟨by first | rfl | (simp [errW_none, errW_some] <;> rfl) | (simp [*, errW_none, errW_some] <;> rfl), by repeat (first | (with_reducible first | exact HB.out | apply below_alloc | apply pw_below_drewN | apply below_drew1) | exact HB.out)⟩
                    · replace c36 := Bool.eq_false_iff.mpr c36
                      subst c36
                      have H1 : (some false) = some r := by rw [if_neg (show ¬ (false = true) by decide)] at H; exact H
                      clear H
                      have H := H1
                      clear H1
                      obtain rfl := Option.some.inj H
                      go_wp2_with (first | ((with_reducible refine gate_callee (f := 25) rfl ?_); refine goesL_ (some 106) rfl rfl Try.func25 (by kernel_rfl) rfl #[.string a0, .int .i64 a1] rfl (by (try simp only [List.map_toArray, List.map_cons, List.map_nil]); first | done | rfl | (simp only [List.length_drop, List.length_take]; rfl)) ?_; (with_reducible refine (varint_ReadTexts.calls kj19 a0 a1 t228 t229 t230 _ A33.out).mono ?_); rintro e w46 ⟨v231, rfl, ho0, hb⟩; refine ⟨_, rfl, ?_⟩; have n0_ := Aside0.mk (Kd.R_lower ho0 (below_size (by repeat (first | (with_reducible first | exact HB.out | apply below_alloc | apply pw_below_drewN | apply below_drew1) | exact HB.out)))); have n1_ := Aside0.mk (below_step (by repeat (first | (with_reducible first | exact HB.out | apply below_alloc | apply pw_below_drewN | apply below_drew1) | exact HB.out)) hb); clear HB; have HO232 := n0_; have HB := n1_; clear n0_ n1_; (try clear hb); (try clear hb2); (try clear hk); (try clear hi); (try clear ho0)) | ((with_reducible refine gate_callee (f := 26) rfl ?_); refine goesL_ (some 113) rfl rfl Try.func26 (by kernel_rfl) rfl #[.string a0, .int .i64 a1] rfl (by (try simp only [List.map_toArray, List.map_cons, List.map_nil]); first | done | rfl | (simp only [List.length_drop, List.length_take]; rfl)) ?_; (with_reducible refine (surmiseref01_ReadTexts.calls kj19 a0 a1 t233 t234 t235 _ A34.out).mono ?_); rintro e w47 ⟨v236, rfl, ho0, hb⟩; refine ⟨_, rfl, ?_⟩; have n0_ := Aside0.mk (Kd.R_elder' (by (with_reducible repeat (first | apply Kd.R_alloc | apply Kd.R_drewN | apply Kd.R_drew)); exact HO232.out) (Kd.R_base ho0) hb); have n1_ := Aside0.mk (Kd.R_lower (Kd.R_new' ho0 (Kd.R_lt (by (with_reducible repeat (first | apply Kd.R_alloc | apply Kd.R_drewN | apply Kd.R_drew)); exact HO232.out))) (below_size (by repeat (first | (with_reducible first | exact HB.out | apply below_alloc | apply pw_below_drewN | apply below_drew1) | exact HB.out)))); have n2_ := Aside0.mk (below_step (by repeat (first | (with_reducible first | exact HB.out | apply below_alloc | apply pw_below_drewN | apply below_drew1) | exact HB.out)) hb); clear HO232; clear HB; have HO232 := n0_; have HO237 := n1_; have HB := n2_; clear n0_ n1_ n2_; (try clear hb); (try clear hb2); (try clear hk); (try clear hi); (try clear ho0); obtain ⟨Ao48, co48, eo48⟩ := Kd.R_slice HO232.out; subst eo48; obtain ⟨Ao49, co49, eo49⟩ := Kd.R_slice HO237.out; subst eo49) | ((with_reducible refine gate_callee (f := 27) rfl ?_); refine goesL_ (some 119) rfl rfl Try.func27 (by kernel_rfl) rfl #[.slice Ao48 t228.length co48, .slice Ao49 t233.length co49] rfl (by (try simp only [List.map_toArray, List.map_cons, List.map_nil]); first | done | rfl | (simp only [List.length_drop, List.length_take]; rfl)) ?_; (with_reducible refine (surmiseref01_Same.calls kj19 _ _ t228 _ _ t233 false _ ?side1 ?side2 ?side3 ?side4 A35.out).mono ?_); (case side1 => repeat (first | exact (Kd.R_reads' HO232.out).2.2 | (with_reducible refine Kd.C_alloc ?_ _) | (with_reducible refine Kd.C_drewN ?_ _) | (with_reducible refine Kd.C_drew ?_))); (case side2 => exact (Kd.R_reads' HO232.out).2.1); (case side3 => repeat (first | exact (Kd.R_reads' HO237.out).2.2 | (with_reducible refine Kd.C_alloc ?_ _) | (with_reducible refine Kd.C_drewN ?_ _) | (with_reducible refine Kd.C_drew ?_))); (case side4 => exact (Kd.R_reads' HO237.out).2.1); rintro e w' ⟨rfl, ⟨nd, rfl⟩⟩; refine ⟨_, rfl, ?_⟩))
                      go_ret
                      exact ⟨by first | rfl | (simp [errW_none, errW_some] <;> rfl) | (simp [*, errW_none, errW_some] <;> rfl), by repeat (first | (with_reducible first | exact HB.out | apply below_alloc | apply pw_below_drewN | apply below_drew1) | exact HB.out)⟩

/-- THE ONE PURE STATEMENT of surmiselaw01_VarintReads: yours. -/
def surmiselaw01_VarintReads.Pure : Prop := ∀ (a0 : ByteArray) (a1 : Int), a0.size ≤ 140737488351232 → (Lit.int .i64 a1).wf = true → ∃ k, surmiselaw01_VarintReads.f k a0 a1 = some true
theorem surmiselaw01_VarintReads.walk (P : surmiselaw01_VarintReads.Pure) (a0 : ByteArray) (a1 : Int) (w : World) (w0 : a0.size ≤ 140737488351232) (w1 : (Lit.int .i64 a1).wf = true) :
    Calls Try.prog 6 #[.string a0, .int .i64 a1] w fun e w' => e = .returned (.bool true) ∧ Below w.heap.size w w' := by
  obtain ⟨k, h⟩ := P a0 a1 w0 w1
  refine (surmiselaw01_VarintReads.calls k a0 a1 true w h).mono ?_
  rintro e w' ⟨rfl, hd⟩
  exact ⟨rfl, hd⟩

end Go.Proofs.Ytgenlgajggmbbaa.Q
