-- By px.py, a program of this session that drives the kit's printer: laid out of the translation; Lean checks it.
import Derived.Test.YtnlimhjbdgbcoaaQ0
import Derived.Test.YtnlimhjbdgbcoaaHJoin3
import Derived.Test.YtnlimhjbdgbcoaaQf11
import Derived.Test.YtnlimhjbdgbcoaaQf12
import Derived.Test.YtnlimhjbdgbcoaaQf15
import Derived.Test.YtnlimhjbdgbcoaaQf16
import Derived.Test.YtnlimhjbdgbcoaaQf9
namespace Go.Proofs.Ytnlimhjbdgbcoaa.Q
open Go.RowKit Go.Proofs.YtnlimhjbdgbcoaaW.PrintWords Go.Proofs.YtnlimhjbdgbcoaaW.PrintLast Go.Proofs.YtnlimhjbdgbcoaaW.PrintMore
attribute [local go_sem] max2_int min2_int max_two min_two max_three min_three max_four min_four   -- for this text's walks alone
set_option linter.unusedVariables false
set_option linter.unusedSimpArgs false

/-! ### surmiselaw02_CheckJoins: function 4 -/
def surmiselaw02_CheckJoins.j0 : Nat → ByteArray → Int → Bool → Option (Bool)
  | 0, _, _, _ => none
  | k + 1, x0, x2, x38 => if x38 = true then (some false) else ((surmiseref02_Sum.f k x0).bind fun t134 => ((check_Join.f t134 12345 x2).bind fun bt135 => (if x2 < 0 then (if bt135.1 = 0 then (some (bt135.2 == 2)) else (some false)) else (if x2 > 3000 then (some (bt135.2 == 0)) else (if bt135.2 = 0 then ((surmiseref02_Sum.f k x0).bind fun t137 => ((surmiseref02_Join.f k t137 12345 x2).bind fun t138 => (some (bt135.1 == t138)))) else (some false))))))
def surmiselaw02_CheckJoins.f (k : Nat) (a0 : ByteArray) (a1 : ByteArray) (a2 : Int) : Option (Bool) := (surmiselaw02_few.f a0).bind fun t126 => ((surmiselaw02_few.f a1).bind fun t127 => ((check_Sum.f k t126).bind fun t128 => ((check_Sum.f k t127).bind fun t129 => ((check_Join.f t128 t129 (t127.size : Int)).bind fun bt130 => ((surmiselaw02_awake.f k).bind fun t132 => (if t132 = true then (if bt130.2 = 0 then (if t126.size + t127.size ≤ 9223372036854775807 then ((surmiseref02_Sum.f k (t126 ++ t127)).bind fun t133 => (surmiselaw02_CheckJoins.j0 k t126 a2 (bt130.1 != t133))) else (none)) else (surmiselaw02_CheckJoins.j0 k t126 a2 true)) else (surmiselaw02_CheckJoins.j0 k t126 a2 true)))))))
theorem surmiselaw02_CheckJoins.mono_l : ∀ k, (∀ y0 y1 y2, LeO (surmiselaw02_CheckJoins.j0 k y0 y1 y2) (surmiselaw02_CheckJoins.j0 (k + 1) y0 y1 y2))
  | 0 => fun _ _ _ r h => by simp [surmiselaw02_CheckJoins.j0] at h
  | k + 1 => by
    have ih0 := surmiselaw02_CheckJoins.mono_l k
    · intro y0 y1 y2
      unfold surmiselaw02_CheckJoins.j0
      repeat' first
      | (with_reducible exact ih0 _ _ _)
      | (with_reducible exact check_Sum.mono _ _)
      | (with_reducible exact surmiselaw02_awake.mono _)
      | (with_reducible exact surmiseref02_Join.mono _ _ _ _)
      | (with_reducible exact surmiseref02_Sum.mono _ _)
      | (with_reducible exact LeO.refl _)
      | (with_reducible exact LeO.none _)
      | (with_reducible refine LeO.ite ?_ ?_)
      | (with_reducible refine LeO.bind ?_ (fun _ => ?_))
      | exact ih0 _ _ _
      | exact check_Sum.mono _ _
      | exact surmiselaw02_awake.mono _
      | exact surmiseref02_Join.mono _ _ _ _
      | exact surmiseref02_Sum.mono _ _
      | exact LeO.none _
      | refine LeO.ite ?_ ?_
      | refine LeO.bind ?_ (fun _ => ?_)
theorem surmiselaw02_CheckJoins.mono : ∀ a0 a1 a2 k, LeO (surmiselaw02_CheckJoins.f k a0 a1 a2) (surmiselaw02_CheckJoins.f (k + 1) a0 a1 a2) := by
  intro a0 a1 a2 k
  have ih0 := surmiselaw02_CheckJoins.mono_l k
  unfold surmiselaw02_CheckJoins.f
  repeat' first
      | (with_reducible exact ih0 _ _ _)
      | (with_reducible exact check_Sum.mono _ _)
      | (with_reducible exact surmiselaw02_awake.mono _)
      | (with_reducible exact surmiseref02_Join.mono _ _ _ _)
      | (with_reducible exact surmiseref02_Sum.mono _ _)
      | (with_reducible exact LeO.refl _)
      | (with_reducible exact LeO.none _)
      | (with_reducible refine LeO.ite ?_ ?_)
      | (with_reducible refine LeO.bind ?_ (fun _ => ?_))
      | exact ih0 _ _ _
      | exact check_Sum.mono _ _
      | exact surmiselaw02_awake.mono _
      | exact surmiseref02_Join.mono _ _ _ _
      | exact surmiseref02_Sum.mono _ _
      | exact LeO.none _
      | refine LeO.ite ?_ ?_
      | refine LeO.bind ?_ (fun _ => ?_)
set_option maxHeartbeats 8000000 in
set_option maxRecDepth 100000 in
theorem surmiselaw02_CheckJoins.calls (k : Nat) (a0 : ByteArray) (a1 : ByteArray) (a2 : Int) (r : Bool) (w : World) (h : surmiselaw02_CheckJoins.f k a0 a1 a2 = some r) :
    Calls Try.prog 4 #[.string a0, .string a1, .int .i64 a2] w fun e w' => e = .returned (.bool r) ∧ Below w.heap.size w w' := by
  have HB := Aside0.mk (Below.refl w.heap.size w)
  have H : ((surmiselaw02_few.f a0).bind fun t126 => ((surmiselaw02_few.f a1).bind fun t127 => ((check_Sum.f k t126).bind fun t128 => ((check_Sum.f k t127).bind fun t129 => ((check_Join.f t128 t129 (t127.size : Int)).bind fun bt130 => ((surmiselaw02_awake.f k).bind fun t132 => (if t132 = true then (if bt130.2 = 0 then (if t126.size + t127.size ≤ 9223372036854775807 then ((surmiseref02_Sum.f k (t126 ++ t127)).bind fun t133 => (surmiselaw02_CheckJoins.j0 k t126 a2 (bt130.1 != t133))) else (none)) else (surmiselaw02_CheckJoins.j0 k t126 a2 true)) else (surmiselaw02_CheckJoins.j0 k t126 a2 true)))))))) = some r := h
  clear h
  replace H := Option.bind_eq_some_iff.mp H
  obtain ⟨t126, A40, H⟩ := H
  replace H : ((surmiselaw02_few.f a1).bind fun t127 => ((check_Sum.f k t126).bind fun t128 => ((check_Sum.f k t127).bind fun t129 => ((check_Join.f t128 t129 (t127.size : Int)).bind fun bt130 => ((surmiselaw02_awake.f k).bind fun t132 => (if t132 = true then (if bt130.2 = 0 then (if t126.size + t127.size ≤ 9223372036854775807 then ((surmiseref02_Sum.f k (t126 ++ t127)).bind fun t133 => (surmiselaw02_CheckJoins.j0 k t126 a2 (bt130.1 != t133))) else (none)) else (surmiselaw02_CheckJoins.j0 k t126 a2 true)) else (surmiselaw02_CheckJoins.j0 k t126 a2 true))))))) = some r := H
  have A4 := Aside0.mk A40
  clear A40
  replace H := Option.bind_eq_some_iff.mp H
  obtain ⟨t127, A50, H⟩ := H
  replace H : ((check_Sum.f k t126).bind fun t128 => ((check_Sum.f k t127).bind fun t129 => ((check_Join.f t128 t129 (t127.size : Int)).bind fun bt130 => ((surmiselaw02_awake.f k).bind fun t132 => (if t132 = true then (if bt130.2 = 0 then (if t126.size + t127.size ≤ 9223372036854775807 then ((surmiseref02_Sum.f k (t126 ++ t127)).bind fun t133 => (surmiselaw02_CheckJoins.j0 k t126 a2 (bt130.1 != t133))) else (none)) else (surmiselaw02_CheckJoins.j0 k t126 a2 true)) else (surmiselaw02_CheckJoins.j0 k t126 a2 true)))))) = some r := H
  have A5 := Aside0.mk A50
  clear A50
  replace H := Option.bind_eq_some_iff.mp H
  obtain ⟨t128, A60, H⟩ := H
  replace H : ((check_Sum.f k t127).bind fun t129 => ((check_Join.f t128 t129 (t127.size : Int)).bind fun bt130 => ((surmiselaw02_awake.f k).bind fun t132 => (if t132 = true then (if bt130.2 = 0 then (if t126.size + t127.size ≤ 9223372036854775807 then ((surmiseref02_Sum.f k (t126 ++ t127)).bind fun t133 => (surmiselaw02_CheckJoins.j0 k t126 a2 (bt130.1 != t133))) else (none)) else (surmiselaw02_CheckJoins.j0 k t126 a2 true)) else (surmiselaw02_CheckJoins.j0 k t126 a2 true))))) = some r := H
  have A6 := Aside0.mk A60
  clear A60
  replace H := Option.bind_eq_some_iff.mp H
  obtain ⟨t129, A70, H⟩ := H
  replace H : ((check_Join.f t128 t129 (t127.size : Int)).bind fun bt130 => ((surmiselaw02_awake.f k).bind fun t132 => (if t132 = true then (if bt130.2 = 0 then (if t126.size + t127.size ≤ 9223372036854775807 then ((surmiseref02_Sum.f k (t126 ++ t127)).bind fun t133 => (surmiselaw02_CheckJoins.j0 k t126 a2 (bt130.1 != t133))) else (none)) else (surmiselaw02_CheckJoins.j0 k t126 a2 true)) else (surmiselaw02_CheckJoins.j0 k t126 a2 true)))) = some r := H
  have A7 := Aside0.mk A70
  clear A70
  replace H := Option.bind_eq_some_iff.mp H
  obtain ⟨⟨t130, t131⟩, A80, H⟩ := H
  replace H : ((surmiselaw02_awake.f k).bind fun t132 => (if t132 = true then (if t131 = 0 then (if t126.size + t127.size ≤ 9223372036854775807 then ((surmiseref02_Sum.f k (t126 ++ t127)).bind fun t133 => (surmiselaw02_CheckJoins.j0 k t126 a2 (t130 != t133))) else (none)) else (surmiselaw02_CheckJoins.j0 k t126 a2 true)) else (surmiselaw02_CheckJoins.j0 k t126 a2 true))) = some r := H
  have A8 := Aside0.mk A80
  clear A80
  have HC9 := Aside0.mk H
  clear H
  go_enter Try.func4, Try.ntmps4
  go_upto_region 3 with (first | ((with_reducible refine gate_callee (f := 9) rfl ?_); refine goesL_ (some 12) rfl rfl Try.func9 (by kernel_rfl) rfl #[.string a0] rfl (by (try simp only [List.map_toArray, List.map_cons, List.map_nil]); first | done | rfl | (simp only [List.length_drop, List.length_take]; rfl)) ?_; (with_reducible refine (surmiselaw02_few.calls a0 t126 _ A4.out).mono ?_); rintro e w' ⟨rfl, ⟨nd, rfl⟩⟩; refine ⟨_, rfl, ?_⟩) | ((with_reducible refine gate_callee (f := 9) rfl ?_); refine goesL_ (some 14) rfl rfl Try.func9 (by kernel_rfl) rfl #[.string a1] rfl (by (try simp only [List.map_toArray, List.map_cons, List.map_nil]); first | done | rfl | (simp only [List.length_drop, List.length_take]; rfl)) ?_; (with_reducible refine (surmiselaw02_few.calls a1 t127 _ A5.out).mono ?_); rintro e w' ⟨rfl, ⟨nd, rfl⟩⟩; refine ⟨_, rfl, ?_⟩) | ((with_reducible refine gate_callee (f := 15) rfl ?_); refine goesL_ (some 17) rfl rfl Try.func15 (by kernel_rfl) rfl #[.string t126] rfl (by (try simp only [List.map_toArray, List.map_cons, List.map_nil]); first | done | rfl | (simp only [List.length_drop, List.length_take]; rfl)) ?_; (with_reducible refine (check_Sum.calls k t126 t128 _ A6.out).mono ?_); rintro e w' ⟨rfl, ⟨nd, rfl⟩⟩; refine ⟨_, rfl, ?_⟩) | ((with_reducible refine gate_callee (f := 15) rfl ?_); refine goesL_ (some 19) rfl rfl Try.func15 (by kernel_rfl) rfl #[.string t127] rfl (by (try simp only [List.map_toArray, List.map_cons, List.map_nil]); first | done | rfl | (simp only [List.length_drop, List.length_take]; rfl)) ?_; (with_reducible refine (check_Sum.calls k t127 t129 _ A7.out).mono ?_); rintro e w' ⟨rfl, ⟨nd, rfl⟩⟩; refine ⟨_, rfl, ?_⟩) | ((with_reducible refine gate_callee (f := 14) rfl ?_); refine goesL_ (some 22) rfl rfl Try.func14 (by kernel_rfl) rfl #[.int .u32 t128, .int .u32 t129, .int .i64 (t127.size : Int)] rfl (by (try simp only [List.map_toArray, List.map_cons, List.map_nil]); first | done | rfl | (simp only [List.length_drop, List.length_take]; rfl)) ?_; (with_reducible refine (check_Join.calls t128 t129 (t127.size : Int) t130 t131 _ A8.out).mono ?_); rintro e w10 ⟨rfl, hb⟩; refine ⟨_, rfl, ?_⟩; have n0_ := Aside0.mk (below_step (by repeat (first | (with_reducible first | exact HB.out | apply below_alloc | apply pw_below_drewN | apply below_drew1) | exact HB.out)) hb); clear HB; have HB := n0_; clear n0_; (try clear hb); (try clear hb2); (try clear hk); (try clear hi)))
  (try simp only [Act.put, List.setIfInBounds_toArray, List.set_cons_zero, List.set_cons_succ])
  go_cut [38] (fun v38 wc => ∃ (kq : Nat) (x38_8 : Bool), v38 = .bool x38_8 ∧ Aside0 (surmiselaw02_CheckJoins.j0 kq t126 a2 x38_8 = some r) ∧ Aside0 (kq ≤ k) ∧ Aside0 (Below w.heap.size w wc))
  case first =>
    have H := HC9.out
    clear HC9
    replace H := Option.bind_eq_some_iff.mp H
    obtain ⟨t132, A110, H⟩ := H
    replace H : (if t132 = true then (if t131 = 0 then (if t126.size + t127.size ≤ 9223372036854775807 then ((surmiseref02_Sum.f k (t126 ++ t127)).bind fun t133 => (surmiselaw02_CheckJoins.j0 k t126 a2 (t130 != t133))) else (none)) else (surmiselaw02_CheckJoins.j0 k t126 a2 true)) else (surmiselaw02_CheckJoins.j0 k t126 a2 true)) = some r := H
    have A11 := Aside0.mk A110
    clear A110
    by_cases c12 : t132 = true
    · subst c12
      have H1 : (if t131 = 0 then (if t126.size + t127.size ≤ 9223372036854775807 then ((surmiseref02_Sum.f k (t126 ++ t127)).bind fun t133 => (surmiselaw02_CheckJoins.j0 k t126 a2 (t130 != t133))) else (none)) else (surmiselaw02_CheckJoins.j0 k t126 a2 true)) = some r := by rw [if_pos rfl] at H; exact H
      clear H
      have H := H1
      clear H1
      by_cases c13 : t131 = 0
      · rw [if_pos c13] at H
        have c13b0 : (t131 == 0) = true := beq_iff_eq.mpr c13
        have c13b1 : (t131 != 0) = false := bne_eq_false_iff_eq.mpr c13
        clear c13
        (first | rw [c13b0] | (simp only [i64_w, i32_w]; rw [c13b0]) | skip)
        by_cases c14 : t126.size + t127.size ≤ 9223372036854775807
        · rw [if_pos c14] at H
          have c14b0 := eq_true c14
          have c14b1 : decide (t126.size + t127.size ≤ 9223372036854775807) = true := decide_eq_true c14
          try have c14b2 : (9223372036854775807 < t126.size + t127.size) = False := eq_false (Nat.not_lt.2 c14)
          replace H := Option.bind_eq_some_iff.mp H
          obtain ⟨t133, A150, H⟩ := H
          replace H : (surmiselaw02_CheckJoins.j0 k t126 a2 (t130 != t133)) = some r := H
          have A15 := Aside0.mk A150
          clear A150
          have H' := Aside0.mk H
          clear H
          go_wp2_with (first | ((with_reducible refine gate_callee (f := 11) rfl ?_); refine goesL_ (some 25) rfl rfl Try.func11 (by kernel_rfl) rfl #[] rfl (by (try simp only [List.map_toArray, List.map_cons, List.map_nil]); first | done | rfl | (simp only [List.length_drop, List.length_take]; rfl)) ?_; (with_reducible refine (surmiselaw02_awake.calls k  true _ A11.out).mono ?_); rintro e w16 ⟨rfl, hb⟩; refine ⟨_, rfl, ?_⟩; have n0_ := Aside0.mk (below_step (by repeat (first | (with_reducible first | exact HB.out | apply below_alloc | apply pw_below_drewN | apply below_drew1) | exact HB.out)) hb); clear HB; have HB := n0_; clear n0_; (try clear hb); (try clear hb2); (try clear hk); (try clear hi)) | (go_at_call 12; (with_reducible refine (surmiseref02_Sum.calls k (t126 ++ t127) t133 _ A15.out).mono ?_); rintro e w' ⟨rfl, ⟨nd, rfl⟩⟩))
          go_meet
          case rel => exact ⟨_, ((t130 != t133)), (by first | rfl | (simp; done) | (simp [*]; done)), H', ⟨by first | omega | exact Nat.le_refl _⟩, ⟨by repeat (first | (with_reducible first | exact HB.out | apply below_alloc | apply pw_below_drewN | apply below_drew1) | exact HB.out)⟩⟩
        · rw [if_neg c14] at H
          exact absurd H (by simp)
      · rw [if_neg c13] at H
        have c13b0 : (t131 == 0) = false := beq_eq_false_iff_ne.mpr c13
        have c13b1 : (t131 != 0) = true := bne_iff_ne.mpr c13
        (first | rw [c13b0] | (simp only [i64_w, i32_w]; rw [c13b0]) | skip)
        have H' := Aside0.mk H
        clear H
        go_wp2_with (first | ((with_reducible refine gate_callee (f := 11) rfl ?_); refine goesL_ (some 25) rfl rfl Try.func11 (by kernel_rfl) rfl #[] rfl (by (try simp only [List.map_toArray, List.map_cons, List.map_nil]); first | done | rfl | (simp only [List.length_drop, List.length_take]; rfl)) ?_; (with_reducible refine (surmiselaw02_awake.calls k  true _ A11.out).mono ?_); rintro e w17 ⟨rfl, hb⟩; refine ⟨_, rfl, ?_⟩; have n0_ := Aside0.mk (below_step (by repeat (first | (with_reducible first | exact HB.out | apply below_alloc | apply pw_below_drewN | apply below_drew1) | exact HB.out)) hb); clear HB; have HB := n0_; clear n0_; (try clear hb); (try clear hb2); (try clear hk); (try clear hi)))
        go_meet
        case rel => exact ⟨_, (true), (by first | rfl | (simp; done) | (simp [*]; done)), H', ⟨by first | omega | exact Nat.le_refl _⟩, ⟨by repeat (first | (with_reducible first | exact HB.out | apply below_alloc | apply pw_below_drewN | apply below_drew1) | exact HB.out)⟩⟩
    · replace c12 := Bool.eq_false_iff.mpr c12
      subst c12
      have H1 : (surmiselaw02_CheckJoins.j0 k t126 a2 true) = some r := by rw [if_neg (show ¬ (false = true) by decide)] at H; exact H
      clear H
      have H := H1
      clear H1
      have H' := Aside0.mk H
      clear H
      go_wp2_with (first | ((with_reducible refine gate_callee (f := 11) rfl ?_); refine goesL_ (some 25) rfl rfl Try.func11 (by kernel_rfl) rfl #[] rfl (by (try simp only [List.map_toArray, List.map_cons, List.map_nil]); first | done | rfl | (simp only [List.length_drop, List.length_take]; rfl)) ?_; (with_reducible refine (surmiselaw02_awake.calls k  false _ A11.out).mono ?_); rintro e w18 ⟨rfl, hb⟩; refine ⟨_, rfl, ?_⟩; have n0_ := Aside0.mk (below_step (by repeat (first | (with_reducible first | exact HB.out | apply below_alloc | apply pw_below_drewN | apply below_drew1) | exact HB.out)) hb); clear HB; have HB := n0_; clear n0_; (try clear hb); (try clear hb2); (try clear hk); (try clear hi)))
      go_meet
      case rel => exact ⟨_, (true), (by first | rfl | (simp; done) | (simp [*]; done)), H', ⟨by first | omega | exact Nat.le_refl _⟩, ⟨by repeat (first | (with_reducible first | exact HB.out | apply below_alloc | apply pw_below_drewN | apply below_drew1) | exact HB.out)⟩⟩
  case rest =>
    clear HC9
    try clear c1
    try clear p2
    try clear c4
    try clear c9
    try clear c11
    try clear c12
    try clear c13
    try clear c13b0
    try clear c13b1
    try clear c14
    try clear c14b0
    try clear c14b1
    try clear c14b2
    try clear c15
    obtain ⟨kq, x38_8, rfl, HA, HJ8, HB⟩ := hcut
    cases kq with
    | zero => exact absurd HA.out (by simp [surmiselaw02_CheckJoins.j0])
    | succ kj8 =>
      have H := HA.out
      clear HA
      simp only [surmiselaw02_CheckJoins.j0] at H
      by_cases c19 : x38_8 = true
      · subst c19
        have H1 : (some false) = some r := by rw [if_pos rfl] at H; exact H
        clear H
        have H := H1
        clear H1
        obtain rfl := Option.some.inj H
        go_wp2
        go_ret
        exact ⟨by first | rfl | (simp [errW_none, errW_some] <;> rfl) | (simp [*, errW_none, errW_some] <;> rfl), by repeat (first | (with_reducible first | exact HB.out | apply below_alloc | apply pw_below_drewN | apply below_drew1) | exact HB.out)⟩
      · replace c19 := Bool.eq_false_iff.mpr c19
        subst c19
        have H1 : ((surmiseref02_Sum.f kj8 t126).bind fun t134 => ((check_Join.f t134 12345 a2).bind fun bt135 => (if a2 < 0 then (if bt135.1 = 0 then (some (bt135.2 == 2)) else (some false)) else (if a2 > 3000 then (some (bt135.2 == 0)) else (if bt135.2 = 0 then ((surmiseref02_Sum.f kj8 t126).bind fun t137 => ((surmiseref02_Join.f kj8 t137 12345 a2).bind fun t138 => (some (bt135.1 == t138)))) else (some false)))))) = some r := by rw [if_neg (show ¬ (false = true) by decide)] at H; exact H
        clear H
        have H := H1
        clear H1
        replace H := Option.bind_eq_some_iff.mp H
        obtain ⟨t134, A200, H⟩ := H
        replace H : ((check_Join.f t134 12345 a2).bind fun bt135 => (if a2 < 0 then (if bt135.1 = 0 then (some (bt135.2 == 2)) else (some false)) else (if a2 > 3000 then (some (bt135.2 == 0)) else (if bt135.2 = 0 then ((surmiseref02_Sum.f kj8 t126).bind fun t137 => ((surmiseref02_Join.f kj8 t137 12345 a2).bind fun t138 => (some (bt135.1 == t138)))) else (some false))))) = some r := H
        have A20 := Aside0.mk A200
        clear A200
        replace H := Option.bind_eq_some_iff.mp H
        obtain ⟨⟨t135, t136⟩, A210, H⟩ := H
        replace H : (if a2 < 0 then (if t135 = 0 then (some (t136 == 2)) else (some false)) else (if a2 > 3000 then (some (t136 == 0)) else (if t136 = 0 then ((surmiseref02_Sum.f kj8 t126).bind fun t137 => ((surmiseref02_Join.f kj8 t137 12345 a2).bind fun t138 => (some (t135 == t138)))) else (some false)))) = some r := H
        have A21 := Aside0.mk A210
        clear A210
        by_cases c22 : a2 < 0
        · rw [if_pos c22] at H
          have c22b0 : decide (a2 < 0) = true := decide_eq_true c22
          clear c22
          by_cases c23 : t135 = 0
          · rw [if_pos c23] at H
            have c23b0 : (t135 == 0) = true := beq_iff_eq.mpr c23
            have c23b1 : (t135 != 0) = false := bne_eq_false_iff_eq.mpr c23
            clear c23
            obtain rfl := Option.some.inj H
            go_wp2_with (first | ((with_reducible refine gate_callee (f := 12) rfl ?_); refine goesL_ (some 41) rfl rfl Try.func12 (by kernel_rfl) rfl #[.string t126] rfl (by (try simp only [List.map_toArray, List.map_cons, List.map_nil]); first | done | rfl | (simp only [List.length_drop, List.length_take]; rfl)) ?_; (with_reducible refine (surmiseref02_Sum.calls kj8 t126 t134 _ A20.out).mono ?_); rintro e w' ⟨rfl, ⟨nd, rfl⟩⟩; refine ⟨_, rfl, ?_⟩) | ((with_reducible refine gate_callee (f := 14) rfl ?_); refine goesL_ (some 43) rfl rfl Try.func14 (by kernel_rfl) rfl #[.int .u32 t134, .int .u32 12345, .int .i64 a2] rfl (by (try simp only [List.map_toArray, List.map_cons, List.map_nil]); first | done | rfl | (simp only [List.length_drop, List.length_take]; rfl)) ?_; (with_reducible refine (check_Join.calls t134 12345 a2 t135 t136 _ A21.out).mono ?_); rintro e w24 ⟨rfl, hb⟩; refine ⟨_, rfl, ?_⟩; have n0_ := Aside0.mk (below_step (by repeat (first | (with_reducible first | exact HB.out | apply below_alloc | apply pw_below_drewN | apply below_drew1) | exact HB.out)) hb); clear HB; have HB := n0_; clear n0_; (try clear hb); (try clear hb2); (try clear hk); (try clear hi)))
            go_ret
            exact ⟨by first | rfl | (simp [errW_none, errW_some] <;> rfl) | (simp [*, errW_none, errW_some] <;> rfl), by repeat (first | (with_reducible first | exact HB.out | apply below_alloc | apply pw_below_drewN | apply below_drew1) | exact HB.out)⟩
          · rw [if_neg c23] at H
            have c23b0 : (t135 == 0) = false := beq_eq_false_iff_ne.mpr c23
            have c23b1 : (t135 != 0) = true := bne_iff_ne.mpr c23
            obtain rfl := Option.some.inj H
            go_wp2_with (first | ((with_reducible refine gate_callee (f := 12) rfl ?_); refine goesL_ (some 41) rfl rfl Try.func12 (by kernel_rfl) rfl #[.string t126] rfl (by (try simp only [List.map_toArray, List.map_cons, List.map_nil]); first | done | rfl | (simp only [List.length_drop, List.length_take]; rfl)) ?_; (with_reducible refine (surmiseref02_Sum.calls kj8 t126 t134 _ A20.out).mono ?_); rintro e w' ⟨rfl, ⟨nd, rfl⟩⟩; refine ⟨_, rfl, ?_⟩) | ((with_reducible refine gate_callee (f := 14) rfl ?_); refine goesL_ (some 43) rfl rfl Try.func14 (by kernel_rfl) rfl #[.int .u32 t134, .int .u32 12345, .int .i64 a2] rfl (by (try simp only [List.map_toArray, List.map_cons, List.map_nil]); first | done | rfl | (simp only [List.length_drop, List.length_take]; rfl)) ?_; (with_reducible refine (check_Join.calls t134 12345 a2 t135 t136 _ A21.out).mono ?_); rintro e w25 ⟨rfl, hb⟩; refine ⟨_, rfl, ?_⟩; have n0_ := Aside0.mk (below_step (by repeat (first | (with_reducible first | exact HB.out | apply below_alloc | apply pw_below_drewN | apply below_drew1) | exact HB.out)) hb); clear HB; have HB := n0_; clear n0_; (try clear hb); (try clear hb2); (try clear hk); (try clear hi)))
            go_ret
            exact ⟨by first | rfl | (simp [errW_none, errW_some] <;> rfl) | (simp [*, errW_none, errW_some] <;> rfl), by repeat (first | (with_reducible first | exact HB.out | apply below_alloc | apply pw_below_drewN | apply below_drew1) | exact HB.out)⟩
        · rw [if_neg c22] at H
          have c22b0 : decide (a2 < 0) = false := decide_eq_false c22
          clear c22
          by_cases c26 : a2 > 3000
          · rw [if_pos c26] at H
            have c26b0 : decide (3000 < a2) = true := decide_eq_true c26
            clear c26
            obtain rfl := Option.some.inj H
            go_wp2_with (first | ((with_reducible refine gate_callee (f := 12) rfl ?_); refine goesL_ (some 41) rfl rfl Try.func12 (by kernel_rfl) rfl #[.string t126] rfl (by (try simp only [List.map_toArray, List.map_cons, List.map_nil]); first | done | rfl | (simp only [List.length_drop, List.length_take]; rfl)) ?_; (with_reducible refine (surmiseref02_Sum.calls kj8 t126 t134 _ A20.out).mono ?_); rintro e w' ⟨rfl, ⟨nd, rfl⟩⟩; refine ⟨_, rfl, ?_⟩) | ((with_reducible refine gate_callee (f := 14) rfl ?_); refine goesL_ (some 43) rfl rfl Try.func14 (by kernel_rfl) rfl #[.int .u32 t134, .int .u32 12345, .int .i64 a2] rfl (by (try simp only [List.map_toArray, List.map_cons, List.map_nil]); first | done | rfl | (simp only [List.length_drop, List.length_take]; rfl)) ?_; (with_reducible refine (check_Join.calls t134 12345 a2 t135 t136 _ A21.out).mono ?_); rintro e w27 ⟨rfl, hb⟩; refine ⟨_, rfl, ?_⟩; have n0_ := Aside0.mk (below_step (by repeat (first | (with_reducible first | exact HB.out | apply below_alloc | apply pw_below_drewN | apply below_drew1) | exact HB.out)) hb); clear HB; have HB := n0_; clear n0_; (try clear hb); (try clear hb2); (try clear hk); (try clear hi)))
            go_ret
            exact ⟨by first | rfl | (simp [errW_none, errW_some] <;> rfl) | (simp [*, errW_none, errW_some] <;> rfl), by repeat (first | (with_reducible first | exact HB.out | apply below_alloc | apply pw_below_drewN | apply below_drew1) | exact HB.out)⟩
          · rw [if_neg c26] at H
            have c26b0 : decide (3000 < a2) = false := decide_eq_false c26
            clear c26
            by_cases c28 : t136 = 0
            · rw [if_pos c28] at H
              have c28b0 : (t136 == 0) = true := beq_iff_eq.mpr c28
              have c28b1 : (t136 != 0) = false := bne_eq_false_iff_eq.mpr c28
              clear c28
              replace H := Option.bind_eq_some_iff.mp H
              obtain ⟨t137, A290, H⟩ := H
              replace H : ((surmiseref02_Join.f kj8 t137 12345 a2).bind fun t138 => (some (t135 == t138))) = some r := H
              have A29 := Aside0.mk A290
              clear A290
              replace H := Option.bind_eq_some_iff.mp H
              obtain ⟨t138, A300, H⟩ := H
              replace H : (some (t135 == t138)) = some r := H
              have A30 := Aside0.mk A300
              clear A300
              obtain rfl := Option.some.inj H
              go_wp2_with (first | ((with_reducible refine gate_callee (f := 12) rfl ?_); refine goesL_ (some 41) rfl rfl Try.func12 (by kernel_rfl) rfl #[.string t126] rfl (by (try simp only [List.map_toArray, List.map_cons, List.map_nil]); first | done | rfl | (simp only [List.length_drop, List.length_take]; rfl)) ?_; (with_reducible refine (surmiseref02_Sum.calls kj8 t126 t134 _ A20.out).mono ?_); rintro e w' ⟨rfl, ⟨nd, rfl⟩⟩; refine ⟨_, rfl, ?_⟩) | ((with_reducible refine gate_callee (f := 14) rfl ?_); refine goesL_ (some 43) rfl rfl Try.func14 (by kernel_rfl) rfl #[.int .u32 t134, .int .u32 12345, .int .i64 a2] rfl (by (try simp only [List.map_toArray, List.map_cons, List.map_nil]); first | done | rfl | (simp only [List.length_drop, List.length_take]; rfl)) ?_; (with_reducible refine (check_Join.calls t134 12345 a2 t135 t136 _ A21.out).mono ?_); rintro e w31 ⟨rfl, hb⟩; refine ⟨_, rfl, ?_⟩; have n0_ := Aside0.mk (below_step (by repeat (first | (with_reducible first | exact HB.out | apply below_alloc | apply pw_below_drewN | apply below_drew1) | exact HB.out)) hb); clear HB; have HB := n0_; clear n0_; (try clear hb); (try clear hb2); (try clear hk); (try clear hi)) | (go_at_call 12; (with_reducible refine (surmiseref02_Sum.calls kj8 t126 t137 _ A29.out).mono ?_); rintro e w' ⟨rfl, ⟨nd, rfl⟩⟩) | (go_at_call 16; (with_reducible refine (surmiseref02_Join.calls kj8 t137 12345 a2 t138 _ A30.out).mono ?_); rintro e w' ⟨rfl, ⟨nd, rfl⟩⟩))
              go_ret
              exact ⟨by first | rfl | (simp [errW_none, errW_some] <;> rfl) | (simp [*, errW_none, errW_some] <;> rfl), by repeat (first | (with_reducible first | exact HB.out | apply below_alloc | apply pw_below_drewN | apply below_drew1) | exact HB.out)⟩
            · rw [if_neg c28] at H
              have c28b0 : (t136 == 0) = false := beq_eq_false_iff_ne.mpr c28
              have c28b1 : (t136 != 0) = true := bne_iff_ne.mpr c28
              obtain rfl := Option.some.inj H
              go_wp2_with (first | ((with_reducible refine gate_callee (f := 12) rfl ?_); refine goesL_ (some 41) rfl rfl Try.func12 (by kernel_rfl) rfl #[.string t126] rfl (by (try simp only [List.map_toArray, List.map_cons, List.map_nil]); first | done | rfl | (simp only [List.length_drop, List.length_take]; rfl)) ?_; (with_reducible refine (surmiseref02_Sum.calls kj8 t126 t134 _ A20.out).mono ?_); rintro e w' ⟨rfl, ⟨nd, rfl⟩⟩; refine ⟨_, rfl, ?_⟩) | ((with_reducible refine gate_callee (f := 14) rfl ?_); refine goesL_ (some 43) rfl rfl Try.func14 (by kernel_rfl) rfl #[.int .u32 t134, .int .u32 12345, .int .i64 a2] rfl (by (try simp only [List.map_toArray, List.map_cons, List.map_nil]); first | done | rfl | (simp only [List.length_drop, List.length_take]; rfl)) ?_; (with_reducible refine (check_Join.calls t134 12345 a2 t135 t136 _ A21.out).mono ?_); rintro e w32 ⟨rfl, hb⟩; refine ⟨_, rfl, ?_⟩; have n0_ := Aside0.mk (below_step (by repeat (first | (with_reducible first | exact HB.out | apply below_alloc | apply pw_below_drewN | apply below_drew1) | exact HB.out)) hb); clear HB; have HB := n0_; clear n0_; (try clear hb); (try clear hb2); (try clear hk); (try clear hi)))
              go_ret
              exact ⟨by first | rfl | (simp [errW_none, errW_some] <;> rfl) | (simp [*, errW_none, errW_some] <;> rfl), by repeat (first | (with_reducible first | exact HB.out | apply below_alloc | apply pw_below_drewN | apply below_drew1) | exact HB.out)⟩

/-- THE ONE PURE STATEMENT of surmiselaw02_CheckJoins: yours. -/
def surmiselaw02_CheckJoins.Pure : Prop := ∀ (a0 : ByteArray) (a1 : ByteArray) (a2 : Int), a0.size ≤ 140737488351232 → a1.size ≤ 140737488351232 → (Lit.int .i64 a2).wf = true → ∃ k, surmiselaw02_CheckJoins.f k a0 a1 a2 = some true
theorem surmiselaw02_CheckJoins.walk (P : surmiselaw02_CheckJoins.Pure) (a0 : ByteArray) (a1 : ByteArray) (a2 : Int) (w : World) (w0 : a0.size ≤ 140737488351232) (w1 : a1.size ≤ 140737488351232) (w2 : (Lit.int .i64 a2).wf = true) :
    Calls Try.prog 4 #[.string a0, .string a1, .int .i64 a2] w fun e w' => e = .returned (.bool true) ∧ Below w.heap.size w w' := by
  obtain ⟨k, h⟩ := P a0 a1 a2 w0 w1 w2
  refine (surmiselaw02_CheckJoins.calls k a0 a1 a2 true w h).mono ?_
  rintro e w' ⟨rfl, hd⟩
  exact ⟨rfl, hd⟩

end Go.Proofs.Ytnlimhjbdgbcoaa.Q
