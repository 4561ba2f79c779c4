-- By px.py, a program of this session that drives the kit's printer: laid out of the translation; Lean checks it.
import Derived.Test.YtgenlgajggmbbaaQ0
import Derived.Test.YtgenlgajggmbbaaQf18
import Derived.Test.YtgenlgajggmbbaaQf32
namespace Go.Proofs.Ytgenlgajggmbbaa.Q
open Go.RowKit Go.Proofs.YtgenlgajggmbbaaW.PrintWords Go.Proofs.YtgenlgajggmbbaaW.PrintLast Go.Proofs.YtgenlgajggmbbaaW.PrintMore
attribute [local go_sem] max2_int min2_int max_two min_two max_three min_three max_four min_four   -- for this text's walks alone
set_option linter.unusedVariables false
set_option linter.unusedSimpArgs false

/-! ### varint_read_int__by_varint_ReadNumber: function 90000000 -/
def varint_read_int__by_varint_ReadNumber.l0 : Nat → ByteArray → Int → List Int → Int → Int → Option (List Int × Int × Int)
  | 0, _, _, _, _, _ => none
  | k + 1, x0, x10, x12, x26, x27 => if x27 < x26 then ((varint_ReadNumber.f k x0 x10).bind fun bt157 => (if bt157.2.2 = 0 then (if x12.length < 17592186044416 then (varint_read_int__by_varint_ReadNumber.l0 k x0 bt157.2.1 (x12 ++ [bt157.1]) x26 (wrap64 (x27 + 1))) else (none)) else (some (([] : List Int), 0, bt157.2.2)))) else (some (x12, x10, 0))
def varint_read_int__by_varint_ReadNumber.f (k : Nat) (a0 : ByteArray) (a1 : Int)  : Option (List Int × Int × Int) := (varint_count.f k a0 a1 256).bind fun bt154 => (if bt154.2.2 = 0 then (varint_read_int__by_varint_ReadNumber.l0 k a0 bt154.2.1 ([] : List Int) bt154.1 0) else (some (([] : List Int), 0, bt154.2.2)))
theorem varint_read_int__by_varint_ReadNumber.mono_l : ∀ k, (∀ y0 y1 y2 y3 y4, LeO (varint_read_int__by_varint_ReadNumber.l0 k y0 y1 y2 y3 y4) (varint_read_int__by_varint_ReadNumber.l0 (k + 1) y0 y1 y2 y3 y4))
  | 0 => fun _ _ _ _ _ r h => by simp [varint_read_int__by_varint_ReadNumber.l0] at h
  | k + 1 => by
    have ih0 := varint_read_int__by_varint_ReadNumber.mono_l k
    · intro y0 y1 y2 y3 y4
      unfold varint_read_int__by_varint_ReadNumber.l0
      repeat' first
      | (with_reducible exact ih0 _ _ _ _ _)
      | (with_reducible exact varint_ReadNumber.mono _ _ _)
      | (with_reducible exact varint_count.mono _ _ _ _)
      | (with_reducible exact LeO.refl _)
      | (with_reducible exact LeO.none _)
      | (with_reducible refine LeO.ite ?_ ?_)
      | (with_reducible refine LeO.bind ?_ (fun _ => ?_))
      | exact ih0 _ _ _ _ _
      | exact varint_ReadNumber.mono _ _ _
      | exact varint_count.mono _ _ _ _
      | exact LeO.none _
      | refine LeO.ite ?_ ?_
      | refine LeO.bind ?_ (fun _ => ?_)
theorem varint_read_int__by_varint_ReadNumber.mono : ∀ a0 a1 k, LeO (varint_read_int__by_varint_ReadNumber.f k a0 a1) (varint_read_int__by_varint_ReadNumber.f (k + 1) a0 a1) := by
  intro a0 a1 k
  have ih0 := varint_read_int__by_varint_ReadNumber.mono_l k
  unfold varint_read_int__by_varint_ReadNumber.f
  repeat' first
      | (with_reducible exact ih0 _ _ _ _ _)
      | (with_reducible exact varint_ReadNumber.mono _ _ _)
      | (with_reducible exact varint_count.mono _ _ _ _)
      | (with_reducible exact LeO.refl _)
      | (with_reducible exact LeO.none _)
      | (with_reducible refine LeO.ite ?_ ?_)
      | (with_reducible refine LeO.bind ?_ (fun _ => ?_))
      | exact ih0 _ _ _ _ _
      | exact varint_ReadNumber.mono _ _ _
      | exact varint_count.mono _ _ _ _
      | exact LeO.none _
      | refine LeO.ite ?_ ?_
      | refine LeO.bind ?_ (fun _ => ?_)
set_option maxHeartbeats 8000000 in
set_option maxRecDepth 100000 in
theorem varint_read_int__by_varint_ReadNumber.calls (k : Nat) (a0 : ByteArray) (a1 : Int)  (r1 : List Int) (r2 : Int) (r3 : Int) (w : World) (h : varint_read_int__by_varint_ReadNumber.f k a0 a1 = some (r1, r2, r3)) :
    Calls Try.prog 34 #[.string a0, .int .i64 a1, .func (Fn.func 18) #[] #[]] w fun e w' => ∃ v0_ : Value, e = .returned (.tuple #[v0_, .int .i64 r2, .int .i64 r3]) ∧ Kd.R (Kd.int .i64) 3 w' w.heap.size (fun _ => True) v0_ r1 ∧ Below w.heap.size w w' := by
  have HB := Aside0.mk (Below.refl w.heap.size w)
  have H : ((varint_count.f k a0 a1 256).bind fun bt154 => (if bt154.2.2 = 0 then (varint_read_int__by_varint_ReadNumber.l0 k a0 bt154.2.1 ([] : List Int) bt154.1 0) else (some (([] : List Int), 0, bt154.2.2)))) = some (r1, r2, r3) := h
  clear h
  replace H := Option.bind_eq_some_iff.mp H
  obtain ⟨⟨t154, t155, t156⟩, A40, H⟩ := H
  replace H : (if t156 = 0 then (varint_read_int__by_varint_ReadNumber.l0 k a0 t155 ([] : List Int) t154 0) else (some (([] : List Int), 0, t156))) = some (r1, r2, r3) := H
  have A4 := Aside0.mk A40
  clear A40
  by_cases c5 : t156 = 0
  · rw [if_pos c5] at H
    have c5b0 : (t156 == 0) = true := beq_iff_eq.mpr c5
    have c5b1 : (t156 != 0) = false := bne_eq_false_iff_eq.mpr c5
    clear c5
    have H' := Aside0.mk H
    clear H
    go_enter Try.func34, Try.ntmps34
    go_wp2_with (first | ((with_reducible refine gate_callee (f := 32) rfl ?_); refine goesL_ (some 19) rfl rfl Try.func32 (by kernel_rfl) rfl #[.string a0, .int .i64 a1, .int .i64 256] rfl (by (try simp only [List.map_toArray, List.map_cons, List.map_nil]); first | done | rfl | (simp only [List.length_drop, List.length_take]; rfl)) ?_; (with_reducible refine (varint_count.calls k a0 a1 256 t154 t155 t156 _ A4.out).mono ?_); rintro e w' ⟨rfl, ⟨nd, rfl⟩⟩; refine ⟨_, rfl, ?_⟩))
    go_loopg [10, 12, 27] k (fun kq v10 v12 v27 w' => ∃ (x10_1 : Int) (x12_1 : List Int) (x27_1 : Int), v10 = .int .i64 x10_1 ∧ v27 = .int .i64 x27_1 ∧ Aside0 (varint_read_int__by_varint_ReadNumber.l0 kq a0 x10_1 x12_1 t154 x27_1 = some (r1, r2, r3)) ∧ Aside0 (kq ≤ k) ∧ Aside0 (Kd.R (Kd.int .i64) 3 w' w.heap.size (fun _ => True) v12 x12_1) ∧ Aside0 (Below w.heap.size w w'))
    case atStart => exact ⟨(t155), (([] : List Int)), (0), (by first | rfl | (simp; done) | (simp [*]; done)), (by first | rfl | (simp; done) | (simp [*]; done)), H', ⟨Nat.le_refl _⟩, ⟨by first | exact Kd.R_nil _ _ _ _ _ | exact Kd.N_nil _ _ _ _ _ | exact Kd.V_nil _ _ _ _ _ | exact Kd.Q_nil _ _ _ _ _ | exact Kd.S_nil _ _ _ _ _⟩, ⟨by repeat (first | (with_reducible first | exact HB.out | apply below_alloc | apply pw_below_drewN | apply below_drew1) | exact HB.out)⟩⟩
    case round =>
      clear H'
      try clear p2
      try clear c3
      try clear c5
      try clear c5b0
      try clear c5b1
      obtain ⟨x10_1, x12_1, x27_1, rfl, rfl, HA, HK1, HO_12, HB⟩ := hrel
      cases gk with
      | zero => exact absurd HA.out (by simp [varint_read_int__by_varint_ReadNumber.l0])
      | succ k1 =>
        have H := HA.out
        clear HA
        simp only [varint_read_int__by_varint_ReadNumber.l0] at H
        by_cases c6 : x27_1 < t154
        · rw [if_pos c6] at H
          have c6b0 : decide (x27_1 < t154) = true := decide_eq_true c6
          clear c6
          replace H := Option.bind_eq_some_iff.mp H
          obtain ⟨⟨t157, t158, t159⟩, A70, H⟩ := H
          replace H : (if t159 = 0 then (if x12_1.length < 17592186044416 then (varint_read_int__by_varint_ReadNumber.l0 k1 a0 t158 (x12_1 ++ [t157]) t154 (wrap64 (x27_1 + 1))) else (none)) else (some (([] : List Int), 0, t159))) = some (r1, r2, r3) := H
          have A7 := Aside0.mk A70
          clear A70
          by_cases c8 : t159 = 0
          · rw [if_pos c8] at H
            have c8b0 : (t159 == 0) = true := beq_iff_eq.mpr c8
            have c8b1 : (t159 != 0) = false := bne_eq_false_iff_eq.mpr c8
            clear c8
            by_cases c9 : x12_1.length < 17592186044416
            · rw [if_pos c9] at H
              have LMc9 := Aside0.mk c9
              clear c9
              obtain ⟨y160, hy160⟩ : ∃ y_ : List Int, y_ = (x12_1 ++ [t157]) := ⟨_, rfl⟩
              replace H : (varint_read_int__by_varint_ReadNumber.l0 k1 a0 t158 y160 t154 (wrap64 (x27_1 + 1))) = some (r1, r2, r3) := by first | (rw [hy160]; with_reducible exact H) | (have H2_ := (Option.bind_some _ _).symm.trans H; rw [hy160]; with_reducible exact H2_) | (have H2_ := (Option.bind_some _ _).symm.trans H; with_reducible exact H2_) | with_reducible exact H | (rw [hy160]; exact H) | exact H
              have Ny160 := Aside0.mk hy160
              clear hy160
              have H' := Aside0.mk H
              clear H
              go_wp2_with (first | ((with_reducible refine gate_dst (N := 33) rfl ?_); refine goesV_ (some 33) rfl rfl Try.func18 (by kernel_rfl) rfl #[.string a0, .int .i64 x10_1] rfl (by (try simp only [List.map_toArray, List.map_cons, List.map_nil]); first | done | rfl | (simp only [List.length_drop, List.length_take]; rfl)) ?_; (with_reducible refine (varint_ReadNumber.calls k1 a0 x10_1 t157 t158 t159 _ A7.out).mono ?_); rintro e w' ⟨rfl, ⟨nd, rfl⟩⟩; refine ⟨_, rfl, ?_⟩) | ((with_reducible refine gate_builtin (b := .append) (xs := #[.tmp 40, .tmp 42]) rfl ?_); at_builtin; refine Kd.R_append (Kd.int .i64) (w0 := w) w.heap.size rfl (.tmp 40) (.tmp 42) 26 3 (.int .i64 0) 8 rfl Try.underlying26 info3 rfl (by decide) (by omega) u12 x12_1 t157 [.int .i64 t157] (fun _ => True) (fun _ => False) rfl rfl ?aP (fun _ hk => hk.elim) ?aF ?aO ?aB ?aS ?aL ?_; (case aP => exact rfl); (case aB => exact (by repeat (first | (with_reducible first | exact HB.out | apply below_alloc | apply pw_below_drewN | apply below_drew1) | exact HB.out))); (case aF => exact (fun _ _ => trivial)); (case aO => exact (by (with_reducible repeat (first | apply Kd.R_alloc | apply Kd.R_drewN | apply Kd.R_drew)); exact HO_12.out)); (case aS => exact (below_size (by repeat (first | (with_reducible first | exact HB.out | apply below_alloc | apply pw_below_drewN | apply below_drew1) | exact HB.out)))); (case aL => have := LMc9.out; omega); intro v161 w10 ho hb hg hat; rw [← Ny160.out] at ho; have n0_ := Aside0.mk (hb); have n1_ := Aside0.mk (ho); clear HB; clear HO_12; have HB := n0_; have HO162 := n1_; clear n0_ n1_; clear ho hb hg hat))
              go_roundg k1
              case measure => have := HK1.out; omega
              case rel => exact ⟨(t158), (y160), (wrap64 (x27_1 + 1)), (by first | rfl | (simp; done) | (simp [*]; done)), (by first | rfl | (simp; done) | (simp [*]; done)), H', ⟨by have := HK1.out; omega⟩, ⟨by (with_reducible repeat (first | apply Kd.R_alloc | apply Kd.R_drewN | apply Kd.R_drew)); exact HO162.out⟩, ⟨by repeat (first | (with_reducible first | exact HB.out | apply below_alloc | apply pw_below_drewN | apply below_drew1) | exact HB.out)⟩⟩
            · rw [if_neg c9] at H
              exact absurd H (by simp)
          · rw [if_neg c8] at H
            have c8b0 : (t159 == 0) = false := beq_eq_false_iff_ne.mpr c8
            have c8b1 : (t159 != 0) = true := bne_iff_ne.mpr c8
            simp only [Option.some.injEq, Prod.mk.injEq] at H
            obtain ⟨rfl, rfl, rfl⟩ := H
            go_wp2_with (first | ((with_reducible refine gate_dst (N := 33) rfl ?_); refine goesV_ (some 33) rfl rfl Try.func18 (by kernel_rfl) rfl #[.string a0, .int .i64 x10_1] rfl (by (try simp only [List.map_toArray, List.map_cons, List.map_nil]); first | done | rfl | (simp only [List.length_drop, List.length_take]; rfl)) ?_; (with_reducible refine (varint_ReadNumber.calls k1 a0 x10_1 t157 t158 t159 _ A7.out).mono ?_); rintro e w' ⟨rfl, ⟨nd, rfl⟩⟩; refine ⟨_, rfl, ?_⟩))
            go_ret3
            exact ⟨_, by first | rfl | (simp [errW_none, errW_some] <;> rfl) | (simp [*, errW_none, errW_some] <;> rfl), by first | exact Kd.R_nil _ _ _ _ _ | exact Kd.N_nil _ _ _ _ _ | exact Kd.V_nil _ _ _ _ _ | exact Kd.Q_nil _ _ _ _ _ | exact Kd.S_nil _ _ _ _ _, by repeat (first | (with_reducible first | exact HB.out | apply below_alloc | apply pw_below_drewN | apply below_drew1) | exact HB.out)⟩
        · rw [if_neg c6] at H
          have c6b0 : decide (x27_1 < t154) = false := decide_eq_false c6
          clear c6
          simp only [Option.some.injEq, Prod.mk.injEq] at H
          obtain ⟨rfl, rfl, rfl⟩ := H
          go_wp2
          go_ret3
          exact ⟨_, by first | rfl | (simp [errW_none, errW_some] <;> rfl) | (simp [*, errW_none, errW_some] <;> rfl), by (with_reducible repeat (first | apply Kd.R_alloc | apply Kd.R_drewN | apply Kd.R_drew)); exact HO_12.out, by repeat (first | (with_reducible first | exact HB.out | apply below_alloc | apply pw_below_drewN | apply below_drew1) | exact HB.out)⟩
  · rw [if_neg c5] at H
    have c5b0 : (t156 == 0) = false := beq_eq_false_iff_ne.mpr c5
    have c5b1 : (t156 != 0) = true := bne_iff_ne.mpr c5
    simp only [Option.some.injEq, Prod.mk.injEq] at H
    obtain ⟨rfl, rfl, rfl⟩ := H
    go_enter Try.func34, Try.ntmps34
    go_wp2_with (first | ((with_reducible refine gate_callee (f := 32) rfl ?_); refine goesL_ (some 19) rfl rfl Try.func32 (by kernel_rfl) rfl #[.string a0, .int .i64 a1, .int .i64 256] rfl (by (try simp only [List.map_toArray, List.map_cons, List.map_nil]); first | done | rfl | (simp only [List.length_drop, List.length_take]; rfl)) ?_; (with_reducible refine (varint_count.calls k a0 a1 256 t154 t155 t156 _ A4.out).mono ?_); rintro e w' ⟨rfl, ⟨nd, rfl⟩⟩; refine ⟨_, rfl, ?_⟩))
    go_ret3
    exact ⟨_, by first | rfl | (simp [errW_none, errW_some] <;> rfl) | (simp [*, errW_none, errW_some] <;> rfl), by first | exact Kd.R_nil _ _ _ _ _ | exact Kd.N_nil _ _ _ _ _ | exact Kd.V_nil _ _ _ _ _ | exact Kd.Q_nil _ _ _ _ _ | exact Kd.S_nil _ _ _ _ _, by repeat (first | (with_reducible first | exact HB.out | apply below_alloc | apply pw_below_drewN | apply below_drew1) | exact HB.out)⟩

end Go.Proofs.Ytgenlgajggmbbaa.Q
