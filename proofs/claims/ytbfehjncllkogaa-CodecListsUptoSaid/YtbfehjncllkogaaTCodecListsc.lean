/- Texts of this session laid together (shrink.py): what the claim's law rests on. -/
import Derived.Below
import Derived.Deep.Draws
import Derived.Deep.AppendLies
import Derived.Maps.AppendAt
import Derived.OwnWalk
import Derived.Laws.BytesArg
import Derived.Laws.MakeOwn
import Derived.Laws.OwnMore
import Derived.Deep.OwnRows
import Derived.Tactics
import Derived.Lib.ConvBytes
import Derived.Laws.Slices
import Derived.WalkKit
import Derived.KernelRfl
import Derived.RowKit3
import Derived.Deep.LoopGhost
import Derived.Deep.QuietTactic
import Derived.BigQuiet
import Derived.WideLaws
import Derived.Deep.DeepCutAuto
import Derived.Deep.CutBlock
import Derived.Deep.RegionHeld3
import Derived.Laws.Rows
import Derived.Lib.AppendStr
import Derived.ArgAppend
import Derived.Laws.IdiomCopy
import Derived.RowKit
import Derived.OrdersHeld
import Derived.Laws.BitsLemmas
import Derived.Laws.StructEq
import Derived.Test.YtbfehjncllkogaaProg
import Derived.WalkMore
import Derived.Lib.Strings
import Derived.Outline
import Derived.Test.YtbfehjncllkogaaTCodecListsb
set_option linter.unusedVariables false
set_option linter.unusedSimpArgs false
set_option maxRecDepth 100000
set_option maxHeartbeats 8000000
open Bool renaming true → ZT, false → ZF
namespace Go.Proofs.Ytbfehjncllkogaa.Q
open Go.RowKit Go.Proofs.YtbfehjncllkogaaW.PrintWords Go.Proofs.YtbfehjncllkogaaW.PrintLast Go.Proofs.YtbfehjncllkogaaW.PrintMore
attribute [local go_sem] max2_int min2_int max_two min_two max_three min_three max_four min_four
def varint_read_int__by_varint_ReadNumber.l0 : Nat → ByteArray → Int → List Int → Int → Int → Option (List Int × Int × Int)
 | 0, _, _, _, _, _ => none
 | k + 1, x0, x10, x12, x26, x27 => if x27 < x26 then ((varint_ReadNumber.f k x0 x10).bind fun bt234 => (if bt234.2.2 = 0 then (if x12.length < 17592186044416 then (varint_read_int__by_varint_ReadNumber.l0 k x0 bt234.2.1 (x12 ++ [bt234.1]) x26 (wrap64 (x27 + 1))) else (none)) else (some (([] : List Int), 0, bt234.2.2)))) else (some (x12, x10, 0))
def varint_read_int__by_varint_ReadNumber.f (k : Nat) (a0 : ByteArray) (a1 : Int)  : Option (List Int × Int × Int) := (varint_count.f k a0 a1 256).bind fun bt231 => (if bt231.2.2 = 0 then (varint_read_int__by_varint_ReadNumber.l0 k a0 bt231.2.1 ([] : List Int) bt231.1 0) else (some (([] : List Int), 0, bt231.2.2)))
theorem varint_read_int__by_varint_ReadNumber.mono_l : ∀ k, (∀ y0 y1 y2 y3 y4, LeO (varint_read_int__by_varint_ReadNumber.l0 k y0 y1 y2 y3 y4) (varint_read_int__by_varint_ReadNumber.l0 (k + 1) y0 y1 y2 y3 y4))
 | 0 => fun _ _ _ _ _ r h => by simp [varint_read_int__by_varint_ReadNumber.l0] at h
 | k + 1 => by
  have ih0 := varint_read_int__by_varint_ReadNumber.mono_l k
  ·intro y0 y1 y2 y3 y4
   unfold varint_read_int__by_varint_ReadNumber.l0
   repeat' first
   | (with_reducible exact ih0 _ _ _ _ _)
   | (with_reducible exact varint_ReadNumber.mono _ _ _)
   | (with_reducible exact varint_count.mono _ _ _ _)
   | (with_reducible exact LeO.refl _)
   | (with_reducible exact LeO.none _)
   | (with_reducible refine LeO.ite ?_ ?_)
   | (with_reducible refine LeO.bind ?_ (fun _ => ?_))
   | exact ih0 _ _ _ _ _
   | exact varint_ReadNumber.mono _ _ _
   | exact varint_count.mono _ _ _ _
   | exact LeO.none _
   | refine LeO.ite ?_ ?_
   | refine LeO.bind ?_ (fun _ => ?_)
theorem varint_read_int__by_varint_ReadNumber.mono : ∀ a0 a1 k, LeO (varint_read_int__by_varint_ReadNumber.f k a0 a1) (varint_read_int__by_varint_ReadNumber.f (k + 1) a0 a1) := by
 intro a0 a1 k
 have ih0 := varint_read_int__by_varint_ReadNumber.mono_l k
 unfold varint_read_int__by_varint_ReadNumber.f
 repeat' first
   | (with_reducible exact ih0 _ _ _ _ _)
   | (with_reducible exact varint_ReadNumber.mono _ _ _)
   | (with_reducible exact varint_count.mono _ _ _ _)
   | (with_reducible exact LeO.refl _)
   | (with_reducible exact LeO.none _)
   | (with_reducible refine LeO.ite ?_ ?_)
   | (with_reducible refine LeO.bind ?_ (fun _ => ?_))
   | exact ih0 _ _ _ _ _
   | exact varint_ReadNumber.mono _ _ _
   | exact varint_count.mono _ _ _ _
   | exact LeO.none _
   | refine LeO.ite ?_ ?_
   | refine LeO.bind ?_ (fun _ => ?_)
theorem varint_read_int__by_varint_ReadNumber.calls (k : Nat) (a0 : ByteArray) (a1 : Int)  (r1 : List Int) (r2 : Int) (r3 : Int) (w : World) (h : varint_read_int__by_varint_ReadNumber.f k a0 a1 = some (r1, r2, r3)) :
  Calls Try.prog 113 #[.string a0, .int .i64 a1, .func (Fn.func 102) #[] #[]] w fun e w' => ∃ v0_ : Value, e = .returned (.tuple #[v0_, .int .i64 r2, .int .i64 r3]) ∧ Kd.R (Kd.int .i64) 3 w' w.heap.size (fun _ => True) v0_ r1 ∧ Below w.heap.size w w' := by
 have HB := Aside0.mk (Below.refl w.heap.size w)
 have H : ((varint_count.f k a0 a1 256).bind fun bt231 => (if bt231.2.2 = 0 then (varint_read_int__by_varint_ReadNumber.l0 k a0 bt231.2.1 ([] : List Int) bt231.1 0) else (some (([] : List Int), 0, bt231.2.2)))) = some (r1, r2, r3) := h
 clear h
 replace H := Option.bind_eq_some_iff.mp H
 obtain ⟨⟨t231, t232, t233⟩, A40, H⟩ := H
 replace H : (if t233 = 0 then (varint_read_int__by_varint_ReadNumber.l0 k a0 t232 ([] : List Int) t231 0) else (some (([] : List Int), 0, t233))) = some (r1, r2, r3) := H
 have A4 := Aside0.mk A40
 clear A40
 by_cases c5 : t233 = 0
 ·rw [if_pos c5] at H
  have c5b0 : (t233 == 0) = true := beq_iff_eq.mpr c5
  have c5b1 : (t233 != 0) = false := bne_eq_false_iff_eq.mpr c5
  clear c5
  have H' := Aside0.mk H
  clear H
  go_enter Try.func113, Try.ntmps113
  go_wp2_with (first | ((with_reducible refine gate_callee (f := 112) rfl ?_); refine goesL_ (some 19) rfl rfl Try.func112 (by kernel_rfl) rfl #[.string a0, .int .i64 a1, .int .i64 256] rfl (by (try simp only [List.map_toArray, List.map_cons, List.map_nil]); first | done | rfl | (simp only [List.length_drop, List.length_take]; rfl)) ?_; (with_reducible refine (varint_count.calls k a0 a1 256 t231 t232 t233 _ A4.out).mono ?_); rintro e w' ⟨rfl, ⟨nd, rfl⟩⟩; refine ⟨_, rfl, ?_⟩))
  go_loopg [10, 12, 27] k (fun kq v10 v12 v27 w' => ∃ (x10_1 : Int) (x12_1 : List Int) (x27_1 : Int), v10 = .int .i64 x10_1 ∧ v27 = .int .i64 x27_1 ∧ Aside0 (varint_read_int__by_varint_ReadNumber.l0 kq a0 x10_1 x12_1 t231 x27_1 = some (r1, r2, r3)) ∧ Aside0 (kq ≤ k) ∧ Aside0 (Kd.R (Kd.int .i64) 3 w' w.heap.size (fun _ => True) v12 x12_1) ∧ Aside0 (Below w.heap.size w w'))
  case atStart => exact ⟨(t232), (([] : List Int)), (0), (by first | rfl | (simp; done) | (simp [*]; done)), (by first | rfl | (simp; done) | (simp [*]; done)), H', ⟨Nat.le_refl _⟩, ⟨by first | exact Kd.R_nil _ _ _ _ _ | exact Kd.N_nil _ _ _ _ _ | exact Kd.V_nil _ _ _ _ _ | exact Kd.Q_nil _ _ _ _ _ | exact Kd.S_nil _ _ _ _ _⟩, ⟨by repeat (first | (with_reducible first | exact HB.out | apply below_alloc | apply pw_below_drewN | apply below_drew1) | exact HB.out)⟩⟩
  case round =>
   clear H'
   try clear c1
   try clear p2
   try clear c5
   try clear c5b0
   try clear c5b1
   obtain ⟨x10_1, x12_1, x27_1, rfl, rfl, HA, HK1, HO_12, HB⟩ := hrel
   cases gk with
   | zero => exact absurd HA.out (by simp [varint_read_int__by_varint_ReadNumber.l0])
   | succ k1 =>
    have H := HA.out
    clear HA
    simp only [varint_read_int__by_varint_ReadNumber.l0] at H
    by_cases c6 : x27_1 < t231
    ·rw [if_pos c6] at H
     have c6b0 : decide (x27_1 < t231) = true := decide_eq_true c6
     clear c6
     replace H := Option.bind_eq_some_iff.mp H
     obtain ⟨⟨t234, t235, t236⟩, A70, H⟩ := H
     replace H : (if t236 = 0 then (if x12_1.length < 17592186044416 then (varint_read_int__by_varint_ReadNumber.l0 k1 a0 t235 (x12_1 ++ [t234]) t231 (wrap64 (x27_1 + 1))) else (none)) else (some (([] : List Int), 0, t236))) = some (r1, r2, r3) := H
     have A7 := Aside0.mk A70
     clear A70
     by_cases c8 : t236 = 0
     ·rw [if_pos c8] at H
      have c8b0 : (t236 == 0) = true := beq_iff_eq.mpr c8
      have c8b1 : (t236 != 0) = false := bne_eq_false_iff_eq.mpr c8
      clear c8
      by_cases c9 : x12_1.length < 17592186044416
      ·rw [if_pos c9] at H
       have LMc9 := Aside0.mk c9
       clear c9
       obtain ⟨y237, hy237⟩ : ∃ y_ : List Int, y_ = (x12_1 ++ [t234]) := ⟨_, rfl⟩
       replace H : (varint_read_int__by_varint_ReadNumber.l0 k1 a0 t235 y237 t231 (wrap64 (x27_1 + 1))) = some (r1, r2, r3) := by first | (rw [hy237]; with_reducible exact H) | (have H2_ := (Option.bind_some _ _).symm.trans H; rw [hy237]; with_reducible exact H2_) | (have H2_ := (Option.bind_some _ _).symm.trans H; with_reducible exact H2_) | with_reducible exact H | (rw [hy237]; exact H) | exact H
       have Ny237 := Aside0.mk hy237
       clear hy237
       have H' := Aside0.mk H
       clear H
       go_wp2_with (first | ((with_reducible refine gate_dst (N := 33) rfl ?_); refine goesV_ (some 33) rfl rfl Try.func102 (by kernel_rfl) rfl #[.string a0, .int .i64 x10_1] rfl (by (try simp only [List.map_toArray, List.map_cons, List.map_nil]); first | done | rfl | (simp only [List.length_drop, List.length_take]; rfl)) ?_; (with_reducible refine (varint_ReadNumber.calls k1 a0 x10_1 t234 t235 t236 _ A7.out).mono ?_); rintro e w' ⟨rfl, ⟨nd, rfl⟩⟩; refine ⟨_, rfl, ?_⟩) | ((with_reducible refine gate_builtin (b := .append) (xs := #[.tmp 40, .tmp 42]) rfl ?_); at_builtin; refine Kd.R_append (Kd.int .i64) (w0 := w) w.heap.size rfl (.tmp 40) (.tmp 42) 22 3 (.int .i64 0) 8 rfl Try.underlying22 info3 rfl (by decide) (by omega) u12 x12_1 t234 [.int .i64 t234] (fun _ => True) (fun _ => False) rfl rfl ?aP (fun _ hk => hk.elim) ?aF ?aO ?aB ?aS ?aL ?_; (case aP => exact rfl); (case aB => exact (by repeat (first | (with_reducible first | exact HB.out | apply below_alloc | apply pw_below_drewN | apply below_drew1) | exact HB.out))); (case aF => exact (fun _ _ => trivial)); (case aO => exact (by (with_reducible repeat (first | apply Kd.R_alloc | apply Kd.R_drewN | apply Kd.R_drew)); exact HO_12.out)); (case aS => exact (below_size (by repeat (first | (with_reducible first | exact HB.out | apply below_alloc | apply pw_below_drewN | apply below_drew1) | exact HB.out)))); (case aL => have := LMc9.out; omega); intro v238 w10 ho hb hg hat; rw [← Ny237.out] at ho; have n0_ := Aside0.mk (hb); have n1_ := Aside0.mk (ho); clear HB; clear HO_12; have HB := n0_; have HO239 := n1_; clear n0_ n1_; clear ho hb hg hat))
       go_roundg k1
       case measure => have := HK1.out; omega
       case rel => exact ⟨(t235), (y237), (wrap64 (x27_1 + 1)), (by first | rfl | (simp; done) | (simp [*]; done)), (by first | rfl | (simp; done) | (simp [*]; done)), H', ⟨by have := HK1.out; omega⟩, ⟨by (with_reducible repeat (first | apply Kd.R_alloc | apply Kd.R_drewN | apply Kd.R_drew)); exact HO239.out⟩, ⟨by repeat (first | (with_reducible first | exact HB.out | apply below_alloc | apply pw_below_drewN | apply below_drew1) | exact HB.out)⟩⟩
      ·rw [if_neg c9] at H
       exact absurd H (by simp)
     ·rw [if_neg c8] at H
      have c8b0 : (t236 == 0) = false := beq_eq_false_iff_ne.mpr c8
      have c8b1 : (t236 != 0) = true := bne_iff_ne.mpr c8
      simp only [Option.some.injEq, Prod.mk.injEq] at H
      obtain ⟨rfl, rfl, rfl⟩ := H
      go_wp2_with (first | ((with_reducible refine gate_dst (N := 33) rfl ?_); refine goesV_ (some 33) rfl rfl Try.func102 (by kernel_rfl) rfl #[.string a0, .int .i64 x10_1] rfl (by (try simp only [List.map_toArray, List.map_cons, List.map_nil]); first | done | rfl | (simp only [List.length_drop, List.length_take]; rfl)) ?_; (with_reducible refine (varint_ReadNumber.calls k1 a0 x10_1 t234 t235 t236 _ A7.out).mono ?_); rintro e w' ⟨rfl, ⟨nd, rfl⟩⟩; refine ⟨_, rfl, ?_⟩))
      go_ret3
      exact ⟨_, by first | rfl | (simp [errW_none, errW_some] <;> rfl) | (simp [*, errW_none, errW_some] <;> rfl), by first | exact Kd.R_nil _ _ _ _ _ | exact Kd.N_nil _ _ _ _ _ | exact Kd.V_nil _ _ _ _ _ | exact Kd.Q_nil _ _ _ _ _ | exact Kd.S_nil _ _ _ _ _, by repeat (first | (with_reducible first | exact HB.out | apply below_alloc | apply pw_below_drewN | apply below_drew1) | exact HB.out)⟩
    ·rw [if_neg c6] at H
     have c6b0 : decide (x27_1 < t231) = false := decide_eq_false c6
     clear c6
     simp only [Option.some.injEq, Prod.mk.injEq] at H
     obtain ⟨rfl, rfl, rfl⟩ := H
     go_wp2
     go_ret3
     exact ⟨_, by first | rfl | (simp [errW_none, errW_some] <;> rfl) | (simp [*, errW_none, errW_some] <;> rfl), by (with_reducible repeat (first | apply Kd.R_alloc | apply Kd.R_drewN | apply Kd.R_drew)); exact HO_12.out, by repeat (first | (with_reducible first | exact HB.out | apply below_alloc | apply pw_below_drewN | apply below_drew1) | exact HB.out)⟩
 ·rw [if_neg c5] at H
  have c5b0 : (t233 == 0) = false := beq_eq_false_iff_ne.mpr c5
  have c5b1 : (t233 != 0) = true := bne_iff_ne.mpr c5
  simp only [Option.some.injEq, Prod.mk.injEq] at H
  obtain ⟨rfl, rfl, rfl⟩ := H
  go_enter Try.func113, Try.ntmps113
  go_wp2_with (first | ((with_reducible refine gate_callee (f := 112) rfl ?_); refine goesL_ (some 19) rfl rfl Try.func112 (by kernel_rfl) rfl #[.string a0, .int .i64 a1, .int .i64 256] rfl (by (try simp only [List.map_toArray, List.map_cons, List.map_nil]); first | done | rfl | (simp only [List.length_drop, List.length_take]; rfl)) ?_; (with_reducible refine (varint_count.calls k a0 a1 256 t231 t232 t233 _ A4.out).mono ?_); rintro e w' ⟨rfl, ⟨nd, rfl⟩⟩; refine ⟨_, rfl, ?_⟩))
  go_ret3
  exact ⟨_, by first | rfl | (simp [errW_none, errW_some] <;> rfl) | (simp [*, errW_none, errW_some] <;> rfl), by first | exact Kd.R_nil _ _ _ _ _ | exact Kd.N_nil _ _ _ _ _ | exact Kd.V_nil _ _ _ _ _ | exact Kd.Q_nil _ _ _ _ _ | exact Kd.S_nil _ _ _ _ _, by repeat (first | (with_reducible first | exact HB.out | apply below_alloc | apply pw_below_drewN | apply below_drew1) | exact HB.out)⟩
def varint_ReadNumbers.f (k : Nat) (a0 : ByteArray) (a1 : Int) : Option (List Int × Int × Int) := (varint_read_int__by_varint_ReadNumber.f k a0 a1).bind fun bt240 => (some (bt240.1, bt240.2.1, bt240.2.2))
theorem varint_ReadNumbers.mono : ∀ a0 a1 k, LeO (varint_ReadNumbers.f k a0 a1) (varint_ReadNumbers.f (k + 1) a0 a1) := by
 intro a0 a1 k
 unfold varint_ReadNumbers.f
 repeat' first
   | (with_reducible exact varint_read_int__by_varint_ReadNumber.mono _ _ _)
   | (with_reducible exact LeO.refl _)
   | (with_reducible exact LeO.none _)
   | (with_reducible refine LeO.ite ?_ ?_)
   | (with_reducible refine LeO.bind ?_ (fun _ => ?_))
   | exact varint_read_int__by_varint_ReadNumber.mono _ _ _
   | exact LeO.none _
   | refine LeO.ite ?_ ?_
   | refine LeO.bind ?_ (fun _ => ?_)
theorem varint_ReadNumbers.calls (k : Nat) (a0 : ByteArray) (a1 : Int) (r1 : List Int) (r2 : Int) (r3 : Int) (w : World) (h : varint_ReadNumbers.f k a0 a1 = some (r1, r2, r3)) :
  Calls Try.prog 104 #[.string a0, .int .i64 a1] w fun e w' => ∃ v0_ : Value, e = .returned (.tuple #[v0_, .int .i64 r2, .int .i64 r3]) ∧ Kd.R (Kd.int .i64) 3 w' w.heap.size (fun _ => True) v0_ r1 ∧ Below w.heap.size w w' := by
 have HB := Aside0.mk (Below.refl w.heap.size w)
 have H : ((varint_read_int__by_varint_ReadNumber.f k a0 a1).bind fun bt240 => (some (bt240.1, bt240.2.1, bt240.2.2))) = some (r1, r2, r3) := h
 clear h
 replace H := Option.bind_eq_some_iff.mp H
 obtain ⟨⟨t240, t241, t242⟩, A30, H⟩ := H
 replace H : (some (t240, t241, t242)) = some (r1, r2, r3) := H
 have A3 := Aside0.mk A30
 clear A30
 simp only [Option.some.injEq, Prod.mk.injEq] at H
 obtain ⟨rfl, rfl, rfl⟩ := H
 go_enter Try.func104, Try.ntmps104
 go_wp2_with (first | ((with_reducible refine gate_callee (f := 113) rfl ?_); refine goesL_ (some 9) rfl rfl Try.func113 (by kernel_rfl) rfl #[.string a0, .int .i64 a1, .func (Fn.func 102) #[] #[]] rfl (by (try simp only [List.map_toArray, List.map_cons, List.map_nil]); first | done | rfl | (simp only [List.length_drop, List.length_take]; rfl)) ?_; (with_reducible refine (varint_read_int__by_varint_ReadNumber.calls k a0 a1 t240 t241 t242 _ A3.out).mono ?_); rintro e w4 ⟨v243, rfl, ho0, hb⟩; refine ⟨_, rfl, ?_⟩; have n0_ := Aside0.mk (Kd.R_lower ho0 (below_size (by repeat (first | (with_reducible first | exact HB.out | apply below_alloc | apply pw_below_drewN | apply below_drew1) | exact HB.out)))); have n1_ := Aside0.mk (below_step (by repeat (first | (with_reducible first | exact HB.out | apply below_alloc | apply pw_below_drewN | apply below_drew1) | exact HB.out)) hb); clear HB; have HO244 := n0_; have HB := n1_; clear n0_ n1_; (try clear hb); (try clear hb2); (try clear hk); (try clear hi); (try clear ho0)))
 go_ret3
 exact ⟨_, by first | rfl | (simp [errW_none, errW_some] <;> rfl) | (simp [*, errW_none, errW_some] <;> rfl), by (with_reducible repeat (first | apply Kd.R_alloc | apply Kd.R_drewN | apply Kd.R_drew)); exact HO244.out, by repeat (first | (with_reducible first | exact HB.out | apply below_alloc | apply pw_below_drewN | apply below_drew1) | exact HB.out)⟩
def codec_reader_numbers.f (k : Nat) (s0_0 : ByteArray) (s0_1 : Int) (s0_2 : Int) : Option (List Int × ByteArray × Int × Int) := if s0_2 = 0 then ((varint_ReadNumbers.f k s0_0 s0_1).bind fun r => some (r.1, s0_0, r.2.1, r.2.2)) else some ([], s0_0, s0_1, s0_2)
theorem codec_reader_numbers.mono : ∀ a0 a1 a2 k, LeO (codec_reader_numbers.f k a0 a1 a2) (codec_reader_numbers.f (k + 1) a0 a1 a2) := by
 intro a0 a1 a2 k
 unfold codec_reader_numbers.f
 exact LeO.ite (LeO.bind (varint_ReadNumbers.mono _ _ _) (fun _ => LeO.refl _)) (LeO.refl _)
theorem codec_reader_numbers.calls (k : Nat) (g : Nat) (s0_0 : ByteArray) (s0_1 : Int) (s0_2 : Int) (r1 : List Int) (r2 : ByteArray) (r3 : Int) (r4 : Int) (w0 w : World) (hI : IsS106 w0 w g s0_0 s0_1 s0_2) (hB : Below w0.heap.size w0 w) (h : codec_reader_numbers.f k s0_0 s0_1 s0_2 = some (r1, r2, r3, r4)) :
  Calls Try.prog 68 #[.pointer (some ⟨g, 0, none⟩)] w fun e w' => ∃ v0_ : Value, e = .returned v0_ ∧ Kd.R (Kd.int .i64) 3 w' w.heap.size (fun _ => True) v0_ r1 ∧ IsS106 w0 w' g r2 r3 r4 ∧ Below w0.heap.size w0 w' ∧ KeepBut w w' g none := by
 have HI := Aside0.mk hI
 have HB := Aside0.mk hB
 clear hB
 obtain ⟨HG, hg⟩ := hI
 have hc0 := cellS106_0 HG
 have hc1 := cellS106_1 HG
 have hc2 := cellS106_2 HG
 have hf0 := blk_frozen HG 0
 have hf1 := blk_frozen HG 1
 have hf2 := blk_frozen HG 2
 clear HG hg
 unfold codec_reader_numbers.f at h
 by_cases c : s0_2 = 0
 ·subst c
  rw [if_pos rfl, Option.bind_eq_some_iff] at h
  obtain ⟨⟨x1, x2, x3⟩, hx, h⟩ := h
  simp only [Option.some.injEq, Prod.mk.injEq] at h
  obtain ⟨rfl, rfl, rfl, rfl⟩ := h
  have HX := Aside0.mk hx
  clear hx
  go_enter Try.func68, Try.ntmps68
  go_wp2
  go_region_with (go_at_call 104; refine (varint_ReadNumbers.calls k s0_0 s0_1 x1 x2 x3 _ HX.out).mono ?_; rintro e w1 ⟨v0, rfl, hR, hb⟩; have HB2 := Aside0.mk ((below_drew1 (Below.refl w.heap.size w)).trans hb); have HR := Aside0.mk (show Kd.R (Kd.int .i64) 3 w1 w.heap.size (fun k_ => True ∧ k_ ≠ g) v0 x1 from (HI.out.below HB2.out).apart hR (by decide)); have HI1 := Aside0.mk (HI.out.below HB2.out); clear hR hb hc0 hc1 hc2 hf0 hf1 hf2; have hc0 := cellS106_0 HI1.out.1; have hc1 := cellS106_1 HI1.out.1; have hc2 := cellS106_2 HI1.out.1; have hf0 := blk_frozen HI1.out.1 0; have hf1 := blk_frozen HI1.out.1 1; have hf2 := blk_frozen HI1.out.1 2)
  all_goals
   go_wp2
   have HB1 := Aside0.mk (below_step HB.out HB2.out)
   have HK1 := Aside0.mk (KeepBut.of_below HB2.out g none)
   go_ret
   exact ⟨_, rfl, Kd.R_mono (Kd.R_far (p := ⟨g, 2, none⟩) (Kd.R_far (p := ⟨g, 1, none⟩) HR.out (fun _ hk => hk.2) _) (fun _ hk => hk.2) _) (fun _ _ => trivial), by repeat (first | exact HI1.out | apply IsS106.set_0 | apply IsS106.set_1 | apply IsS106.set_2), below_set (below_set HB1.out (IsS106.ge HI1.out)) (IsS106.ge HI1.out), by repeat (first | exact HK1.out | apply KeepBut.set_)⟩
 ·rw [if_neg c] at h
  have c1 : (s0_2 == 0) = false := beq_eq_false_iff_ne.mpr c
  have c2 : (s0_2 != 0) = true := bne_iff_ne.mpr c
  simp only [Option.some.injEq, Prod.mk.injEq] at h
  obtain ⟨rfl, rfl, rfl, rfl⟩ := h
  go_enter Try.func68, Try.ntmps68
  go_wp2
  go_ret
  exact ⟨_, rfl, Kd.R_nil _ _ _ _ _, HI.out, HB.out, KeepBut.refl _ _ _⟩
def varint_ReadText.f (k : Nat) (a0 : ByteArray) (a1 : Int) : Option (ByteArray × Int × Int) := (varint_count.f k a0 a1 4096).bind fun bt225 => (if bt225.2.2 = 0 then (if bt225.1 > (wrap64 ((a0.size : Int) - bt225.2.1)) then (some ((⟨#[]⟩ : ByteArray), 0, 5)) else (if 0 ≤ bt225.2.1 then (if bt225.2.1 ≤ (wrap64 (bt225.2.1 + bt225.1)) then (if (wrap64 (bt225.2.1 + bt225.1)) ≤ (a0.size : Int) then (some (a0.extract (bt225.2.1 : Int).toNat ((wrap64 (bt225.2.1 + bt225.1)) : Int).toNat, wrap64 (bt225.2.1 + bt225.1), 0)) else (none)) else (none)) else (none))) else (some ((⟨#[]⟩ : ByteArray), 0, bt225.2.2)))
theorem varint_ReadText.mono : ∀ a0 a1 k, LeO (varint_ReadText.f k a0 a1) (varint_ReadText.f (k + 1) a0 a1) := by
 intro a0 a1 k
 unfold varint_ReadText.f
 repeat' first
   | (with_reducible exact varint_count.mono _ _ _ _)
   | (with_reducible exact LeO.refl _)
   | (with_reducible exact LeO.none _)
   | (with_reducible refine LeO.ite ?_ ?_)
   | (with_reducible refine LeO.bind ?_ (fun _ => ?_))
   | exact varint_count.mono _ _ _ _
   | exact LeO.none _
   | refine LeO.ite ?_ ?_
   | refine LeO.bind ?_ (fun _ => ?_)
theorem varint_ReadText.calls (k : Nat) (a0 : ByteArray) (a1 : Int) (r1 : ByteArray) (r2 : Int) (r3 : Int) (w : World) (h : varint_ReadText.f k a0 a1 = some (r1, r2, r3)) :
  Calls Try.prog 103 #[.string a0, .int .i64 a1] w fun e w' => e = .returned (.tuple #[.string r1, .int .i64 r2, .int .i64 r3]) ∧ Drawn0 w w' := by
 have H : ((varint_count.f k a0 a1 4096).bind fun bt225 => (if bt225.2.2 = 0 then (if bt225.1 > (wrap64 ((a0.size : Int) - bt225.2.1)) then (some ((⟨#[]⟩ : ByteArray), 0, 5)) else (if 0 ≤ bt225.2.1 then (if bt225.2.1 ≤ (wrap64 (bt225.2.1 + bt225.1)) then (if (wrap64 (bt225.2.1 + bt225.1)) ≤ (a0.size : Int) then (some (a0.extract (bt225.2.1 : Int).toNat ((wrap64 (bt225.2.1 + bt225.1)) : Int).toNat, wrap64 (bt225.2.1 + bt225.1), 0)) else (none)) else (none)) else (none))) else (some ((⟨#[]⟩ : ByteArray), 0, bt225.2.2)))) = some (r1, r2, r3) := h
 clear h
 replace H := Option.bind_eq_some_iff.mp H
 obtain ⟨⟨t225, t226, t227⟩, A30, H⟩ := H
 replace H : (if t227 = 0 then (if t225 > (wrap64 ((a0.size : Int) - t226)) then (some ((⟨#[]⟩ : ByteArray), 0, 5)) else (if 0 ≤ t226 then (if t226 ≤ (wrap64 (t226 + t225)) then (if (wrap64 (t226 + t225)) ≤ (a0.size : Int) then (some (a0.extract (t226 : Int).toNat ((wrap64 (t226 + t225)) : Int).toNat, wrap64 (t226 + t225), 0)) else (none)) else (none)) else (none))) else (some ((⟨#[]⟩ : ByteArray), 0, t227))) = some (r1, r2, r3) := H
 have A3 := Aside0.mk A30
 clear A30
 by_cases c4 : t227 = 0
 ·rw [if_pos c4] at H
  have c4b0 : (t227 == 0) = true := beq_iff_eq.mpr c4
  have c4b1 : (t227 != 0) = false := bne_eq_false_iff_eq.mpr c4
  clear c4
  by_cases c5 : t225 > (wrap64 ((a0.size : Int) - t226))
  ·rw [if_pos c5] at H
   have c5b0 : decide ((wrap64 ((a0.size : Int) - t226)) < t225) = true := decide_eq_true c5
   clear c5
   simp only [Option.some.injEq, Prod.mk.injEq] at H
   obtain ⟨rfl, rfl, rfl⟩ := H
   go_enter Try.func103, Try.ntmps103
   go_wp2_with (first | ((with_reducible refine gate_callee (f := 112) rfl ?_); refine goesL_ (some 13) rfl rfl Try.func112 (by kernel_rfl) rfl #[.string a0, .int .i64 a1, .int .i64 4096] rfl (by (try simp only [List.map_toArray, List.map_cons, List.map_nil]); first | done | rfl | (simp only [List.length_drop, List.length_take]; rfl)) ?_; (with_reducible refine (varint_count.calls k a0 a1 4096 t225 t226 t227 _ A3.out).mono ?_); rintro e w' ⟨rfl, ⟨nd, rfl⟩⟩; refine ⟨_, rfl, ?_⟩))
   go_ret3
   exact ⟨by first | rfl | (simp; done) | (simp [*]; done), by repeat (first | exact Drawn0.refl _ | apply Drawn0.step)⟩
  ·rw [if_neg c5] at H
   have c5b0 : decide ((wrap64 ((a0.size : Int) - t226)) < t225) = false := decide_eq_false c5
   clear c5
   by_cases c6 : 0 ≤ t226
   ·rw [if_pos c6] at H
    have c6b0 := eq_true c6
    have c6b1 : decide (0 ≤ t226) = true := decide_eq_true c6
    clear c6
    by_cases c7 : t226 ≤ (wrap64 (t226 + t225))
    ·rw [if_pos c7] at H
     have c7b0 := eq_true c7
     have c7b1 : decide (t226 ≤ (wrap64 (t226 + t225))) = true := decide_eq_true c7
     by_cases c8 : (wrap64 (t226 + t225)) ≤ (a0.size : Int)
     ·rw [if_pos c8] at H
      have c8b0 := eq_true c8
      have c8b1 : decide ((wrap64 (t226 + t225)) ≤ (a0.size : Int)) = true := decide_eq_true c8
      simp only [Option.some.injEq, Prod.mk.injEq] at H
      obtain ⟨rfl, rfl, rfl⟩ := H
      go_enter Try.func103, Try.ntmps103
      go_wp2_with (first | ((with_reducible refine gate_callee (f := 112) rfl ?_); refine goesL_ (some 13) rfl rfl Try.func112 (by kernel_rfl) rfl #[.string a0, .int .i64 a1, .int .i64 4096] rfl (by (try simp only [List.map_toArray, List.map_cons, List.map_nil]); first | done | rfl | (simp only [List.length_drop, List.length_take]; rfl)) ?_; (with_reducible refine (varint_count.calls k a0 a1 4096 t225 t226 t227 _ A3.out).mono ?_); rintro e w' ⟨rfl, ⟨nd, rfl⟩⟩; refine ⟨_, rfl, ?_⟩))
      go_ret3
      exact ⟨by first | rfl | (simp; done) | (simp [*]; done), by repeat (first | exact Drawn0.refl _ | apply Drawn0.step)⟩
     ·rw [if_neg c8] at H
      exact absurd H (by simp)
    ·rw [if_neg c7] at H
     exact absurd H (by simp)
   ·rw [if_neg c6] at H
    exact absurd H (by simp)
 ·rw [if_neg c4] at H
  have c4b0 : (t227 == 0) = false := beq_eq_false_iff_ne.mpr c4
  have c4b1 : (t227 != 0) = true := bne_iff_ne.mpr c4
  simp only [Option.some.injEq, Prod.mk.injEq] at H
  obtain ⟨rfl, rfl, rfl⟩ := H
  go_enter Try.func103, Try.ntmps103
  go_wp2_with (first | ((with_reducible refine gate_callee (f := 112) rfl ?_); refine goesL_ (some 13) rfl rfl Try.func112 (by kernel_rfl) rfl #[.string a0, .int .i64 a1, .int .i64 4096] rfl (by (try simp only [List.map_toArray, List.map_cons, List.map_nil]); first | done | rfl | (simp only [List.length_drop, List.length_take]; rfl)) ?_; (with_reducible refine (varint_count.calls k a0 a1 4096 t225 t226 t227 _ A3.out).mono ?_); rintro e w' ⟨rfl, ⟨nd, rfl⟩⟩; refine ⟨_, rfl, ?_⟩))
  go_ret3
  exact ⟨by first | rfl | (simp; done) | (simp [*]; done), by repeat (first | exact Drawn0.refl _ | apply Drawn0.step)⟩
def codec_reader_text.f (k : Nat) (s0_0 : ByteArray) (s0_1 : Int) (s0_2 : Int) : Option (ByteArray × ByteArray × Int × Int) := if s0_2 = 0 then ((varint_ReadText.f k s0_0 s0_1).bind fun bt228 => (some (bt228.1, s0_0, bt228.2.1, bt228.2.2))) else (some ((⟨#[]⟩ : ByteArray), s0_0, s0_1, s0_2))
theorem codec_reader_text.mono : ∀ a0 a1 a2 k, LeO (codec_reader_text.f k a0 a1 a2) (codec_reader_text.f (k + 1) a0 a1 a2) := by
 intro a0 a1 a2 k
 unfold codec_reader_text.f
 repeat' first
   | (with_reducible exact varint_ReadText.mono _ _ _)
   | (with_reducible exact LeO.refl _)
   | (with_reducible exact LeO.none _)
   | (with_reducible refine LeO.ite ?_ ?_)
   | (with_reducible refine LeO.bind ?_ (fun _ => ?_))
   | exact varint_ReadText.mono _ _ _
   | exact LeO.none _
   | refine LeO.ite ?_ ?_
   | refine LeO.bind ?_ (fun _ => ?_)
theorem codec_reader_text.calls (k : Nat) (g : Nat) (s0_0 : ByteArray) (s0_1 : Int) (s0_2 : Int) (r1 : ByteArray) (r2 : ByteArray) (r3 : Int) (r4 : Int) (w0 w : World) (hI : IsS106 w0 w g s0_0 s0_1 s0_2) (hB : Below w0.heap.size w0 w) (h : codec_reader_text.f k s0_0 s0_1 s0_2 = some (r1, r2, r3, r4)) :
  Calls Try.prog 67 #[.pointer (some ⟨g, 0, none⟩)] w fun e w' => e = .returned (.string r1) ∧ IsS106 w0 w' g r2 r3 r4 ∧ Below w0.heap.size w0 w' ∧ KeepBut w w' g none := by
 have HI0 := Aside0.mk hI
 have HK := Aside0.mk (KeepBut.refl w g none)
 have HL := Aside0.mk hB.size
 clear hI
 have HW0 := Aside0.mk hB.size
 have HB := Aside0.mk hB
 clear hB
 have H : (if s0_2 = 0 then ((varint_ReadText.f k s0_0 s0_1).bind fun bt228 => (some (bt228.1, s0_0, bt228.2.1, bt228.2.2))) else (some ((⟨#[]⟩ : ByteArray), s0_0, s0_1, s0_2))) = some (r1, r2, r3, r4) := h
 clear h
 by_cases c2 : s0_2 = 0
 ·rw [if_pos c2] at H
  have c2b0 : (s0_2 == 0) = true := beq_iff_eq.mpr c2
  have c2b1 : (s0_2 != 0) = false := bne_eq_false_iff_eq.mpr c2
  clear c2
  replace H := Option.bind_eq_some_iff.mp H
  obtain ⟨⟨t228, t229, t230⟩, A30, H⟩ := H
  replace H : (some (t228, s0_0, t229, t230)) = some (r1, r2, r3, r4) := H
  have A3 := Aside0.mk A30
  clear A30
  simp only [Option.some.injEq, Prod.mk.injEq] at H
  obtain ⟨rfl, rfl, rfl, rfl⟩ := H
  obtain ⟨HGz4, hgz4⟩ := HI0.out
  have hcz4_0 := cellS106_0 HGz4
  have hcz4_1 := cellS106_1 HGz4
  have hcz4_2 := cellS106_2 HGz4
  have hfz4_0 := blk_frozen HGz4 0
  have hfz4_1 := blk_frozen HGz4 1
  have hfz4_2 := blk_frozen HGz4 2
  clear HGz4 hgz4
  go_enter Try.func67, Try.ntmps67
  go_wp2_with (first | (go_at_call 103; (with_reducible refine (varint_ReadText.calls k s0_0 s0_1 t228 t229 t230 _ A3.out).mono ?_); rintro e w' ⟨rfl, ⟨nd, rfl⟩⟩; (try first | exact ⟨rfl, _, World.drewN_drewN _ _ _⟩ | exact ⟨rfl, _, Eq.trans (World.drewN_drewN _ _ _) (congrArg (World.drewN _) (Nat.add_assoc _ _ _))⟩)))
  repeat (go_quiet (first | (go_at_call 103; (with_reducible refine (varint_ReadText.calls k s0_0 s0_1 t228 t229 t230 _ A3.out).mono ?_); rintro e w' ⟨rfl, ⟨nd, rfl⟩⟩; (try first | exact ⟨rfl, _, World.drewN_drewN _ _ _⟩ | exact ⟨rfl, _, Eq.trans (World.drewN_drewN _ _ _) (congrArg (World.drewN _) (Nat.add_assoc _ _ _))⟩))); try go_wp2_with (first | (go_at_call 103; (with_reducible refine (varint_ReadText.calls k s0_0 s0_1 t228 t229 t230 _ A3.out).mono ?_); rintro e w' ⟨rfl, ⟨nd, rfl⟩⟩; (try first | exact ⟨rfl, _, World.drewN_drewN _ _ _⟩ | exact ⟨rfl, _, Eq.trans (World.drewN_drewN _ _ _) (congrArg (World.drewN _) (Nat.add_assoc _ _ _))⟩))))
  go_ret
  exact ⟨by first | rfl | (simp [errW_none, errW_some] <;> rfl) | (simp [*, errW_none, errW_some] <;> rfl), by repeat (first | (with_reducible first | exact HI0.out | apply IsS106.alloc | apply IsS106.drewN | apply IsS106.drew | apply IsS106.set_0 | apply IsS106.set_1 | apply IsS106.set_2) | exact HI0.out), by repeat (first | (with_reducible first | exact HB.out | apply below_alloc | apply pw_below_drewN | apply below_drew1 | refine below_set ?_ (IsS106.ge HI0.out)) | exact HB.out), by repeat (first | (with_reducible first | exact HK.out | apply KeepBut.set_ | apply keep_drewN | apply keep_drew | apply keep_alloc) | exact HK.out)⟩
 ·rw [if_neg c2] at H
  have c2b0 : (s0_2 == 0) = false := beq_eq_false_iff_ne.mpr c2
  have c2b1 : (s0_2 != 0) = true := bne_iff_ne.mpr c2
  simp only [Option.some.injEq, Prod.mk.injEq] at H
  obtain ⟨rfl, rfl, rfl, rfl⟩ := H
  obtain ⟨HGz5, hgz5⟩ := HI0.out
  have hcz5_0 := cellS106_0 HGz5
  have hcz5_1 := cellS106_1 HGz5
  have hcz5_2 := cellS106_2 HGz5
  have hfz5_0 := blk_frozen HGz5 0
  have hfz5_1 := blk_frozen HGz5 1
  have hfz5_2 := blk_frozen HGz5 2
  clear HGz5 hgz5
  go_enter Try.func67, Try.ntmps67
  go_wp2
  repeat (go_quiet (fail); try go_wp2)
  go_ret
  exact ⟨by first | rfl | (simp [errW_none, errW_some] <;> rfl) | (simp [*, errW_none, errW_some] <;> rfl), by repeat (first | (with_reducible first | exact HI0.out | apply IsS106.alloc | apply IsS106.drewN | apply IsS106.drew | apply IsS106.set_0 | apply IsS106.set_1 | apply IsS106.set_2) | exact HI0.out), by repeat (first | (with_reducible first | exact HB.out | apply below_alloc | apply pw_below_drewN | apply below_drew1 | refine below_set ?_ (IsS106.ge HI0.out)) | exact HB.out), by repeat (first | (with_reducible first | exact HK.out | apply KeepBut.set_ | apply keep_drewN | apply keep_drew | apply keep_alloc) | exact HK.out)⟩
def codec_ReadCmd.f (k : Nat) (a0 : ByteArray) (a1 : Int) : Option (Int × Int × ByteArray × Int × (List Int) × Int × Int × Int) := (codec_reader_number.f k a0 a1 0).bind fun t1 => (codec_reader_number.f k t1.2.1 t1.2.2.1 t1.2.2.2).bind fun t2 => (codec_reader_text.f k t2.2.1 t2.2.2.1 t2.2.2.2).bind fun t3 => (codec_reader_number.f k t3.2.1 t3.2.2.1 t3.2.2.2).bind fun t4 => (codec_reader_numbers.f k t4.2.1 t4.2.2.1 t4.2.2.2).bind fun t5 => (codec_reader_number.f k t5.2.1 t5.2.2.1 t5.2.2.2).bind fun t6 => if t6.2.2.2 = 0 then (codec_cmd.f k t1.1 t2.1 t3.1 t4.1 t5.1 t6.1).bind fun b => if b = true then some (t1.1, t2.1, t3.1, t4.1, t5.1, t6.1, t6.2.2.1, 0) else some (0, 0, (⟨#[]⟩ : ByteArray), 0, [], 0, 0, 6) else some (0, 0, (⟨#[]⟩ : ByteArray), 0, [], 0, 0, t6.2.2.2)
theorem codec_ReadCmd.mono : ∀ a0 a1 k, LeO (codec_ReadCmd.f k a0 a1) (codec_ReadCmd.f (k + 1) a0 a1) := by
 intro a0 a1 k
 unfold codec_ReadCmd.f
 exact LeO.bind (codec_reader_number.mono _ _ _ _) (fun _ => LeO.bind (codec_reader_number.mono _ _ _ _) (fun _ => LeO.bind (codec_reader_text.mono _ _ _ _) (fun _ => LeO.bind (codec_reader_number.mono _ _ _ _) (fun _ => LeO.bind (codec_reader_numbers.mono _ _ _ _) (fun _ => LeO.bind (codec_reader_number.mono _ _ _ _) (fun _ => LeO.ite (LeO.bind (codec_cmd.mono _ _ _ _ _ _ _) (fun _ => LeO.refl _)) (LeO.refl _)))))))
theorem codec_ReadCmd.calls (k : Nat) (a0 : ByteArray) (a1 : Int) (r1 : Int) (r2 : Int) (r3 : ByteArray) (r4 : Int) (r5 : List Int) (r6 : Int) (r7 : Int) (r8 : Int) (w : World) (h : codec_ReadCmd.f k a0 a1 = some (r1, r2, r3, r4, r5, r6, r7, r8)) :
  Calls Try.prog 28 #[.string a0, .int .i64 a1] w fun e w' => ∃ v_ : Value, e = .returned (.tuple #[.agg #[.int .i64 r1, .int .i64 r2, .string r3, .int .i64 r4, v_, .int .i64 r6], .int .i64 r7, .int .i64 r8]) ∧ Kd.R (Kd.int .i64) 3 w' w.heap.size (fun _ => True) v_ r5 ∧ Below w.heap.size w w' := by
 unfold codec_ReadCmd.f at h
 have HB := Aside0.mk (Below.refl w.heap.size w)
 rw [Option.bind_eq_some_iff] at h
 obtain ⟨⟨v1, s1, p1, e1⟩, hx1, h⟩ := h
 have HX1 := Aside0.mk hx1
 clear hx1
 dsimp only at h HX1
 rw [Option.bind_eq_some_iff] at h
 obtain ⟨⟨v2, s2, p2, e2⟩, hx2, h⟩ := h
 have HX2 := Aside0.mk hx2
 clear hx2
 dsimp only at h HX2
 rw [Option.bind_eq_some_iff] at h
 obtain ⟨⟨v3, s3, p3, e3⟩, hx3, h⟩ := h
 have HX3 := Aside0.mk hx3
 clear hx3
 dsimp only at h HX3
 rw [Option.bind_eq_some_iff] at h
 obtain ⟨⟨v4, s4, p4, e4⟩, hx4, h⟩ := h
 have HX4 := Aside0.mk hx4
 clear hx4
 dsimp only at h HX4
 rw [Option.bind_eq_some_iff] at h
 obtain ⟨⟨v5, s5, p5, e5⟩, hx5, h⟩ := h
 have HX5 := Aside0.mk hx5
 clear hx5
 dsimp only at h HX5
 rw [Option.bind_eq_some_iff] at h
 obtain ⟨⟨v6, s6, p6, e6⟩, hx6, h⟩ := h
 have HX6 := Aside0.mk hx6
 clear hx6
 dsimp only at h HX6
 by_cases c0 : e6 = 0
 ·subst c0
  rw [if_pos rfl, Option.bind_eq_some_iff] at h
  obtain ⟨b, hb, h⟩ := h
  have HOK := Aside0.mk hb
  clear hb
  cases b with
  | true =>
   rw [if_pos rfl] at h
   simp only [Option.some.injEq, Prod.mk.injEq] at h
   obtain ⟨rfl, rfl, rfl, rfl, rfl, rfl, rfl, rfl⟩ := h
   go_enter Try.func28, Try.ntmps28
   go_wp2_with (first | ((with_reducible refine gate_dst (N := 4) rfl ?_); refine box_event ?hg (N := 4) ?hd (cs := #[.int .i64 0, .int .i64 0, .string ⟨#[]⟩, .int .i64 0, .slice none 0 0, .int .i64 0]) (t := 24) ?hr ?_; (case hd => rfl); (case hg => rfl); (case hr => first | (go_simp; done) | (go_simp; rfl)); intro g_res hg_ w1_ hbox_ hb_; have n0_ := Aside0.mk (below_step HB.out hb_); have n1_ := Aside0.mk ((by rw [hg_]; exact HB.out.size : w.heap.size ≤ g_res)); have n2_ := Aside0.mk (hbox_); (try clear HB); (try clear GE_res); (try clear BK_res); have HB := n0_; have GE_res := n1_; have BK_res := n2_; clear n0_ n1_ n2_; clear hbox_ hb_ hg_; obtain ⟨hc_res_0, hc_res_1, hc_res_2, hc_res_3, hc_res_4, hc_res_5, hf_res_0, hf_res_1, hf_res_2, hf_res_3, hf_res_4, hf_res_5⟩ := box6 BK_res.out) | ((with_reducible refine gate_dst (N := 12) rfl ?_); refine box_event ?hg (N := 12) ?hd (cs := #[.string a0, .int .i64 a1, .int .i64 0]) (t := 106) ?hr ?_; (case hd => rfl); (case hg => rfl); (case hr => first | (go_simp; done) | (go_simp; rfl)); intro g_rd hg_ w2_ hbox_ hb_; have n0_ := Aside0.mk (blk_below BK_res.out hb_); have n1_ := Aside0.mk (below_step HB.out hb_); have n2_ := Aside0.mk ((by rw [hg_]; exact HB.out.size : w.heap.size ≤ g_rd)); have n3_ := Aside0.mk (show IsS106 w w2_ g_rd a0 a1 0 from ⟨hbox_, by rw [hg_]; exact HB.out.size⟩); (try clear BK_res); (try clear HB); (try clear GE_rd); (try clear HI); have BK_res := n0_; have HB := n1_; have GE_rd := n2_; have HI := n3_; clear n0_ n1_ n2_ n3_; (try clear hc_res_0 hc_res_1 hc_res_2 hc_res_3 hc_res_4 hc_res_5 hf_res_0 hf_res_1 hf_res_2 hf_res_3 hf_res_4 hf_res_5); clear hbox_ hb_ hg_; obtain ⟨hc_res_0, hc_res_1, hc_res_2, hc_res_3, hc_res_4, hc_res_5, hf_res_0, hf_res_1, hf_res_2, hf_res_3, hf_res_4, hf_res_5⟩ := box6 BK_res.out; obtain ⟨hc_st_0, hc_st_1, hc_st_2, hf_st_0, hf_st_1, hf_st_2⟩ := box3 HI.out.1) | (go_at_call 66; (with_reducible refine (codec_reader_number.calls k g_rd a0 a1 0 v1 s1 p1 e1 w _ HI.out HB.out HX1.out).mono ?_); rintro e_ w3_ ⟨rfl, hi_, hb_, hk_⟩; have n0_ := Aside0.mk (hk_.blk BK_res.out (Ne.symm (HI.out.ne_blk BK_res.out (by decide))) (by simp)); have n1_ := Aside0.mk (hi_); have n2_ := Aside0.mk (hb_); (try clear BK_res); (try clear HI); (try clear HB); have BK_res := n0_; have HI := n1_; have HB := n2_; clear n0_ n1_ n2_; (try clear hc_res_0 hc_res_1 hc_res_2 hc_res_3 hc_res_4 hc_res_5 hf_res_0 hf_res_1 hf_res_2 hf_res_3 hf_res_4 hf_res_5); (try clear hc_st_0 hc_st_1 hc_st_2 hf_st_0 hf_st_1 hf_st_2); (try clear hi_); (try clear hb_); (try clear hk_); obtain ⟨hc_res_0, hc_res_1, hc_res_2, hc_res_3, hc_res_4, hc_res_5, hf_res_0, hf_res_1, hf_res_2, hf_res_3, hf_res_4, hf_res_5⟩ := box6 BK_res.out; obtain ⟨hc_st_0, hc_st_1, hc_st_2, hf_st_0, hf_st_1, hf_st_2⟩ := box3 HI.out.1) | (go_at_call 66; (with_reducible refine (codec_reader_number.calls k g_rd s1 p1 e1 v2 s2 p2 e2 w _ HI.out HB.out HX2.out).mono ?_); rintro e_ w4_ ⟨rfl, hi_, hb_, hk_⟩; have n0_ := Aside0.mk (hk_.blk BK_res.out (Ne.symm (HI.out.ne_blk BK_res.out (by decide))) (by simp)); have n1_ := Aside0.mk (hi_); have n2_ := Aside0.mk (hb_); (try clear BK_res); (try clear HI); (try clear HB); have BK_res := n0_; have HI := n1_; have HB := n2_; clear n0_ n1_ n2_; (try clear hc_res_0 hc_res_1 hc_res_2 hc_res_3 hc_res_4 hc_res_5 hf_res_0 hf_res_1 hf_res_2 hf_res_3 hf_res_4 hf_res_5); (try clear hc_st_0 hc_st_1 hc_st_2 hf_st_0 hf_st_1 hf_st_2); (try clear hi_); (try clear hb_); (try clear hk_); obtain ⟨hc_res_0, hc_res_1, hc_res_2, hc_res_3, hc_res_4, hc_res_5, hf_res_0, hf_res_1, hf_res_2, hf_res_3, hf_res_4, hf_res_5⟩ := box6 BK_res.out; obtain ⟨hc_st_0, hc_st_1, hc_st_2, hf_st_0, hf_st_1, hf_st_2⟩ := box3 HI.out.1) | (go_at_call 67; (with_reducible refine (codec_reader_text.calls k g_rd s2 p2 e2 v3 s3 p3 e3 w _ HI.out HB.out HX3.out).mono ?_); rintro e_ w5_ ⟨rfl, hi_, hb_, hk_⟩; have n0_ := Aside0.mk (hk_.blk BK_res.out (Ne.symm (HI.out.ne_blk BK_res.out (by decide))) (by simp)); have n1_ := Aside0.mk (hi_); have n2_ := Aside0.mk (hb_); (try clear BK_res); (try clear HI); (try clear HB); have BK_res := n0_; have HI := n1_; have HB := n2_; clear n0_ n1_ n2_; (try clear hc_res_0 hc_res_1 hc_res_2 hc_res_3 hc_res_4 hc_res_5 hf_res_0 hf_res_1 hf_res_2 hf_res_3 hf_res_4 hf_res_5); (try clear hc_st_0 hc_st_1 hc_st_2 hf_st_0 hf_st_1 hf_st_2); (try clear hi_); (try clear hb_); (try clear hk_); obtain ⟨hc_res_0, hc_res_1, hc_res_2, hc_res_3, hc_res_4, hc_res_5, hf_res_0, hf_res_1, hf_res_2, hf_res_3, hf_res_4, hf_res_5⟩ := box6 BK_res.out; obtain ⟨hc_st_0, hc_st_1, hc_st_2, hf_st_0, hf_st_1, hf_st_2⟩ := box3 HI.out.1) | (go_at_call 66; (with_reducible refine (codec_reader_number.calls k g_rd s3 p3 e3 v4 s4 p4 e4 w _ HI.out HB.out HX4.out).mono ?_); rintro e_ w6_ ⟨rfl, hi_, hb_, hk_⟩; have n0_ := Aside0.mk (hk_.blk BK_res.out (Ne.symm (HI.out.ne_blk BK_res.out (by decide))) (by simp)); have n1_ := Aside0.mk (hi_); have n2_ := Aside0.mk (hb_); (try clear BK_res); (try clear HI); (try clear HB); have BK_res := n0_; have HI := n1_; have HB := n2_; clear n0_ n1_ n2_; (try clear hc_res_0 hc_res_1 hc_res_2 hc_res_3 hc_res_4 hc_res_5 hf_res_0 hf_res_1 hf_res_2 hf_res_3 hf_res_4 hf_res_5); (try clear hc_st_0 hc_st_1 hc_st_2 hf_st_0 hf_st_1 hf_st_2); (try clear hi_); (try clear hb_); (try clear hk_); obtain ⟨hc_res_0, hc_res_1, hc_res_2, hc_res_3, hc_res_4, hc_res_5, hf_res_0, hf_res_1, hf_res_2, hf_res_3, hf_res_4, hf_res_5⟩ := box6 BK_res.out; obtain ⟨hc_st_0, hc_st_1, hc_st_2, hf_st_0, hf_st_1, hf_st_2⟩ := box3 HI.out.1) | (go_at_call 68; (with_reducible refine (codec_reader_numbers.calls k g_rd s4 p4 e4 v5 s5 p5 e5 w _ HI.out HB.out HX5.out).mono ?_); rintro e_ w7_ ⟨v_, rfl, hr_, hi_, hb_, hk_⟩; obtain ⟨A_l, c_l, ev_⟩ := Kd.R_slice hr_; subst ev_; have n0_ := Aside0.mk (hk_.blk BK_res.out (Ne.symm (HI.out.ne_blk BK_res.out (by decide))) (by simp)); have n1_ := Aside0.mk (Kd.R_lower hr_ HB.out.size); have n2_ := Aside0.mk (hi_); have n3_ := Aside0.mk (hb_); (try clear BK_res); (try clear HR_l); (try clear HI); (try clear HB); have BK_res := n0_; have HR_l := n1_; have HI := n2_; have HB := n3_; clear n0_ n1_ n2_ n3_; (try clear hc_res_0 hc_res_1 hc_res_2 hc_res_3 hc_res_4 hc_res_5 hf_res_0 hf_res_1 hf_res_2 hf_res_3 hf_res_4 hf_res_5); (try clear hc_st_0 hc_st_1 hc_st_2 hf_st_0 hf_st_1 hf_st_2); (try clear hi_); (try clear hb_); (try clear hk_); (try clear hr_); obtain ⟨hc_res_0, hc_res_1, hc_res_2, hc_res_3, hc_res_4, hc_res_5, hf_res_0, hf_res_1, hf_res_2, hf_res_3, hf_res_4, hf_res_5⟩ := box6 BK_res.out; obtain ⟨hc_st_0, hc_st_1, hc_st_2, hf_st_0, hf_st_1, hf_st_2⟩ := box3 HI.out.1) | (go_at_call 66; (with_reducible refine (codec_reader_number.calls k g_rd s5 p5 e5 v6 s6 p6 0 w _ HI.out HB.out HX6.out).mono ?_); rintro e_ w8_ ⟨rfl, hi_, hb_, hk_⟩; have n0_ := Aside0.mk (hk_.blk BK_res.out (Ne.symm (HI.out.ne_blk BK_res.out (by decide))) (by simp)); have n1_ := Aside0.mk (Kd.R_mono (Kd.R_keep (HI.out.apart HR_l.out (by decide)) hk_ (fun _ h_ => h_.2)) (fun _ h_ => h_.1)); have n2_ := Aside0.mk (hi_); have n3_ := Aside0.mk (hb_); (try clear BK_res); (try clear HR_l); (try clear HI); (try clear HB); have BK_res := n0_; have HR_l := n1_; have HI := n2_; have HB := n3_; clear n0_ n1_ n2_ n3_; (try clear hc_res_0 hc_res_1 hc_res_2 hc_res_3 hc_res_4 hc_res_5 hf_res_0 hf_res_1 hf_res_2 hf_res_3 hf_res_4 hf_res_5); (try clear hc_st_0 hc_st_1 hc_st_2 hf_st_0 hf_st_1 hf_st_2); (try clear hi_); (try clear hb_); (try clear hk_); obtain ⟨hc_res_0, hc_res_1, hc_res_2, hc_res_3, hc_res_4, hc_res_5, hf_res_0, hf_res_1, hf_res_2, hf_res_3, hf_res_4, hf_res_5⟩ := box6 BK_res.out; obtain ⟨hc_st_0, hc_st_1, hc_st_2, hf_st_0, hf_st_1, hf_st_2⟩ := box3 HI.out.1) | ((with_reducible refine gate_dst (N := 8) rfl ?_); refine box_event ?hg (N := 8) ?hd (cs := #[.int .i64 0, .int .i64 0, .string ⟨#[]⟩, .int .i64 0, .slice none 0 0, .int .i64 0]) (t := 24) ?hr ?_; (case hd => rfl); (case hg => rfl); (case hr => first | (go_simp; done) | (go_simp; rfl)); intro g_c hg_ w9_ hbox_ hb_; have n0_ := Aside0.mk (blk_below BK_res.out hb_); have n1_ := Aside0.mk (HI.out.below hb_); have n2_ := Aside0.mk (Kd.R_below HR_l.out hb_); have n3_ := Aside0.mk (below_step HB.out hb_); have n4_ := Aside0.mk ((by rw [hg_]; exact HB.out.size : w.heap.size ≤ g_c)); have n5_ := Aside0.mk ((by rw [hg_]; exact Nat.ne_of_lt (blk_lt BK_res.out) : g_res ≠ g_c)); have n6_ := Aside0.mk (hbox_); (try clear BK_res); (try clear HI); (try clear HR_l); (try clear HB); (try clear GE_c); (try clear NB_res_c); (try clear BK_c); have BK_res := n0_; have HI := n1_; have HR_l := n2_; have HB := n3_; have GE_c := n4_; have NB_res_c := n5_; have BK_c := n6_; clear n0_ n1_ n2_ n3_ n4_ n5_ n6_; (try clear hc_res_0 hc_res_1 hc_res_2 hc_res_3 hc_res_4 hc_res_5 hf_res_0 hf_res_1 hf_res_2 hf_res_3 hf_res_4 hf_res_5); (try clear hc_st_0 hc_st_1 hc_st_2 hf_st_0 hf_st_1 hf_st_2); clear hbox_ hb_ hg_; obtain ⟨hc_res_0, hc_res_1, hc_res_2, hc_res_3, hc_res_4, hc_res_5, hf_res_0, hf_res_1, hf_res_2, hf_res_3, hf_res_4, hf_res_5⟩ := box6 BK_res.out; obtain ⟨hc_c_0, hc_c_1, hc_c_2, hc_c_3, hc_c_4, hc_c_5, hf_c_0, hf_c_1, hf_c_2, hf_c_3, hf_c_4, hf_c_5⟩ := box6 BK_c.out; obtain ⟨hc_st_0, hc_st_1, hc_st_2, hf_st_0, hf_st_1, hf_st_2⟩ := box3 HI.out.1) | ((with_reducible refine gate_store (t := 24) (p := 8) rfl ?_); refine store_event (t := 24) (p := 8) (v := ?vo_w10_) (w1 := ((((((w9_.setCell ⟨g_c, 0, none⟩ (.int .i64 v1)).setCell ⟨g_c, 1, none⟩ (.int .i64 v2)).setCell ⟨g_c, 2, none⟩ (.string v3)).setCell ⟨g_c, 3, none⟩ (.int .i64 v4)).setCell ⟨g_c, 4, none⟩ (.slice A_l v5.length c_l)).setCell ⟨g_c, 5, none⟩ (.int .i64 v6))) ?hg ?ho ?hn ?hr ?_; (case ho => rfl); (case hg => rfl); (case hn => rfl); (case hr => first | (go_simp; done) | (go_simp; rfl)); intro w10_ hw_; have n0_ : Aside0 (w10_.heap[g_c]? = some (.cells #[.int .i64 v1, .int .i64 v2, .string v3, .int .i64 v4, .slice A_l v5.length c_l, .int .i64 v6] 24 (0, 0))) := ⟨(by rw [hw_]; exact (blk_put (cs' := #[.int .i64 v1, .int .i64 v2, .string v3, .int .i64 v4, .slice A_l v5.length c_l, .int .i64 v6]) (blk_put (cs' := #[.int .i64 v1, .int .i64 v2, .string v3, .int .i64 v4, .slice A_l v5.length c_l, .int .i64 0]) (blk_put (cs' := #[.int .i64 v1, .int .i64 v2, .string v3, .int .i64 v4, .slice none 0 0, .int .i64 0]) (blk_put (cs' := #[.int .i64 v1, .int .i64 v2, .string v3, .int .i64 0, .slice none 0 0, .int .i64 0]) (blk_put (cs' := #[.int .i64 v1, .int .i64 v2, .string ⟨#[]⟩, .int .i64 0, .slice none 0 0, .int .i64 0]) (blk_put (cs' := #[.int .i64 v1, .int .i64 0, .string ⟨#[]⟩, .int .i64 0, .slice none 0 0, .int .i64 0]) (BK_c.out) 0 _ rfl) 1 _ rfl) 2 _ rfl) 3 _ rfl) 4 _ rfl) 5 _ rfl))⟩; have n1_ : Aside0 (w10_.heap[g_res]? = some (.cells #[.int .i64 0, .int .i64 0, .string ⟨#[]⟩, .int .i64 0, .slice none 0 0, .int .i64 0] 24 (0, 0))) := ⟨(by rw [hw_]; exact (blk_far (p := ⟨g_c, 5, none⟩) (blk_far (p := ⟨g_c, 4, none⟩) (blk_far (p := ⟨g_c, 3, none⟩) (blk_far (p := ⟨g_c, 2, none⟩) (blk_far (p := ⟨g_c, 1, none⟩) (blk_far (p := ⟨g_c, 0, none⟩) (BK_res.out) (NB_res_c.out) _) (NB_res_c.out) _) (NB_res_c.out) _) (NB_res_c.out) _) (NB_res_c.out) _) (NB_res_c.out) _))⟩; have n2_ : Aside0 (IsS106 w w10_ g_rd s6 p6 0) := ⟨(by rw [hw_]; exact (IsS106.far (p := ⟨g_c, 5, none⟩) (IsS106.far (p := ⟨g_c, 4, none⟩) (IsS106.far (p := ⟨g_c, 3, none⟩) (IsS106.far (p := ⟨g_c, 2, none⟩) (IsS106.far (p := ⟨g_c, 1, none⟩) (IsS106.far (p := ⟨g_c, 0, none⟩) (HI.out) (HI.out.ne_blk BK_c.out (by decide)) _) (HI.out.ne_blk BK_c.out (by decide)) _) (HI.out.ne_blk BK_c.out (by decide)) _) (HI.out.ne_blk BK_c.out (by decide)) _) (HI.out.ne_blk BK_c.out (by decide)) _) (HI.out.ne_blk BK_c.out (by decide)) _))⟩; have n3_ : Aside0 (Kd.R (Kd.int .i64) 3 w10_ w.heap.size (fun _ => True) (.slice A_l v5.length c_l) v5) := ⟨(by rw [hw_]; exact (Kd.R_mono (Kd.R_far (p := ⟨g_c, 5, none⟩) (Kd.R_far (p := ⟨g_c, 4, none⟩) (Kd.R_far (p := ⟨g_c, 3, none⟩) (Kd.R_far (p := ⟨g_c, 2, none⟩) (Kd.R_far (p := ⟨g_c, 1, none⟩) (Kd.R_far (p := ⟨g_c, 0, none⟩) (Kd.R_types HR_l.out BK_c.out (by decide)) (fun _ hk => hk.2) _) (fun _ hk => hk.2) _) (fun _ hk => hk.2) _) (fun _ hk => hk.2) _) (fun _ hk => hk.2) _) (fun _ hk => hk.2) _) (fun _ hk => hk.1)))⟩; have n4_ : Aside0 (Below w.heap.size w w10_) := ⟨(by rw [hw_]; exact (below_set (g := g_c) (j := 5) (below_set (g := g_c) (j := 4) (below_set (g := g_c) (j := 3) (below_set (g := g_c) (j := 2) (below_set (g := g_c) (j := 1) (below_set (g := g_c) (j := 0) (HB.out) GE_c.out) GE_c.out) GE_c.out) GE_c.out) GE_c.out) GE_c.out))⟩; (try clear BK_c); (try clear BK_res); (try clear HI); (try clear HR_l); (try clear HB); have BK_c := n0_; have BK_res := n1_; have HI := n2_; have HR_l := n3_; have HB := n4_; clear n0_ n1_ n2_ n3_ n4_; (try clear hc_res_0 hc_res_1 hc_res_2 hc_res_3 hc_res_4 hc_res_5 hf_res_0 hf_res_1 hf_res_2 hf_res_3 hf_res_4 hf_res_5); (try clear hc_c_0 hc_c_1 hc_c_2 hc_c_3 hc_c_4 hc_c_5 hf_c_0 hf_c_1 hf_c_2 hf_c_3 hf_c_4 hf_c_5); (try clear hc_st_0 hc_st_1 hc_st_2 hf_st_0 hf_st_1 hf_st_2); clear hw_; obtain ⟨hc_res_0, hc_res_1, hc_res_2, hc_res_3, hc_res_4, hc_res_5, hf_res_0, hf_res_1, hf_res_2, hf_res_3, hf_res_4, hf_res_5⟩ := box6 BK_res.out; obtain ⟨hc_c_0, hc_c_1, hc_c_2, hc_c_3, hc_c_4, hc_c_5, hf_c_0, hf_c_1, hf_c_2, hf_c_3, hf_c_4, hf_c_5⟩ := box6 BK_c.out; obtain ⟨hc_st_0, hc_st_1, hc_st_2, hf_st_0, hf_st_1, hf_st_2⟩ := box3 HI.out.1) | (go_at_call 69; (with_reducible refine (end_cmd_true k g_rd s6 p6 v1 v2 v3 v4 A_l c_l v5 v6 w _ HI.out HB.out (Kd.C_foot_own (HI.out.apart HR_l.out (by decide)) (fun _ h_ => h_.2)) (Kd.R_reads' HR_l.out).2.1 HOK.out).mono ?_); rintro e_ w11_ ⟨rfl, hi_, hb_, hk_⟩; have n0_ := Aside0.mk (hk_.blk BK_res.out (Ne.symm (HI.out.ne_blk BK_res.out (by decide))) (by simp)); have n1_ := Aside0.mk (hk_.blk BK_c.out (Ne.symm (HI.out.ne_blk BK_c.out (by decide))) (by simp)); have n2_ := Aside0.mk (Kd.R_mono (Kd.R_keep (HI.out.apart HR_l.out (by decide)) hk_ (fun _ h_ => h_.2)) (fun _ h_ => h_.1)); have n3_ := Aside0.mk (hi_); have n4_ := Aside0.mk (hb_); (try clear BK_res); (try clear BK_c); (try clear HR_l); (try clear HI); (try clear HB); have BK_res := n0_; have BK_c := n1_; have HR_l := n2_; have HI := n3_; have HB := n4_; clear n0_ n1_ n2_ n3_ n4_; (try clear hc_res_0 hc_res_1 hc_res_2 hc_res_3 hc_res_4 hc_res_5 hf_res_0 hf_res_1 hf_res_2 hf_res_3 hf_res_4 hf_res_5); (try clear hc_c_0 hc_c_1 hc_c_2 hc_c_3 hc_c_4 hc_c_5 hf_c_0 hf_c_1 hf_c_2 hf_c_3 hf_c_4 hf_c_5); (try clear hc_st_0 hc_st_1 hc_st_2 hf_st_0 hf_st_1 hf_st_2); (try clear hi_); (try clear hb_); (try clear hk_); obtain ⟨hc_res_0, hc_res_1, hc_res_2, hc_res_3, hc_res_4, hc_res_5, hf_res_0, hf_res_1, hf_res_2, hf_res_3, hf_res_4, hf_res_5⟩ := box6 BK_res.out; obtain ⟨hc_c_0, hc_c_1, hc_c_2, hc_c_3, hc_c_4, hc_c_5, hf_c_0, hf_c_1, hf_c_2, hf_c_3, hf_c_4, hf_c_5⟩ := box6 BK_c.out; obtain ⟨hc_st_0, hc_st_1, hc_st_2, hf_st_0, hf_st_1, hf_st_2⟩ := box3 HI.out.1) | ((with_reducible refine gate_store (t := 24) (p := 4) rfl ?_); refine store_event (t := 24) (p := 4) (v := ?vo_w12_) (w1 := ((((((w11_.setCell ⟨g_res, 0, none⟩ (.int .i64 v1)).setCell ⟨g_res, 1, none⟩ (.int .i64 v2)).setCell ⟨g_res, 2, none⟩ (.string v3)).setCell ⟨g_res, 3, none⟩ (.int .i64 v4)).setCell ⟨g_res, 4, none⟩ (.slice A_l v5.length c_l)).setCell ⟨g_res, 5, none⟩ (.int .i64 v6))) ?hg ?ho ?hn ?hr ?_; (case ho => rfl); (case hg => rfl); (case hn => rfl); (case hr => first | (go_simp; done) | (go_simp; rfl)); intro w12_ hw_; have n0_ : Aside0 (w12_.heap[g_res]? = some (.cells #[.int .i64 v1, .int .i64 v2, .string v3, .int .i64 v4, .slice A_l v5.length c_l, .int .i64 v6] 24 (0, 0))) := ⟨(by rw [hw_]; exact (blk_put (cs' := #[.int .i64 v1, .int .i64 v2, .string v3, .int .i64 v4, .slice A_l v5.length c_l, .int .i64 v6]) (blk_put (cs' := #[.int .i64 v1, .int .i64 v2, .string v3, .int .i64 v4, .slice A_l v5.length c_l, .int .i64 0]) (blk_put (cs' := #[.int .i64 v1, .int .i64 v2, .string v3, .int .i64 v4, .slice none 0 0, .int .i64 0]) (blk_put (cs' := #[.int .i64 v1, .int .i64 v2, .string v3, .int .i64 0, .slice none 0 0, .int .i64 0]) (blk_put (cs' := #[.int .i64 v1, .int .i64 v2, .string ⟨#[]⟩, .int .i64 0, .slice none 0 0, .int .i64 0]) (blk_put (cs' := #[.int .i64 v1, .int .i64 0, .string ⟨#[]⟩, .int .i64 0, .slice none 0 0, .int .i64 0]) (BK_res.out) 0 _ rfl) 1 _ rfl) 2 _ rfl) 3 _ rfl) 4 _ rfl) 5 _ rfl))⟩; have n1_ : Aside0 (w12_.heap[g_c]? = some (.cells #[.int .i64 v1, .int .i64 v2, .string v3, .int .i64 v4, .slice A_l v5.length c_l, .int .i64 v6] 24 (0, 0))) := ⟨(by rw [hw_]; exact (blk_far (p := ⟨g_res, 5, none⟩) (blk_far (p := ⟨g_res, 4, none⟩) (blk_far (p := ⟨g_res, 3, none⟩) (blk_far (p := ⟨g_res, 2, none⟩) (blk_far (p := ⟨g_res, 1, none⟩) (blk_far (p := ⟨g_res, 0, none⟩) (BK_c.out) (Ne.symm NB_res_c.out) _) (Ne.symm NB_res_c.out) _) (Ne.symm NB_res_c.out) _) (Ne.symm NB_res_c.out) _) (Ne.symm NB_res_c.out) _) (Ne.symm NB_res_c.out) _))⟩; have n2_ : Aside0 (IsS106 w w12_ g_rd s6 p6 0) := ⟨(by rw [hw_]; exact (IsS106.far (p := ⟨g_res, 5, none⟩) (IsS106.far (p := ⟨g_res, 4, none⟩) (IsS106.far (p := ⟨g_res, 3, none⟩) (IsS106.far (p := ⟨g_res, 2, none⟩) (IsS106.far (p := ⟨g_res, 1, none⟩) (IsS106.far (p := ⟨g_res, 0, none⟩) (HI.out) (HI.out.ne_blk BK_res.out (by decide)) _) (HI.out.ne_blk BK_res.out (by decide)) _) (HI.out.ne_blk BK_res.out (by decide)) _) (HI.out.ne_blk BK_res.out (by decide)) _) (HI.out.ne_blk BK_res.out (by decide)) _) (HI.out.ne_blk BK_res.out (by decide)) _))⟩; have n3_ : Aside0 (Kd.R (Kd.int .i64) 3 w12_ w.heap.size (fun _ => True) (.slice A_l v5.length c_l) v5) := ⟨(by rw [hw_]; exact (Kd.R_mono (Kd.R_far (p := ⟨g_res, 5, none⟩) (Kd.R_far (p := ⟨g_res, 4, none⟩) (Kd.R_far (p := ⟨g_res, 3, none⟩) (Kd.R_far (p := ⟨g_res, 2, none⟩) (Kd.R_far (p := ⟨g_res, 1, none⟩) (Kd.R_far (p := ⟨g_res, 0, none⟩) (Kd.R_types HR_l.out BK_res.out (by decide)) (fun _ hk => hk.2) _) (fun _ hk => hk.2) _) (fun _ hk => hk.2) _) (fun _ hk => hk.2) _) (fun _ hk => hk.2) _) (fun _ hk => hk.2) _) (fun _ hk => hk.1)))⟩; have n4_ : Aside0 (Below w.heap.size w w12_) := ⟨(by rw [hw_]; exact (below_set (g := g_res) (j := 5) (below_set (g := g_res) (j := 4) (below_set (g := g_res) (j := 3) (below_set (g := g_res) (j := 2) (below_set (g := g_res) (j := 1) (below_set (g := g_res) (j := 0) (HB.out) GE_res.out) GE_res.out) GE_res.out) GE_res.out) GE_res.out) GE_res.out))⟩; (try clear BK_res); (try clear BK_c); (try clear HI); (try clear HR_l); (try clear HB); have BK_res := n0_; have BK_c := n1_; have HI := n2_; have HR_l := n3_; have HB := n4_; clear n0_ n1_ n2_ n3_ n4_; (try clear hc_res_0 hc_res_1 hc_res_2 hc_res_3 hc_res_4 hc_res_5 hf_res_0 hf_res_1 hf_res_2 hf_res_3 hf_res_4 hf_res_5); (try clear hc_c_0 hc_c_1 hc_c_2 hc_c_3 hc_c_4 hc_c_5 hf_c_0 hf_c_1 hf_c_2 hf_c_3 hf_c_4 hf_c_5); (try clear hc_st_0 hc_st_1 hc_st_2 hf_st_0 hf_st_1 hf_st_2); clear hw_; obtain ⟨hc_res_0, hc_res_1, hc_res_2, hc_res_3, hc_res_4, hc_res_5, hf_res_0, hf_res_1, hf_res_2, hf_res_3, hf_res_4, hf_res_5⟩ := box6 BK_res.out; obtain ⟨hc_c_0, hc_c_1, hc_c_2, hc_c_3, hc_c_4, hc_c_5, hf_c_0, hf_c_1, hf_c_2, hf_c_3, hf_c_4, hf_c_5⟩ := box6 BK_c.out; obtain ⟨hc_st_0, hc_st_1, hc_st_2, hf_st_0, hf_st_1, hf_st_2⟩ := box3 HI.out.1))
   refine bodyPost_ret (v := .tuple #[.agg #[.int .i64 v1, .int .i64 v2, .string v3, .int .i64 v4, .slice A_l v5.length c_l, .int .i64 v6], .int .i64 p6, .int .i64 0]) ?_ rfl ?_
   ·refine results_list (rs := [.cell 4 24, .tmp 5, .tmp 6]) (vs := [.agg #[.int .i64 v1, .int .i64 v2, .string v3, .int .i64 v4, .slice A_l v5.length c_l, .int .i64 v6], .int .i64 p6, .int .i64 0]) rfl (by simp) ?_
    exact .cell g_res 24 #[.int .i64 v1, .int .i64 v2, .string v3, .int .i64 v4, .slice A_l v5.length c_l, .int .i64 v6] (0, 0) _ rfl BK_res.out Try.underlying24 rfl (by kernel_rfl) (.tmp (.tmp .nil))
   exact ⟨_, rfl, HR_l.out, HB.out⟩
  | false =>
   rw [if_neg (by decide)] at h
   simp only [Option.some.injEq, Prod.mk.injEq] at h
   obtain ⟨rfl, rfl, rfl, rfl, rfl, rfl, rfl, rfl⟩ := h
   go_enter Try.func28, Try.ntmps28
   go_wp2_with (first | ((with_reducible refine gate_dst (N := 4) rfl ?_); refine box_event ?hg (N := 4) ?hd (cs := #[.int .i64 0, .int .i64 0, .string ⟨#[]⟩, .int .i64 0, .slice none 0 0, .int .i64 0]) (t := 24) ?hr ?_; (case hd => rfl); (case hg => rfl); (case hr => first | (go_simp; done) | (go_simp; rfl)); intro g_res hg_ w1_ hbox_ hb_; have n0_ := Aside0.mk (below_step HB.out hb_); have n1_ := Aside0.mk ((by rw [hg_]; exact HB.out.size : w.heap.size ≤ g_res)); have n2_ := Aside0.mk (hbox_); (try clear HB); (try clear GE_res); (try clear BK_res); have HB := n0_; have GE_res := n1_; have BK_res := n2_; clear n0_ n1_ n2_; clear hbox_ hb_ hg_; obtain ⟨hc_res_0, hc_res_1, hc_res_2, hc_res_3, hc_res_4, hc_res_5, hf_res_0, hf_res_1, hf_res_2, hf_res_3, hf_res_4, hf_res_5⟩ := box6 BK_res.out) | ((with_reducible refine gate_dst (N := 12) rfl ?_); refine box_event ?hg (N := 12) ?hd (cs := #[.string a0, .int .i64 a1, .int .i64 0]) (t := 106) ?hr ?_; (case hd => rfl); (case hg => rfl); (case hr => first | (go_simp; done) | (go_simp; rfl)); intro g_rd hg_ w2_ hbox_ hb_; have n0_ := Aside0.mk (blk_below BK_res.out hb_); have n1_ := Aside0.mk (below_step HB.out hb_); have n2_ := Aside0.mk ((by rw [hg_]; exact HB.out.size : w.heap.size ≤ g_rd)); have n3_ := Aside0.mk (show IsS106 w w2_ g_rd a0 a1 0 from ⟨hbox_, by rw [hg_]; exact HB.out.size⟩); (try clear BK_res); (try clear HB); (try clear GE_rd); (try clear HI); have BK_res := n0_; have HB := n1_; have GE_rd := n2_; have HI := n3_; clear n0_ n1_ n2_ n3_; (try clear hc_res_0 hc_res_1 hc_res_2 hc_res_3 hc_res_4 hc_res_5 hf_res_0 hf_res_1 hf_res_2 hf_res_3 hf_res_4 hf_res_5); clear hbox_ hb_ hg_; obtain ⟨hc_res_0, hc_res_1, hc_res_2, hc_res_3, hc_res_4, hc_res_5, hf_res_0, hf_res_1, hf_res_2, hf_res_3, hf_res_4, hf_res_5⟩ := box6 BK_res.out; obtain ⟨hc_st_0, hc_st_1, hc_st_2, hf_st_0, hf_st_1, hf_st_2⟩ := box3 HI.out.1) | (go_at_call 66; (with_reducible refine (codec_reader_number.calls k g_rd a0 a1 0 v1 s1 p1 e1 w _ HI.out HB.out HX1.out).mono ?_); rintro e_ w3_ ⟨rfl, hi_, hb_, hk_⟩; have n0_ := Aside0.mk (hk_.blk BK_res.out (Ne.symm (HI.out.ne_blk BK_res.out (by decide))) (by simp)); have n1_ := Aside0.mk (hi_); have n2_ := Aside0.mk (hb_); (try clear BK_res); (try clear HI); (try clear HB); have BK_res := n0_; have HI := n1_; have HB := n2_; clear n0_ n1_ n2_; (try clear hc_res_0 hc_res_1 hc_res_2 hc_res_3 hc_res_4 hc_res_5 hf_res_0 hf_res_1 hf_res_2 hf_res_3 hf_res_4 hf_res_5); (try clear hc_st_0 hc_st_1 hc_st_2 hf_st_0 hf_st_1 hf_st_2); (try clear hi_); (try clear hb_); (try clear hk_); obtain ⟨hc_res_0, hc_res_1, hc_res_2, hc_res_3, hc_res_4, hc_res_5, hf_res_0, hf_res_1, hf_res_2, hf_res_3, hf_res_4, hf_res_5⟩ := box6 BK_res.out; obtain ⟨hc_st_0, hc_st_1, hc_st_2, hf_st_0, hf_st_1, hf_st_2⟩ := box3 HI.out.1) | (go_at_call 66; (with_reducible refine (codec_reader_number.calls k g_rd s1 p1 e1 v2 s2 p2 e2 w _ HI.out HB.out HX2.out).mono ?_); rintro e_ w4_ ⟨rfl, hi_, hb_, hk_⟩; have n0_ := Aside0.mk (hk_.blk BK_res.out (Ne.symm (HI.out.ne_blk BK_res.out (by decide))) (by simp)); have n1_ := Aside0.mk (hi_); have n2_ := Aside0.mk (hb_); (try clear BK_res); (try clear HI); (try clear HB); have BK_res := n0_; have HI := n1_; have HB := n2_; clear n0_ n1_ n2_; (try clear hc_res_0 hc_res_1 hc_res_2 hc_res_3 hc_res_4 hc_res_5 hf_res_0 hf_res_1 hf_res_2 hf_res_3 hf_res_4 hf_res_5); (try clear hc_st_0 hc_st_1 hc_st_2 hf_st_0 hf_st_1 hf_st_2); (try clear hi_); (try clear hb_); (try clear hk_); obtain ⟨hc_res_0, hc_res_1, hc_res_2, hc_res_3, hc_res_4, hc_res_5, hf_res_0, hf_res_1, hf_res_2, hf_res_3, hf_res_4, hf_res_5⟩ := box6 BK_res.out; obtain ⟨hc_st_0, hc_st_1, hc_st_2, hf_st_0, hf_st_1, hf_st_2⟩ := box3 HI.out.1) | (go_at_call 67; (with_reducible refine (codec_reader_text.calls k g_rd s2 p2 e2 v3 s3 p3 e3 w _ HI.out HB.out HX3.out).mono ?_); rintro e_ w5_ ⟨rfl, hi_, hb_, hk_⟩; have n0_ := Aside0.mk (hk_.blk BK_res.out (Ne.symm (HI.out.ne_blk BK_res.out (by decide))) (by simp)); have n1_ := Aside0.mk (hi_); have n2_ := Aside0.mk (hb_); (try clear BK_res); (try clear HI); (try clear HB); have BK_res := n0_; have HI := n1_; have HB := n2_; clear n0_ n1_ n2_; (try clear hc_res_0 hc_res_1 hc_res_2 hc_res_3 hc_res_4 hc_res_5 hf_res_0 hf_res_1 hf_res_2 hf_res_3 hf_res_4 hf_res_5); (try clear hc_st_0 hc_st_1 hc_st_2 hf_st_0 hf_st_1 hf_st_2); (try clear hi_); (try clear hb_); (try clear hk_); obtain ⟨hc_res_0, hc_res_1, hc_res_2, hc_res_3, hc_res_4, hc_res_5, hf_res_0, hf_res_1, hf_res_2, hf_res_3, hf_res_4, hf_res_5⟩ := box6 BK_res.out; obtain ⟨hc_st_0, hc_st_1, hc_st_2, hf_st_0, hf_st_1, hf_st_2⟩ := box3 HI.out.1) | (go_at_call 66; (with_reducible refine (codec_reader_number.calls k g_rd s3 p3 e3 v4 s4 p4 e4 w _ HI.out HB.out HX4.out).mono ?_); rintro e_ w6_ ⟨rfl, hi_, hb_, hk_⟩; have n0_ := Aside0.mk (hk_.blk BK_res.out (Ne.symm (HI.out.ne_blk BK_res.out (by decide))) (by simp)); have n1_ := Aside0.mk (hi_); have n2_ := Aside0.mk (hb_); (try clear BK_res); (try clear HI); (try clear HB); have BK_res := n0_; have HI := n1_; have HB := n2_; clear n0_ n1_ n2_; (try clear hc_res_0 hc_res_1 hc_res_2 hc_res_3 hc_res_4 hc_res_5 hf_res_0 hf_res_1 hf_res_2 hf_res_3 hf_res_4 hf_res_5); (try clear hc_st_0 hc_st_1 hc_st_2 hf_st_0 hf_st_1 hf_st_2); (try clear hi_); (try clear hb_); (try clear hk_); obtain ⟨hc_res_0, hc_res_1, hc_res_2, hc_res_3, hc_res_4, hc_res_5, hf_res_0, hf_res_1, hf_res_2, hf_res_3, hf_res_4, hf_res_5⟩ := box6 BK_res.out; obtain ⟨hc_st_0, hc_st_1, hc_st_2, hf_st_0, hf_st_1, hf_st_2⟩ := box3 HI.out.1) | (go_at_call 68; (with_reducible refine (codec_reader_numbers.calls k g_rd s4 p4 e4 v5 s5 p5 e5 w _ HI.out HB.out HX5.out).mono ?_); rintro e_ w7_ ⟨v_, rfl, hr_, hi_, hb_, hk_⟩; obtain ⟨A_l, c_l, ev_⟩ := Kd.R_slice hr_; subst ev_; have n0_ := Aside0.mk (hk_.blk BK_res.out (Ne.symm (HI.out.ne_blk BK_res.out (by decide))) (by simp)); have n1_ := Aside0.mk (Kd.R_lower hr_ HB.out.size); have n2_ := Aside0.mk (hi_); have n3_ := Aside0.mk (hb_); (try clear BK_res); (try clear HR_l); (try clear HI); (try clear HB); have BK_res := n0_; have HR_l := n1_; have HI := n2_; have HB := n3_; clear n0_ n1_ n2_ n3_; (try clear hc_res_0 hc_res_1 hc_res_2 hc_res_3 hc_res_4 hc_res_5 hf_res_0 hf_res_1 hf_res_2 hf_res_3 hf_res_4 hf_res_5); (try clear hc_st_0 hc_st_1 hc_st_2 hf_st_0 hf_st_1 hf_st_2); (try clear hi_); (try clear hb_); (try clear hk_); (try clear hr_); obtain ⟨hc_res_0, hc_res_1, hc_res_2, hc_res_3, hc_res_4, hc_res_5, hf_res_0, hf_res_1, hf_res_2, hf_res_3, hf_res_4, hf_res_5⟩ := box6 BK_res.out; obtain ⟨hc_st_0, hc_st_1, hc_st_2, hf_st_0, hf_st_1, hf_st_2⟩ := box3 HI.out.1) | (go_at_call 66; (with_reducible refine (codec_reader_number.calls k g_rd s5 p5 e5 v6 s6 p6 0 w _ HI.out HB.out HX6.out).mono ?_); rintro e_ w8_ ⟨rfl, hi_, hb_, hk_⟩; have n0_ := Aside0.mk (hk_.blk BK_res.out (Ne.symm (HI.out.ne_blk BK_res.out (by decide))) (by simp)); have n1_ := Aside0.mk (Kd.R_mono (Kd.R_keep (HI.out.apart HR_l.out (by decide)) hk_ (fun _ h_ => h_.2)) (fun _ h_ => h_.1)); have n2_ := Aside0.mk (hi_); have n3_ := Aside0.mk (hb_); (try clear BK_res); (try clear HR_l); (try clear HI); (try clear HB); have BK_res := n0_; have HR_l := n1_; have HI := n2_; have HB := n3_; clear n0_ n1_ n2_ n3_; (try clear hc_res_0 hc_res_1 hc_res_2 hc_res_3 hc_res_4 hc_res_5 hf_res_0 hf_res_1 hf_res_2 hf_res_3 hf_res_4 hf_res_5); (try clear hc_st_0 hc_st_1 hc_st_2 hf_st_0 hf_st_1 hf_st_2); (try clear hi_); (try clear hb_); (try clear hk_); obtain ⟨hc_res_0, hc_res_1, hc_res_2, hc_res_3, hc_res_4, hc_res_5, hf_res_0, hf_res_1, hf_res_2, hf_res_3, hf_res_4, hf_res_5⟩ := box6 BK_res.out; obtain ⟨hc_st_0, hc_st_1, hc_st_2, hf_st_0, hf_st_1, hf_st_2⟩ := box3 HI.out.1) | ((with_reducible refine gate_dst (N := 8) rfl ?_); refine box_event ?hg (N := 8) ?hd (cs := #[.int .i64 0, .int .i64 0, .string ⟨#[]⟩, .int .i64 0, .slice none 0 0, .int .i64 0]) (t := 24) ?hr ?_; (case hd => rfl); (case hg => rfl); (case hr => first | (go_simp; done) | (go_simp; rfl)); intro g_c hg_ w9_ hbox_ hb_; have n0_ := Aside0.mk (blk_below BK_res.out hb_); have n1_ := Aside0.mk (HI.out.below hb_); have n2_ := Aside0.mk (Kd.R_below HR_l.out hb_); have n3_ := Aside0.mk (below_step HB.out hb_); have n4_ := Aside0.mk ((by rw [hg_]; exact HB.out.size : w.heap.size ≤ g_c)); have n5_ := Aside0.mk ((by rw [hg_]; exact Nat.ne_of_lt (blk_lt BK_res.out) : g_res ≠ g_c)); have n6_ := Aside0.mk (hbox_); (try clear BK_res); (try clear HI); (try clear HR_l); (try clear HB); (try clear GE_c); (try clear NB_res_c); (try clear BK_c); have BK_res := n0_; have HI := n1_; have HR_l := n2_; have HB := n3_; have GE_c := n4_; have NB_res_c := n5_; have BK_c := n6_; clear n0_ n1_ n2_ n3_ n4_ n5_ n6_; (try clear hc_res_0 hc_res_1 hc_res_2 hc_res_3 hc_res_4 hc_res_5 hf_res_0 hf_res_1 hf_res_2 hf_res_3 hf_res_4 hf_res_5); (try clear hc_st_0 hc_st_1 hc_st_2 hf_st_0 hf_st_1 hf_st_2); clear hbox_ hb_ hg_; obtain ⟨hc_res_0, hc_res_1, hc_res_2, hc_res_3, hc_res_4, hc_res_5, hf_res_0, hf_res_1, hf_res_2, hf_res_3, hf_res_4, hf_res_5⟩ := box6 BK_res.out; obtain ⟨hc_c_0, hc_c_1, hc_c_2, hc_c_3, hc_c_4, hc_c_5, hf_c_0, hf_c_1, hf_c_2, hf_c_3, hf_c_4, hf_c_5⟩ := box6 BK_c.out; obtain ⟨hc_st_0, hc_st_1, hc_st_2, hf_st_0, hf_st_1, hf_st_2⟩ := box3 HI.out.1) | ((with_reducible refine gate_store (t := 24) (p := 8) rfl ?_); refine store_event (t := 24) (p := 8) (v := ?vo_w10_) (w1 := ((((((w9_.setCell ⟨g_c, 0, none⟩ (.int .i64 v1)).setCell ⟨g_c, 1, none⟩ (.int .i64 v2)).setCell ⟨g_c, 2, none⟩ (.string v3)).setCell ⟨g_c, 3, none⟩ (.int .i64 v4)).setCell ⟨g_c, 4, none⟩ (.slice A_l v5.length c_l)).setCell ⟨g_c, 5, none⟩ (.int .i64 v6))) ?hg ?ho ?hn ?hr ?_; (case ho => rfl); (case hg => rfl); (case hn => rfl); (case hr => first | (go_simp; done) | (go_simp; rfl)); intro w10_ hw_; have n0_ : Aside0 (w10_.heap[g_c]? = some (.cells #[.int .i64 v1, .int .i64 v2, .string v3, .int .i64 v4, .slice A_l v5.length c_l, .int .i64 v6] 24 (0, 0))) := ⟨(by rw [hw_]; exact (blk_put (cs' := #[.int .i64 v1, .int .i64 v2, .string v3, .int .i64 v4, .slice A_l v5.length c_l, .int .i64 v6]) (blk_put (cs' := #[.int .i64 v1, .int .i64 v2, .string v3, .int .i64 v4, .slice A_l v5.length c_l, .int .i64 0]) (blk_put (cs' := #[.int .i64 v1, .int .i64 v2, .string v3, .int .i64 v4, .slice none 0 0, .int .i64 0]) (blk_put (cs' := #[.int .i64 v1, .int .i64 v2, .string v3, .int .i64 0, .slice none 0 0, .int .i64 0]) (blk_put (cs' := #[.int .i64 v1, .int .i64 v2, .string ⟨#[]⟩, .int .i64 0, .slice none 0 0, .int .i64 0]) (blk_put (cs' := #[.int .i64 v1, .int .i64 0, .string ⟨#[]⟩, .int .i64 0, .slice none 0 0, .int .i64 0]) (BK_c.out) 0 _ rfl) 1 _ rfl) 2 _ rfl) 3 _ rfl) 4 _ rfl) 5 _ rfl))⟩; have n1_ : Aside0 (w10_.heap[g_res]? = some (.cells #[.int .i64 0, .int .i64 0, .string ⟨#[]⟩, .int .i64 0, .slice none 0 0, .int .i64 0] 24 (0, 0))) := ⟨(by rw [hw_]; exact (blk_far (p := ⟨g_c, 5, none⟩) (blk_far (p := ⟨g_c, 4, none⟩) (blk_far (p := ⟨g_c, 3, none⟩) (blk_far (p := ⟨g_c, 2, none⟩) (blk_far (p := ⟨g_c, 1, none⟩) (blk_far (p := ⟨g_c, 0, none⟩) (BK_res.out) (NB_res_c.out) _) (NB_res_c.out) _) (NB_res_c.out) _) (NB_res_c.out) _) (NB_res_c.out) _) (NB_res_c.out) _))⟩; have n2_ : Aside0 (IsS106 w w10_ g_rd s6 p6 0) := ⟨(by rw [hw_]; exact (IsS106.far (p := ⟨g_c, 5, none⟩) (IsS106.far (p := ⟨g_c, 4, none⟩) (IsS106.far (p := ⟨g_c, 3, none⟩) (IsS106.far (p := ⟨g_c, 2, none⟩) (IsS106.far (p := ⟨g_c, 1, none⟩) (IsS106.far (p := ⟨g_c, 0, none⟩) (HI.out) (HI.out.ne_blk BK_c.out (by decide)) _) (HI.out.ne_blk BK_c.out (by decide)) _) (HI.out.ne_blk BK_c.out (by decide)) _) (HI.out.ne_blk BK_c.out (by decide)) _) (HI.out.ne_blk BK_c.out (by decide)) _) (HI.out.ne_blk BK_c.out (by decide)) _))⟩; have n3_ : Aside0 (Kd.R (Kd.int .i64) 3 w10_ w.heap.size (fun _ => True) (.slice A_l v5.length c_l) v5) := ⟨(by rw [hw_]; exact (Kd.R_mono (Kd.R_far (p := ⟨g_c, 5, none⟩) (Kd.R_far (p := ⟨g_c, 4, none⟩) (Kd.R_far (p := ⟨g_c, 3, none⟩) (Kd.R_far (p := ⟨g_c, 2, none⟩) (Kd.R_far (p := ⟨g_c, 1, none⟩) (Kd.R_far (p := ⟨g_c, 0, none⟩) (Kd.R_types HR_l.out BK_c.out (by decide)) (fun _ hk => hk.2) _) (fun _ hk => hk.2) _) (fun _ hk => hk.2) _) (fun _ hk => hk.2) _) (fun _ hk => hk.2) _) (fun _ hk => hk.2) _) (fun _ hk => hk.1)))⟩; have n4_ : Aside0 (Below w.heap.size w w10_) := ⟨(by rw [hw_]; exact (below_set (g := g_c) (j := 5) (below_set (g := g_c) (j := 4) (below_set (g := g_c) (j := 3) (below_set (g := g_c) (j := 2) (below_set (g := g_c) (j := 1) (below_set (g := g_c) (j := 0) (HB.out) GE_c.out) GE_c.out) GE_c.out) GE_c.out) GE_c.out) GE_c.out))⟩; (try clear BK_c); (try clear BK_res); (try clear HI); (try clear HR_l); (try clear HB); have BK_c := n0_; have BK_res := n1_; have HI := n2_; have HR_l := n3_; have HB := n4_; clear n0_ n1_ n2_ n3_ n4_; (try clear hc_res_0 hc_res_1 hc_res_2 hc_res_3 hc_res_4 hc_res_5 hf_res_0 hf_res_1 hf_res_2 hf_res_3 hf_res_4 hf_res_5); (try clear hc_c_0 hc_c_1 hc_c_2 hc_c_3 hc_c_4 hc_c_5 hf_c_0 hf_c_1 hf_c_2 hf_c_3 hf_c_4 hf_c_5); (try clear hc_st_0 hc_st_1 hc_st_2 hf_st_0 hf_st_1 hf_st_2); clear hw_; obtain ⟨hc_res_0, hc_res_1, hc_res_2, hc_res_3, hc_res_4, hc_res_5, hf_res_0, hf_res_1, hf_res_2, hf_res_3, hf_res_4, hf_res_5⟩ := box6 BK_res.out; obtain ⟨hc_c_0, hc_c_1, hc_c_2, hc_c_3, hc_c_4, hc_c_5, hf_c_0, hf_c_1, hf_c_2, hf_c_3, hf_c_4, hf_c_5⟩ := box6 BK_c.out; obtain ⟨hc_st_0, hc_st_1, hc_st_2, hf_st_0, hf_st_1, hf_st_2⟩ := box3 HI.out.1) | (go_at_call 69; (with_reducible refine (end_cmd_false k g_rd s6 p6 v1 v2 v3 v4 A_l c_l v5 v6 w _ HI.out HB.out (Kd.C_foot_own (HI.out.apart HR_l.out (by decide)) (fun _ h_ => h_.2)) (Kd.R_reads' HR_l.out).2.1 HOK.out).mono ?_); rintro e_ w11_ ⟨rfl, hi_, hb_, hk_⟩; have n0_ := Aside0.mk (hk_.blk BK_res.out (Ne.symm (HI.out.ne_blk BK_res.out (by decide))) (by simp)); have n1_ := Aside0.mk (hk_.blk BK_c.out (Ne.symm (HI.out.ne_blk BK_c.out (by decide))) (by simp)); have n2_ := Aside0.mk (Kd.R_mono (Kd.R_keep (HI.out.apart HR_l.out (by decide)) hk_ (fun _ h_ => h_.2)) (fun _ h_ => h_.1)); have n3_ := Aside0.mk (hi_); have n4_ := Aside0.mk (hb_); (try clear BK_res); (try clear BK_c); (try clear HR_l); (try clear HI); (try clear HB); have BK_res := n0_; have BK_c := n1_; have HR_l := n2_; have HI := n3_; have HB := n4_; clear n0_ n1_ n2_ n3_ n4_; (try clear hc_res_0 hc_res_1 hc_res_2 hc_res_3 hc_res_4 hc_res_5 hf_res_0 hf_res_1 hf_res_2 hf_res_3 hf_res_4 hf_res_5); (try clear hc_c_0 hc_c_1 hc_c_2 hc_c_3 hc_c_4 hc_c_5 hf_c_0 hf_c_1 hf_c_2 hf_c_3 hf_c_4 hf_c_5); (try clear hc_st_0 hc_st_1 hc_st_2 hf_st_0 hf_st_1 hf_st_2); (try clear hi_); (try clear hb_); (try clear hk_); obtain ⟨hc_res_0, hc_res_1, hc_res_2, hc_res_3, hc_res_4, hc_res_5, hf_res_0, hf_res_1, hf_res_2, hf_res_3, hf_res_4, hf_res_5⟩ := box6 BK_res.out; obtain ⟨hc_c_0, hc_c_1, hc_c_2, hc_c_3, hc_c_4, hc_c_5, hf_c_0, hf_c_1, hf_c_2, hf_c_3, hf_c_4, hf_c_5⟩ := box6 BK_c.out; obtain ⟨hc_st_0, hc_st_1, hc_st_2, hf_st_0, hf_st_1, hf_st_2⟩ := box3 HI.out.1) | ((with_reducible refine gate_store (t := 24) (p := 4) rfl ?_); refine store_event (t := 24) (p := 4) (v := ?vo_w12_) (w1 := ((((((w11_.setCell ⟨g_res, 0, none⟩ (.int .i64 0)).setCell ⟨g_res, 1, none⟩ (.int .i64 0)).setCell ⟨g_res, 2, none⟩ (.string ⟨#[]⟩)).setCell ⟨g_res, 3, none⟩ (.int .i64 0)).setCell ⟨g_res, 4, none⟩ (.slice none 0 0)).setCell ⟨g_res, 5, none⟩ (.int .i64 0))) ?hg ?ho ?hn ?hr ?_; (case ho => rfl); (case hg => rfl); (case hn => rfl); (case hr => first | (go_simp; done) | (go_simp; rfl)); intro w12_ hw_; have n0_ : Aside0 (w12_.heap[g_res]? = some (.cells #[.int .i64 0, .int .i64 0, .string ⟨#[]⟩, .int .i64 0, .slice none 0 0, .int .i64 0] 24 (0, 0))) := ⟨(by rw [hw_]; exact (blk_put (cs' := #[.int .i64 0, .int .i64 0, .string ⟨#[]⟩, .int .i64 0, .slice none 0 0, .int .i64 0]) (blk_put (cs' := #[.int .i64 0, .int .i64 0, .string ⟨#[]⟩, .int .i64 0, .slice none 0 0, .int .i64 0]) (blk_put (cs' := #[.int .i64 0, .int .i64 0, .string ⟨#[]⟩, .int .i64 0, .slice none 0 0, .int .i64 0]) (blk_put (cs' := #[.int .i64 0, .int .i64 0, .string ⟨#[]⟩, .int .i64 0, .slice none 0 0, .int .i64 0]) (blk_put (cs' := #[.int .i64 0, .int .i64 0, .string ⟨#[]⟩, .int .i64 0, .slice none 0 0, .int .i64 0]) (blk_put (cs' := #[.int .i64 0, .int .i64 0, .string ⟨#[]⟩, .int .i64 0, .slice none 0 0, .int .i64 0]) (BK_res.out) 0 _ rfl) 1 _ rfl) 2 _ rfl) 3 _ rfl) 4 _ rfl) 5 _ rfl))⟩; have n1_ : Aside0 (w12_.heap[g_c]? = some (.cells #[.int .i64 v1, .int .i64 v2, .string v3, .int .i64 v4, .slice A_l v5.length c_l, .int .i64 v6] 24 (0, 0))) := ⟨(by rw [hw_]; exact (blk_far (p := ⟨g_res, 5, none⟩) (blk_far (p := ⟨g_res, 4, none⟩) (blk_far (p := ⟨g_res, 3, none⟩) (blk_far (p := ⟨g_res, 2, none⟩) (blk_far (p := ⟨g_res, 1, none⟩) (blk_far (p := ⟨g_res, 0, none⟩) (BK_c.out) (Ne.symm NB_res_c.out) _) (Ne.symm NB_res_c.out) _) (Ne.symm NB_res_c.out) _) (Ne.symm NB_res_c.out) _) (Ne.symm NB_res_c.out) _) (Ne.symm NB_res_c.out) _))⟩; have n2_ : Aside0 (IsS106 w w12_ g_rd s6 p6 6) := ⟨(by rw [hw_]; exact (IsS106.far (p := ⟨g_res, 5, none⟩) (IsS106.far (p := ⟨g_res, 4, none⟩) (IsS106.far (p := ⟨g_res, 3, none⟩) (IsS106.far (p := ⟨g_res, 2, none⟩) (IsS106.far (p := ⟨g_res, 1, none⟩) (IsS106.far (p := ⟨g_res, 0, none⟩) (HI.out) (HI.out.ne_blk BK_res.out (by decide)) _) (HI.out.ne_blk BK_res.out (by decide)) _) (HI.out.ne_blk BK_res.out (by decide)) _) (HI.out.ne_blk BK_res.out (by decide)) _) (HI.out.ne_blk BK_res.out (by decide)) _) (HI.out.ne_blk BK_res.out (by decide)) _))⟩; have n3_ : Aside0 (Kd.R (Kd.int .i64) 3 w12_ w.heap.size (fun _ => True) (.slice A_l v5.length c_l) v5) := ⟨(by rw [hw_]; exact (Kd.R_mono (Kd.R_far (p := ⟨g_res, 5, none⟩) (Kd.R_far (p := ⟨g_res, 4, none⟩) (Kd.R_far (p := ⟨g_res, 3, none⟩) (Kd.R_far (p := ⟨g_res, 2, none⟩) (Kd.R_far (p := ⟨g_res, 1, none⟩) (Kd.R_far (p := ⟨g_res, 0, none⟩) (Kd.R_types HR_l.out BK_res.out (by decide)) (fun _ hk => hk.2) _) (fun _ hk => hk.2) _) (fun _ hk => hk.2) _) (fun _ hk => hk.2) _) (fun _ hk => hk.2) _) (fun _ hk => hk.2) _) (fun _ hk => hk.1)))⟩; have n4_ : Aside0 (Below w.heap.size w w12_) := ⟨(by rw [hw_]; exact (below_set (g := g_res) (j := 5) (below_set (g := g_res) (j := 4) (below_set (g := g_res) (j := 3) (below_set (g := g_res) (j := 2) (below_set (g := g_res) (j := 1) (below_set (g := g_res) (j := 0) (HB.out) GE_res.out) GE_res.out) GE_res.out) GE_res.out) GE_res.out) GE_res.out))⟩; (try clear BK_res); (try clear BK_c); (try clear HI); (try clear HR_l); (try clear HB); have BK_res := n0_; have BK_c := n1_; have HI := n2_; have HR_l := n3_; have HB := n4_; clear n0_ n1_ n2_ n3_ n4_; (try clear hc_res_0 hc_res_1 hc_res_2 hc_res_3 hc_res_4 hc_res_5 hf_res_0 hf_res_1 hf_res_2 hf_res_3 hf_res_4 hf_res_5); (try clear hc_c_0 hc_c_1 hc_c_2 hc_c_3 hc_c_4 hc_c_5 hf_c_0 hf_c_1 hf_c_2 hf_c_3 hf_c_4 hf_c_5); (try clear hc_st_0 hc_st_1 hc_st_2 hf_st_0 hf_st_1 hf_st_2); clear hw_; obtain ⟨hc_res_0, hc_res_1, hc_res_2, hc_res_3, hc_res_4, hc_res_5, hf_res_0, hf_res_1, hf_res_2, hf_res_3, hf_res_4, hf_res_5⟩ := box6 BK_res.out; obtain ⟨hc_c_0, hc_c_1, hc_c_2, hc_c_3, hc_c_4, hc_c_5, hf_c_0, hf_c_1, hf_c_2, hf_c_3, hf_c_4, hf_c_5⟩ := box6 BK_c.out; obtain ⟨hc_st_0, hc_st_1, hc_st_2, hf_st_0, hf_st_1, hf_st_2⟩ := box3 HI.out.1))
   refine bodyPost_ret (v := .tuple #[.agg #[.int .i64 0, .int .i64 0, .string ⟨#[]⟩, .int .i64 0, .slice none 0 0, .int .i64 0], .int .i64 0, .int .i64 6]) ?_ rfl ?_
   ·refine results_list (rs := [.cell 4 24, .tmp 5, .tmp 6]) (vs := [.agg #[.int .i64 0, .int .i64 0, .string ⟨#[]⟩, .int .i64 0, .slice none 0 0, .int .i64 0], .int .i64 0, .int .i64 6]) rfl (by simp) ?_
    exact .cell g_res 24 #[.int .i64 0, .int .i64 0, .string ⟨#[]⟩, .int .i64 0, .slice none 0 0, .int .i64 0] (0, 0) _ rfl BK_res.out Try.underlying24 rfl (by kernel_rfl) (.tmp (.tmp .nil))
   exact ⟨_, rfl, Kd.R_nil _ _ _ _ _, HB.out⟩
 ·rw [if_neg c0] at h
  simp only [Option.some.injEq, Prod.mk.injEq] at h
  obtain ⟨rfl, rfl, rfl, rfl, rfl, rfl, rfl, rfl⟩ := h
  have C0 := Aside0.mk c0
  clear c0
  go_enter Try.func28, Try.ntmps28
  go_wp2_with (first | ((with_reducible refine gate_dst (N := 4) rfl ?_); refine box_event ?hg (N := 4) ?hd (cs := #[.int .i64 0, .int .i64 0, .string ⟨#[]⟩, .int .i64 0, .slice none 0 0, .int .i64 0]) (t := 24) ?hr ?_; (case hd => rfl); (case hg => rfl); (case hr => first | (go_simp; done) | (go_simp; rfl)); intro g_res hg_ w1_ hbox_ hb_; have n0_ := Aside0.mk (below_step HB.out hb_); have n1_ := Aside0.mk ((by rw [hg_]; exact HB.out.size : w.heap.size ≤ g_res)); have n2_ := Aside0.mk (hbox_); (try clear HB); (try clear GE_res); (try clear BK_res); have HB := n0_; have GE_res := n1_; have BK_res := n2_; clear n0_ n1_ n2_; clear hbox_ hb_ hg_; obtain ⟨hc_res_0, hc_res_1, hc_res_2, hc_res_3, hc_res_4, hc_res_5, hf_res_0, hf_res_1, hf_res_2, hf_res_3, hf_res_4, hf_res_5⟩ := box6 BK_res.out) | ((with_reducible refine gate_dst (N := 12) rfl ?_); refine box_event ?hg (N := 12) ?hd (cs := #[.string a0, .int .i64 a1, .int .i64 0]) (t := 106) ?hr ?_; (case hd => rfl); (case hg => rfl); (case hr => first | (go_simp; done) | (go_simp; rfl)); intro g_rd hg_ w2_ hbox_ hb_; have n0_ := Aside0.mk (blk_below BK_res.out hb_); have n1_ := Aside0.mk (below_step HB.out hb_); have n2_ := Aside0.mk ((by rw [hg_]; exact HB.out.size : w.heap.size ≤ g_rd)); have n3_ := Aside0.mk (show IsS106 w w2_ g_rd a0 a1 0 from ⟨hbox_, by rw [hg_]; exact HB.out.size⟩); (try clear BK_res); (try clear HB); (try clear GE_rd); (try clear HI); have BK_res := n0_; have HB := n1_; have GE_rd := n2_; have HI := n3_; clear n0_ n1_ n2_ n3_; (try clear hc_res_0 hc_res_1 hc_res_2 hc_res_3 hc_res_4 hc_res_5 hf_res_0 hf_res_1 hf_res_2 hf_res_3 hf_res_4 hf_res_5); clear hbox_ hb_ hg_; obtain ⟨hc_res_0, hc_res_1, hc_res_2, hc_res_3, hc_res_4, hc_res_5, hf_res_0, hf_res_1, hf_res_2, hf_res_3, hf_res_4, hf_res_5⟩ := box6 BK_res.out; obtain ⟨hc_st_0, hc_st_1, hc_st_2, hf_st_0, hf_st_1, hf_st_2⟩ := box3 HI.out.1) | (go_at_call 66; (with_reducible refine (codec_reader_number.calls k g_rd a0 a1 0 v1 s1 p1 e1 w _ HI.out HB.out HX1.out).mono ?_); rintro e_ w3_ ⟨rfl, hi_, hb_, hk_⟩; have n0_ := Aside0.mk (hk_.blk BK_res.out (Ne.symm (HI.out.ne_blk BK_res.out (by decide))) (by simp)); have n1_ := Aside0.mk (hi_); have n2_ := Aside0.mk (hb_); (try clear BK_res); (try clear HI); (try clear HB); have BK_res := n0_; have HI := n1_; have HB := n2_; clear n0_ n1_ n2_; (try clear hc_res_0 hc_res_1 hc_res_2 hc_res_3 hc_res_4 hc_res_5 hf_res_0 hf_res_1 hf_res_2 hf_res_3 hf_res_4 hf_res_5); (try clear hc_st_0 hc_st_1 hc_st_2 hf_st_0 hf_st_1 hf_st_2); (try clear hi_); (try clear hb_); (try clear hk_); obtain ⟨hc_res_0, hc_res_1, hc_res_2, hc_res_3, hc_res_4, hc_res_5, hf_res_0, hf_res_1, hf_res_2, hf_res_3, hf_res_4, hf_res_5⟩ := box6 BK_res.out; obtain ⟨hc_st_0, hc_st_1, hc_st_2, hf_st_0, hf_st_1, hf_st_2⟩ := box3 HI.out.1) | (go_at_call 66; (with_reducible refine (codec_reader_number.calls k g_rd s1 p1 e1 v2 s2 p2 e2 w _ HI.out HB.out HX2.out).mono ?_); rintro e_ w4_ ⟨rfl, hi_, hb_, hk_⟩; have n0_ := Aside0.mk (hk_.blk BK_res.out (Ne.symm (HI.out.ne_blk BK_res.out (by decide))) (by simp)); have n1_ := Aside0.mk (hi_); have n2_ := Aside0.mk (hb_); (try clear BK_res); (try clear HI); (try clear HB); have BK_res := n0_; have HI := n1_; have HB := n2_; clear n0_ n1_ n2_; (try clear hc_res_0 hc_res_1 hc_res_2 hc_res_3 hc_res_4 hc_res_5 hf_res_0 hf_res_1 hf_res_2 hf_res_3 hf_res_4 hf_res_5); (try clear hc_st_0 hc_st_1 hc_st_2 hf_st_0 hf_st_1 hf_st_2); (try clear hi_); (try clear hb_); (try clear hk_); obtain ⟨hc_res_0, hc_res_1, hc_res_2, hc_res_3, hc_res_4, hc_res_5, hf_res_0, hf_res_1, hf_res_2, hf_res_3, hf_res_4, hf_res_5⟩ := box6 BK_res.out; obtain ⟨hc_st_0, hc_st_1, hc_st_2, hf_st_0, hf_st_1, hf_st_2⟩ := box3 HI.out.1) | (go_at_call 67; (with_reducible refine (codec_reader_text.calls k g_rd s2 p2 e2 v3 s3 p3 e3 w _ HI.out HB.out HX3.out).mono ?_); rintro e_ w5_ ⟨rfl, hi_, hb_, hk_⟩; have n0_ := Aside0.mk (hk_.blk BK_res.out (Ne.symm (HI.out.ne_blk BK_res.out (by decide))) (by simp)); have n1_ := Aside0.mk (hi_); have n2_ := Aside0.mk (hb_); (try clear BK_res); (try clear HI); (try clear HB); have BK_res := n0_; have HI := n1_; have HB := n2_; clear n0_ n1_ n2_; (try clear hc_res_0 hc_res_1 hc_res_2 hc_res_3 hc_res_4 hc_res_5 hf_res_0 hf_res_1 hf_res_2 hf_res_3 hf_res_4 hf_res_5); (try clear hc_st_0 hc_st_1 hc_st_2 hf_st_0 hf_st_1 hf_st_2); (try clear hi_); (try clear hb_); (try clear hk_); obtain ⟨hc_res_0, hc_res_1, hc_res_2, hc_res_3, hc_res_4, hc_res_5, hf_res_0, hf_res_1, hf_res_2, hf_res_3, hf_res_4, hf_res_5⟩ := box6 BK_res.out; obtain ⟨hc_st_0, hc_st_1, hc_st_2, hf_st_0, hf_st_1, hf_st_2⟩ := box3 HI.out.1) | (go_at_call 66; (with_reducible refine (codec_reader_number.calls k g_rd s3 p3 e3 v4 s4 p4 e4 w _ HI.out HB.out HX4.out).mono ?_); rintro e_ w6_ ⟨rfl, hi_, hb_, hk_⟩; have n0_ := Aside0.mk (hk_.blk BK_res.out (Ne.symm (HI.out.ne_blk BK_res.out (by decide))) (by simp)); have n1_ := Aside0.mk (hi_); have n2_ := Aside0.mk (hb_); (try clear BK_res); (try clear HI); (try clear HB); have BK_res := n0_; have HI := n1_; have HB := n2_; clear n0_ n1_ n2_; (try clear hc_res_0 hc_res_1 hc_res_2 hc_res_3 hc_res_4 hc_res_5 hf_res_0 hf_res_1 hf_res_2 hf_res_3 hf_res_4 hf_res_5); (try clear hc_st_0 hc_st_1 hc_st_2 hf_st_0 hf_st_1 hf_st_2); (try clear hi_); (try clear hb_); (try clear hk_); obtain ⟨hc_res_0, hc_res_1, hc_res_2, hc_res_3, hc_res_4, hc_res_5, hf_res_0, hf_res_1, hf_res_2, hf_res_3, hf_res_4, hf_res_5⟩ := box6 BK_res.out; obtain ⟨hc_st_0, hc_st_1, hc_st_2, hf_st_0, hf_st_1, hf_st_2⟩ := box3 HI.out.1) | (go_at_call 68; (with_reducible refine (codec_reader_numbers.calls k g_rd s4 p4 e4 v5 s5 p5 e5 w _ HI.out HB.out HX5.out).mono ?_); rintro e_ w7_ ⟨v_, rfl, hr_, hi_, hb_, hk_⟩; obtain ⟨A_l, c_l, ev_⟩ := Kd.R_slice hr_; subst ev_; have n0_ := Aside0.mk (hk_.blk BK_res.out (Ne.symm (HI.out.ne_blk BK_res.out (by decide))) (by simp)); have n1_ := Aside0.mk (Kd.R_lower hr_ HB.out.size); have n2_ := Aside0.mk (hi_); have n3_ := Aside0.mk (hb_); (try clear BK_res); (try clear HR_l); (try clear HI); (try clear HB); have BK_res := n0_; have HR_l := n1_; have HI := n2_; have HB := n3_; clear n0_ n1_ n2_ n3_; (try clear hc_res_0 hc_res_1 hc_res_2 hc_res_3 hc_res_4 hc_res_5 hf_res_0 hf_res_1 hf_res_2 hf_res_3 hf_res_4 hf_res_5); (try clear hc_st_0 hc_st_1 hc_st_2 hf_st_0 hf_st_1 hf_st_2); (try clear hi_); (try clear hb_); (try clear hk_); (try clear hr_); obtain ⟨hc_res_0, hc_res_1, hc_res_2, hc_res_3, hc_res_4, hc_res_5, hf_res_0, hf_res_1, hf_res_2, hf_res_3, hf_res_4, hf_res_5⟩ := box6 BK_res.out; obtain ⟨hc_st_0, hc_st_1, hc_st_2, hf_st_0, hf_st_1, hf_st_2⟩ := box3 HI.out.1) | (go_at_call 66; (with_reducible refine (codec_reader_number.calls k g_rd s5 p5 e5 v6 s6 p6 e6 w _ HI.out HB.out HX6.out).mono ?_); rintro e_ w8_ ⟨rfl, hi_, hb_, hk_⟩; have n0_ := Aside0.mk (hk_.blk BK_res.out (Ne.symm (HI.out.ne_blk BK_res.out (by decide))) (by simp)); have n1_ := Aside0.mk (Kd.R_mono (Kd.R_keep (HI.out.apart HR_l.out (by decide)) hk_ (fun _ h_ => h_.2)) (fun _ h_ => h_.1)); have n2_ := Aside0.mk (hi_); have n3_ := Aside0.mk (hb_); (try clear BK_res); (try clear HR_l); (try clear HI); (try clear HB); have BK_res := n0_; have HR_l := n1_; have HI := n2_; have HB := n3_; clear n0_ n1_ n2_ n3_; (try clear hc_res_0 hc_res_1 hc_res_2 hc_res_3 hc_res_4 hc_res_5 hf_res_0 hf_res_1 hf_res_2 hf_res_3 hf_res_4 hf_res_5); (try clear hc_st_0 hc_st_1 hc_st_2 hf_st_0 hf_st_1 hf_st_2); (try clear hi_); (try clear hb_); (try clear hk_); obtain ⟨hc_res_0, hc_res_1, hc_res_2, hc_res_3, hc_res_4, hc_res_5, hf_res_0, hf_res_1, hf_res_2, hf_res_3, hf_res_4, hf_res_5⟩ := box6 BK_res.out; obtain ⟨hc_st_0, hc_st_1, hc_st_2, hf_st_0, hf_st_1, hf_st_2⟩ := box3 HI.out.1) | ((with_reducible refine gate_dst (N := 8) rfl ?_); refine box_event ?hg (N := 8) ?hd (cs := #[.int .i64 0, .int .i64 0, .string ⟨#[]⟩, .int .i64 0, .slice none 0 0, .int .i64 0]) (t := 24) ?hr ?_; (case hd => rfl); (case hg => rfl); (case hr => first | (go_simp; done) | (go_simp; rfl)); intro g_c hg_ w9_ hbox_ hb_; have n0_ := Aside0.mk (blk_below BK_res.out hb_); have n1_ := Aside0.mk (HI.out.below hb_); have n2_ := Aside0.mk (Kd.R_below HR_l.out hb_); have n3_ := Aside0.mk (below_step HB.out hb_); have n4_ := Aside0.mk ((by rw [hg_]; exact HB.out.size : w.heap.size ≤ g_c)); have n5_ := Aside0.mk ((by rw [hg_]; exact Nat.ne_of_lt (blk_lt BK_res.out) : g_res ≠ g_c)); have n6_ := Aside0.mk (hbox_); (try clear BK_res); (try clear HI); (try clear HR_l); (try clear HB); (try clear GE_c); (try clear NB_res_c); (try clear BK_c); have BK_res := n0_; have HI := n1_; have HR_l := n2_; have HB := n3_; have GE_c := n4_; have NB_res_c := n5_; have BK_c := n6_; clear n0_ n1_ n2_ n3_ n4_ n5_ n6_; (try clear hc_res_0 hc_res_1 hc_res_2 hc_res_3 hc_res_4 hc_res_5 hf_res_0 hf_res_1 hf_res_2 hf_res_3 hf_res_4 hf_res_5); (try clear hc_st_0 hc_st_1 hc_st_2 hf_st_0 hf_st_1 hf_st_2); clear hbox_ hb_ hg_; obtain ⟨hc_res_0, hc_res_1, hc_res_2, hc_res_3, hc_res_4, hc_res_5, hf_res_0, hf_res_1, hf_res_2, hf_res_3, hf_res_4, hf_res_5⟩ := box6 BK_res.out; obtain ⟨hc_c_0, hc_c_1, hc_c_2, hc_c_3, hc_c_4, hc_c_5, hf_c_0, hf_c_1, hf_c_2, hf_c_3, hf_c_4, hf_c_5⟩ := box6 BK_c.out; obtain ⟨hc_st_0, hc_st_1, hc_st_2, hf_st_0, hf_st_1, hf_st_2⟩ := box3 HI.out.1) | ((with_reducible refine gate_store (t := 24) (p := 8) rfl ?_); refine store_event (t := 24) (p := 8) (v := ?vo_w10_) (w1 := ((((((w9_.setCell ⟨g_c, 0, none⟩ (.int .i64 v1)).setCell ⟨g_c, 1, none⟩ (.int .i64 v2)).setCell ⟨g_c, 2, none⟩ (.string v3)).setCell ⟨g_c, 3, none⟩ (.int .i64 v4)).setCell ⟨g_c, 4, none⟩ (.slice A_l v5.length c_l)).setCell ⟨g_c, 5, none⟩ (.int .i64 v6))) ?hg ?ho ?hn ?hr ?_; (case ho => rfl); (case hg => rfl); (case hn => rfl); (case hr => first | (go_simp; done) | (go_simp; rfl)); intro w10_ hw_; have n0_ : Aside0 (w10_.heap[g_c]? = some (.cells #[.int .i64 v1, .int .i64 v2, .string v3, .int .i64 v4, .slice A_l v5.length c_l, .int .i64 v6] 24 (0, 0))) := ⟨(by rw [hw_]; exact (blk_put (cs' := #[.int .i64 v1, .int .i64 v2, .string v3, .int .i64 v4, .slice A_l v5.length c_l, .int .i64 v6]) (blk_put (cs' := #[.int .i64 v1, .int .i64 v2, .string v3, .int .i64 v4, .slice A_l v5.length c_l, .int .i64 0]) (blk_put (cs' := #[.int .i64 v1, .int .i64 v2, .string v3, .int .i64 v4, .slice none 0 0, .int .i64 0]) (blk_put (cs' := #[.int .i64 v1, .int .i64 v2, .string v3, .int .i64 0, .slice none 0 0, .int .i64 0]) (blk_put (cs' := #[.int .i64 v1, .int .i64 v2, .string ⟨#[]⟩, .int .i64 0, .slice none 0 0, .int .i64 0]) (blk_put (cs' := #[.int .i64 v1, .int .i64 0, .string ⟨#[]⟩, .int .i64 0, .slice none 0 0, .int .i64 0]) (BK_c.out) 0 _ rfl) 1 _ rfl) 2 _ rfl) 3 _ rfl) 4 _ rfl) 5 _ rfl))⟩; have n1_ : Aside0 (w10_.heap[g_res]? = some (.cells #[.int .i64 0, .int .i64 0, .string ⟨#[]⟩, .int .i64 0, .slice none 0 0, .int .i64 0] 24 (0, 0))) := ⟨(by rw [hw_]; exact (blk_far (p := ⟨g_c, 5, none⟩) (blk_far (p := ⟨g_c, 4, none⟩) (blk_far (p := ⟨g_c, 3, none⟩) (blk_far (p := ⟨g_c, 2, none⟩) (blk_far (p := ⟨g_c, 1, none⟩) (blk_far (p := ⟨g_c, 0, none⟩) (BK_res.out) (NB_res_c.out) _) (NB_res_c.out) _) (NB_res_c.out) _) (NB_res_c.out) _) (NB_res_c.out) _) (NB_res_c.out) _))⟩; have n2_ : Aside0 (IsS106 w w10_ g_rd s6 p6 e6) := ⟨(by rw [hw_]; exact (IsS106.far (p := ⟨g_c, 5, none⟩) (IsS106.far (p := ⟨g_c, 4, none⟩) (IsS106.far (p := ⟨g_c, 3, none⟩) (IsS106.far (p := ⟨g_c, 2, none⟩) (IsS106.far (p := ⟨g_c, 1, none⟩) (IsS106.far (p := ⟨g_c, 0, none⟩) (HI.out) (HI.out.ne_blk BK_c.out (by decide)) _) (HI.out.ne_blk BK_c.out (by decide)) _) (HI.out.ne_blk BK_c.out (by decide)) _) (HI.out.ne_blk BK_c.out (by decide)) _) (HI.out.ne_blk BK_c.out (by decide)) _) (HI.out.ne_blk BK_c.out (by decide)) _))⟩; have n3_ : Aside0 (Kd.R (Kd.int .i64) 3 w10_ w.heap.size (fun _ => True) (.slice A_l v5.length c_l) v5) := ⟨(by rw [hw_]; exact (Kd.R_mono (Kd.R_far (p := ⟨g_c, 5, none⟩) (Kd.R_far (p := ⟨g_c, 4, none⟩) (Kd.R_far (p := ⟨g_c, 3, none⟩) (Kd.R_far (p := ⟨g_c, 2, none⟩) (Kd.R_far (p := ⟨g_c, 1, none⟩) (Kd.R_far (p := ⟨g_c, 0, none⟩) (Kd.R_types HR_l.out BK_c.out (by decide)) (fun _ hk => hk.2) _) (fun _ hk => hk.2) _) (fun _ hk => hk.2) _) (fun _ hk => hk.2) _) (fun _ hk => hk.2) _) (fun _ hk => hk.2) _) (fun _ hk => hk.1)))⟩; have n4_ : Aside0 (Below w.heap.size w w10_) := ⟨(by rw [hw_]; exact (below_set (g := g_c) (j := 5) (below_set (g := g_c) (j := 4) (below_set (g := g_c) (j := 3) (below_set (g := g_c) (j := 2) (below_set (g := g_c) (j := 1) (below_set (g := g_c) (j := 0) (HB.out) GE_c.out) GE_c.out) GE_c.out) GE_c.out) GE_c.out) GE_c.out))⟩; (try clear BK_c); (try clear BK_res); (try clear HI); (try clear HR_l); (try clear HB); have BK_c := n0_; have BK_res := n1_; have HI := n2_; have HR_l := n3_; have HB := n4_; clear n0_ n1_ n2_ n3_ n4_; (try clear hc_res_0 hc_res_1 hc_res_2 hc_res_3 hc_res_4 hc_res_5 hf_res_0 hf_res_1 hf_res_2 hf_res_3 hf_res_4 hf_res_5); (try clear hc_c_0 hc_c_1 hc_c_2 hc_c_3 hc_c_4 hc_c_5 hf_c_0 hf_c_1 hf_c_2 hf_c_3 hf_c_4 hf_c_5); (try clear hc_st_0 hc_st_1 hc_st_2 hf_st_0 hf_st_1 hf_st_2); clear hw_; obtain ⟨hc_res_0, hc_res_1, hc_res_2, hc_res_3, hc_res_4, hc_res_5, hf_res_0, hf_res_1, hf_res_2, hf_res_3, hf_res_4, hf_res_5⟩ := box6 BK_res.out; obtain ⟨hc_c_0, hc_c_1, hc_c_2, hc_c_3, hc_c_4, hc_c_5, hf_c_0, hf_c_1, hf_c_2, hf_c_3, hf_c_4, hf_c_5⟩ := box6 BK_c.out; obtain ⟨hc_st_0, hc_st_1, hc_st_2, hf_st_0, hf_st_1, hf_st_2⟩ := box3 HI.out.1) | (go_at_call 69; (with_reducible refine (end_cmd_err k g_rd s6 p6 v1 v2 v3 v4 A_l c_l v5 v6 w _ e6 C0.out HI.out HB.out (Kd.C_foot_own (HI.out.apart HR_l.out (by decide)) (fun _ h_ => h_.2)) (Kd.R_reads' HR_l.out).2.1).mono ?_); rintro e_ w11_ ⟨rfl, hi_, hb_, hk_⟩; have n0_ := Aside0.mk (hk_.blk BK_res.out (Ne.symm (HI.out.ne_blk BK_res.out (by decide))) (by simp)); have n1_ := Aside0.mk (hk_.blk BK_c.out (Ne.symm (HI.out.ne_blk BK_c.out (by decide))) (by simp)); have n2_ := Aside0.mk (Kd.R_mono (Kd.R_keep (HI.out.apart HR_l.out (by decide)) hk_ (fun _ h_ => h_.2)) (fun _ h_ => h_.1)); have n3_ := Aside0.mk (hi_); have n4_ := Aside0.mk (hb_); (try clear BK_res); (try clear BK_c); (try clear HR_l); (try clear HI); (try clear HB); have BK_res := n0_; have BK_c := n1_; have HR_l := n2_; have HI := n3_; have HB := n4_; clear n0_ n1_ n2_ n3_ n4_; (try clear hc_res_0 hc_res_1 hc_res_2 hc_res_3 hc_res_4 hc_res_5 hf_res_0 hf_res_1 hf_res_2 hf_res_3 hf_res_4 hf_res_5); (try clear hc_c_0 hc_c_1 hc_c_2 hc_c_3 hc_c_4 hc_c_5 hf_c_0 hf_c_1 hf_c_2 hf_c_3 hf_c_4 hf_c_5); (try clear hc_st_0 hc_st_1 hc_st_2 hf_st_0 hf_st_1 hf_st_2); (try clear hi_); (try clear hb_); (try clear hk_); obtain ⟨hc_res_0, hc_res_1, hc_res_2, hc_res_3, hc_res_4, hc_res_5, hf_res_0, hf_res_1, hf_res_2, hf_res_3, hf_res_4, hf_res_5⟩ := box6 BK_res.out; obtain ⟨hc_c_0, hc_c_1, hc_c_2, hc_c_3, hc_c_4, hc_c_5, hf_c_0, hf_c_1, hf_c_2, hf_c_3, hf_c_4, hf_c_5⟩ := box6 BK_c.out; obtain ⟨hc_st_0, hc_st_1, hc_st_2, hf_st_0, hf_st_1, hf_st_2⟩ := box3 HI.out.1) | ((with_reducible refine gate_store (t := 24) (p := 4) rfl ?_); refine store_event (t := 24) (p := 4) (v := ?vo_w12_) (w1 := ((((((w11_.setCell ⟨g_res, 0, none⟩ (.int .i64 0)).setCell ⟨g_res, 1, none⟩ (.int .i64 0)).setCell ⟨g_res, 2, none⟩ (.string ⟨#[]⟩)).setCell ⟨g_res, 3, none⟩ (.int .i64 0)).setCell ⟨g_res, 4, none⟩ (.slice none 0 0)).setCell ⟨g_res, 5, none⟩ (.int .i64 0))) ?hg ?ho ?hn ?hr ?_; (case ho => rfl); (case hg => rfl); (case hn => rfl); (case hr => first | (go_simp; done) | (go_simp; rfl)); intro w12_ hw_; have n0_ : Aside0 (w12_.heap[g_res]? = some (.cells #[.int .i64 0, .int .i64 0, .string ⟨#[]⟩, .int .i64 0, .slice none 0 0, .int .i64 0] 24 (0, 0))) := ⟨(by rw [hw_]; exact (blk_put (cs' := #[.int .i64 0, .int .i64 0, .string ⟨#[]⟩, .int .i64 0, .slice none 0 0, .int .i64 0]) (blk_put (cs' := #[.int .i64 0, .int .i64 0, .string ⟨#[]⟩, .int .i64 0, .slice none 0 0, .int .i64 0]) (blk_put (cs' := #[.int .i64 0, .int .i64 0, .string ⟨#[]⟩, .int .i64 0, .slice none 0 0, .int .i64 0]) (blk_put (cs' := #[.int .i64 0, .int .i64 0, .string ⟨#[]⟩, .int .i64 0, .slice none 0 0, .int .i64 0]) (blk_put (cs' := #[.int .i64 0, .int .i64 0, .string ⟨#[]⟩, .int .i64 0, .slice none 0 0, .int .i64 0]) (blk_put (cs' := #[.int .i64 0, .int .i64 0, .string ⟨#[]⟩, .int .i64 0, .slice none 0 0, .int .i64 0]) (BK_res.out) 0 _ rfl) 1 _ rfl) 2 _ rfl) 3 _ rfl) 4 _ rfl) 5 _ rfl))⟩; have n1_ : Aside0 (w12_.heap[g_c]? = some (.cells #[.int .i64 v1, .int .i64 v2, .string v3, .int .i64 v4, .slice A_l v5.length c_l, .int .i64 v6] 24 (0, 0))) := ⟨(by rw [hw_]; exact (blk_far (p := ⟨g_res, 5, none⟩) (blk_far (p := ⟨g_res, 4, none⟩) (blk_far (p := ⟨g_res, 3, none⟩) (blk_far (p := ⟨g_res, 2, none⟩) (blk_far (p := ⟨g_res, 1, none⟩) (blk_far (p := ⟨g_res, 0, none⟩) (BK_c.out) (Ne.symm NB_res_c.out) _) (Ne.symm NB_res_c.out) _) (Ne.symm NB_res_c.out) _) (Ne.symm NB_res_c.out) _) (Ne.symm NB_res_c.out) _) (Ne.symm NB_res_c.out) _))⟩; have n2_ : Aside0 (IsS106 w w12_ g_rd s6 p6 e6) := ⟨(by rw [hw_]; exact (IsS106.far (p := ⟨g_res, 5, none⟩) (IsS106.far (p := ⟨g_res, 4, none⟩) (IsS106.far (p := ⟨g_res, 3, none⟩) (IsS106.far (p := ⟨g_res, 2, none⟩) (IsS106.far (p := ⟨g_res, 1, none⟩) (IsS106.far (p := ⟨g_res, 0, none⟩) (HI.out) (HI.out.ne_blk BK_res.out (by decide)) _) (HI.out.ne_blk BK_res.out (by decide)) _) (HI.out.ne_blk BK_res.out (by decide)) _) (HI.out.ne_blk BK_res.out (by decide)) _) (HI.out.ne_blk BK_res.out (by decide)) _) (HI.out.ne_blk BK_res.out (by decide)) _))⟩; have n3_ : Aside0 (Kd.R (Kd.int .i64) 3 w12_ w.heap.size (fun _ => True) (.slice A_l v5.length c_l) v5) := ⟨(by rw [hw_]; exact (Kd.R_mono (Kd.R_far (p := ⟨g_res, 5, none⟩) (Kd.R_far (p := ⟨g_res, 4, none⟩) (Kd.R_far (p := ⟨g_res, 3, none⟩) (Kd.R_far (p := ⟨g_res, 2, none⟩) (Kd.R_far (p := ⟨g_res, 1, none⟩) (Kd.R_far (p := ⟨g_res, 0, none⟩) (Kd.R_types HR_l.out BK_res.out (by decide)) (fun _ hk => hk.2) _) (fun _ hk => hk.2) _) (fun _ hk => hk.2) _) (fun _ hk => hk.2) _) (fun _ hk => hk.2) _) (fun _ hk => hk.2) _) (fun _ hk => hk.1)))⟩; have n4_ : Aside0 (Below w.heap.size w w12_) := ⟨(by rw [hw_]; exact (below_set (g := g_res) (j := 5) (below_set (g := g_res) (j := 4) (below_set (g := g_res) (j := 3) (below_set (g := g_res) (j := 2) (below_set (g := g_res) (j := 1) (below_set (g := g_res) (j := 0) (HB.out) GE_res.out) GE_res.out) GE_res.out) GE_res.out) GE_res.out) GE_res.out))⟩; (try clear BK_res); (try clear BK_c); (try clear HI); (try clear HR_l); (try clear HB); have BK_res := n0_; have BK_c := n1_; have HI := n2_; have HR_l := n3_; have HB := n4_; clear n0_ n1_ n2_ n3_ n4_; (try clear hc_res_0 hc_res_1 hc_res_2 hc_res_3 hc_res_4 hc_res_5 hf_res_0 hf_res_1 hf_res_2 hf_res_3 hf_res_4 hf_res_5); (try clear hc_c_0 hc_c_1 hc_c_2 hc_c_3 hc_c_4 hc_c_5 hf_c_0 hf_c_1 hf_c_2 hf_c_3 hf_c_4 hf_c_5); (try clear hc_st_0 hc_st_1 hc_st_2 hf_st_0 hf_st_1 hf_st_2); clear hw_; obtain ⟨hc_res_0, hc_res_1, hc_res_2, hc_res_3, hc_res_4, hc_res_5, hf_res_0, hf_res_1, hf_res_2, hf_res_3, hf_res_4, hf_res_5⟩ := box6 BK_res.out; obtain ⟨hc_c_0, hc_c_1, hc_c_2, hc_c_3, hc_c_4, hc_c_5, hf_c_0, hf_c_1, hf_c_2, hf_c_3, hf_c_4, hf_c_5⟩ := box6 BK_c.out; obtain ⟨hc_st_0, hc_st_1, hc_st_2, hf_st_0, hf_st_1, hf_st_2⟩ := box3 HI.out.1))
  refine bodyPost_ret (v := .tuple #[.agg #[.int .i64 0, .int .i64 0, .string ⟨#[]⟩, .int .i64 0, .slice none 0 0, .int .i64 0], .int .i64 0, .int .i64 e6]) ?_ rfl ?_
  ·refine results_list (rs := [.cell 4 24, .tmp 5, .tmp 6]) (vs := [.agg #[.int .i64 0, .int .i64 0, .string ⟨#[]⟩, .int .i64 0, .slice none 0 0, .int .i64 0], .int .i64 0, .int .i64 e6]) rfl (by simp) ?_
   exact .cell g_res 24 #[.int .i64 0, .int .i64 0, .string ⟨#[]⟩, .int .i64 0, .slice none 0 0, .int .i64 0] (0, 0) _ rfl BK_res.out Try.underlying24 rfl (by kernel_rfl) (.tmp (.tmp .nil))
  exact ⟨_, rfl, Kd.R_nil _ _ _ _ _, HB.out⟩
def codec_text.f (l0 : List Int) (a1 : ByteArray) : Option (List Int) := (varint_Text.f a1).bind fun bt103 => (if l0.length + bt103.1.size < 140737488355328 then (some (l0 ++ bytesOf bt103.1)) else (none))
theorem codec_text.calls (P0_ : Nat → Prop) (u9000_ : Value) (l0 : List Int) (a1 : ByteArray) (r : List Int) (w0 w : World) (hB : Below w0.heap.size w0 w) (ho0 : Kd.R (Kd.int .u8) 5 w w0.heap.size P0_ u9000_ l0) (h : codec_text.f l0 a1 = some r) :
  Calls Try.prog 38 #[u9000_, .string a1] w fun e w' => ∃ v0_ : Value, e = .returned (v0_) ∧ Kd.R (Kd.int .u8) 5 w' w0.heap.size (fun k_ => (P0_ k_ ∨ w.heap.size ≤ k_)) v0_ r ∧ Below w0.heap.size w0 w' ∧ Kept w w' (fun k_ => P0_ k_) := by
 have HO0 := Aside0.mk (show Kd.R (Kd.int .u8) 5 w w0.heap.size (fun k_ => (P0_ k_ ∨ w.heap.size ≤ k_)) u9000_ l0 from Kd.R_mono ho0 (fun k_ hk => (.inl hk)))
 have HK := Aside0.mk (Kept.refl w (fun k_ => P0_ k_))
 have HW0 := Aside0.mk hB.size
 have HB := Aside0.mk hB
 clear hB
 have H : ((varint_Text.f a1).bind fun bt103 => (if l0.length + bt103.1.size < 140737488355328 then (some (l0 ++ bytesOf bt103.1)) else (none))) = some r := h
 clear h
 replace H := Option.bind_eq_some_iff.mp H
 obtain ⟨⟨t103, t104⟩, A30, H⟩ := H
 replace H : (if l0.length + t103.size < 140737488355328 then (some (l0 ++ bytesOf t103)) else (none)) = some r := H
 have A3 := Aside0.mk A30
 clear A30
 by_cases c4 : l0.length + t103.size < 140737488355328
 ·rw [if_pos c4] at H
  have LMc4 := Aside0.mk c4
  clear c4
  obtain ⟨y105, hy105⟩ : ∃ y_ : List Int, y_ = (l0 ++ bytesOf t103) := ⟨_, rfl⟩
  replace H : (some y105) = some r := by first | (rw [hy105]; with_reducible exact H) | (have H2_ := (Option.bind_some _ _).symm.trans H; rw [hy105]; with_reducible exact H2_) | (have H2_ := (Option.bind_some _ _).symm.trans H; with_reducible exact H2_) | with_reducible exact H | (rw [hy105]; exact H) | exact H
  have Ny105 := Aside0.mk hy105
  clear hy105
  obtain rfl := Option.some.inj H
  go_enter Try.func38, Try.ntmps38
  go_wp2_with (first | ((with_reducible refine gate_callee (f := 86) rfl ?_); refine goesL_ (some 9) rfl rfl Try.func86 (by kernel_rfl) rfl #[.string a1] rfl (by (try simp only [List.map_toArray, List.map_cons, List.map_nil]); first | done | rfl | (simp only [List.length_drop, List.length_take]; rfl)) ?_; (with_reducible refine (varint_Text.calls a1 t103 t104 _ A3.out).mono ?_); rintro e w5 ⟨rfl, hb⟩; refine ⟨_, rfl, ?_⟩; have n0_ := Aside0.mk (Kd.R_below (by (with_reducible repeat (first | apply Kd.R_alloc | apply Kd.R_drewN | apply Kd.R_drew)); exact HO0.out) hb); have n1_ := Aside0.mk (Kept.below (S := (fun k_ => P0_ k_)) (by repeat (first | (with_reducible first | exact HK.out | apply Kept.alloc | apply Kept.drewN | apply Kept.drew) | exact HK.out)) hb); have n2_ := Aside0.mk (below_step (by repeat (first | (with_reducible first | exact HB.out | apply below_alloc | apply pw_below_drewN | apply below_drew1) | exact HB.out)) hb); clear HO0; clear HK; clear HB; have HO0 := n0_; have HK := n1_; have HB := n2_; clear n0_ n1_ n2_; (try clear hb); (try clear hb2); (try clear hk); (try clear hi)) | (at_builtin; refine append_str_hat (w0 := w0) w0.heap.size rfl (.tmp 12) _ 74 9 5 rfl Try.underlying74 Try.underlying9 info5 u9000_ l0 t103 rfl rfl ?aO ?aB ?aS ?aL ?_; (case aB => exact (by repeat (first | (with_reducible first | exact HB.out | apply below_alloc | apply pw_below_drewN | apply below_drew1) | exact HB.out))); (case aO => exact (Kd.own_of_R (by (with_reducible repeat (first | apply Kd.R_alloc | apply Kd.R_drewN | apply Kd.R_drew)); exact HO0.out))); (case aS => exact (below_size (by repeat (first | (with_reducible first | exact HB.out | apply below_alloc | apply pw_below_drewN | apply below_drew1) | exact HB.out)))); (case aL => have := LMc4.out; omega); intro v106 w6 ho0 hb hg hat; have ho := Kd.R_of_own (h1 := fun _ => rfl) (ok := (fun k_ => (P0_ k_ ∨ w.heap.size ≤ k_))) ho0 (fun k_ hk_ => Or.elim hat (fun h1_ => HO0.out.1 k_ (h1_.symm.trans hk_)) (fun h2_ => (fun k_ hk => (.inr (Nat.le_trans (by first | exact HK.out.1 | exact (show Kept w _ (fun k_ => P0_ k_) from by repeat (first | (with_reducible first | exact HK.out | apply Kept.alloc | apply Kept.drewN | apply Kept.drew) | exact HK.out)).1) hk))) k_ (by obtain ⟨b_, hb_, hl_⟩ := h2_; rw [hb_] at hk_; cases hk_; exact hl_))); clear ho0; rw [← Ny105.out] at ho; change Kd.R (Kd.int .u8) 5 w6 w0.heap.size (fun k_ => (P0_ k_ ∨ w.heap.size ≤ k_)) v106 y105 at ho; have n0_ := Aside0.mk (hb); have n1_ := Aside0.mk (Kept.of_grown (S := (fun k_ => P0_ k_)) hg (by repeat (first | (with_reducible first | exact HK.out | apply Kept.alloc | apply Kept.drewN | apply Kept.drew) | exact HK.out)) (fun k_ e_ => (HO0.out.1 k_ e_))); have n2_ := Aside0.mk (ho); clear HB; clear HK; clear HO0; have HB := n0_; have HK := n1_; have HO107 := n2_; clear n0_ n1_ n2_; clear ho hb hg hat))
  go_ret
  exact ⟨_, by first | rfl | (simp [errW_none, errW_some] <;> rfl) | (simp [*, errW_none, errW_some] <;> rfl), by (with_reducible repeat (first | apply Kd.R_alloc | apply Kd.R_drewN | apply Kd.R_drew)); exact HO107.out, by repeat (first | (with_reducible first | exact HB.out | apply below_alloc | apply pw_below_drewN | apply below_drew1) | exact HB.out), by repeat (first | (with_reducible first | exact HK.out | apply Kept.alloc | apply Kept.drewN | apply Kept.drew) | exact HK.out)⟩
 ·rw [if_neg c4] at H
  exact absurd H (by simp)
def codec_number.l0 : Nat → List Int → List Int → Int → Int → Option (List Int)
 | 0, _, _, _, _ => none
 | k + 1, x0, x7, x8, x9 => if x9 < x8 then (if 0 ≤ x9 then (if x9 < (x7.length : Int) then ((varint_Number.f (rd x7 x9)).bind fun t109 => (if x0.length + t109.size < 140737488355328 then (codec_number.l0 k (x0 ++ bytesOf t109) x7 x8 (wrap64 (x9 + 1))) else (none))) else (none)) else (none)) else (some x0)
def codec_number.f (k : Nat) (l0 : List Int) (l1 : List Int) : Option (List Int) := codec_number.l0 k l0 l1 (l1.length : Int) 0
theorem codec_number.mono_l : ∀ k, (∀ y0 y1 y2 y3, LeO (codec_number.l0 k y0 y1 y2 y3) (codec_number.l0 (k + 1) y0 y1 y2 y3))
 | 0 => fun _ _ _ _ r h => by simp [codec_number.l0] at h
 | k + 1 => by
  have ih0 := codec_number.mono_l k
  ·intro y0 y1 y2 y3
   unfold codec_number.l0
   repeat' first
   | (with_reducible exact ih0 _ _ _ _)
   | (with_reducible exact LeO.refl _)
   | (with_reducible exact LeO.none _)
   | (with_reducible refine LeO.ite ?_ ?_)
   | (with_reducible refine LeO.bind ?_ (fun _ => ?_))
   | exact ih0 _ _ _ _
   | exact LeO.none _
   | refine LeO.ite ?_ ?_
   | refine LeO.bind ?_ (fun _ => ?_)
theorem codec_number.mono : ∀ a0 a1 k, LeO (codec_number.f k a0 a1) (codec_number.f (k + 1) a0 a1) := by
 intro a0 a1 k
 have ih0 := codec_number.mono_l k
 unfold codec_number.f
 repeat' first
   | (with_reducible exact ih0 _ _ _ _)
   | (with_reducible exact LeO.refl _)
   | (with_reducible exact LeO.none _)
   | (with_reducible refine LeO.ite ?_ ?_)
   | (with_reducible refine LeO.bind ?_ (fun _ => ?_))
   | exact ih0 _ _ _ _
   | exact LeO.none _
   | refine LeO.ite ?_ ?_
   | refine LeO.bind ?_ (fun _ => ?_)
theorem codec_number.calls (k : Nat) (P0_ : Nat → Prop) (u9000_ : Value) (l0 : List Int) (A1 : Option Addr) (c1 : Nat) (l1 : List Int) (r : List Int) (w0 w : World) (hB : Below w0.heap.size w0 w) (ho0 : Kd.R (Kd.int .u8) 5 w w0.heap.size P0_ u9000_ l0) (hr1 : ∀ W_, Kept w W_ (fun k_ => P0_ k_) → Kd.C (Kd.int .i64) W_ A1 l1.length l1) (hc1 : l1.length ≤ c1) (h : codec_number.f k l0 l1 = some r) :
  Calls Try.prog 39 #[u9000_, .slice A1 l1.length c1] w fun e w' => ∃ v0_ : Value, e = .returned (v0_) ∧ Kd.R (Kd.int .u8) 5 w' w0.heap.size (fun k_ => (P0_ k_ ∨ w.heap.size ≤ k_)) v0_ r ∧ Below w0.heap.size w0 w' ∧ Kept w w' (fun k_ => P0_ k_) := by
 have HO0 := Aside0.mk (show Kd.R (Kd.int .u8) 5 w w0.heap.size (fun k_ => (P0_ k_ ∨ w.heap.size ≤ k_)) u9000_ l0 from Kd.R_mono ho0 (fun k_ hk => (.inl hk)))
 have HR1 := Aside0.mk hr1
 have HC1 := Aside0.mk hc1
 clear hr1 hc1
 have HK := Aside0.mk (Kept.refl w (fun k_ => P0_ k_))
 have HW0 := Aside0.mk hB.size
 have HB := Aside0.mk hB
 clear hB
 have H : (codec_number.l0 k l0 l1 (l1.length : Int) 0) = some r := h
 clear h
 have H' := Aside0.mk H
 clear H
 go_enter Try.func39, Try.ntmps39
 go_wp2
 go_loopg [0, 9] k (fun kq v0 v9 w' => ∃ (x0_1 : List Int) (x9_1 : Int), v9 = .int .i64 x9_1 ∧ Aside0 (codec_number.l0 kq x0_1 l1 (l1.length : Int) x9_1 = some r) ∧ Aside0 (kq ≤ k) ∧ Aside0 (Kd.R (Kd.int .u8) 5 w' w0.heap.size (fun k_ => (P0_ k_ ∨ w.heap.size ≤ k_)) v0 x0_1) ∧ Aside0 (Kept w w' (fun k_ => P0_ k_)) ∧ Aside0 (Below w0.heap.size w0 w'))
 case atStart => exact ⟨(l0), (0), (by first | rfl | (simp; done) | (simp [*]; done)), H', ⟨Nat.le_refl _⟩, ⟨by (with_reducible repeat (first | apply Kd.R_alloc | apply Kd.R_drewN | apply Kd.R_drew)); exact HO0.out⟩, ⟨by repeat (first | (with_reducible first | exact HK.out | apply Kept.alloc | apply Kept.drewN | apply Kept.drew) | exact HK.out)⟩, ⟨by repeat (first | (with_reducible first | exact HB.out | apply below_alloc | apply pw_below_drewN | apply below_drew1) | exact HB.out)⟩⟩
 case round =>
  clear H'
  try clear c1
  try clear p2
  obtain ⟨x0_1, x9_1, rfl, HA, HK1, HO_0, HK, HB⟩ := hrel
  cases gk with
  | zero => exact absurd HA.out (by simp [codec_number.l0])
  | succ k1 =>
   have H := HA.out
   clear HA
   simp only [codec_number.l0] at H
   by_cases c3 : x9_1 < (l1.length : Int)
   ·rw [if_pos c3] at H
    have c3b0 : decide (x9_1 < (l1.length : Int)) = true := decide_eq_true c3
    clear c3
    by_cases c4 : 0 ≤ x9_1
    ·rw [if_pos c4] at H
     have c4b0 : decide (0 ≤ x9_1) = true := decide_eq_true c4
     clear c4
     by_cases c5 : x9_1 < (l1.length : Int)
     ·rw [if_pos c5] at H
      have c5b0 : decide (x9_1 < (l1.length : Int)) = true := decide_eq_true c5
      clear c5
      replace H := Option.bind_eq_some_iff.mp H
      obtain ⟨t109, A60, H⟩ := H
      replace H : (if x0_1.length + t109.size < 140737488355328 then (codec_number.l0 k1 (x0_1 ++ bytesOf t109) l1 (l1.length : Int) (wrap64 (x9_1 + 1))) else (none)) = some r := H
      have A6 := Aside0.mk A60
      clear A60
      by_cases c7 : x0_1.length + t109.size < 140737488355328
      ·rw [if_pos c7] at H
       have LMc7 := Aside0.mk c7
       clear c7
       obtain ⟨y110, hy110⟩ : ∃ y_ : List Int, y_ = (x0_1 ++ bytesOf t109) := ⟨_, rfl⟩
       replace H : (codec_number.l0 k1 y110 l1 (l1.length : Int) (wrap64 (x9_1 + 1))) = some r := by first | (rw [hy110]; with_reducible exact H) | (have H2_ := (Option.bind_some _ _).symm.trans H; rw [hy110]; with_reducible exact H2_) | (have H2_ := (Option.bind_some _ _).symm.trans H; with_reducible exact H2_) | with_reducible exact H | (rw [hy110]; exact H) | exact H
       have Ny110 := Aside0.mk hy110
       clear hy110
       have H' := Aside0.mk H
       clear H
       have p108 : 0 ≤ (x9_1 : Int) := of_decide_eq_true (by first | (with_reducible assumption) | assumption)
       have q108 : x9_1 < (l1.length : Int) := of_decide_eq_true (by first | (with_reducible assumption) | assumption)
       obtain ⟨ad108, e108, hx108_0⟩ := Kd.at_int (Kd.C_kept_now HR1.out HK.out) x9_1 p108 q108
       cases e108
       replace p108 := eq_true p108
       replace q108 := eq_true q108
       go_wp2_with (first | ((with_reducible refine gate_callee (f := 87) rfl ?_); refine goesL_ (some 15) rfl rfl Try.func87 (by kernel_rfl) rfl #[.int .i64 (rd l1 x9_1)] rfl (by (try simp only [List.map_toArray, List.map_cons, List.map_nil]); first | done | rfl | (simp only [List.length_drop, List.length_take]; rfl)) ?_; (with_reducible refine (varint_Number.calls (rd l1 x9_1) t109 _ A6.out).mono ?_); rintro e w8 ⟨rfl, hb⟩; refine ⟨_, rfl, ?_⟩; have n0_ := Aside0.mk (Kd.R_below (by (with_reducible repeat (first | apply Kd.R_alloc | apply Kd.R_drewN | apply Kd.R_drew)); exact HO_0.out) hb); have n1_ := Aside0.mk (Kept.below (S := (fun k_ => P0_ k_)) (by repeat (first | (with_reducible first | exact HK.out | apply Kept.alloc | apply Kept.drewN | apply Kept.drew) | exact HK.out)) hb); have n2_ := Aside0.mk (below_step (by repeat (first | (with_reducible first | exact HB.out | apply below_alloc | apply pw_below_drewN | apply below_drew1) | exact HB.out)) hb); clear HO_0; clear HK; clear HB; have HO_0 := n0_; have HK := n1_; have HB := n2_; clear n0_ n1_ n2_; (try clear hb); (try clear hb2); (try clear hk); (try clear hi)) | (at_builtin; refine append_str_hat (w0 := w0) w0.heap.size rfl (.tmp 13) _ 74 9 5 rfl Try.underlying74 Try.underlying9 info5 u0 x0_1 t109 rfl rfl ?aO ?aB ?aS ?aL ?_; (case aB => exact (by repeat (first | (with_reducible first | exact HB.out | apply below_alloc | apply pw_below_drewN | apply below_drew1) | exact HB.out))); (case aO => exact (Kd.own_of_R (by (with_reducible repeat (first | apply Kd.R_alloc | apply Kd.R_drewN | apply Kd.R_drew)); exact HO_0.out))); (case aS => exact (below_size (by repeat (first | (with_reducible first | exact HB.out | apply below_alloc | apply pw_below_drewN | apply below_drew1) | exact HB.out)))); (case aL => have := LMc7.out; omega); intro v111 w9 ho0 hb hg hat; have ho := Kd.R_of_own (h1 := fun _ => rfl) (ok := (fun k_ => (P0_ k_ ∨ w.heap.size ≤ k_))) ho0 (fun k_ hk_ => Or.elim hat (fun h1_ => HO_0.out.1 k_ (h1_.symm.trans hk_)) (fun h2_ => (fun k_ hk => (.inr (Nat.le_trans (by first | exact HK.out.1 | exact (show Kept w _ (fun k_ => P0_ k_) from by repeat (first | (with_reducible first | exact HK.out | apply Kept.alloc | apply Kept.drewN | apply Kept.drew) | exact HK.out)).1) hk))) k_ (by obtain ⟨b_, hb_, hl_⟩ := h2_; rw [hb_] at hk_; cases hk_; exact hl_))); clear ho0; rw [← Ny110.out] at ho; change Kd.R (Kd.int .u8) 5 w9 w0.heap.size (fun k_ => (P0_ k_ ∨ w.heap.size ≤ k_)) v111 y110 at ho; have n0_ := Aside0.mk (hb); have n1_ := Aside0.mk (Kept.of_grown (S := (fun k_ => P0_ k_)) hg (by repeat (first | (with_reducible first | exact HK.out | apply Kept.alloc | apply Kept.drewN | apply Kept.drew) | exact HK.out)) (fun k_ e_ => (HO_0.out.1 k_ e_))); have n2_ := Aside0.mk (ho); clear HB; clear HK; clear HO_0; have HB := n0_; have HK := n1_; have HO112 := n2_; clear n0_ n1_ n2_; clear ho hb hg hat))
       go_roundg k1
       case measure => have := HK1.out; omega
       case rel => exact ⟨(y110), (wrap64 (x9_1 + 1)), (by first | rfl | (simp; done) | (simp [*]; done)), H', ⟨by have := HK1.out; omega⟩, ⟨by (with_reducible repeat (first | apply Kd.R_alloc | apply Kd.R_drewN | apply Kd.R_drew)); exact HO112.out⟩, ⟨by repeat (first | (with_reducible first | exact HK.out | apply Kept.alloc | apply Kept.drewN | apply Kept.drew) | exact HK.out)⟩, ⟨by repeat (first | (with_reducible first | exact HB.out | apply below_alloc | apply pw_below_drewN | apply below_drew1) | exact HB.out)⟩⟩
      ·rw [if_neg c7] at H
       exact absurd H (by simp)
     ·rw [if_neg c5] at H
      exact absurd H (by simp)
    ·rw [if_neg c4] at H
     exact absurd H (by simp)
   ·rw [if_neg c3] at H
    have c3b0 : decide (x9_1 < (l1.length : Int)) = false := decide_eq_false c3
    clear c3
    obtain rfl := Option.some.inj H
    go_wp2
    go_ret
    exact ⟨_, by first | rfl | (simp [errW_none, errW_some] <;> rfl) | (simp [*, errW_none, errW_some] <;> rfl), by (with_reducible repeat (first | apply Kd.R_alloc | apply Kd.R_drewN | apply Kd.R_drew)); exact HO_0.out, by repeat (first | (with_reducible first | exact HB.out | apply below_alloc | apply pw_below_drewN | apply below_drew1) | exact HB.out), by repeat (first | (with_reducible first | exact HK.out | apply Kept.alloc | apply Kept.drewN | apply Kept.drew) | exact HK.out)⟩
def varint_Numbers_1.f (a0 : Int) : Option (ByteArray × Int) := (varint_Number.f a0).bind fun t101 => (some (t101, 0))
theorem varint_Numbers_1.calls (a0 : Int) (r1 : ByteArray) (r2 : Int) (w : World) (h : varint_Numbers_1.f a0 = some (r1, r2)) :
  Calls Try.prog 106 #[.int .i64 a0] w fun e w' => e = .returned (.tuple #[.string r1, .int .i64 r2]) ∧ Below w.heap.size w w' := by
 have HB := Aside0.mk (Below.refl w.heap.size w)
 have H : ((varint_Number.f a0).bind fun t101 => (some (t101, 0))) = some (r1, r2) := h
 clear h
 replace H := Option.bind_eq_some_iff.mp H
 obtain ⟨t101, A20, H⟩ := H
 replace H : (some (t101, 0)) = some (r1, r2) := H
 have A2 := Aside0.mk A20
 clear A20
 simp only [Option.some.injEq, Prod.mk.injEq] at H
 obtain ⟨rfl, rfl⟩ := H
 go_enter Try.func106, Try.ntmps106
 go_wp2_with (first | ((with_reducible refine gate_callee (f := 87) rfl ?_); refine goesL_ (some 5) rfl rfl Try.func87 (by kernel_rfl) rfl #[.int .i64 a0] rfl (by (try simp only [List.map_toArray, List.map_cons, List.map_nil]); first | done | rfl | (simp only [List.length_drop, List.length_take]; rfl)) ?_; (with_reducible refine (varint_Number.calls a0 t101 _ A2.out).mono ?_); rintro e w3 ⟨rfl, hb⟩; refine ⟨_, rfl, ?_⟩; have n0_ := Aside0.mk (below_step (by repeat (first | (with_reducible first | exact HB.out | apply below_alloc | apply pw_below_drewN | apply below_drew1) | exact HB.out)) hb); clear HB; have HB := n0_; clear n0_; (try clear hb); (try clear hb2); (try clear hk); (try clear hi)))
 go_ret2
 exact ⟨by first | rfl | (simp [errW_none, errW_some] <;> rfl) | (simp [*, errW_none, errW_some] <;> rfl), by repeat (first | (with_reducible first | exact HB.out | apply below_alloc | apply pw_below_drewN | apply below_drew1) | exact HB.out)⟩
theorem numberO_calls (x : Int) (s : ByteArray) (e2 : Int) (w : World) (h : (varint_Number.f x).map (fun t => (t, (0 : Int))) = some (s, e2)) :
  Calls Try.prog 106 #[.int .i64 x] w fun e w' => e = .returned (.tuple #[.string s, .int .i64 e2]) ∧ Below w.heap.size w w' := by
 rw [Option.map_eq_some_iff] at h
 obtain ⟨t, ht, h⟩ := h
 simp only [Prod.mk.injEq] at h
 obtain ⟨rfl, rfl⟩ := h
 exact varint_Numbers_1.calls x t 0 w (by unfold varint_Numbers_1.f; rw [bind_of ht])
theorem list_ints (k : Nat) (A : Option Addr) (c : Nat) (l : List Int) (t0 : ByteArray) (r1 : ByteArray) (r2 : Int) (w : World) (hr : Kd.C (Kd.int .i64) w A l.length l) (hc : l.length ≤ c) (hl : l.length ≤ 256) (ht : varint_Number.f (l.length : Int) = some t0) (h0 : t0.size ≤ 140737488351232) (h : listO (fun x => (varint_Number.f x).map (fun t => (t, (0 : Int)))) l (bytesOf t0) = some (r1, r2)) :
  Calls Try.prog 105 #[.slice A l.length c, .func (Fn.func 106) #[] #[]] w fun e w' => e = .returned (.tuple #[.string r1, .int .i64 r2]) ∧ Below w.heap.size w w' := by
 have HT := Aside0.mk ht
 have HL := Aside0.mk h
 have HR := Aside0.mk hr
 have hcv := fun W : World => Lib.run_convert_string_bytes (P := Try.prog) W 9 74 5 t0 Try.underlying9 Try.underlying74 Try.underlying5
 clear ht h hr
 obtain ⟨i0, hi, hz0, hz1, hz2⟩ := info_parts infoB
 go_enter Try.func105, Try.ntmps105
 go_wp2_with (first | (go_at_call 87; refine (varint_Number.calls (l.length : Int) t0 _ HT.out).mono ?_; rintro e w1 ⟨rfl, hb⟩; have HB1 := Aside0.mk hb; have HM1 := Aside0.mk (MOwn.of_bytes w1 w.heap.size 5 t0 HB1.out.size (by simp only [maxLen]; omega)); have HB2 := Aside0.mk (bytes_below HB1.out HB1.out.size 5 t0)))
 have hcv0 := Aside0.mk hcv
 clear hcv
 go_loopg [6, 20] l.length (fun kq vb vi wr => ∃ (i : Nat) (xs : List Int), vi = .int .i64 i ∧ Aside0 (i + kq = l.length) ∧ Aside0 (listO (fun x => (varint_Number.f x).map (fun t => (t, (0 : Int)))) (l.drop i) xs = some (r1, r2)) ∧ Aside0 (MOwn wr w.heap.size 5 vb (nums .u8 xs)) ∧ Aside0 (Below w.heap.size w wr))
 case atStart => exact ⟨0, bytesOf t0, rfl, ⟨by simp⟩, ⟨by rw [List.drop_zero]; exact HL.out⟩, ⟨by rw [← strCells_nums]; exact HM1.out⟩, HB2⟩
 case round =>
  clear HB2 HM1
  obtain ⟨i, xs, rfl, HK, HO, HM, HB⟩ := hrel
  have hil : i ≤ l.length := by have := HK.out; omega
  by_cases hlt : i < l.length
  ·obtain ⟨ad, ea, hcell⟩ := Kd.at_int HR.out (i : Int) (by omega) (by omega)
   cases ea
   replace hcell := (HB.out.cell (World.block_lt_of_cell? w _ hcell)).trans hcell
   rw [Int.toNat_natCast] at hcell
   obtain ⟨x, hx⟩ : ∃ x, x = rd l (i : Int) := ⟨_, rfl⟩
   rw [← hx] at hcell
   have ho := HO.out
   rw [List.drop_eq_getElem_cons hlt, listO, Option.bind_eq_some_iff] at ho
   rw [rd_at l i hlt] at hx
   rw [← hx] at ho
   obtain ⟨⟨s, e2⟩, hs, ho⟩ := ho
   have HS := Aside0.mk hs
   have HO2 := Aside0.mk ho
   clear hs ho hx HO
   by_cases he : e2 = 0
   ·subst he
    have ho := HO2.out
    rw [if_pos rfl] at ho
    by_cases hfit : xs.length + s.size ≤ 140737488355328
    ·rw [if_pos hfit] at ho
     have HO3 := Aside0.mk ho
     have HF := Aside0.mk hfit
     clear ho HO2 hfit
     go_wp2_with (first
      | (go_at_call 106; refine (numberO_calls x s 0 _ HS.out).mono ?_; rintro e w2 ⟨rfl, hb⟩; have HB3 := Aside0.mk (Below.trans HB.out (hb.mono HB.out.size)); have HM3 := Aside0.mk (HM.out.below hb); clear hb HB HM)
      | ((with_reducible refine gate_dst (N := 35) rfl ?_); refine wpList_append_m_string _ rfl (.tmp 33) (.tmp 34) 74 9 rfl w.heap.size 5 i0 Try.underlying74 Try.underlying9 hi hz0 hz1 hz2 _ (nums .u8 xs) rfl HM3.out s rfl (by rw [nums_length]; exact HF.out) HB3.out.size ?_; intro v1 w3 hm1 hg1; rw [appended_m] at hm1; have HM4 := Aside0.mk hm1; have HB4 := Aside0.mk (HB3.out.grown hg1 HB3.out.size (fun k hk => HM3.out.base_le k hk)); clear hm1 hg1))
     go_roundg (l.length - (i + 1))
     case measure => have := HK.out; omega
     case rel => exact ⟨i + 1, xs ++ bytesOf s, by go_num, ⟨by omega⟩, HO3, HM4, HB4⟩
    ·rw [if_neg hfit] at ho
     cases ho
   ·have ho := HO2.out
    rw [if_neg he] at ho
    simp only [Option.some.injEq, Prod.mk.injEq] at ho
    obtain ⟨rfl, rfl⟩ := ho
    go_wp2_with (go_at_call 106; refine (numberO_calls x s e2 _ HS.out).mono ?_; rintro e w2 ⟨rfl, hb⟩; have HB3 := Aside0.mk (Below.trans HB.out (hb.mono HB.out.size)); clear hb)
    go_ret2
    exact ⟨rfl, HB3.out⟩
  ·obtain rfl : i = l.length := by omega
   have ho := HO.out
   rw [List.drop_length, listO] at ho
   simp only [Option.some.injEq, Prod.mk.injEq] at ho
   obtain ⟨hs, rfl⟩ := ho
   have hcs := MOwn.to_string (P := Try.prog) Try.underlying74 Try.underlying5 Try.underlying9 HM.out
   rw [hs] at hcs
   clear hs
   go_wp2
   go_ret2
   exact ⟨rfl, HB.out⟩
def varint_Numbers.f (l : List Int) : Option (ByteArray × Int) :=
 if 256 < l.length then some (⟨#[]⟩, 4) else (varint_Number.f (l.length : Int)).bind fun t => listO (fun x => (varint_Number.f x).map (fun t => (t, (0 : Int)))) l (bytesOf t)
set_option maxHeartbeats 1000000 in
theorem varint_Numbers.calls (A : Option Addr) (c : Nat) (l : List Int) (r1 : ByteArray) (r2 : Int) (w : World) (hr : Kd.C (Kd.int .i64) w A l.length l) (hc : l.length ≤ c) (h : varint_Numbers.f l = some (r1, r2)) :
  Calls Try.prog 88 #[.slice A l.length c] w fun e w' => e = .returned (.tuple #[.string r1, .int .i64 r2]) ∧ Below w.heap.size w w' := by
 have hbig : 256 < l.length → Calls Try.prog 105 #[.slice A l.length c, .func (Fn.func 106) #[] #[]] w fun e w' => e = .returned (.tuple #[.string ⟨#[]⟩, .int .i64 4]) ∧ Below w.heap.size w w' := by
  intro hb
  go_enter Try.func105, Try.ntmps105
  go_wp2
  go_ret2
  exact ⟨rfl, Below.refl _ _⟩
 have HC : Aside0 (Calls Try.prog 105 #[.slice A l.length c, .func (Fn.func 106) #[] #[]] w fun e w' => e = .returned (.tuple #[.string r1, .int .i64 r2]) ∧ Below w.heap.size w w') := by
  unfold varint_Numbers.f at h
  by_cases hb : 256 < l.length
  ·rw [if_pos hb] at h
   simp only [Option.some.injEq, Prod.mk.injEq] at h
   obtain ⟨rfl, rfl⟩ := h
   exact ⟨hbig hb⟩
  ·rw [if_neg hb, Option.bind_eq_some_iff] at h
   obtain ⟨t, ht, h⟩ := h
   have hz : t.size ≤ 140737488351232 := by
    unfold varint_Number.f at ht
    split at ht
    ·obtain rfl := Option.some.inj ht
     have := numB_size (l.length : Int)
     omega
    ·cases ht
   exact ⟨list_ints 0 A c l t r1 r2 w hr hc (by omega) ht hz h⟩
 clear hbig h hr
 go_enter Try.func88, Try.ntmps88
 go_wp2_with (go_at_call 105; refine HC.out.mono ?_; rintro e w1 ⟨rfl, hb⟩; have HB := Aside0.mk hb; clear hb)
 go_ret2
 exact ⟨rfl, HB.out⟩
def codec_numbers.f (l0 : List Int) (l1 : List Int) : Option (List Int) := (varint_Numbers.f l1).bind fun bt113 => (if l0.length + bt113.1.size < 140737488355328 then (some (l0 ++ bytesOf bt113.1)) else (none))
theorem codec_numbers.calls (P0_ : Nat → Prop) (u9000_ : Value) (l0 : List Int) (A1 : Option Addr) (c1 : Nat) (l1 : List Int) (r : List Int) (w0 w : World) (hB : Below w0.heap.size w0 w) (ho0 : Kd.R (Kd.int .u8) 5 w w0.heap.size P0_ u9000_ l0) (hr1 : ∀ W_, Kept w W_ (fun k_ => P0_ k_) → Kd.C (Kd.int .i64) W_ A1 l1.length l1) (hc1 : l1.length ≤ c1) (h : codec_numbers.f l0 l1 = some r) :
  Calls Try.prog 40 #[u9000_, .slice A1 l1.length c1] w fun e w' => ∃ v0_ : Value, e = .returned (v0_) ∧ Kd.R (Kd.int .u8) 5 w' w0.heap.size (fun k_ => (P0_ k_ ∨ w.heap.size ≤ k_)) v0_ r ∧ Below w0.heap.size w0 w' ∧ Kept w w' (fun k_ => P0_ k_) := by
 have HO0 := Aside0.mk (show Kd.R (Kd.int .u8) 5 w w0.heap.size (fun k_ => (P0_ k_ ∨ w.heap.size ≤ k_)) u9000_ l0 from Kd.R_mono ho0 (fun k_ hk => (.inl hk)))
 have HR1 := Aside0.mk hr1
 have HC1 := Aside0.mk hc1
 clear hr1 hc1
 have HK := Aside0.mk (Kept.refl w (fun k_ => P0_ k_))
 have HW0 := Aside0.mk hB.size
 have HB := Aside0.mk hB
 clear hB
 have H : ((varint_Numbers.f l1).bind fun bt113 => (if l0.length + bt113.1.size < 140737488355328 then (some (l0 ++ bytesOf bt113.1)) else (none))) = some r := h
 clear h
 replace H := Option.bind_eq_some_iff.mp H
 obtain ⟨⟨t113, t114⟩, A30, H⟩ := H
 replace H : (if l0.length + t113.size < 140737488355328 then (some (l0 ++ bytesOf t113)) else (none)) = some r := H
 have A3 := Aside0.mk A30
 clear A30
 by_cases c4 : l0.length + t113.size < 140737488355328
 ·rw [if_pos c4] at H
  have LMc4 := Aside0.mk c4
  clear c4
  obtain ⟨y115, hy115⟩ : ∃ y_ : List Int, y_ = (l0 ++ bytesOf t113) := ⟨_, rfl⟩
  replace H : (some y115) = some r := by first | (rw [hy115]; with_reducible exact H) | (have H2_ := (Option.bind_some _ _).symm.trans H; rw [hy115]; with_reducible exact H2_) | (have H2_ := (Option.bind_some _ _).symm.trans H; with_reducible exact H2_) | with_reducible exact H | (rw [hy115]; exact H) | exact H
  have Ny115 := Aside0.mk hy115
  clear hy115
  obtain rfl := Option.some.inj H
  go_enter Try.func40, Try.ntmps40
  go_wp2_with (first | ((with_reducible refine gate_callee (f := 88) rfl ?_); refine goesL_ (some 9) rfl rfl Try.func88 (by kernel_rfl) rfl #[.slice A1 l1.length c1] rfl (by (try simp only [List.map_toArray, List.map_cons, List.map_nil]); first | done | rfl | (simp only [List.length_drop, List.length_take]; rfl)) ?_; (with_reducible refine (varint_Numbers.calls _ _ l1 t113 t114 _ ?side1 ?side2 A3.out).mono ?_); (case side1 => exact Kd.C_kept_now HR1.out (by repeat (first | (with_reducible first | exact HK.out | apply Kept.alloc | apply Kept.drewN | apply Kept.drew) | exact HK.out))); (case side2 => exact HC1.out); rintro e w5 ⟨rfl, hb⟩; refine ⟨_, rfl, ?_⟩; have n0_ := Aside0.mk (Kd.R_below (by (with_reducible repeat (first | apply Kd.R_alloc | apply Kd.R_drewN | apply Kd.R_drew)); exact HO0.out) hb); have n1_ := Aside0.mk (Kept.below (S := (fun k_ => P0_ k_)) (by repeat (first | (with_reducible first | exact HK.out | apply Kept.alloc | apply Kept.drewN | apply Kept.drew) | exact HK.out)) hb); have n2_ := Aside0.mk (below_step (by repeat (first | (with_reducible first | exact HB.out | apply below_alloc | apply pw_below_drewN | apply below_drew1) | exact HB.out)) hb); clear HO0; clear HK; clear HB; have HO0 := n0_; have HK := n1_; have HB := n2_; clear n0_ n1_ n2_; (try clear hb); (try clear hb2); (try clear hk); (try clear hi)) | (at_builtin; refine append_str_hat (w0 := w0) w0.heap.size rfl (.tmp 12) _ 74 9 5 rfl Try.underlying74 Try.underlying9 info5 u9000_ l0 t113 rfl rfl ?aO ?aB ?aS ?aL ?_; (case aB => exact (by repeat (first | (with_reducible first | exact HB.out | apply below_alloc | apply pw_below_drewN | apply below_drew1) | exact HB.out))); (case aO => exact (Kd.own_of_R (by (with_reducible repeat (first | apply Kd.R_alloc | apply Kd.R_drewN | apply Kd.R_drew)); exact HO0.out))); (case aS => exact (below_size (by repeat (first | (with_reducible first | exact HB.out | apply below_alloc | apply pw_below_drewN | apply below_drew1) | exact HB.out)))); (case aL => have := LMc4.out; omega); intro v116 w6 ho0 hb hg hat; have ho := Kd.R_of_own (h1 := fun _ => rfl) (ok := (fun k_ => (P0_ k_ ∨ w.heap.size ≤ k_))) ho0 (fun k_ hk_ => Or.elim hat (fun h1_ => HO0.out.1 k_ (h1_.symm.trans hk_)) (fun h2_ => (fun k_ hk => (.inr (Nat.le_trans (by first | exact HK.out.1 | exact (show Kept w _ (fun k_ => P0_ k_) from by repeat (first | (with_reducible first | exact HK.out | apply Kept.alloc | apply Kept.drewN | apply Kept.drew) | exact HK.out)).1) hk))) k_ (by obtain ⟨b_, hb_, hl_⟩ := h2_; rw [hb_] at hk_; cases hk_; exact hl_))); clear ho0; rw [← Ny115.out] at ho; change Kd.R (Kd.int .u8) 5 w6 w0.heap.size (fun k_ => (P0_ k_ ∨ w.heap.size ≤ k_)) v116 y115 at ho; have n0_ := Aside0.mk (hb); have n1_ := Aside0.mk (Kept.of_grown (S := (fun k_ => P0_ k_)) hg (by repeat (first | (with_reducible first | exact HK.out | apply Kept.alloc | apply Kept.drewN | apply Kept.drew) | exact HK.out)) (fun k_ e_ => (HO0.out.1 k_ e_))); have n2_ := Aside0.mk (ho); clear HB; clear HK; clear HO0; have HB := n0_; have HK := n1_; have HO117 := n2_; clear n0_ n1_ n2_; clear ho hb hg hat))
  go_ret
  exact ⟨_, by first | rfl | (simp [errW_none, errW_some] <;> rfl) | (simp [*, errW_none, errW_some] <;> rfl), by (with_reducible repeat (first | apply Kd.R_alloc | apply Kd.R_drewN | apply Kd.R_drew)); exact HO117.out, by repeat (first | (with_reducible first | exact HB.out | apply below_alloc | apply pw_below_drewN | apply below_drew1) | exact HB.out), by repeat (first | (with_reducible first | exact HK.out | apply Kept.alloc | apply Kept.drewN | apply Kept.drew) | exact HK.out)⟩
 ·rw [if_neg c4] at H
  exact absurd H (by simp)
def codec_PutCmd.f (k : Nat) (a0_0 : Int) (a0_1 : Int) (a0_2 : ByteArray) (a0_3 : Int) (l0_4 : List Int) (a0_5 : Int) : Option (ByteArray × Int) := (codec_number.f k ([] : List Int) (([a0_0, a0_1] : List Int))).bind fun t145 => ((codec_text.f t145 a0_2).bind fun t148 => ((codec_number.f k t148 (([a0_3] : List Int))).bind fun t154 => ((codec_numbers.f t154 l0_4).bind fun t157 => ((codec_cmd.f k a0_0 a0_1 a0_2 a0_3 l0_4 a0_5).bind fun t160 => ((codec_number.f k t157 (([a0_5] : List Int))).bind fun t164 => ((codec_laid.f t160 t164).bind fun bt167 => (some (bt167.1, bt167.2))))))))
theorem codec_PutCmd.mono : ∀ a0 a1 a2 a3 a4 a5 k, LeO (codec_PutCmd.f k a0 a1 a2 a3 a4 a5) (codec_PutCmd.f (k + 1) a0 a1 a2 a3 a4 a5) := by
 intro a0 a1 a2 a3 a4 a5 k
 unfold codec_PutCmd.f
 repeat' first
   | (with_reducible exact codec_cmd.mono _ _ _ _ _ _ _)
   | (with_reducible exact codec_number.mono _ _ _)
   | (with_reducible exact LeO.refl _)
   | (with_reducible exact LeO.none _)
   | (with_reducible refine LeO.ite ?_ ?_)
   | (with_reducible refine LeO.bind ?_ (fun _ => ?_))
   | exact codec_cmd.mono _ _ _ _ _ _ _
   | exact codec_number.mono _ _ _
   | exact LeO.none _
   | refine LeO.ite ?_ ?_
   | refine LeO.bind ?_ (fun _ => ?_)
def codec_PutCmd.T1 : Bool × List (List Nat × List Nat) := (true, [([], []), ([0], [0]), ([], []), ([2], [2]), ([1, 3], [1, 3]), ([4], [4]), ([], []), ([6], [6]), ([5, 7, 5], [5, 7]), ([8, 8, 0, 1, 2, 3, 4, 5, 6, 7, 8], [8])])
def codec_PutCmd.B1 : List Nat := [0, 1, 0, 4, 15, 31, 0, 64, 255, 511]
theorem codec_PutCmd.tab1 : rtab .any (opsOf Try.f7 1) = codec_PutCmd.T1 := by kernel_rfl
theorem codec_PutCmd.bits1 : waitsOk codec_PutCmd.T1.2 codec_PutCmd.B1 = true := by kernel_rfl
def codec_PutCmd.T2 : Bool × List (List Nat × List Nat) := (true, [([], []), ([], []), ([1], [1]), ([2], [2]), ([0, 3], [0, 3]), ([], []), ([5], [5]), ([4, 6, 4], [4, 6]), ([7, 7, 0, 1, 2, 3, 4, 5, 6, 7], [0, 7])])
def codec_PutCmd.B2 : List Nat := [0, 0, 2, 6, 15, 0, 32, 127, 255]
theorem codec_PutCmd.tab2 : rtab .any (opsOf Try.f7 2) = codec_PutCmd.T2 := by kernel_rfl
theorem codec_PutCmd.bits2 : waitsOk codec_PutCmd.T2.2 codec_PutCmd.B2 = true := by kernel_rfl
def codec_PutCmd.T3 : Bool × List (List Nat × List Nat) := (true, [([], []), ([0], [0]), ([], []), ([], []), ([3], [3]), ([4], [4]), ([2, 5, 1], [2, 5]), ([1, 6, 6], [1, 6]), ([7], [7]), ([7], [7]), ([8, 7, 0, 1, 2, 3, 4, 5, 6, 7, 8, 9], [8]), ([9, 10, 0, 1, 2, 3, 4, 5, 6, 7, 8, 9, 10], [9])])
def codec_PutCmd.B3 : List Nat := [0, 1, 0, 0, 8, 24, 63, 127, 255, 255, 1023, 2047]
theorem codec_PutCmd.tab3 : rtab .any (opsOf Try.f7 3) = codec_PutCmd.T3 := by kernel_rfl
theorem codec_PutCmd.bits3 : waitsOk codec_PutCmd.T3.2 codec_PutCmd.B3 = true := by kernel_rfl
theorem codec_PutCmd.calls (k : Nat) (a0_0 : Int) (a0_1 : Int) (a0_2 : ByteArray) (a0_3 : Int) (A0_4 : Option Addr) (c0_4 : Nat) (l0_4 : List Int) (a0_5 : Int) (r1 : ByteArray) (r2 : Int) (w : World) (hr0_4 : Kd.C (Kd.int .i64) w A0_4 l0_4.length l0_4) (hc0_4 : l0_4.length ≤ c0_4) (h : codec_PutCmd.f k a0_0 a0_1 a0_2 a0_3 l0_4 a0_5 = some (r1, r2)) :
  Calls Try.prog 7 #[.agg #[.int .i64 a0_0, .int .i64 a0_1, .string a0_2, .int .i64 a0_3, .slice A0_4 l0_4.length c0_4, .int .i64 a0_5]] w fun e w' => e = .returned (.tuple #[.string r1, .int .i64 r2]) ∧ Below w.heap.size w w' := by
 have hu24 := Try.underlying24
 have HR0_4 := Aside0.mk hr0_4
 have HC0_4 := Aside0.mk hc0_4
 clear hr0_4 hc0_4
 have HB := Aside0.mk (Below.refl w.heap.size w)
 have H : ((codec_number.f k ([] : List Int) (([a0_0, a0_1] : List Int))).bind fun t145 => ((codec_text.f t145 a0_2).bind fun t148 => ((codec_number.f k t148 (([a0_3] : List Int))).bind fun t154 => ((codec_numbers.f t154 l0_4).bind fun t157 => ((codec_cmd.f k a0_0 a0_1 a0_2 a0_3 l0_4 a0_5).bind fun t160 => ((codec_number.f k t157 (([a0_5] : List Int))).bind fun t164 => ((codec_laid.f t160 t164).bind fun bt167 => (some (bt167.1, bt167.2))))))))) = some (r1, r2) := h
 clear h
 obtain ⟨y142, hy142⟩ : ∃ y_ : List Int, y_ = (([a0_0, a0_1] : List Int)) := ⟨_, rfl⟩
 replace H : ((codec_number.f k ([] : List Int) y142).bind fun t145 => ((codec_text.f t145 a0_2).bind fun t148 => ((codec_number.f k t148 (([a0_3] : List Int))).bind fun t154 => ((codec_numbers.f t154 l0_4).bind fun t157 => ((codec_cmd.f k a0_0 a0_1 a0_2 a0_3 l0_4 a0_5).bind fun t160 => ((codec_number.f k t157 (([a0_5] : List Int))).bind fun t164 => ((codec_laid.f t160 t164).bind fun bt167 => (some (bt167.1, bt167.2))))))))) = some (r1, r2) := by first | (rw [hy142]; with_reducible exact H) | (have H2_ := (Option.bind_some _ _).symm.trans H; rw [hy142]; with_reducible exact H2_) | (have H2_ := (Option.bind_some _ _).symm.trans H; with_reducible exact H2_) | with_reducible exact H | (rw [hy142]; exact H) | exact H
 have Ny142 := Aside0.mk hy142
 clear hy142
 replace H := Option.bind_eq_some_iff.mp H
 obtain ⟨t145, A20, H⟩ := H
 replace H : ((codec_text.f t145 a0_2).bind fun t148 => ((codec_number.f k t148 (([a0_3] : List Int))).bind fun t154 => ((codec_numbers.f t154 l0_4).bind fun t157 => ((codec_cmd.f k a0_0 a0_1 a0_2 a0_3 l0_4 a0_5).bind fun t160 => ((codec_number.f k t157 (([a0_5] : List Int))).bind fun t164 => ((codec_laid.f t160 t164).bind fun bt167 => (some (bt167.1, bt167.2)))))))) = some (r1, r2) := H
 have A2 := Aside0.mk A20
 clear A20
 replace H := Option.bind_eq_some_iff.mp H
 obtain ⟨t148, A30, H⟩ := H
 replace H : ((codec_number.f k t148 (([a0_3] : List Int))).bind fun t154 => ((codec_numbers.f t154 l0_4).bind fun t157 => ((codec_cmd.f k a0_0 a0_1 a0_2 a0_3 l0_4 a0_5).bind fun t160 => ((codec_number.f k t157 (([a0_5] : List Int))).bind fun t164 => ((codec_laid.f t160 t164).bind fun bt167 => (some (bt167.1, bt167.2))))))) = some (r1, r2) := H
 have A3 := Aside0.mk A30
 clear A30
 obtain ⟨y151, hy151⟩ : ∃ y_ : List Int, y_ = (([a0_3] : List Int)) := ⟨_, rfl⟩
 replace H : ((codec_number.f k t148 y151).bind fun t154 => ((codec_numbers.f t154 l0_4).bind fun t157 => ((codec_cmd.f k a0_0 a0_1 a0_2 a0_3 l0_4 a0_5).bind fun t160 => ((codec_number.f k t157 (([a0_5] : List Int))).bind fun t164 => ((codec_laid.f t160 t164).bind fun bt167 => (some (bt167.1, bt167.2))))))) = some (r1, r2) := by first | (rw [hy151]; with_reducible exact H) | (have H2_ := (Option.bind_some _ _).symm.trans H; rw [hy151]; with_reducible exact H2_) | (have H2_ := (Option.bind_some _ _).symm.trans H; with_reducible exact H2_) | with_reducible exact H | (rw [hy151]; exact H) | exact H
 have Ny151 := Aside0.mk hy151
 clear hy151
 replace H := Option.bind_eq_some_iff.mp H
 obtain ⟨t154, A40, H⟩ := H
 replace H : ((codec_numbers.f t154 l0_4).bind fun t157 => ((codec_cmd.f k a0_0 a0_1 a0_2 a0_3 l0_4 a0_5).bind fun t160 => ((codec_number.f k t157 (([a0_5] : List Int))).bind fun t164 => ((codec_laid.f t160 t164).bind fun bt167 => (some (bt167.1, bt167.2)))))) = some (r1, r2) := H
 have A4 := Aside0.mk A40
 clear A40
 replace H := Option.bind_eq_some_iff.mp H
 obtain ⟨t157, A50, H⟩ := H
 replace H : ((codec_cmd.f k a0_0 a0_1 a0_2 a0_3 l0_4 a0_5).bind fun t160 => ((codec_number.f k t157 (([a0_5] : List Int))).bind fun t164 => ((codec_laid.f t160 t164).bind fun bt167 => (some (bt167.1, bt167.2))))) = some (r1, r2) := H
 have A5 := Aside0.mk A50
 clear A50
 replace H := Option.bind_eq_some_iff.mp H
 obtain ⟨t160, A60, H⟩ := H
 replace H : ((codec_number.f k t157 (([a0_5] : List Int))).bind fun t164 => ((codec_laid.f t160 t164).bind fun bt167 => (some (bt167.1, bt167.2)))) = some (r1, r2) := H
 have A6 := Aside0.mk A60
 clear A60
 obtain ⟨y161, hy161⟩ : ∃ y_ : List Int, y_ = (([a0_5] : List Int)) := ⟨_, rfl⟩
 replace H : ((codec_number.f k t157 y161).bind fun t164 => ((codec_laid.f t160 t164).bind fun bt167 => (some (bt167.1, bt167.2)))) = some (r1, r2) := by first | (rw [hy161]; with_reducible exact H) | (have H2_ := (Option.bind_some _ _).symm.trans H; rw [hy161]; with_reducible exact H2_) | (have H2_ := (Option.bind_some _ _).symm.trans H; with_reducible exact H2_) | with_reducible exact H | (rw [hy161]; exact H) | exact H
 have Ny161 := Aside0.mk hy161
 clear hy161
 replace H := Option.bind_eq_some_iff.mp H
 obtain ⟨t164, A70, H⟩ := H
 replace H : ((codec_laid.f t160 t164).bind fun bt167 => (some (bt167.1, bt167.2))) = some (r1, r2) := H
 have A7 := Aside0.mk A70
 clear A70
 replace H := Option.bind_eq_some_iff.mp H
 obtain ⟨⟨t167, t168⟩, A80, H⟩ := H
 replace H : (some (t167, t168)) = some (r1, r2) := H
 have A8 := Aside0.mk A80
 clear A80
 simp only [Option.some.injEq, Prod.mk.injEq] at H
 obtain ⟨rfl, rfl⟩ := H
 go_enter Try.func7, Try.ntmps7
 try go_wp2_with (first | ((with_reducible refine gate_dst (N := 1) rfl ?_); refine box_event ?hg (N := 1) ?hd (cs := #[.int .i64 a0_0, .int .i64 a0_1, .string a0_2, .int .i64 a0_3, .slice A0_4 l0_4.length c0_4, .int .i64 a0_5]) (t := 24) ?hr ?_; (case hd => rfl); (case hg => rfl); (case hr => first | (go_simp; done) | (go_simp; rfl)); intro gb141 hg w9 hbox hb; have n0_ := Aside0.mk (below_step (by repeat (first | (with_reducible first | exact HB.out | apply below_alloc | apply pw_below_drewN | apply below_drew1) | exact HB.out)) hb); have n1_ := Aside0.mk (hbox); have n2_ := Aside0.mk ((by rw [hg]; exact (below_size (by repeat (first | (with_reducible first | exact HB.out | apply below_alloc | apply pw_below_drewN | apply below_drew1) | exact HB.out))) : w.heap.size ≤ gb141)); have n3_ := Aside0.mk ((by rw [hg]; exact (below_size (by repeat (first | (with_reducible first | exact HB.out | apply below_alloc | apply pw_below_drewN | apply below_drew1) | exact HB.out))) : w.heap.size ≤ gb141)); clear HB; have HB := n0_; have BK141 := n1_; have GW141 := n2_; have GE141 := n3_; clear n0_ n1_ n2_ n3_; clear hb hbox hg))
 have n0_ := Aside0.mk (blk_drew BK141.out)
 have n1_ := Aside0.mk (below_drew1 HB.out)
 clear BK141
 clear HB
 have BK141 := n0_
 have HB := n1_
 clear n0_ n1_
 refine start_ (n := 10) (S := fun w' => w'.cell? ⟨gb141, 0, none⟩ = some (.int .i64 a0_0) ∧ w'.cell? ⟨gb141, 1, none⟩ = some (.int .i64 a0_1) ∧ w'.cell? ⟨gb141, 2, none⟩ = some (.string a0_2) ∧ w'.cell? ⟨gb141, 3, none⟩ = some (.int .i64 a0_3) ∧ w'.cell? ⟨gb141, 4, none⟩ = some (.slice A0_4 l0_4.length c0_4) ∧ w'.cell? ⟨gb141, 5, none⟩ = some (.int .i64 a0_5)) (ds := []) #[ZF,ZF,ZF,ZF,ZF,ZF,ZF,ZF,ZF,ZF] (by kernel_rfl) rfl rfl ⟨(blk_cell BK141.out 0).trans rfl, (blk_cell BK141.out 1).trans rfl, (blk_cell BK141.out 2).trans rfl, (blk_cell BK141.out 3).trans rfl, (blk_cell BK141.out 4).trans rfl, (blk_cell BK141.out 5).trans rfl⟩ (fun hHeld => ?_); refine with_tabW codec_PutCmd.tab1 codec_PutCmd.bits1 (fun HT_ HW_ => ?_)
 generalize w9.drew = w10 at BK141 HB hHeld ⊢
 refine pure_ (i := 0) (N := some 5) (v := ?_) (a' := ?_) #[ZT,ZF,ZF,ZF,ZF,ZF,ZF,ZF,ZF,ZF] rfl rfl (any_of HT_.out (by kernel_rfl)) (fun _ _ _ h => h) (Or.inl ⟨by rfl, ?_⟩) ?_ ?_
 rotate_left
 ·intro w'
  go_simp
  with_reducible rfl
 rotate_left
 ·simp only [Act.put, List.setIfInBounds_toArray, List.set_cons_zero, List.set_cons_succ, i64_w, i32_w]
  rfl
 refine pure_ (i := 2) (N := some 7) (v := ?_) (a' := ?_) #[ZT,ZF,ZT,ZF,ZF,ZF,ZF,ZF,ZF,ZF] rfl rfl (any_of HT_.out (by kernel_rfl)) (fun _ _ _ h => h) (Or.inl ⟨by rfl, ?_⟩) ?_ ?_
 rotate_left
 ·intro w'
  go_simp
  with_reducible rfl
 rotate_left
 ·simp only [Act.put, List.setIfInBounds_toArray, List.set_cons_zero, List.set_cons_succ, i64_w, i32_w]
  rfl
 refine pure_ (i := 6) (N := some 11) (v := ?_) (a' := ?_) #[ZT,ZF,ZT,ZF,ZF,ZF,ZT,ZF,ZF,ZF] rfl rfl (any_of HT_.out (by kernel_rfl)) (fun _ _ _ h => h) (Or.inl ⟨by rfl, ?_⟩) ?_ ?_
 rotate_left
 ·intro w'
  go_simp
  with_reducible rfl
 rotate_left
 ·simp only [Act.put, List.setIfInBounds_toArray, List.set_cons_zero, List.set_cons_succ, i64_w, i32_w]
  rfl
 refine take_ (i := 1) (N := some 6) (v := ?_) (a' := ?_) #[ZT,ZT,ZT,ZF,ZF,ZF,ZT,ZF,ZF,ZF] rfl rfl (take_ofW HT_.out HW_.out (by kernel_rfl)) (fun _ _ _ h => h) (Or.inl ⟨by rfl, ?_⟩) hHeld ?_ ?_
 rotate_left
 ·rintro w' ⟨s0, s1, s2, s3, s4, s5⟩
  go_simp
  with_reducible rfl
 rotate_left
 ·simp only [Act.put, List.setIfInBounds_toArray, List.set_cons_zero, List.set_cons_succ, i64_w, i32_w]
  rfl
 refine take_ (i := 3) (N := some 8) (v := ?_) (a' := ?_) #[ZT,ZT,ZT,ZT,ZF,ZF,ZT,ZF,ZF,ZF] rfl rfl (take_ofW HT_.out HW_.out (by kernel_rfl)) (fun _ _ _ h => h) (Or.inl ⟨by rfl, ?_⟩) hHeld ?_ ?_
 rotate_left
 ·rintro w' ⟨s0, s1, s2, s3, s4, s5⟩
  go_simp
  with_reducible rfl
 rotate_left
 ·simp only [Act.put, List.setIfInBounds_toArray, List.set_cons_zero, List.set_cons_succ, i64_w, i32_w]
  rfl
 refine take_ (i := 7) (N := some 12) (v := ?_) (a' := ?_) #[ZT,ZT,ZT,ZT,ZF,ZF,ZT,ZT,ZF,ZF] rfl rfl (take_ofW HT_.out HW_.out (by kernel_rfl)) (fun _ _ _ h => h) (Or.inl ⟨by rfl, ?_⟩) hHeld ?_ ?_
 rotate_left
 ·rintro w' ⟨s0, s1, s2, s3, s4, s5⟩
  go_simp
  with_reducible rfl
 rotate_left
 ·simp only [Act.put, List.setIfInBounds_toArray, List.set_cons_zero, List.set_cons_succ, i64_w, i32_w]
  rfl
 refine one_ (i := 4) (N := some 9) #[ZT,ZT,ZT,ZT,ZT,ZF,ZT,ZT,ZF,ZF] rfl rfl (one_of HT_.out (by kernel_rfl)) (by decide) (fun K hK => ?_)
 refine Kd.R_lit_step (Kd.int .i64) _ 3 ?hg (N := 9) ?hd (xs := ([a0_0, a0_1] : List Int)) (inner := [.int .i64 a0_0, .int .i64 a0_1]) (ok := fun _ => True) (okp := fun _ => True) ?hr ?hp (fun _ hk => hk) trivial (Below.refl _ _) (Nat.le_refl _) (by simp) ?_; (case hd => rfl); (case hg => rfl); (case hr => first | (go_simp; done) | (go_simp; rfl)); (case hp => exact (Reps.one (show Kd.M (Kd.int .i64) _ _ _ a0_0 [.int .i64 a0_0] from rfl) (Reps.one (show Kd.M (Kd.int .i64) _ _ _ a0_1 [.int .i64 a0_1] from rfl) (Reps.none _ _))))
 intro v143 w11 ho12 hb hg_ hnew_
 clear hg_ hnew_
 (first | rw [← Ny142.out] at ho12 | (simp only [Int.reduceToNat] at ho12; rw [← Ny142.out] at ho12))
 have n0_ := Aside0.mk (Kd.R_lower ho12 (below_size (by repeat (first | (with_reducible first | exact HB.out | apply below_alloc | apply pw_below_drewN | apply below_drew1 | refine below_set ?_ GE141.out) | exact HB.out))))
 have n1_ := Aside0.mk (blk_below (g := gb141) (o := .cells #[.int .i64 a0_0, .int .i64 a0_1, .string a0_2, .int .i64 a0_3, .slice A0_4 l0_4.length c0_4, .int .i64 a0_5] 24 (0, 0)) (by (with_reducible repeat (first | refine blk_drewN ?_ _ | refine blk_drew ?_ | refine blk_alloc ?_ _)); exact BK141.out) hb)
 have n2_ := Aside0.mk (below_step (by repeat (first | (with_reducible first | exact HB.out | apply below_alloc | apply pw_below_drewN | apply below_drew1 | refine below_set ?_ GE141.out) | exact HB.out)) hb)
 clear BK141
 clear HB
 have HO144 := n0_
 have BK141 := n1_
 have HB := n2_
 clear n0_ n1_ n2_
 clear hb ho12
 obtain ⟨Ao13, co13, eo13⟩ := Kd.R_slice HO144.out
 (first | subst eo13 | (injection eo13 with f1_ f2_ f3_; have f4_ := f1_.symm; have f5_ := f3_.symm; clear f1_ f2_ f3_; subst f4_; subst f5_))
 refine hK.out _ _ ⟨(blk_cell BK141.out 0).trans rfl, (blk_cell BK141.out 1).trans rfl, (blk_cell BK141.out 2).trans rfl, (blk_cell BK141.out 3).trans rfl, (blk_cell BK141.out 4).trans rfl, (blk_cell BK141.out 5).trans rfl⟩ (fun hHeld => ?_)
 clear hK K
 refine norm_ (a' := ?_) ?_ ?_
 rotate_left
 ·show Act.put _ (some 9) _ = _
  simp only [Act.put, List.setIfInBounds_toArray, List.set_cons_zero, List.set_cons_succ, i64_w, i32_w]
  rfl
 refine one_ (i := 5) (N := some 10) #[ZT,ZT,ZT,ZT,ZT,ZT,ZT,ZT,ZF,ZF] rfl rfl (one_of HT_.out (by kernel_rfl)) (by decide) (fun K hK => ?_)
 refine goes_ Try.func39 (by kernel_rfl) rfl #[.slice none 0 0, .slice Ao13 y142.length co13] (by rfl) rfl rfl (by (try simp only [List.map_toArray, List.map_cons, List.map_nil]); first | done | rfl | (simp only [List.length_drop, List.length_take]; rfl)) ?_
 refine (codec_number.calls k (fun k_ => some k_ = (.slice none 0 0 : Value).ownBlock) (.slice none 0 0) ([] : List Int) _ _ y142 t145 w _ ?side1 ?side2 ?side3 ?side4 A2.out).mono ?_
 (case side1 => repeat (first | (with_reducible first | exact HB.out | apply below_alloc | apply pw_below_drewN | apply below_drew1 | refine below_set ?_ GE141.out) | exact HB.out))
 (case side2 => exact Kd.R_nil _ _ _ _ _)
 (case side3 => exact Kd.C_kept_own (HO144.out) (fun k_ hk_ hs_ => (fun e_ => by simp [Value.ownBlock] at e_) hs_))
 (case side4 => exact (Kd.R_reads' HO144.out).2.1)
 rintro e w14 ⟨v146, rfl, ho0, hb, hkp⟩
 refine ⟨_, rfl, ?_⟩
 have n0_ := Aside0.mk (blk_kept (by (with_reducible repeat (first | refine blk_drewN ?_ _ | refine blk_drew ?_ | refine blk_alloc ?_ _)); exact BK141.out) hkp (fun hs_ => (fun e_ => by simp [Value.ownBlock] at e_) hs_))
 have n1_ := Aside0.mk (Kd.R_mono (ok' := fun k_ => True) (Kd.R_keptB (HO144.out) hkp (fun k_ hk_ hs_ => (fun e_ => by simp [Value.ownBlock] at e_) hs_)) (fun k_ hk_ => trivial))
 have n2_ := Aside0.mk (Kd.R_mono (ok' := fun k_ => True) ho0 (fun k_ hk_ => trivial))
 have n3_ := Aside0.mk (hb)
 clear BK141
 clear HO144
 clear HB
 have BK141 := n0_
 have HO144 := n1_
 have HO147 := n2_
 have HB := n3_
 clear n0_ n1_ n2_ n3_
 (try clear hb)
 (try clear hkp)
 (try clear ho0)
 obtain ⟨Ao15, co15, eo15⟩ := Kd.R_slice HO147.out
 (first | subst eo15 | (injection eo15 with f1_ f2_ f3_; have f4_ := f1_.symm; have f5_ := f3_.symm; clear f1_ f2_ f3_; subst f4_; subst f5_))
 refine hK.out _ _ ⟨(blk_cell BK141.out 0).trans rfl, (blk_cell BK141.out 1).trans rfl, (blk_cell BK141.out 2).trans rfl, (blk_cell BK141.out 3).trans rfl, (blk_cell BK141.out 4).trans rfl, (blk_cell BK141.out 5).trans rfl⟩ (fun hHeld => ?_)
 clear hK K
 refine norm_ (a' := ?_) ?_ ?_
 rotate_left
 ·show Act.put _ (some 10) _ = _
  simp only [Act.put, List.setIfInBounds_toArray, List.set_cons_zero, List.set_cons_succ, i64_w, i32_w]
  rfl
 refine one_ (i := 8) (N := some 13) #[ZT,ZT,ZT,ZT,ZT,ZT,ZT,ZT,ZT,ZF] rfl rfl (one_of HT_.out (by kernel_rfl)) (by decide) (fun K hK => ?_)
 refine goes_ Try.func38 (by kernel_rfl) rfl #[.slice Ao15 t145.length co15, .string a0_2] (by rfl) rfl rfl (by (try simp only [List.map_toArray, List.map_cons, List.map_nil]); first | done | rfl | (simp only [List.length_drop, List.length_take]; rfl)) ?_
 with_reducible refine (codec_text.calls (fun k_ => some k_ = (.slice Ao15 t145.length co15 : Value).ownBlock) (.slice Ao15 t145.length co15) t145 a0_2 t148 w _ ?side1 ?side2 A3.out).mono ?_
 (case side1 => repeat (first | (with_reducible first | exact HB.out | apply below_alloc | apply pw_below_drewN | apply below_drew1 | refine below_set ?_ GE141.out) | exact HB.out))
 (case side2 => exact Kd.R_tight rfl HO147.out)
 rintro e w16 ⟨v149, rfl, ho0, hb, hkp⟩
 refine ⟨_, rfl, ?_⟩
 have n0_ := Aside0.mk (blk_kept (by (with_reducible repeat (first | refine blk_drewN ?_ _ | refine blk_drew ?_ | refine blk_alloc ?_ _)); exact BK141.out) hkp (fun hs_ => (fun e_ => (Kd.R_ne HO147.out BK141.out (by decide)) e_) hs_))
 have n1_ := Aside0.mk (Kd.R_mono (ok' := fun k_ => True) (Kd.R_keptB ((Kd.R_apart' HO144.out (Kd.R_typed HO147.out) (by decide))) hkp (fun k_ hk_ hs_ => (hk_.2) hs_)) (fun k_ hk_ => trivial))
 have n2_ := Aside0.mk (Kd.R_mono (ok' := fun k_ => True) ho0 (fun k_ hk_ => trivial))
 have n3_ := Aside0.mk (hb)
 clear BK141
 clear HO144
 clear HB
 clear HO147
 have BK141 := n0_
 have HO144 := n1_
 have HO150 := n2_
 have HB := n3_
 clear n0_ n1_ n2_ n3_
 (try clear hb)
 (try clear hkp)
 (try clear ho0)
 refine hK.out _ _ ⟨(blk_cell BK141.out 0).trans rfl, (blk_cell BK141.out 1).trans rfl, (blk_cell BK141.out 2).trans rfl, (blk_cell BK141.out 3).trans rfl, (blk_cell BK141.out 4).trans rfl, (blk_cell BK141.out 5).trans rfl⟩ (fun hHeld => ?_)
 clear hK K
 refine norm_ (a' := ?_) ?_ ?_
 rotate_left
 ·show Act.put _ (some 13) _ = _
  simp only [Act.put, List.setIfInBounds_toArray, List.set_cons_zero, List.set_cons_succ, i64_w, i32_w]
  rfl
 refine pure_ (i := 9) (N := some 4) (v := ?_) (a' := ?_) #[ZT,ZT,ZT,ZT,ZT,ZT,ZT,ZT,ZT,ZT] rfl rfl (any_of HT_.out (by kernel_rfl)) (fun _ _ _ h => h) (Or.inl ⟨by rfl, ?_⟩) ?_ ?_
 rotate_left
 ·intro w'
  go_simp
  with_reducible rfl
 rotate_left
 ·simp only [Act.put, List.setIfInBounds_toArray, List.set_cons_zero, List.set_cons_succ, i64_w, i32_w]
  rfl
 refine done_ (done_of HT_.out (by kernel_rfl)) ?_
 try go_wp2
 have n0_ := Aside0.mk (Kd.R_drew HO144.out)
 have n1_ := Aside0.mk (Kd.R_drew HO150.out)
 have n2_ := Aside0.mk (blk_drew BK141.out)
 have n3_ := Aside0.mk (below_drew1 HB.out)
 clear HO144
 clear HO150
 clear BK141
 clear HB
 have HO144 := n0_
 have HO150 := n1_
 have BK141 := n2_
 have HB := n3_
 clear n0_ n1_ n2_ n3_
 refine start_ (n := 9) (S := fun w' => w'.cell? ⟨gb141, 0, none⟩ = some (.int .i64 a0_0) ∧ w'.cell? ⟨gb141, 1, none⟩ = some (.int .i64 a0_1) ∧ w'.cell? ⟨gb141, 2, none⟩ = some (.string a0_2) ∧ w'.cell? ⟨gb141, 3, none⟩ = some (.int .i64 a0_3) ∧ w'.cell? ⟨gb141, 4, none⟩ = some (.slice A0_4 l0_4.length c0_4) ∧ w'.cell? ⟨gb141, 5, none⟩ = some (.int .i64 a0_5)) (ds := []) #[ZF,ZF,ZF,ZF,ZF,ZF,ZF,ZF,ZF] (by kernel_rfl) rfl rfl ⟨(blk_cell BK141.out 0).trans rfl, (blk_cell BK141.out 1).trans rfl, (blk_cell BK141.out 2).trans rfl, (blk_cell BK141.out 3).trans rfl, (blk_cell BK141.out 4).trans rfl, (blk_cell BK141.out 5).trans rfl⟩ (fun hHeld => ?_); refine with_tabW codec_PutCmd.tab2 codec_PutCmd.bits2 (fun HT_ HW_ => ?_)
 generalize w16.drew = w17 at HO144 HO150 BK141 HB hHeld ⊢
 refine pure_ (i := 0) (N := some 14) (v := ?_) (a' := ?_) #[ZT,ZF,ZF,ZF,ZF,ZF,ZF,ZF,ZF] rfl rfl (any_of HT_.out (by kernel_rfl)) (fun _ _ _ h => h) (Or.inl ⟨by rfl, ?_⟩) ?_ ?_
 rotate_left
 ·intro w'
  go_simp
  with_reducible rfl
 rotate_left
 ·simp only [Act.put, List.setIfInBounds_toArray, List.set_cons_zero, List.set_cons_succ, i64_w, i32_w]
  rfl
 refine pure_ (i := 1) (N := some 15) (v := ?_) (a' := ?_) #[ZT,ZT,ZF,ZF,ZF,ZF,ZF,ZF,ZF] rfl rfl (any_of HT_.out (by kernel_rfl)) (fun _ _ _ h => h) (Or.inl ⟨by rfl, ?_⟩) ?_ ?_
 rotate_left
 ·intro w'
  go_simp
  with_reducible rfl
 rotate_left
 ·simp only [Act.put, List.setIfInBounds_toArray, List.set_cons_zero, List.set_cons_succ, i64_w, i32_w]
  rfl
 refine pure_ (i := 5) (N := some 19) (v := ?_) (a' := ?_) #[ZT,ZT,ZF,ZF,ZF,ZT,ZF,ZF,ZF] rfl rfl (any_of HT_.out (by kernel_rfl)) (fun _ _ _ h => h) (Or.inl ⟨by rfl, ?_⟩) ?_ ?_
 rotate_left
 ·intro w'
  go_simp
  with_reducible rfl
 rotate_left
 ·simp only [Act.put, List.setIfInBounds_toArray, List.set_cons_zero, List.set_cons_succ, i64_w, i32_w]
  rfl
 refine take_ (i := 2) (N := some 16) (v := ?_) (a' := ?_) #[ZT,ZT,ZT,ZF,ZF,ZT,ZF,ZF,ZF] rfl rfl (take_ofW HT_.out HW_.out (by kernel_rfl)) (fun _ _ _ h => h) (Or.inl ⟨by rfl, ?_⟩) hHeld ?_ ?_
 rotate_left
 ·rintro w' ⟨s0, s1, s2, s3, s4, s5⟩
  go_simp
  with_reducible rfl
 rotate_left
 ·simp only [Act.put, List.setIfInBounds_toArray, List.set_cons_zero, List.set_cons_succ, i64_w, i32_w]
  rfl
 refine take_ (i := 6) (N := some 20) (v := ?_) (a' := ?_) #[ZT,ZT,ZT,ZF,ZF,ZT,ZT,ZF,ZF] rfl rfl (take_ofW HT_.out HW_.out (by kernel_rfl)) (fun _ _ _ h => h) (Or.inl ⟨by rfl, ?_⟩) hHeld ?_ ?_
 rotate_left
 ·rintro w' ⟨s0, s1, s2, s3, s4, s5⟩
  go_simp
  with_reducible rfl
 rotate_left
 ·simp only [Act.put, List.setIfInBounds_toArray, List.set_cons_zero, List.set_cons_succ, i64_w, i32_w]
  rfl
 refine one_ (i := 3) (N := some 17) #[ZT,ZT,ZT,ZT,ZF,ZT,ZT,ZF,ZF] rfl rfl (one_of HT_.out (by kernel_rfl)) (by decide) (fun K hK => ?_)
 refine Kd.R_lit_step (Kd.int .i64) _ 3 ?hg (N := 17) ?hd (xs := ([a0_3] : List Int)) (inner := [.int .i64 a0_3]) (ok := fun _ => True) (okp := fun _ => True) ?hr ?hp (fun _ hk => hk) trivial (Below.refl _ _) (Nat.le_refl _) (by simp) ?_; (case hd => rfl); (case hg => rfl); (case hr => first | (go_simp; done) | (go_simp; rfl)); (case hp => exact (Reps.one (show Kd.M (Kd.int .i64) _ _ _ a0_3 [.int .i64 a0_3] from rfl) (Reps.none _ _)))
 intro v152 w18 ho19 hb hg_ hnew_
 clear hg_ hnew_
 (first | rw [← Ny151.out] at ho19 | (simp only [Int.reduceToNat] at ho19; rw [← Ny151.out] at ho19))
 have n0_ := Aside0.mk (Kd.R_elder' (by (with_reducible repeat (first | apply Kd.R_alloc | apply Kd.R_drewN | apply Kd.R_drew)); exact HO144.out) (Kd.R_base ho19) hb)
 have n1_ := Aside0.mk (Kd.R_below (by (with_reducible repeat (first | apply Kd.R_alloc | apply Kd.R_drewN | apply Kd.R_drew)); exact HO150.out) hb)
 have n2_ := Aside0.mk (Kd.R_lower (Kd.R_new' ho19 (Kd.R_lt (by (with_reducible repeat (first | apply Kd.R_alloc | apply Kd.R_drewN | apply Kd.R_drew)); exact HO144.out))) (below_size (by repeat (first | (with_reducible first | exact HB.out | apply below_alloc | apply pw_below_drewN | apply below_drew1 | refine below_set ?_ GE141.out) | exact HB.out))))
 have n3_ := Aside0.mk (blk_below (g := gb141) (o := .cells #[.int .i64 a0_0, .int .i64 a0_1, .string a0_2, .int .i64 a0_3, .slice A0_4 l0_4.length c0_4, .int .i64 a0_5] 24 (0, 0)) (by (with_reducible repeat (first | refine blk_drewN ?_ _ | refine blk_drew ?_ | refine blk_alloc ?_ _)); exact BK141.out) hb)
 have n4_ := Aside0.mk (below_step (by repeat (first | (with_reducible first | exact HB.out | apply below_alloc | apply pw_below_drewN | apply below_drew1 | refine below_set ?_ GE141.out) | exact HB.out)) hb)
 clear HO144
 clear HO150
 clear BK141
 clear HB
 have HO144 := n0_
 have HO150 := n1_
 have HO153 := n2_
 have BK141 := n3_
 have HB := n4_
 clear n0_ n1_ n2_ n3_ n4_
 clear hb ho19
 obtain ⟨Ao20, co20, eo20⟩ := Kd.R_slice HO150.out
 (first | subst eo20 | (injection eo20 with f1_ f2_ f3_; have f4_ := f1_.symm; have f5_ := f3_.symm; clear f1_ f2_ f3_; subst f4_; subst f5_))
 obtain ⟨Ao21, co21, eo21⟩ := Kd.R_slice HO153.out
 (first | subst eo21 | (injection eo21 with f1_ f2_ f3_; have f4_ := f1_.symm; have f5_ := f3_.symm; clear f1_ f2_ f3_; subst f4_; subst f5_))
 refine hK.out _ _ ⟨(blk_cell BK141.out 0).trans rfl, (blk_cell BK141.out 1).trans rfl, (blk_cell BK141.out 2).trans rfl, (blk_cell BK141.out 3).trans rfl, (blk_cell BK141.out 4).trans rfl, (blk_cell BK141.out 5).trans rfl⟩ (fun hHeld => ?_)
 clear hK K
 refine norm_ (a' := ?_) ?_ ?_
 rotate_left
 ·show Act.put _ (some 17) _ = _
  simp only [Act.put, List.setIfInBounds_toArray, List.set_cons_zero, List.set_cons_succ, i64_w, i32_w]
  rfl
 refine one_ (i := 4) (N := some 18) #[ZT,ZT,ZT,ZT,ZT,ZT,ZT,ZF,ZF] rfl rfl (one_of HT_.out (by kernel_rfl)) (by decide) (fun K hK => ?_)
 refine goes_ Try.func39 (by kernel_rfl) rfl #[.slice Ao20 t148.length co20, .slice Ao21 y151.length co21] (by rfl) rfl rfl (by (try simp only [List.map_toArray, List.map_cons, List.map_nil]); first | done | rfl | (simp only [List.length_drop, List.length_take]; rfl)) ?_
 with_reducible refine (codec_number.calls k (fun k_ => some k_ = (.slice Ao20 t148.length co20 : Value).ownBlock) (.slice Ao20 t148.length co20) t148 _ _ y151 t154 w _ ?side1 ?side2 ?side3 ?side4 A4.out).mono ?_
 (case side1 => repeat (first | (with_reducible first | exact HB.out | apply below_alloc | apply pw_below_drewN | apply below_drew1 | refine below_set ?_ GE141.out) | exact HB.out))
 (case side2 => exact Kd.R_tight rfl HO150.out)
 (case side3 => exact Kd.C_kept_own ((Kd.R_apart' HO153.out (Kd.R_typed HO150.out) (by decide))) (fun k_ hk_ hs_ => (hk_.2) hs_))
 (case side4 => exact (Kd.R_reads' HO153.out).2.1)
 rintro e w22 ⟨v155, rfl, ho0, hb, hkp⟩
 refine ⟨_, rfl, ?_⟩
 have n0_ := Aside0.mk (blk_kept (by (with_reducible repeat (first | refine blk_drewN ?_ _ | refine blk_drew ?_ | refine blk_alloc ?_ _)); exact BK141.out) hkp (fun hs_ => (fun e_ => (Kd.R_ne HO150.out BK141.out (by decide)) e_) hs_))
 have n1_ := Aside0.mk (Kd.R_mono (ok' := fun k_ => some k_ ≠ (.slice Ao21 y151.length co21 : Value).ownBlock) (Kd.R_keptB ((Kd.R_apart' HO144.out (Kd.R_typed HO150.out) (by decide))) hkp (fun k_ hk_ hs_ => (hk_.2) hs_)) (fun k_ hk_ => hk_.1.1.2))
 have n2_ := Aside0.mk (Kd.R_mono (ok' := fun k_ => some k_ ≠ (.slice Ao13 y142.length co13 : Value).ownBlock) (Kd.R_keptB ((Kd.R_apart' HO153.out (Kd.R_typed HO150.out) (by decide))) hkp (fun k_ hk_ hs_ => (hk_.2) hs_)) (fun k_ hk_ => hk_.1.1.2))
 have n3_ := Aside0.mk (Kd.R_mono (ok' := fun k_ => True) ho0 (fun k_ hk_ => trivial))
 have n4_ := Aside0.mk (hb)
 clear BK141
 clear HO144
 clear HO153
 clear HB
 clear HO150
 have BK141 := n0_
 have HO144 := n1_
 have HO153 := n2_
 have HO156 := n3_
 have HB := n4_
 clear n0_ n1_ n2_ n3_ n4_
 (try clear hb)
 (try clear hkp)
 (try clear ho0)
 obtain ⟨Ao23, co23, eo23⟩ := Kd.R_slice HO156.out
 (first | subst eo23 | (injection eo23 with f1_ f2_ f3_; have f4_ := f1_.symm; have f5_ := f3_.symm; clear f1_ f2_ f3_; subst f4_; subst f5_))
 refine hK.out _ _ ⟨(blk_cell BK141.out 0).trans rfl, (blk_cell BK141.out 1).trans rfl, (blk_cell BK141.out 2).trans rfl, (blk_cell BK141.out 3).trans rfl, (blk_cell BK141.out 4).trans rfl, (blk_cell BK141.out 5).trans rfl⟩ (fun hHeld => ?_)
 clear hK K
 refine norm_ (a' := ?_) ?_ ?_
 rotate_left
 ·show Act.put _ (some 18) _ = _
  simp only [Act.put, List.setIfInBounds_toArray, List.set_cons_zero, List.set_cons_succ, i64_w, i32_w]
  rfl
 refine one_ (i := 7) (N := some 21) #[ZT,ZT,ZT,ZT,ZT,ZT,ZT,ZT,ZF] rfl rfl (one_of HT_.out (by kernel_rfl)) (by decide) (fun K hK => ?_)
 refine goes_ Try.func40 (by kernel_rfl) rfl #[.slice Ao23 t154.length co23, .slice A0_4 l0_4.length c0_4] (by rfl) rfl rfl (by (try simp only [List.map_toArray, List.map_cons, List.map_nil]); first | done | rfl | (simp only [List.length_drop, List.length_take]; rfl)) ?_
 with_reducible refine (codec_numbers.calls (fun k_ => some k_ = (.slice Ao23 t154.length co23 : Value).ownBlock) (.slice Ao23 t154.length co23) t154 _ _ l0_4 t157 w _ ?side1 ?side2 ?side3 ?side4 A5.out).mono ?_
 (case side1 => repeat (first | (with_reducible first | exact HB.out | apply below_alloc | apply pw_below_drewN | apply below_drew1 | refine below_set ?_ GE141.out) | exact HB.out))
 (case side2 => exact Kd.R_tight rfl HO156.out)
 (case side3 => exact Kd.C_kept_came (Kd.heap_int .i64) HR0_4.out (by repeat (first | (with_reducible first | exact HB.out | apply below_alloc | apply pw_below_drewN | apply below_drew1 | refine below_set ?_ GE141.out) | exact HB.out)) (fun k_ hs_ => (fun e_ => Kd.R_base HO156.out k_ e_.symm) hs_))
 (case side4 => exact HC0_4.out)
 rintro e w24 ⟨v158, rfl, ho0, hb, hkp⟩
 refine ⟨_, rfl, ?_⟩
 have n0_ := Aside0.mk (blk_kept (by (with_reducible repeat (first | refine blk_drewN ?_ _ | refine blk_drew ?_ | refine blk_alloc ?_ _)); exact BK141.out) hkp (fun hs_ => (fun e_ => (Kd.R_ne HO156.out BK141.out (by decide)) e_) hs_))
 have n1_ := Aside0.mk (Kd.R_mono (ok' := fun k_ => some k_ ≠ (.slice Ao21 y151.length co21 : Value).ownBlock) (Kd.R_keptB ((Kd.R_apart' HO144.out (Kd.R_typed HO156.out) (by decide))) hkp (fun k_ hk_ hs_ => (hk_.2) hs_)) (fun k_ hk_ => hk_.1.1))
 have n2_ := Aside0.mk (Kd.R_mono (ok' := fun k_ => some k_ ≠ (.slice Ao13 y142.length co13 : Value).ownBlock) (Kd.R_keptB ((Kd.R_apart' HO153.out (Kd.R_typed HO156.out) (by decide))) hkp (fun k_ hk_ hs_ => (hk_.2) hs_)) (fun k_ hk_ => hk_.1.1))
 have n3_ := Aside0.mk (Kd.R_mono (ok' := fun k_ => True) ho0 (fun k_ hk_ => trivial))
 have n4_ := Aside0.mk (hb)
 clear BK141
 clear HO144
 clear HO153
 clear HB
 clear HO156
 have BK141 := n0_
 have HO144 := n1_
 have HO153 := n2_
 have HO159 := n3_
 have HB := n4_
 clear n0_ n1_ n2_ n3_ n4_
 (try clear hb)
 (try clear hkp)
 (try clear ho0)
 refine hK.out _ _ ⟨(blk_cell BK141.out 0).trans rfl, (blk_cell BK141.out 1).trans rfl, (blk_cell BK141.out 2).trans rfl, (blk_cell BK141.out 3).trans rfl, (blk_cell BK141.out 4).trans rfl, (blk_cell BK141.out 5).trans rfl⟩ (fun hHeld => ?_)
 clear hK K
 refine norm_ (a' := ?_) ?_ ?_
 rotate_left
 ·show Act.put _ (some 21) _ = _
  simp only [Act.put, List.setIfInBounds_toArray, List.set_cons_zero, List.set_cons_succ, i64_w, i32_w]
  rfl
 refine pure_ (i := 8) (N := some 4) (v := ?_) (a' := ?_) #[ZT,ZT,ZT,ZT,ZT,ZT,ZT,ZT,ZT] rfl rfl (any_of HT_.out (by kernel_rfl)) (fun _ _ _ h => h) (Or.inl ⟨by rfl, ?_⟩) ?_ ?_
 rotate_left
 ·intro w'
  go_simp
  with_reducible rfl
 rotate_left
 ·simp only [Act.put, List.setIfInBounds_toArray, List.set_cons_zero, List.set_cons_succ, i64_w, i32_w]
  rfl
 refine done_ (done_of HT_.out (by kernel_rfl)) ?_
 obtain ⟨Ao25, co25, eo25⟩ := Kd.R_slice HO159.out
 subst eo25
 try go_wp2
 have n0_ := Aside0.mk (Kd.R_drew HO144.out)
 have n1_ := Aside0.mk (Kd.R_drew HO153.out)
 have n2_ := Aside0.mk (Kd.R_drew HO159.out)
 have n3_ := Aside0.mk (blk_drew BK141.out)
 have n4_ := Aside0.mk (below_drew1 HB.out)
 clear HO144
 clear HO153
 clear HO159
 clear BK141
 clear HB
 have HO144 := n0_
 have HO153 := n1_
 have HO159 := n2_
 have BK141 := n3_
 have HB := n4_
 clear n0_ n1_ n2_ n3_ n4_
 refine start_ (n := 12) (S := fun w' => w'.cell? ⟨gb141, 0, none⟩ = some (.int .i64 a0_0) ∧ w'.cell? ⟨gb141, 1, none⟩ = some (.int .i64 a0_1) ∧ w'.cell? ⟨gb141, 2, none⟩ = some (.string a0_2) ∧ w'.cell? ⟨gb141, 3, none⟩ = some (.int .i64 a0_3) ∧ w'.cell? ⟨gb141, 4, none⟩ = some (.slice A0_4 l0_4.length c0_4) ∧ w'.cell? ⟨gb141, 5, none⟩ = some (.int .i64 a0_5)) (ds := []) #[ZF,ZF,ZF,ZF,ZF,ZF,ZF,ZF,ZF,ZF,ZF,ZF] (by kernel_rfl) rfl rfl ⟨(blk_cell BK141.out 0).trans rfl, (blk_cell BK141.out 1).trans rfl, (blk_cell BK141.out 2).trans rfl, (blk_cell BK141.out 3).trans rfl, (blk_cell BK141.out 4).trans rfl, (blk_cell BK141.out 5).trans rfl⟩ (fun hHeld => ?_); refine with_tabW codec_PutCmd.tab3 codec_PutCmd.bits3 (fun HT_ HW_ => ?_)
 generalize w24.drew = w26 at HO144 HO153 HO159 BK141 HB hHeld ⊢
 refine pure_ (i := 2) (N := some 24) (v := ?_) (a' := ?_) #[ZF,ZF,ZT,ZF,ZF,ZF,ZF,ZF,ZF,ZF,ZF,ZF] rfl rfl (any_of HT_.out (by kernel_rfl)) (fun _ _ _ h => h) (Or.inl ⟨by rfl, ?_⟩) ?_ ?_
 rotate_left
 ·intro w'
  go_simp
  with_reducible rfl
 rotate_left
 ·simp only [Act.put, List.setIfInBounds_toArray, List.set_cons_zero, List.set_cons_succ, i64_w, i32_w]
  rfl
 refine pure_ (i := 3) (N := some 25) (v := ?_) (a' := ?_) #[ZF,ZF,ZT,ZT,ZF,ZF,ZF,ZF,ZF,ZF,ZF,ZF] rfl rfl (any_of HT_.out (by kernel_rfl)) (fun _ _ _ h => h) (Or.inl ⟨by rfl, ?_⟩) ?_ ?_
 rotate_left
 ·intro w'
  go_simp
  with_reducible rfl
 rotate_left
 ·simp only [Act.put, List.setIfInBounds_toArray, List.set_cons_zero, List.set_cons_succ, i64_w, i32_w]
  rfl
 refine take_ (i := 0) (N := some 22) (v := ?_) (a' := ?_) #[ZT,ZF,ZT,ZT,ZF,ZF,ZF,ZF,ZF,ZF,ZF,ZF] rfl rfl (take_ofW HT_.out HW_.out (by kernel_rfl)) (fun _ _ _ h => h) (Or.inl ⟨by rfl, ?_⟩) hHeld ?_ ?_
 rotate_left
 ·rintro w' ⟨s0, s1, s2, s3, s4, s5⟩
  go_simp
  with_reducible rfl
 rotate_left
 ·simp only [Act.put, List.setIfInBounds_toArray, List.set_cons_zero, List.set_cons_succ, i64_w, i32_w]
  rfl
 refine take_ (i := 4) (N := some 26) (v := ?_) (a' := ?_) #[ZT,ZF,ZT,ZT,ZT,ZF,ZF,ZF,ZF,ZF,ZF,ZF] rfl rfl (take_ofW HT_.out HW_.out (by kernel_rfl)) (fun _ _ _ h => h) (Or.inl ⟨by rfl, ?_⟩) hHeld ?_ ?_
 rotate_left
 ·rintro w' ⟨s0, s1, s2, s3, s4, s5⟩
  go_simp
  with_reducible rfl
 rotate_left
 ·simp only [Act.put, List.setIfInBounds_toArray, List.set_cons_zero, List.set_cons_succ, i64_w, i32_w]
  rfl
 refine join_ (σ := Value) 6 #[ZT,ZT,ZT,ZT,ZT,ZT,ZF,ZF,ZF,ZF,ZF,ZF] (fun s_ => [(23, .bool t160), (27, s_)]) (fun s_ w' => (w'.cell? ⟨gb141, 0, none⟩ = some (.int .i64 a0_0) ∧ w'.cell? ⟨gb141, 1, none⟩ = some (.int .i64 a0_1) ∧ w'.cell? ⟨gb141, 2, none⟩ = some (.string a0_2) ∧ w'.cell? ⟨gb141, 3, none⟩ = some (.int .i64 a0_3) ∧ w'.cell? ⟨gb141, 4, none⟩ = some (.slice A0_4 l0_4.length c0_4) ∧ w'.cell? ⟨gb141, 5, none⟩ = some (.int .i64 a0_5)) ∧ (Kd.R (Kd.int .i64) 3 w' w.heap.size (fun k_ => some k_ ≠ (.slice Ao21 y151.length co21 : Value).ownBlock ∧ some k_ ≠ (s_ : Value).ownBlock) (.slice Ao13 y142.length co13) y142) ∧ (Kd.R (Kd.int .i64) 3 w' w.heap.size (fun k_ => some k_ ≠ (.slice Ao13 y142.length co13 : Value).ownBlock ∧ some k_ ≠ (s_ : Value).ownBlock) (.slice Ao21 y151.length co21) y151) ∧ (Kd.R (Kd.int .u8) 5 w' w.heap.size (fun _ => True) (.slice Ao25 t157.length co25) t157) ∧ (Kd.R (Kd.int .i64) 3 w' w.heap.size (fun k_ => some k_ ≠ (.slice Ao13 y142.length co13 : Value).ownBlock ∧ some k_ ≠ (.slice Ao21 y151.length co21 : Value).ownBlock) s_ y161) ∧ (w'.heap[gb141]? = some (.cells #[.int .i64 a0_0, .int .i64 a0_1, .string a0_2, .int .i64 a0_3, .slice A0_4 l0_4.length c0_4, .int .i64 a0_5] 24 (0, 0))) ∧ (Below w.heap.size w w')) ?_ ?_
 rotate_left
 ·intro hCont
  refine two_ (i := 1) (j := 5) (Ni := some 23) (Nj := some 27) #[ZT,ZT,ZT,ZT,ZT,ZF,ZF,ZF,ZF,ZF,ZF,ZF] #[ZT,ZF,ZT,ZT,ZT,ZT,ZF,ZF,ZF,ZF,ZF,ZF] rfl rfl rfl rfl (two_of HT_.out (by kernel_rfl)) (by decide) (by decide) (fun K hK => ?_) (fun K hK => ?_)
  ·skip
   refine goes_ Try.func42 (by kernel_rfl) rfl #[.agg #[.int .i64 a0_0, .int .i64 a0_1, .string a0_2, .int .i64 a0_3, .slice A0_4 l0_4.length c0_4, .int .i64 a0_5]] (by rfl) rfl rfl (by (try simp only [List.map_toArray, List.map_cons, List.map_nil]); first | done | rfl | (simp only [List.length_drop, List.length_take]; rfl)) ?_
   with_reducible refine (codec_cmd.calls k a0_0 a0_1 a0_2 a0_3 _ _ l0_4 a0_5 t160 _ ?side1 ?side2 A6.out).mono ?_
   (case side1 => repeat (first | exact (Kd.C_below HR0_4.out HB.out) | (with_reducible refine Kd.C_alloc ?_ _) | (with_reducible refine Kd.C_drewN ?_ _) | (with_reducible refine Kd.C_drew ?_)))
   (case side2 => exact HC0_4.out)
   rintro e w27 ⟨rfl, hb⟩
   refine ⟨_, rfl, ?_⟩
   have n0_ := Aside0.mk (Kd.R_below (by (with_reducible repeat (first | apply Kd.R_alloc | apply Kd.R_drewN | apply Kd.R_drew)); exact HO144.out) hb)
   have n1_ := Aside0.mk (Kd.R_below (by (with_reducible repeat (first | apply Kd.R_alloc | apply Kd.R_drewN | apply Kd.R_drew)); exact HO153.out) hb)
   have n2_ := Aside0.mk (Kd.R_below (by (with_reducible repeat (first | apply Kd.R_alloc | apply Kd.R_drewN | apply Kd.R_drew)); exact HO159.out) hb)
   have n3_ := Aside0.mk (blk_below (g := gb141) (o := .cells #[.int .i64 a0_0, .int .i64 a0_1, .string a0_2, .int .i64 a0_3, .slice A0_4 l0_4.length c0_4, .int .i64 a0_5] 24 (0, 0)) (by (with_reducible repeat (first | refine blk_drewN ?_ _ | refine blk_drew ?_ | refine blk_alloc ?_ _)); exact BK141.out) hb)
   have n4_ := Aside0.mk (below_step (by repeat (first | (with_reducible first | exact HB.out | apply below_alloc | apply pw_below_drewN | apply below_drew1 | refine below_set ?_ GE141.out) | exact HB.out)) hb)
   clear HO144
   clear HO153
   clear HO159
   clear BK141
   clear HB
   have HO144 := n0_
   have HO153 := n1_
   have HO159 := n2_
   have BK141 := n3_
   have HB := n4_
   clear n0_ n1_ n2_ n3_ n4_
   (try clear hb)
   (try clear hb2)
   (try clear hk)
   (try clear hi)
   refine hK.out _ _ ⟨(blk_cell BK141.out 0).trans rfl, (blk_cell BK141.out 1).trans rfl, (blk_cell BK141.out 2).trans rfl, (blk_cell BK141.out 3).trans rfl, (blk_cell BK141.out 4).trans rfl, (blk_cell BK141.out 5).trans rfl⟩ (fun hHeld => ?_)
   clear hK K
   refine norm_ (a' := ?_) ?_ ?_
   rotate_left
   ·show Act.put _ (some 23) _ = _
    simp only [Act.put, List.setIfInBounds_toArray, List.set_cons_zero, List.set_cons_succ, i64_w, i32_w]
    rfl
   refine one_ (i := 5) (N := some 27) #[ZT,ZT,ZT,ZT,ZT,ZT,ZF,ZF,ZF,ZF,ZF,ZF] rfl rfl (one_of HT_.out (by kernel_rfl)) (by decide) (fun K hK => ?_)
   refine Kd.R_lit_step (Kd.int .i64) _ 3 ?hg (N := 27) ?hd (xs := ([a0_5] : List Int)) (inner := [.int .i64 a0_5]) (ok := fun _ => True) (okp := fun _ => True) ?hr ?hp (fun _ hk => hk) trivial (Below.refl _ _) (Nat.le_refl _) (by simp) ?_; (case hd => rfl); (case hg => rfl); (case hr => first | (go_simp; done) | (go_simp; rfl)); (case hp => exact (Reps.one (show Kd.M (Kd.int .i64) _ _ _ a0_5 [.int .i64 a0_5] from rfl) (Reps.none _ _)))
   intro v162 w28 ho29 hb hg_ hnew_
   clear hg_ hnew_
   (first | rw [← Ny161.out] at ho29 | (simp only [Int.reduceToNat] at ho29; rw [← Ny161.out] at ho29))
   have n0_ := Aside0.mk (Kd.R_elder' (by (with_reducible repeat (first | apply Kd.R_alloc | apply Kd.R_drewN | apply Kd.R_drew)); exact HO144.out) (Kd.R_base ho29) hb)
   have n1_ := Aside0.mk (Kd.R_elder' (by (with_reducible repeat (first | apply Kd.R_alloc | apply Kd.R_drewN | apply Kd.R_drew)); exact HO153.out) (Kd.R_base ho29) hb)
   have n2_ := Aside0.mk (Kd.R_below (by (with_reducible repeat (first | apply Kd.R_alloc | apply Kd.R_drewN | apply Kd.R_drew)); exact HO159.out) hb)
   have n3_ := Aside0.mk (Kd.R_lower (Kd.R_new' (Kd.R_new' ho29 (Kd.R_lt (by (with_reducible repeat (first | apply Kd.R_alloc | apply Kd.R_drewN | apply Kd.R_drew)); exact HO144.out))) (Kd.R_lt (by (with_reducible repeat (first | apply Kd.R_alloc | apply Kd.R_drewN | apply Kd.R_drew)); exact HO153.out))) (below_size (by repeat (first | (with_reducible first | exact HB.out | apply below_alloc | apply pw_below_drewN | apply below_drew1 | refine below_set ?_ GE141.out) | exact HB.out))))
   have n4_ := Aside0.mk (blk_below (g := gb141) (o := .cells #[.int .i64 a0_0, .int .i64 a0_1, .string a0_2, .int .i64 a0_3, .slice A0_4 l0_4.length c0_4, .int .i64 a0_5] 24 (0, 0)) (by (with_reducible repeat (first | refine blk_drewN ?_ _ | refine blk_drew ?_ | refine blk_alloc ?_ _)); exact BK141.out) hb)
   have n5_ := Aside0.mk (below_step (by repeat (first | (with_reducible first | exact HB.out | apply below_alloc | apply pw_below_drewN | apply below_drew1 | refine below_set ?_ GE141.out) | exact HB.out)) hb)
   clear HO144
   clear HO153
   clear HO159
   clear BK141
   clear HB
   have HO144 := n0_
   have HO153 := n1_
   have HO159 := n2_
   have HO163 := n3_
   have BK141 := n4_
   have HB := n5_
   clear n0_ n1_ n2_ n3_ n4_ n5_
   clear hb ho29
   refine hK.out _ _ ⟨(blk_cell BK141.out 0).trans rfl, (blk_cell BK141.out 1).trans rfl, (blk_cell BK141.out 2).trans rfl, (blk_cell BK141.out 3).trans rfl, (blk_cell BK141.out 4).trans rfl, (blk_cell BK141.out 5).trans rfl⟩ (fun hHeld => ?_)
   clear hK K
   refine norm_ (a' := ?_) ?_ ?_
   rotate_left
   ·show Act.put _ (some 27) _ = _
    simp only [Act.put, List.setIfInBounds_toArray, List.set_cons_zero, List.set_cons_succ, i64_w, i32_w]
    rfl
   exact norm_ (by simp only [putAll, Act.put, List.setIfInBounds_toArray, List.set_cons_zero, List.set_cons_succ]) (hCont (v162) _ ⟨hHeld, (by (with_reducible repeat (first | apply Kd.R_alloc | apply Kd.R_drewN | apply Kd.R_drew)); exact HO144.out), (by (with_reducible repeat (first | apply Kd.R_alloc | apply Kd.R_drewN | apply Kd.R_drew)); exact HO153.out), (by (with_reducible repeat (first | apply Kd.R_alloc | apply Kd.R_drewN | apply Kd.R_drew)); exact HO159.out), (by (with_reducible repeat (first | apply Kd.R_alloc | apply Kd.R_drewN | apply Kd.R_drew)); exact Kd.R_mono HO163.out (fun _ hk => ⟨hk.1.2, hk.2⟩)), (by (with_reducible repeat (first | refine blk_drewN ?_ _ | refine blk_drew ?_ | refine blk_alloc ?_ _)); exact BK141.out), (by repeat (first | (with_reducible first | exact HB.out | apply below_alloc | apply pw_below_drewN | apply below_drew1 | refine below_set ?_ GE141.out) | exact HB.out))⟩)
  ·skip
   refine Kd.R_lit_step (Kd.int .i64) _ 3 ?hg (N := 27) ?hd (xs := ([a0_5] : List Int)) (inner := [.int .i64 a0_5]) (ok := fun _ => True) (okp := fun _ => True) ?hr ?hp (fun _ hk => hk) trivial (Below.refl _ _) (Nat.le_refl _) (by simp) ?_; (case hd => rfl); (case hg => rfl); (case hr => first | (go_simp; done) | (go_simp; rfl)); (case hp => exact (Reps.one (show Kd.M (Kd.int .i64) _ _ _ a0_5 [.int .i64 a0_5] from rfl) (Reps.none _ _)))
   intro v162 w27 ho28 hb hg_ hnew_
   clear hg_ hnew_
   (first | rw [← Ny161.out] at ho28 | (simp only [Int.reduceToNat] at ho28; rw [← Ny161.out] at ho28))
   have n0_ := Aside0.mk (Kd.R_elder' (by (with_reducible repeat (first | apply Kd.R_alloc | apply Kd.R_drewN | apply Kd.R_drew)); exact HO144.out) (Kd.R_base ho28) hb)
   have n1_ := Aside0.mk (Kd.R_elder' (by (with_reducible repeat (first | apply Kd.R_alloc | apply Kd.R_drewN | apply Kd.R_drew)); exact HO153.out) (Kd.R_base ho28) hb)
   have n2_ := Aside0.mk (Kd.R_below (by (with_reducible repeat (first | apply Kd.R_alloc | apply Kd.R_drewN | apply Kd.R_drew)); exact HO159.out) hb)
   have n3_ := Aside0.mk (Kd.R_lower (Kd.R_new' (Kd.R_new' ho28 (Kd.R_lt (by (with_reducible repeat (first | apply Kd.R_alloc | apply Kd.R_drewN | apply Kd.R_drew)); exact HO144.out))) (Kd.R_lt (by (with_reducible repeat (first | apply Kd.R_alloc | apply Kd.R_drewN | apply Kd.R_drew)); exact HO153.out))) (below_size (by repeat (first | (with_reducible first | exact HB.out | apply below_alloc | apply pw_below_drewN | apply below_drew1 | refine below_set ?_ GE141.out) | exact HB.out))))
   have n4_ := Aside0.mk (blk_below (g := gb141) (o := .cells #[.int .i64 a0_0, .int .i64 a0_1, .string a0_2, .int .i64 a0_3, .slice A0_4 l0_4.length c0_4, .int .i64 a0_5] 24 (0, 0)) (by (with_reducible repeat (first | refine blk_drewN ?_ _ | refine blk_drew ?_ | refine blk_alloc ?_ _)); exact BK141.out) hb)
   have n5_ := Aside0.mk (below_step (by repeat (first | (with_reducible first | exact HB.out | apply below_alloc | apply pw_below_drewN | apply below_drew1 | refine below_set ?_ GE141.out) | exact HB.out)) hb)
   clear HO144
   clear HO153
   clear HO159
   clear BK141
   clear HB
   have HO144 := n0_
   have HO153 := n1_
   have HO159 := n2_
   have HO163 := n3_
   have BK141 := n4_
   have HB := n5_
   clear n0_ n1_ n2_ n3_ n4_ n5_
   clear hb ho28
   refine hK.out _ _ ⟨(blk_cell BK141.out 0).trans rfl, (blk_cell BK141.out 1).trans rfl, (blk_cell BK141.out 2).trans rfl, (blk_cell BK141.out 3).trans rfl, (blk_cell BK141.out 4).trans rfl, (blk_cell BK141.out 5).trans rfl⟩ (fun hHeld => ?_)
   clear hK K
   refine norm_ (a' := ?_) ?_ ?_
   rotate_left
   ·show Act.put _ (some 27) _ = _
    simp only [Act.put, List.setIfInBounds_toArray, List.set_cons_zero, List.set_cons_succ, i64_w, i32_w]
    rfl
   refine one_ (i := 1) (N := some 23) #[ZT,ZT,ZT,ZT,ZT,ZT,ZF,ZF,ZF,ZF,ZF,ZF] rfl rfl (one_of HT_.out (by kernel_rfl)) (by decide) (fun K hK => ?_)
   refine goes_ Try.func42 (by kernel_rfl) rfl #[.agg #[.int .i64 a0_0, .int .i64 a0_1, .string a0_2, .int .i64 a0_3, .slice A0_4 l0_4.length c0_4, .int .i64 a0_5]] (by rfl) rfl rfl (by (try simp only [List.map_toArray, List.map_cons, List.map_nil]); first | done | rfl | (simp only [List.length_drop, List.length_take]; rfl)) ?_
   with_reducible refine (codec_cmd.calls k a0_0 a0_1 a0_2 a0_3 _ _ l0_4 a0_5 t160 _ ?side1 ?side2 A6.out).mono ?_
   (case side1 => repeat (first | exact (Kd.C_below HR0_4.out HB.out) | (with_reducible refine Kd.C_alloc ?_ _) | (with_reducible refine Kd.C_drewN ?_ _) | (with_reducible refine Kd.C_drew ?_)))
   (case side2 => exact HC0_4.out)
   rintro e w29 ⟨rfl, hb⟩
   refine ⟨_, rfl, ?_⟩
   have n0_ := Aside0.mk (Kd.R_below (by (with_reducible repeat (first | apply Kd.R_alloc | apply Kd.R_drewN | apply Kd.R_drew)); exact HO144.out) hb)
   have n1_ := Aside0.mk (Kd.R_below (by (with_reducible repeat (first | apply Kd.R_alloc | apply Kd.R_drewN | apply Kd.R_drew)); exact HO153.out) hb)
   have n2_ := Aside0.mk (Kd.R_below (by (with_reducible repeat (first | apply Kd.R_alloc | apply Kd.R_drewN | apply Kd.R_drew)); exact HO159.out) hb)
   have n3_ := Aside0.mk (Kd.R_below (by (with_reducible repeat (first | apply Kd.R_alloc | apply Kd.R_drewN | apply Kd.R_drew)); exact HO163.out) hb)
   have n4_ := Aside0.mk (blk_below (g := gb141) (o := .cells #[.int .i64 a0_0, .int .i64 a0_1, .string a0_2, .int .i64 a0_3, .slice A0_4 l0_4.length c0_4, .int .i64 a0_5] 24 (0, 0)) (by (with_reducible repeat (first | refine blk_drewN ?_ _ | refine blk_drew ?_ | refine blk_alloc ?_ _)); exact BK141.out) hb)
   have n5_ := Aside0.mk (below_step (by repeat (first | (with_reducible first | exact HB.out | apply below_alloc | apply pw_below_drewN | apply below_drew1 | refine below_set ?_ GE141.out) | exact HB.out)) hb)
   clear HO144
   clear HO153
   clear HO159
   clear HO163
   clear BK141
   clear HB
   have HO144 := n0_
   have HO153 := n1_
   have HO159 := n2_
   have HO163 := n3_
   have BK141 := n4_
   have HB := n5_
   clear n0_ n1_ n2_ n3_ n4_ n5_
   (try clear hb)
   (try clear hb2)
   (try clear hk)
   (try clear hi)
   refine hK.out _ _ ⟨(blk_cell BK141.out 0).trans rfl, (blk_cell BK141.out 1).trans rfl, (blk_cell BK141.out 2).trans rfl, (blk_cell BK141.out 3).trans rfl, (blk_cell BK141.out 4).trans rfl, (blk_cell BK141.out 5).trans rfl⟩ (fun hHeld => ?_)
   clear hK K
   refine norm_ (a' := ?_) ?_ ?_
   rotate_left
   ·show Act.put _ (some 23) _ = _
    simp only [Act.put, List.setIfInBounds_toArray, List.set_cons_zero, List.set_cons_succ, i64_w, i32_w]
    rfl
   exact norm_ (by simp only [putAll, Act.put, List.setIfInBounds_toArray, List.set_cons_zero, List.set_cons_succ]) (hCont (v162) _ ⟨hHeld, (by (with_reducible repeat (first | apply Kd.R_alloc | apply Kd.R_drewN | apply Kd.R_drew)); exact HO144.out), (by (with_reducible repeat (first | apply Kd.R_alloc | apply Kd.R_drewN | apply Kd.R_drew)); exact HO153.out), (by (with_reducible repeat (first | apply Kd.R_alloc | apply Kd.R_drewN | apply Kd.R_drew)); exact HO159.out), (by (with_reducible repeat (first | apply Kd.R_alloc | apply Kd.R_drewN | apply Kd.R_drew)); exact Kd.R_mono HO163.out (fun _ hk => ⟨hk.1.2, hk.2⟩)), (by (with_reducible repeat (first | refine blk_drewN ?_ _ | refine blk_drew ?_ | refine blk_alloc ?_ _)); exact BK141.out), (by repeat (first | (with_reducible first | exact HB.out | apply below_alloc | apply pw_below_drewN | apply below_drew1 | refine below_set ?_ GE141.out) | exact HB.out))⟩)
 rintro v162 w30 ⟨hS_, h0_, h1_, h2_, h3_, h4_, h5_⟩
 have n0_ : Aside0 (Kd.R (Kd.int .i64) 3 w30 w.heap.size (fun k_ => some k_ ≠ (.slice Ao21 y151.length co21 : Value).ownBlock ∧ some k_ ≠ (v162 : Value).ownBlock) (.slice Ao13 y142.length co13) y142) := ⟨h0_⟩
 have n1_ : Aside0 (Kd.R (Kd.int .i64) 3 w30 w.heap.size (fun k_ => some k_ ≠ (.slice Ao13 y142.length co13 : Value).ownBlock ∧ some k_ ≠ (v162 : Value).ownBlock) (.slice Ao21 y151.length co21) y151) := ⟨h1_⟩
 have n2_ : Aside0 (Kd.R (Kd.int .u8) 5 w30 w.heap.size (fun _ => True) (.slice Ao25 t157.length co25) t157) := ⟨h2_⟩
 have n3_ : Aside0 (Kd.R (Kd.int .i64) 3 w30 w.heap.size (fun k_ => some k_ ≠ (.slice Ao13 y142.length co13 : Value).ownBlock ∧ some k_ ≠ (.slice Ao21 y151.length co21 : Value).ownBlock) v162 y161) := ⟨h3_⟩
 have n4_ : Aside0 (w30.heap[gb141]? = some (.cells #[.int .i64 a0_0, .int .i64 a0_1, .string a0_2, .int .i64 a0_3, .slice A0_4 l0_4.length c0_4, .int .i64 a0_5] 24 (0, 0))) := ⟨h4_⟩
 have n5_ : Aside0 (Below w.heap.size w w30) := ⟨h5_⟩
 clear HO144
 clear HO153
 clear HO159
 clear BK141
 clear HB
 clear h0_ h1_ h2_ h3_ h4_ h5_
 have HO144 := n0_
 have HO153 := n1_
 have HO159 := n2_
 have HO163 := n3_
 have BK141 := n4_
 have HB := n5_
 clear n0_ n1_ n2_ n3_ n4_ n5_
 have hHeld : w30.cell? ⟨gb141, 0, none⟩ = some (.int .i64 a0_0) ∧ w30.cell? ⟨gb141, 1, none⟩ = some (.int .i64 a0_1) ∧ w30.cell? ⟨gb141, 2, none⟩ = some (.string a0_2) ∧ w30.cell? ⟨gb141, 3, none⟩ = some (.int .i64 a0_3) ∧ w30.cell? ⟨gb141, 4, none⟩ = some (.slice A0_4 l0_4.length c0_4) ∧ w30.cell? ⟨gb141, 5, none⟩ = some (.int .i64 a0_5) := hS_
 obtain ⟨Ao31, co31, eo31⟩ := Kd.R_slice HO163.out
 (first | subst eo31 | (injection eo31 with f1_ f2_ f3_; have f4_ := f1_.symm; have f5_ := f3_.symm; clear f1_ f2_ f3_; subst f4_; subst f5_))
 refine norm_ (a' := ?_) ?_ ?_
 rotate_left
 ·simp only [putAll, Act.put, List.setIfInBounds_toArray, List.set_cons_zero, List.set_cons_succ]
  rfl
 refine one_ (i := 6) (N := some 28) #[ZT,ZT,ZT,ZT,ZT,ZT,ZT,ZF,ZF,ZF,ZF,ZF] rfl rfl (one_of HT_.out (by kernel_rfl)) (by decide) (fun K hK => ?_)
 refine goes_ Try.func39 (by kernel_rfl) rfl #[.slice Ao25 t157.length co25, .slice Ao31 y161.length co31] (by rfl) rfl rfl (by (try simp only [List.map_toArray, List.map_cons, List.map_nil]); first | done | rfl | (simp only [List.length_drop, List.length_take]; rfl)) ?_
 with_reducible refine (codec_number.calls k (fun k_ => some k_ = (.slice Ao25 t157.length co25 : Value).ownBlock) (.slice Ao25 t157.length co25) t157 _ _ y161 t164 w _ ?side1 ?side2 ?side3 ?side4 A7.out).mono ?_
 (case side1 => repeat (first | (with_reducible first | exact HB.out | apply below_alloc | apply pw_below_drewN | apply below_drew1 | refine below_set ?_ GE141.out) | exact HB.out))
 (case side2 => exact Kd.R_tight rfl HO159.out)
 (case side3 => exact Kd.C_kept_own ((Kd.R_apart' HO163.out (Kd.R_typed HO159.out) (by decide))) (fun k_ hk_ hs_ => (hk_.2) hs_))
 (case side4 => exact (Kd.R_reads' HO163.out).2.1)
 rintro e w32 ⟨v165, rfl, ho0, hb, hkp⟩
 refine ⟨_, rfl, ?_⟩
 have n0_ := Aside0.mk (blk_kept (by (with_reducible repeat (first | refine blk_drewN ?_ _ | refine blk_drew ?_ | refine blk_alloc ?_ _)); exact BK141.out) hkp (fun hs_ => (fun e_ => (Kd.R_ne HO159.out BK141.out (by decide)) e_) hs_))
 have n1_ := Aside0.mk (Kd.R_mono (ok' := fun k_ => some k_ ≠ (.slice Ao21 y151.length co21 : Value).ownBlock ∧ some k_ ≠ (.slice Ao31 y161.length co31 : Value).ownBlock) (Kd.R_keptB ((Kd.R_apart' HO144.out (Kd.R_typed HO159.out) (by decide))) hkp (fun k_ hk_ hs_ => (hk_.2) hs_)) (fun k_ hk_ => ⟨hk_.1.1.1, hk_.1.1.2⟩))
 have n2_ := Aside0.mk (Kd.R_mono (ok' := fun k_ => some k_ ≠ (.slice Ao13 y142.length co13 : Value).ownBlock ∧ some k_ ≠ (.slice Ao31 y161.length co31 : Value).ownBlock) (Kd.R_keptB ((Kd.R_apart' HO153.out (Kd.R_typed HO159.out) (by decide))) hkp (fun k_ hk_ hs_ => (hk_.2) hs_)) (fun k_ hk_ => ⟨hk_.1.1.1, hk_.1.1.2⟩))
 have n3_ := Aside0.mk (Kd.R_mono (ok' := fun k_ => some k_ ≠ (.slice Ao13 y142.length co13 : Value).ownBlock ∧ some k_ ≠ (.slice Ao21 y151.length co21 : Value).ownBlock) (Kd.R_keptB ((Kd.R_apart' HO163.out (Kd.R_typed HO159.out) (by decide))) hkp (fun k_ hk_ hs_ => (hk_.2) hs_)) (fun k_ hk_ => ⟨hk_.1.1.1, hk_.1.1.2⟩))
 have n4_ := Aside0.mk (Kd.R_mono (ok' := fun k_ => True) ho0 (fun k_ hk_ => trivial))
 have n5_ := Aside0.mk (hb)
 clear BK141
 clear HO144
 clear HO153
 clear HO163
 clear HB
 clear HO159
 have BK141 := n0_
 have HO144 := n1_
 have HO153 := n2_
 have HO163 := n3_
 have HO166 := n4_
 have HB := n5_
 clear n0_ n1_ n2_ n3_ n4_ n5_
 (try clear hb)
 (try clear hkp)
 (try clear ho0)
 obtain ⟨Ao33, co33, eo33⟩ := Kd.R_slice HO166.out
 (first | subst eo33 | (injection eo33 with f1_ f2_ f3_; have f4_ := f1_.symm; have f5_ := f3_.symm; clear f1_ f2_ f3_; subst f4_; subst f5_))
 refine hK.out _ _ ⟨(blk_cell BK141.out 0).trans rfl, (blk_cell BK141.out 1).trans rfl, (blk_cell BK141.out 2).trans rfl, (blk_cell BK141.out 3).trans rfl, (blk_cell BK141.out 4).trans rfl, (blk_cell BK141.out 5).trans rfl⟩ (fun hHeld => ?_)
 clear hK K
 refine norm_ (a' := ?_) ?_ ?_
 rotate_left
 ·show Act.put _ (some 28) _ = _
  simp only [Act.put, List.setIfInBounds_toArray, List.set_cons_zero, List.set_cons_succ, i64_w, i32_w]
  rfl
 refine one_ (i := 7) (N := some 29) #[ZT,ZT,ZT,ZT,ZT,ZT,ZT,ZT,ZF,ZF,ZF,ZF] rfl rfl (one_of HT_.out (by kernel_rfl)) (by decide) (fun K hK => ?_)
 refine goes_ Try.func41 (by kernel_rfl) rfl #[.bool t160, .slice Ao33 t164.length co33] (by rfl) rfl rfl (by (try simp only [List.map_toArray, List.map_cons, List.map_nil]); first | done | rfl | (simp only [List.length_drop, List.length_take]; rfl)) ?_
 with_reducible refine (codec_laid.calls t160 _ _ t164 t167 t168 _ ?side1 ?side2 A8.out).mono ?_
 (case side1 => repeat (first | exact (Kd.R_reads' HO166.out).2.2 | (with_reducible refine Kd.C_alloc ?_ _) | (with_reducible refine Kd.C_drewN ?_ _) | (with_reducible refine Kd.C_drew ?_)))
 (case side2 => exact (Kd.R_reads' HO166.out).2.1)
 rintro e w' ⟨rfl, ⟨nd, rfl⟩⟩
 refine ⟨_, rfl, ?_⟩
 refine hK.out _ _ ⟨(blk_cell BK141.out 0).trans rfl, (blk_cell BK141.out 1).trans rfl, (blk_cell BK141.out 2).trans rfl, (blk_cell BK141.out 3).trans rfl, (blk_cell BK141.out 4).trans rfl, (blk_cell BK141.out 5).trans rfl⟩ (fun hHeld => ?_)
 clear hK K
 refine norm_ (a' := ?_) ?_ ?_
 rotate_left
 ·show Act.put _ (some 29) _ = _
  simp only [Act.put, List.setIfInBounds_toArray, List.set_cons_zero, List.set_cons_succ, i64_w, i32_w]
  rfl
 refine pure_ (i := 8) (N := some 30) (v := ?_) (a' := ?_) #[ZT,ZT,ZT,ZT,ZT,ZT,ZT,ZT,ZT,ZF,ZF,ZF] rfl rfl (any_of HT_.out (by kernel_rfl)) (fun _ _ _ h => h) (Or.inl ⟨by rfl, ?_⟩) ?_ ?_
 rotate_left
 ·intro w'
  go_simp
  with_reducible rfl
 rotate_left
 ·simp only [Act.put, List.setIfInBounds_toArray, List.set_cons_zero, List.set_cons_succ, i64_w, i32_w]
  rfl
 refine pure_ (i := 9) (N := some 31) (v := ?_) (a' := ?_) #[ZT,ZT,ZT,ZT,ZT,ZT,ZT,ZT,ZT,ZT,ZF,ZF] rfl rfl (any_of HT_.out (by kernel_rfl)) (fun _ _ _ h => h) (Or.inl ⟨by rfl, ?_⟩) ?_ ?_
 rotate_left
 ·intro w'
  go_simp
  with_reducible rfl
 rotate_left
 ·simp only [Act.put, List.setIfInBounds_toArray, List.set_cons_zero, List.set_cons_succ, i64_w, i32_w]
  rfl
 refine pure_ (i := 10) (N := some 2) (v := ?_) (a' := ?_) #[ZT,ZT,ZT,ZT,ZT,ZT,ZT,ZT,ZT,ZT,ZT,ZF] rfl rfl (any_of HT_.out (by kernel_rfl)) (fun _ _ _ h => h) (Or.inl ⟨by rfl, ?_⟩) ?_ ?_
 rotate_left
 ·intro w'
  go_simp
  with_reducible rfl
 rotate_left
 ·simp only [Act.put, List.setIfInBounds_toArray, List.set_cons_zero, List.set_cons_succ, i64_w, i32_w]
  rfl
 refine pure_ (i := 11) (N := some 3) (v := ?_) (a' := ?_) #[ZT,ZT,ZT,ZT,ZT,ZT,ZT,ZT,ZT,ZT,ZT,ZT] rfl rfl (any_of HT_.out (by kernel_rfl)) (fun _ _ _ h => h) (Or.inl ⟨by rfl, ?_⟩) ?_ ?_
 rotate_left
 ·intro w'
  go_simp
  with_reducible rfl
 rotate_left
 ·simp only [Act.put, List.setIfInBounds_toArray, List.set_cons_zero, List.set_cons_succ, i64_w, i32_w]
  rfl
 refine done_ (done_of HT_.out (by kernel_rfl)) ?_
 try go_wp2
 go_ret2
 exact ⟨by first | rfl | (simp [errW_none, errW_some] <;> rfl) | (simp [*, errW_none, errW_some] <;> rfl), by repeat (first | (with_reducible first | exact HB.out | apply below_alloc | apply pw_below_drewN | apply below_drew1 | refine below_set ?_ GE141.out) | exact HB.out)⟩
end Go.Proofs.Ytbfehjncllkogaa.Q
