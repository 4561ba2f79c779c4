/- Texts of this session laid together (shrink.py): what the claim's law rests on. -/
import Derived.Below
import Derived.Deep.Draws
import Derived.Deep.AppendLies
import Derived.Maps.AppendAt
import Derived.OwnWalk
import Derived.Laws.BytesArg
import Derived.Laws.MakeOwn
import Derived.Laws.OwnMore
import Derived.Deep.OwnRows
import Derived.Tactics
import Derived.Lib.ConvBytes
import Derived.Laws.Slices
import Derived.WalkKit
import Derived.KernelRfl
import Derived.RowKit3
import Derived.Deep.LoopGhost
import Derived.Deep.QuietTactic
import Derived.BigQuiet
import Derived.WideLaws
import Derived.Deep.DeepCutAuto
import Derived.Deep.CutBlock
import Derived.Deep.RegionHeld3
import Derived.Laws.Rows
import Derived.Lib.AppendStr
import Derived.ArgAppend
import Derived.Laws.IdiomCopy
import Derived.RowKit
import Derived.OrdersHeld
import Derived.Laws.BitsLemmas
import Derived.Laws.StructEq
import Derived.Test.YtbfehjncllkogaaProg
import Derived.WalkMore
import Derived.Lib.Strings
import Derived.Outline
import Derived.Test.YtbfehjncllkogaaTCodecBacka
set_option linter.unusedVariables false
set_option linter.unusedSimpArgs false
set_option maxRecDepth 100000
set_option maxHeartbeats 8000000
open List renaming setIfInBounds_toArray → Vt
open List renaming set_cons_zero → Vu
open List renaming set_cons_succ → Vv
open List renaming map_toArray → Vw
open Option renaming bind_eq_some_iff → Vx
open Go.World renaming block_lt_of_cell? → Vy
open ByteArray renaming size_append → Vz
open Bool renaming eq_false_iff → VA
open List renaming length_append → VB
namespace Go.Proofs.Ytbfehjncllkogaa.Q
open Go.RowKit Go.Proofs.YtbfehjncllkogaaW.PrintWords Go.Proofs.YtbfehjncllkogaaW.PrintLast Go.Proofs.YtbfehjncllkogaaW.PrintMore
attribute [local go_sem] qw qx qN qK qg qh qz qu
mutual
def zK.l0 : Nat → ByteArray → Int → Int → Option (Bool)
 | 0, _, _, _ => none
 | k + 1, x0, x8, x9 => if x9 < x8 then (if 0 ≤ x9 then (if x9 < (x0.size : Int) then (if (bt x0 x9) ≥ 97 then (zK.j1 k x0 (bt x0 x9) x8 x9 (decide ((bt x0 x9) ≤ 122))) else (zK.j1 k x0 (bt x0 x9) x8 x9 false)) else (none)) else (none)) else (some true)
def zK.j1 : Nat → ByteArray → Int → Int → Int → Bool → Option (Bool)
 | 0, _, _, _, _, _ => none
 | k + 1, x0, x4, x8, x9, x15 => if x15 = true then (zK.l0 k x0 x8 (wrap64 (x9 + 1))) else (if x4 ≥ 48 then (zK.j2 k x0 x4 x8 x9 (decide (x4 ≤ 57))) else (zK.j2 k x0 x4 x8 x9 false))
def zK.j2 : Nat → ByteArray → Int → Int → Int → Bool → Option (Bool)
 | 0, _, _, _, _, _ => none
 | k + 1, x0, x4, x8, x9, x15 => if x15 = true then (zK.l0 k x0 x8 (wrap64 (x9 + 1))) else (if x4 = 45 then (zK.l0 k x0 x8 (wrap64 (x9 + 1))) else (if x4 = 95 then (zK.l0 k x0 x8 (wrap64 (x9 + 1))) else (some false)))
end
def zK.f (k : Nat) (a0 : ByteArray) : Option (Bool) := if a0.toList = ([] : List UInt8) then (some false) else (zK.l0 k a0 (a0.size : Int) 0)
theorem zK.mono_l : ∀ k, (∀ y0 y1 y2, LeO (zK.l0 k y0 y1 y2) (zK.l0 (k + 1) y0 y1 y2)) ∧ (∀ y0 y1 y2 y3 y4, LeO (zK.j1 k y0 y1 y2 y3 y4) (zK.j1 (k + 1) y0 y1 y2 y3 y4)) ∧ (∀ y0 y1 y2 y3 y4, LeO (zK.j2 k y0 y1 y2 y3 y4) (zK.j2 (k + 1) y0 y1 y2 y3 y4))
 | 0 => ⟨fun _ _ _ r h => by simp [zK.l0] at h, fun _ _ _ _ _ r h => by simp [zK.j1] at h, fun _ _ _ _ _ r h => by simp [zK.j2] at h⟩
 | k + 1 => by
  obtain ⟨ih0, ih1, ih2⟩ := zK.mono_l k
  refine ⟨?_, ?_, ?_⟩
  ·intro y0 y1 y2
   unfold zK.l0
   repeat' first
   | (with_reducible exact ih0 _ _ _)
   | (with_reducible exact ih1 _ _ _ _ _)
   | (with_reducible exact ih2 _ _ _ _ _)
   | (with_reducible exact LeO.refl _)
   | (with_reducible exact LeO.none _)
   | (with_reducible refine LeO.ite ?_ ?_)
   | (with_reducible refine LeO.bind ?_ (fun _ => ?_))
   | exact ih0 _ _ _
   | exact ih1 _ _ _ _ _
   | exact ih2 _ _ _ _ _
   | exact LeO.none _
   | refine LeO.ite ?_ ?_
   | refine LeO.bind ?_ (fun _ => ?_)
  ·intro y0 y1 y2 y3 y4
   unfold zK.j1
   repeat' first
   | (with_reducible exact ih0 _ _ _)
   | (with_reducible exact ih1 _ _ _ _ _)
   | (with_reducible exact ih2 _ _ _ _ _)
   | (with_reducible exact LeO.refl _)
   | (with_reducible exact LeO.none _)
   | (with_reducible refine LeO.ite ?_ ?_)
   | (with_reducible refine LeO.bind ?_ (fun _ => ?_))
   | exact ih0 _ _ _
   | exact ih1 _ _ _ _ _
   | exact ih2 _ _ _ _ _
   | exact LeO.none _
   | refine LeO.ite ?_ ?_
   | refine LeO.bind ?_ (fun _ => ?_)
  ·intro y0 y1 y2 y3 y4
   unfold zK.j2
   repeat' first
   | (with_reducible exact ih0 _ _ _)
   | (with_reducible exact ih1 _ _ _ _ _)
   | (with_reducible exact ih2 _ _ _ _ _)
   | (with_reducible exact LeO.refl _)
   | (with_reducible exact LeO.none _)
   | (with_reducible refine LeO.ite ?_ ?_)
   | (with_reducible refine LeO.bind ?_ (fun _ => ?_))
   | exact ih0 _ _ _
   | exact ih1 _ _ _ _ _
   | exact ih2 _ _ _ _ _
   | exact LeO.none _
   | refine LeO.ite ?_ ?_
   | refine LeO.bind ?_ (fun _ => ?_)
theorem zK.mono : ∀ a0 k, LeO (zK.f k a0) (zK.f (k + 1) a0) := by
 intro a0 k
 obtain ⟨ih0, ih1, ih2⟩ := zK.mono_l k
 unfold zK.f
 repeat' first
   | (with_reducible exact ih0 _ _ _)
   | (with_reducible exact ih1 _ _ _ _ _)
   | (with_reducible exact ih2 _ _ _ _ _)
   | (with_reducible exact LeO.refl _)
   | (with_reducible exact LeO.none _)
   | (with_reducible refine LeO.ite ?_ ?_)
   | (with_reducible refine LeO.bind ?_ (fun _ => ?_))
   | exact ih0 _ _ _
   | exact ih1 _ _ _ _ _
   | exact ih2 _ _ _ _ _
   | exact LeO.none _
   | refine LeO.ite ?_ ?_
   | refine LeO.bind ?_ (fun _ => ?_)
theorem zK.calls (k : Nat) (a0 : ByteArray) (r : Bool) (w : World) (h : zK.f k a0 = some r) :
  Calls Try.prog 109 #[.string a0] w fun e w' => e = .returned (.bool r) ∧ zG w w' := by
 have H : (if a0.toList = ([] : List UInt8) then (some false) else (zK.l0 k a0 (a0.size : Int) 0)) = some r := h
 clear h
 by_cases c2 : a0.toList = ([] : List UInt8)
 ·rw [if_pos c2] at H
  have c2b0 : (a0.toList == ([] : List UInt8)) = true := beq_iff_eq.mpr c2
  have c2b1 : (a0.toList != ([] : List UInt8)) = false := bne_eq_false_iff_eq.mpr c2
  clear c2
  obtain rfl := Option.some.inj H
  go_enter Try.func109, Try.ntmps109
  go_wp2
  (try (go_step3; go_wp2))
  (try (go_step3; go_wp2))
  (try simp only [Exit.noGoto_ret, Exit.then, Exit.noGoto])
  go_ret
  exact ⟨by first | rfl | (simp; done) | (simp [*]; done), by repeat (first | exact zG.refl _ | apply zG.step)⟩
 ·rw [if_neg c2] at H
  have c2b0 : (a0.toList == ([] : List UInt8)) = false := beq_eq_false_iff_ne.mpr c2
  have c2b1 : (a0.toList != ([] : List UInt8)) = true := bne_iff_ne.mpr c2
  have H' := za.mk H
  clear H
  go_enter Try.func109, Try.ntmps109
  go_wp2
  (try (go_step3; go_wp2))
  (try (go_step3; go_wp2))
  go_loopg [9] k (fun kq v9 w' => ∃ (x9_1 : Int), v9 = .int .i64 x9_1 ∧ za (zK.l0 kq a0 (a0.size : Int) x9_1 = some r) ∧ za (kq ≤ k) ∧ zG w w')
  case atStart => exact ⟨(0), (by first | rfl | (simp; done) | (simp [*]; done)), H', ⟨Nat.le_refl _⟩, by repeat (first | exact zG.refl _ | apply zG.step)⟩
  case round =>
   clear H'
   try clear c1
   try clear c2
   try clear c2b0
   try clear c2b1
   try clear p2
   obtain ⟨x9_1, rfl, HA, HK1, ⟨m1, rfl⟩⟩ := hrel
   cases gk with
   | zero => exact absurd HA.out (by simp [zK.l0])
   | succ k1 =>
    have H := HA.out
    clear HA
    simp only [zK.l0] at H
    by_cases c3 : x9_1 < (a0.size : Int)
    ·rw [if_pos c3] at H
     have c3b0 : decide (x9_1 < (a0.size : Int)) = true := decide_eq_true c3
     clear c3
     by_cases c4 : 0 ≤ x9_1
     ·rw [if_pos c4] at H
      have c4b0 : decide (0 ≤ x9_1) = true := decide_eq_true c4
      clear c4
      by_cases c5 : x9_1 < (a0.size : Int)
      ·rw [if_pos c5] at H
       have c5b0 : decide (x9_1 < (a0.size : Int)) = true := decide_eq_true c5
       clear c5
       have HC7 := za.mk H
       clear H
       have p6 : 0 ≤ (x9_1 : Int) := of_decide_eq_true (by first | (with_reducible assumption) | assumption)
       have q6 : x9_1 < (a0.size : Int) := of_decide_eq_true (by first | (with_reducible assumption) | assumption)
       have hx6 := Y7 a0 x9_1
       replace p6 := eq_true p6
       replace q6 := eq_true q6
       go_upto_region 7 with (fail)
       go_cut [15] (fun v15 wc => ∃ (kq : Nat) (x15_6 : Bool), v15 = .bool x15_6 ∧ za (zK.j1 kq a0 (bt a0 x9_1) (a0.size : Int) x9_1 x15_6 = some r) ∧ za (kq ≤ k1) ∧ zG w wc)
       case first =>
        have H := HC7.out
        clear HC7
        by_cases c8 : (bt a0 x9_1) ≥ 97
        ·rw [if_pos c8] at H
         have c8b0 : decide (97 ≤ (bt a0 x9_1)) = true := decide_eq_true c8
         clear c8
         (first | rw [c8b0] | (simp only [zx, zz]; rw [c8b0]) | skip)
         have H' := za.mk H
         clear H
         go_wp2
         (try (go_step3; go_wp2))
         (try (go_step3; go_wp2))
         go_meet
         case rel => exact ⟨_, (decide ((bt a0 x9_1) ≤ 122)), (by first | rfl | (simp; done) | (simp [*]; done)), H', ⟨by have := HK1.out; first | omega | exact Nat.le_refl _⟩, by repeat (first | exact zG.refl _ | apply zG.step)⟩
        ·rw [if_neg c8] at H
         have c8b0 : decide (97 ≤ (bt a0 x9_1)) = false := decide_eq_false c8
         clear c8
         (first | rw [c8b0] | (simp only [zx, zz]; rw [c8b0]) | skip)
         have H' := za.mk H
         clear H
         go_wp2
         (try (go_step3; go_wp2))
         (try (go_step3; go_wp2))
         go_meet
         case rel => exact ⟨_, (false), (by first | rfl | (simp; done) | (simp [*]; done)), H', ⟨by have := HK1.out; first | omega | exact Nat.le_refl _⟩, by repeat (first | exact zG.refl _ | apply zG.step)⟩
       case rest =>
        clear HC7
        try clear c1
        try clear c2
        try clear c2b0
        try clear c2b1
        try clear p2
        try clear c3
        try clear c3b0
        try clear c4
        try clear c4b0
        try clear c5
        try clear c5b0
        try clear p6
        try clear q6
        try clear hx6
        try clear c8
        try clear c8b0
        try clear p2
        try clear p6
        try clear q6
        obtain ⟨kq, x15_6, rfl, HA, HJ6, ⟨mc6, rfl⟩⟩ := hcut
        cases kq with
        | zero => exact absurd HA.out (by simp [zK.j1])
        | succ kj6 =>
         have H := HA.out
         clear HA
         simp only [zK.j1] at H
         by_cases c9 : x15_6 = true
         ·subst c9
          have H1 : (zK.l0 kj6 a0 (a0.size : Int) (wrap64 (x9_1 + 1))) = some r := by rw [if_pos rfl] at H; exact H
          clear H
          have H := H1
          clear H1
          have H' := za.mk H
          clear H
          go_wp2
          (try (go_step3; go_wp2))
          (try (go_step3; go_wp2))
          go_roundg kj6
          case measure => have := HK1.out; have := HJ6.out; omega
          case rel => exact ⟨(wrap64 (x9_1 + 1)), (by first | rfl | (simp; done) | (simp [*]; done)), H', ⟨by have := HK1.out; have := HJ6.out; omega⟩, by repeat (first | exact zG.refl _ | apply zG.step)⟩
         ·replace c9 := VA.mpr c9
          subst c9
          have H1 : (if (bt a0 x9_1) ≥ 48 then (zK.j2 kj6 a0 (bt a0 x9_1) (a0.size : Int) x9_1 (decide ((bt a0 x9_1) ≤ 57))) else (zK.j2 kj6 a0 (bt a0 x9_1) (a0.size : Int) x9_1 false)) = some r := by rw [if_neg (show ¬ (false = true) by decide)] at H; exact H
          clear H
          have H := H1
          clear H1
          have HC10 := za.mk H
          clear H
          go_upto_region 8 with (fail)
          go_cut [15] (fun v15 wc => ∃ (kq : Nat) (x15_9 : Bool), v15 = .bool x15_9 ∧ za (zK.j2 kq a0 (bt a0 x9_1) (a0.size : Int) x9_1 x15_9 = some r) ∧ za (kq ≤ kj6) ∧ zG w wc)
          case first =>
           have H := HC10.out
           clear HC10
           by_cases c11 : (bt a0 x9_1) ≥ 48
           ·rw [if_pos c11] at H
            have c11b0 : decide (48 ≤ (bt a0 x9_1)) = true := decide_eq_true c11
            clear c11
            (first | rw [c11b0] | (simp only [zx, zz]; rw [c11b0]) | skip)
            have H' := za.mk H
            clear H
            go_wp2
            (try (go_step3; go_wp2))
            (try (go_step3; go_wp2))
            go_meet
            case rel => exact ⟨_, (decide ((bt a0 x9_1) ≤ 57)), (by first | rfl | (simp; done) | (simp [*]; done)), H', ⟨by have := HK1.out; have := HJ6.out; first | omega | exact Nat.le_refl _⟩, by repeat (first | exact zG.refl _ | apply zG.step)⟩
           ·rw [if_neg c11] at H
            have c11b0 : decide (48 ≤ (bt a0 x9_1)) = false := decide_eq_false c11
            clear c11
            (first | rw [c11b0] | (simp only [zx, zz]; rw [c11b0]) | skip)
            have H' := za.mk H
            clear H
            go_wp2
            (try (go_step3; go_wp2))
            (try (go_step3; go_wp2))
            go_meet
            case rel => exact ⟨_, (false), (by first | rfl | (simp; done) | (simp [*]; done)), H', ⟨by have := HK1.out; have := HJ6.out; first | omega | exact Nat.le_refl _⟩, by repeat (first | exact zG.refl _ | apply zG.step)⟩
          case rest =>
           clear HC10
           try clear c1
           try clear c2
           try clear c2b0
           try clear c2b1
           try clear p2
           try clear c3
           try clear c3b0
           try clear c4
           try clear c4b0
           try clear c5
           try clear c5b0
           try clear c6
           try clear p6
           try clear q6
           try clear hx6
           try clear c8
           try clear c8b0
           try clear c9
           try clear c10
           try clear c11
           try clear c11b0
           try clear p2
           try clear p6
           try clear q6
           obtain ⟨kq, x15_9, rfl, HA, HJ9, ⟨mc9, rfl⟩⟩ := hcut
           cases kq with
           | zero => exact absurd HA.out (by simp [zK.j2])
           | succ kj9 =>
            have H := HA.out
            clear HA
            simp only [zK.j2] at H
            by_cases c12 : x15_9 = true
            ·subst c12
             have H1 : (zK.l0 kj9 a0 (a0.size : Int) (wrap64 (x9_1 + 1))) = some r := by rw [if_pos rfl] at H; exact H
             clear H
             have H := H1
             clear H1
             have H' := za.mk H
             clear H
             go_wp2
             (try (go_step3; go_wp2))
             (try (go_step3; go_wp2))
             go_roundg kj9
             case measure => have := HK1.out; have := HJ6.out; have := HJ9.out; omega
             case rel => exact ⟨(wrap64 (x9_1 + 1)), (by first | rfl | (simp; done) | (simp [*]; done)), H', ⟨by have := HK1.out; have := HJ6.out; have := HJ9.out; omega⟩, by repeat (first | exact zG.refl _ | apply zG.step)⟩
            ·replace c12 := VA.mpr c12
             subst c12
             have H1 : (if (bt a0 x9_1) = 45 then (zK.l0 kj9 a0 (a0.size : Int) (wrap64 (x9_1 + 1))) else (if (bt a0 x9_1) = 95 then (zK.l0 kj9 a0 (a0.size : Int) (wrap64 (x9_1 + 1))) else (some false))) = some r := by rw [if_neg (show ¬ (false = true) by decide)] at H; exact H
             clear H
             have H := H1
             clear H1
             by_cases c13 : (bt a0 x9_1) = 45
             ·rw [if_pos c13] at H
              have c13b0 : ((bt a0 x9_1) == 45) = true := beq_iff_eq.mpr c13
              have c13b1 : ((bt a0 x9_1) != 45) = false := bne_eq_false_iff_eq.mpr c13
              clear c13
              have H' := za.mk H
              clear H
              go_wp2
              (try (go_step3; go_wp2))
              (try (go_step3; go_wp2))
              go_roundg kj9
              case measure => have := HK1.out; have := HJ6.out; have := HJ9.out; omega
              case rel => exact ⟨(wrap64 (x9_1 + 1)), (by first | rfl | (simp; done) | (simp [*]; done)), H', ⟨by have := HK1.out; have := HJ6.out; have := HJ9.out; omega⟩, by repeat (first | exact zG.refl _ | apply zG.step)⟩
             ·rw [if_neg c13] at H
              have c13b0 : ((bt a0 x9_1) == 45) = false := beq_eq_false_iff_ne.mpr c13
              have c13b1 : ((bt a0 x9_1) != 45) = true := bne_iff_ne.mpr c13
              by_cases c14 : (bt a0 x9_1) = 95
              ·rw [if_pos c14] at H
               have c14b0 : ((bt a0 x9_1) == 95) = true := beq_iff_eq.mpr c14
               have c14b1 : ((bt a0 x9_1) != 95) = false := bne_eq_false_iff_eq.mpr c14
               clear c14
               have H' := za.mk H
               clear H
               go_wp2
               (try (go_step3; go_wp2))
               (try (go_step3; go_wp2))
               go_roundg kj9
               case measure => have := HK1.out; have := HJ6.out; have := HJ9.out; omega
               case rel => exact ⟨(wrap64 (x9_1 + 1)), (by first | rfl | (simp; done) | (simp [*]; done)), H', ⟨by have := HK1.out; have := HJ6.out; have := HJ9.out; omega⟩, by repeat (first | exact zG.refl _ | apply zG.step)⟩
              ·rw [if_neg c14] at H
               have c14b0 : ((bt a0 x9_1) == 95) = false := beq_eq_false_iff_ne.mpr c14
               have c14b1 : ((bt a0 x9_1) != 95) = true := bne_iff_ne.mpr c14
               obtain rfl := Option.some.inj H
               go_wp2
               (try (go_step3; go_wp2))
               (try (go_step3; go_wp2))
               (try simp only [Exit.noGoto_ret, Exit.then, Exit.noGoto])
               go_ret
               exact ⟨by first | rfl | (simp; done) | (simp [*]; done), by repeat (first | exact zG.refl _ | apply zG.step)⟩
      ·rw [if_neg c5] at H
       exact absurd H (by simp)
     ·rw [if_neg c4] at H
      exact absurd H (by simp)
    ·rw [if_neg c3] at H
     have c3b0 : decide (x9_1 < (a0.size : Int)) = false := decide_eq_false c3
     clear c3
     obtain rfl := Option.some.inj H
     go_wp2
     (try (go_step3; go_wp2))
     (try (go_step3; go_wp2))
     (try simp only [Exit.noGoto_ret, Exit.then, Exit.noGoto])
     go_ret
     exact ⟨by first | rfl | (simp; done) | (simp [*]; done), by repeat (first | exact zG.refl _ | apply zG.step)⟩
def yI.f (k : Nat) (a0 : Int) (a1 : Int) (a2 : ByteArray) : Option (Bool) := (zK.f k a2).bind fun t124 => (some t124)
theorem yI.mono : ∀ a0 a1 a2 k, LeO (yI.f k a0 a1 a2) (yI.f (k + 1) a0 a1 a2) := by
 intro a0 a1 a2 k
 unfold yI.f
 repeat' first
   | (with_reducible exact zK.mono _ _)
   | (with_reducible exact LeO.refl _)
   | (with_reducible exact LeO.none _)
   | (with_reducible refine LeO.ite ?_ ?_)
   | (with_reducible refine LeO.bind ?_ (fun _ => ?_))
   | exact zK.mono _ _
   | exact LeO.none _
   | refine LeO.ite ?_ ?_
   | refine LeO.bind ?_ (fun _ => ?_)
theorem yI.calls (k : Nat) (a0 : Int) (a1 : Int) (a2 : ByteArray) (r : Bool) (w : World) (h : yI.f k a0 a1 a2 = some r) :
  Calls Try.prog 108 #[.int .i64 a0, .int .i64 a1, .string a2] w fun e w' => e = .returned (.bool r) ∧ zG w w' := by
 have H : ((zK.f k a2).bind fun t124 => (some t124)) = some r := h
 clear h
 replace H := Vx.mp H
 obtain ⟨t124, A40, H⟩ := H
 replace H : (some t124) = some r := H
 have A4 := za.mk A40
 clear A40
 obtain rfl := Option.some.inj H
 go_enter Try.func108, Try.ntmps108
 go_wp2_with (first | ((with_reducible refine zL (f := 109) rfl ?_); refine z8 (some 8) rfl rfl Try.func109 (by kernel_rfl) rfl #[.string a2] rfl (by (try simp only [Vw, List.map_cons, List.map_nil]); first | done | rfl | (simp only [List.length_drop, List.length_take]; rfl)) ?_; (with_reducible refine (zK.calls k a2 t124 _ A4.out).mono ?_); rintro e w' ⟨rfl, ⟨nd, rfl⟩⟩; refine ⟨_, rfl, ?_⟩))
 go_ret
 exact ⟨by first | rfl | (simp; done) | (simp [*]; done), by repeat (first | exact zG.refl _ | apply zG.step)⟩
def z9.l0 : Nat → ByteArray → List ByteArray → Int → Int → Int → Option (List ByteArray)
 | 0, _, _, _, _, _ => none
 | k + 1, x0, x3, x4, x7, x8 => if x8 < x7 then (if 0 ≤ x8 then (if x8 < (x0.size : Int) then (if (bt x0 x8) = 47 then (if 0 ≤ x4 then (if x4 ≤ x8 then (if x8 ≤ (x0.size : Int) then (if x3.length < 8796093022208 then (z9.l0 k x0 (x3 ++ [x0.extract (x4 : Int).toNat (x8 : Int).toNat]) (wrap64 (x8 + 1)) x7 (wrap64 (x8 + 1))) else (none)) else (none)) else (none)) else (none)) else (z9.l0 k x0 x3 x4 x7 (wrap64 (x8 + 1)))) else (none)) else (none)) else (if 0 ≤ x4 then (if x4 ≤ (x0.size : Int) then (if x3.length < 8796093022208 then (some (x3 ++ [x0.extract (x4 : Int).toNat x0.size])) else (none)) else (none)) else (none))
def z9.f (k : Nat) (a0 : ByteArray) : Option (List ByteArray) := z9.l0 k a0 ([] : List ByteArray) 0 (a0.size : Int) 0
theorem z9.mono_l : ∀ k, (∀ y0 y1 y2 y3 y4, LeO (z9.l0 k y0 y1 y2 y3 y4) (z9.l0 (k + 1) y0 y1 y2 y3 y4))
 | 0 => fun _ _ _ _ _ r h => by simp [z9.l0] at h
 | k + 1 => by
  have ih0 := z9.mono_l k
  ·intro y0 y1 y2 y3 y4
   unfold z9.l0
   repeat' first
   | (with_reducible exact ih0 _ _ _ _ _)
   | (with_reducible exact LeO.refl _)
   | (with_reducible exact LeO.none _)
   | (with_reducible refine LeO.ite ?_ ?_)
   | (with_reducible refine LeO.bind ?_ (fun _ => ?_))
   | exact ih0 _ _ _ _ _
   | exact LeO.none _
   | refine LeO.ite ?_ ?_
   | refine LeO.bind ?_ (fun _ => ?_)
theorem z9.mono : ∀ a0 k, LeO (z9.f k a0) (z9.f (k + 1) a0) := by
 intro a0 k
 have ih0 := z9.mono_l k
 unfold z9.f
 repeat' first
   | (with_reducible exact ih0 _ _ _ _ _)
   | (with_reducible exact LeO.refl _)
   | (with_reducible exact LeO.none _)
   | (with_reducible refine LeO.ite ?_ ?_)
   | (with_reducible refine LeO.bind ?_ (fun _ => ?_))
   | exact ih0 _ _ _ _ _
   | exact LeO.none _
   | refine LeO.ite ?_ ?_
   | refine LeO.bind ?_ (fun _ => ?_)
theorem z9.calls (k : Nat) (a0 : ByteArray) (r : List ByteArray) (w : World) (h : z9.f k a0 = some r) :
  Calls Try.prog 114 #[.string a0] w fun e w' => ∃ v0_ : Value, e = .returned (v0_) ∧ Kd.R Kd.string 9 w' w.heap.size (fun _ => True) v0_ r ∧ Below w.heap.size w w' := by
 have HB := za.mk (Below.refl w.heap.size w)
 have H : (z9.l0 k a0 ([] : List ByteArray) 0 (a0.size : Int) 0) = some r := h
 clear h
 have H' := za.mk H
 clear H
 go_enter Try.func114, Try.ntmps114
 go_wp2
 go_loopg [3, 4, 8] k (fun kq v3 v4 v8 w' => ∃ (x3_1 : List ByteArray) (x4_1 : Int) (x8_1 : Int), v4 = .int .i64 x4_1 ∧ v8 = .int .i64 x8_1 ∧ za (z9.l0 kq a0 x3_1 x4_1 (a0.size : Int) x8_1 = some r) ∧ za (kq ≤ k) ∧ za (Kd.R Kd.string 9 w' w.heap.size (fun _ => True) v3 x3_1) ∧ za (Below w.heap.size w w'))
 case atStart => exact ⟨(([] : List ByteArray)), (0), (0), (by first | rfl | (simp; done) | (simp [*]; done)), (by first | rfl | (simp; done) | (simp [*]; done)), H', ⟨Nat.le_refl _⟩, ⟨by first | exact Kd.R_nil _ _ _ _ _ | exact Kd.N_nil _ _ _ _ _ | exact Kd.V_nil _ _ _ _ _ | exact Kd.Q_nil _ _ _ _ _ | exact Kd.S_nil _ _ _ _ _⟩, ⟨by repeat (first | (with_reducible first | exact HB.out | apply zc | apply zb | apply zd) | exact HB.out)⟩⟩
 case round =>
  clear H'
  try clear c1
  obtain ⟨x3_1, x4_1, x8_1, rfl, rfl, HA, HK1, HO_3, HB⟩ := hrel
  cases gk with
  | zero => exact absurd HA.out (by simp [z9.l0])
  | succ k1 =>
   have H := HA.out
   clear HA
   simp only [z9.l0] at H
   by_cases c2 : x8_1 < (a0.size : Int)
   ·rw [if_pos c2] at H
    have c2b0 : decide (x8_1 < (a0.size : Int)) = true := decide_eq_true c2
    clear c2
    by_cases c3 : 0 ≤ x8_1
    ·rw [if_pos c3] at H
     have c3b0 : decide (0 ≤ x8_1) = true := decide_eq_true c3
     clear c3
     by_cases c4 : x8_1 < (a0.size : Int)
     ·rw [if_pos c4] at H
      have c4b0 : decide (x8_1 < (a0.size : Int)) = true := decide_eq_true c4
      clear c4
      by_cases c6 : (bt a0 x8_1) = 47
      ·rw [if_pos c6] at H
       have c6b0 : ((bt a0 x8_1) == 47) = true := beq_iff_eq.mpr c6
       have c6b1 : ((bt a0 x8_1) != 47) = false := bne_eq_false_iff_eq.mpr c6
       clear c6
       by_cases c7 : 0 ≤ x4_1
       ·rw [if_pos c7] at H
        have c7b0 := eq_true c7
        have c7b1 : decide (0 ≤ x4_1) = true := decide_eq_true c7
        clear c7
        by_cases c8 : x4_1 ≤ x8_1
        ·rw [if_pos c8] at H
         have c8b0 := eq_true c8
         have c8b1 : decide (x4_1 ≤ x8_1) = true := decide_eq_true c8
         clear c8
         by_cases c9 : x8_1 ≤ (a0.size : Int)
         ·rw [if_pos c9] at H
          have c9b0 := eq_true c9
          have c9b1 : decide (x8_1 ≤ (a0.size : Int)) = true := decide_eq_true c9
          clear c9
          by_cases c10 : x3_1.length < 8796093022208
          ·rw [if_pos c10] at H
           have LMc10 := za.mk c10
           clear c10
           obtain ⟨y118, hy118⟩ : ∃ y_ : List ByteArray, y_ = (x3_1 ++ [a0.extract (x4_1 : Int).toNat (x8_1 : Int).toNat]) := ⟨_, rfl⟩
           replace H : (z9.l0 k1 a0 y118 (wrap64 (x8_1 + 1)) (a0.size : Int) (wrap64 (x8_1 + 1))) = some r := by first | (rw [hy118]; with_reducible exact H) | (have H2_ := (Option.bind_some _ _).symm.trans H; rw [hy118]; with_reducible exact H2_) | (have H2_ := (Option.bind_some _ _).symm.trans H; with_reducible exact H2_) | with_reducible exact H | (rw [hy118]; exact H) | exact H
           have Ny118 := za.mk hy118
           clear hy118
           have H' := za.mk H
           clear H
           have p5 : 0 ≤ (x8_1 : Int) := of_decide_eq_true (by first | (with_reducible assumption) | assumption)
           have q5 : x8_1 < (a0.size : Int) := of_decide_eq_true (by first | (with_reducible assumption) | assumption)
           have hx5 := Y7 a0 x8_1
           replace p5 := eq_true p5
           replace q5 := eq_true q5
           go_wp2_with (first | ((with_reducible refine xY (b := .append) (xs := #[.tmp 15, .tmp 20]) rfl ?_); at_builtin; refine Kd.R_append Kd.string (w0 := w) w.heap.size rfl (.tmp 15) (.tmp 20) 44 9 (.string ⟨#[]⟩) 16 rfl Try.underlying44 Ql rfl (by decide) (by omega) u3 x3_1 (a0.extract (x4_1 : Int).toNat (x8_1 : Int).toNat) [.string (a0.extract (x4_1 : Int).toNat (x8_1 : Int).toNat)] (fun _ => True) (fun _ => False) rfl rfl ?aP (fun _ hk => hk.elim) ?aF ?aO ?aB ?aS ?aL ?_; (case aP => exact rfl); (case aB => exact (by repeat (first | (with_reducible first | exact HB.out | apply zc | apply zb | apply zd) | exact HB.out))); (case aF => exact (fun _ _ => trivial)); (case aO => exact (by (with_reducible repeat (first | apply Kd.R_alloc | apply Kd.R_drewN | apply Kd.R_drew)); exact HO_3.out)); (case aS => exact (zp (by repeat (first | (with_reducible first | exact HB.out | apply zc | apply zb | apply zd) | exact HB.out)))); (case aL => have := LMc10.out; omega); intro v119 w11 ho hb hg hat; rw [← Ny118.out] at ho; have n0_ := za.mk (hb); have n1_ := za.mk (ho); clear HB; clear HO_3; have HB := n0_; have HO120 := n1_; clear n0_ n1_; clear ho hb hg hat))
           go_roundg k1
           case measure => have := HK1.out; omega
           case rel => exact ⟨(y118), (wrap64 (x8_1 + 1)), (wrap64 (x8_1 + 1)), (by first | rfl | (simp; done) | (simp [*]; done)), (by first | rfl | (simp; done) | (simp [*]; done)), H', ⟨by have := HK1.out; omega⟩, ⟨by (with_reducible repeat (first | apply Kd.R_alloc | apply Kd.R_drewN | apply Kd.R_drew)); exact HO120.out⟩, ⟨by repeat (first | (with_reducible first | exact HB.out | apply zc | apply zb | apply zd) | exact HB.out)⟩⟩
          ·rw [if_neg c10] at H
           exact absurd H (by simp)
         ·rw [if_neg c9] at H
          exact absurd H (by simp)
        ·rw [if_neg c8] at H
         exact absurd H (by simp)
       ·rw [if_neg c7] at H
        exact absurd H (by simp)
      ·rw [if_neg c6] at H
       have c6b0 : ((bt a0 x8_1) == 47) = false := beq_eq_false_iff_ne.mpr c6
       have c6b1 : ((bt a0 x8_1) != 47) = true := bne_iff_ne.mpr c6
       have H' := za.mk H
       clear H
       have p5 : 0 ≤ (x8_1 : Int) := of_decide_eq_true (by first | (with_reducible assumption) | assumption)
       have q5 : x8_1 < (a0.size : Int) := of_decide_eq_true (by first | (with_reducible assumption) | assumption)
       have hx5 := Y7 a0 x8_1
       replace p5 := eq_true p5
       replace q5 := eq_true q5
       go_wp2
       go_roundg k1
       case measure => have := HK1.out; omega
       case rel => exact ⟨(x3_1), (x4_1), (wrap64 (x8_1 + 1)), (by first | rfl | (simp; done) | (simp [*]; done)), (by first | rfl | (simp; done) | (simp [*]; done)), H', ⟨by have := HK1.out; omega⟩, ⟨by (with_reducible repeat (first | apply Kd.R_alloc | apply Kd.R_drewN | apply Kd.R_drew)); exact HO_3.out⟩, ⟨by repeat (first | (with_reducible first | exact HB.out | apply zc | apply zb | apply zd) | exact HB.out)⟩⟩
     ·rw [if_neg c4] at H
      exact absurd H (by simp)
    ·rw [if_neg c3] at H
     exact absurd H (by simp)
   ·rw [if_neg c2] at H
    have c2b0 : decide (x8_1 < (a0.size : Int)) = false := decide_eq_false c2
    clear c2
    by_cases c12 : 0 ≤ x4_1
    ·rw [if_pos c12] at H
     have c12b0 := eq_true c12
     have c12b1 : decide (0 ≤ x4_1) = true := decide_eq_true c12
     clear c12
     by_cases c13 : x4_1 ≤ (a0.size : Int)
     ·rw [if_pos c13] at H
      have c13b0 := eq_true c13
      have c13b1 : decide (x4_1 ≤ (a0.size : Int)) = true := decide_eq_true c13
      clear c13
      by_cases c14 : x3_1.length < 8796093022208
      ·rw [if_pos c14] at H
       have LMc14 := za.mk c14
       clear c14
       obtain ⟨y121, hy121⟩ : ∃ y_ : List ByteArray, y_ = (x3_1 ++ [a0.extract (x4_1 : Int).toNat a0.size]) := ⟨_, rfl⟩
       replace H : (some y121) = some r := by first | (rw [hy121]; with_reducible exact H) | (have H2_ := (Option.bind_some _ _).symm.trans H; rw [hy121]; with_reducible exact H2_) | (have H2_ := (Option.bind_some _ _).symm.trans H; with_reducible exact H2_) | with_reducible exact H | (rw [hy121]; exact H) | exact H
       have Ny121 := za.mk hy121
       clear hy121
       obtain rfl := Option.some.inj H
       go_wp2_with (first | ((with_reducible refine xY (b := .append) (xs := #[.tmp 25, .tmp 29]) rfl ?_); at_builtin; refine Kd.R_append Kd.string (w0 := w) w.heap.size rfl (.tmp 25) (.tmp 29) 44 9 (.string ⟨#[]⟩) 16 rfl Try.underlying44 Ql rfl (by decide) (by omega) u3 x3_1 (a0.extract (x4_1 : Int).toNat a0.size) [.string (a0.extract (x4_1 : Int).toNat a0.size)] (fun _ => True) (fun _ => False) rfl rfl ?aP (fun _ hk => hk.elim) ?aF ?aO ?aB ?aS ?aL ?_; (case aP => exact rfl); (case aB => exact (by repeat (first | (with_reducible first | exact HB.out | apply zc | apply zb | apply zd) | exact HB.out))); (case aF => exact (fun _ _ => trivial)); (case aO => exact (by (with_reducible repeat (first | apply Kd.R_alloc | apply Kd.R_drewN | apply Kd.R_drew)); exact HO_3.out)); (case aS => exact (zp (by repeat (first | (with_reducible first | exact HB.out | apply zc | apply zb | apply zd) | exact HB.out)))); (case aL => have := LMc14.out; omega); intro v122 w15 ho hb hg hat; rw [← Ny121.out] at ho; have n0_ := za.mk (hb); have n1_ := za.mk (ho); clear HB; clear HO_3; have HB := n0_; have HO123 := n1_; clear n0_ n1_; clear ho hb hg hat))
       go_ret
       exact ⟨_, by first | rfl | (simp [zn, zo] <;> rfl) | (simp [*, zn, zo] <;> rfl), by (with_reducible repeat (first | apply Kd.R_alloc | apply Kd.R_drewN | apply Kd.R_drew)); exact HO123.out, by repeat (first | (with_reducible first | exact HB.out | apply zc | apply zb | apply zd) | exact HB.out)⟩
      ·rw [if_neg c14] at H
       exact absurd H (by simp)
     ·rw [if_neg c13] at H
      exact absurd H (by simp)
    ·rw [if_neg c12] at H
     exact absurd H (by simp)
def zE.l0 : Nat → List ByteArray → List ByteArray → Int → Int → Option (Bool)
 | 0, _, _, _, _ => none
 | k + 1, x5, x13, x14, x15 => if x15 < x14 then (if 0 ≤ x15 then (if x15 < (x13.length : Int) then ((yI.f k x15 (x5.length : Int) (xr ByteArray.empty x13 x15)).bind fun t129 => (if t129 = true then (zE.l0 k x5 x13 x14 (wrap64 (x15 + 1))) else (some false))) else (none)) else (none)) else (some (decide ((x5.length : Int) ≤ 4)))
def zE.f (k : Nat) (a0 : ByteArray)  : Option (Bool) := if (a0.size : Int) > 32 then (some false) else ((z9.f k a0).bind fun t125 => (zE.l0 k t125 t125 (t125.length : Int) 0))
theorem zE.mono_l : ∀ k, (∀ y0 y1 y2 y3, LeO (zE.l0 k y0 y1 y2 y3) (zE.l0 (k + 1) y0 y1 y2 y3))
 | 0 => fun _ _ _ _ r h => by simp [zE.l0] at h
 | k + 1 => by
  have ih0 := zE.mono_l k
  ·intro y0 y1 y2 y3
   unfold zE.l0
   repeat' first
   | (with_reducible exact ih0 _ _ _ _)
   | (with_reducible exact yI.mono _ _ _ _)
   | (with_reducible exact z9.mono _ _)
   | (with_reducible exact LeO.refl _)
   | (with_reducible exact LeO.none _)
   | (with_reducible refine LeO.ite ?_ ?_)
   | (with_reducible refine LeO.bind ?_ (fun _ => ?_))
   | exact ih0 _ _ _ _
   | exact yI.mono _ _ _ _
   | exact z9.mono _ _
   | exact LeO.none _
   | refine LeO.ite ?_ ?_
   | refine LeO.bind ?_ (fun _ => ?_)
theorem zE.mono : ∀ a0 k, LeO (zE.f k a0) (zE.f (k + 1) a0) := by
 intro a0 k
 have ih0 := zE.mono_l k
 unfold zE.f
 repeat' first
   | (with_reducible exact ih0 _ _ _ _)
   | (with_reducible exact yI.mono _ _ _ _)
   | (with_reducible exact z9.mono _ _)
   | (with_reducible exact LeO.refl _)
   | (with_reducible exact LeO.none _)
   | (with_reducible refine LeO.ite ?_ ?_)
   | (with_reducible refine LeO.bind ?_ (fun _ => ?_))
   | exact ih0 _ _ _ _
   | exact yI.mono _ _ _ _
   | exact z9.mono _ _
   | exact LeO.none _
   | refine LeO.ite ?_ ?_
   | refine LeO.bind ?_ (fun _ => ?_)
theorem zE.calls (k : Nat) (a0 : ByteArray)  (r : Bool) (w : World) (h : zE.f k a0 = some r) :
  Calls Try.prog 107 #[.string a0, .func (Fn.func 108) #[] #[]] w fun e w' => e = .returned (.bool r) ∧ Below w.heap.size w w' := by
 have HB := za.mk (Below.refl w.heap.size w)
 have H : (if (a0.size : Int) > 32 then (some false) else ((z9.f k a0).bind fun t125 => (zE.l0 k t125 t125 (t125.length : Int) 0))) = some r := h
 clear h
 by_cases c3 : (a0.size : Int) > 32
 ·rw [if_pos c3] at H
  have c3b0 : decide (32 < (a0.size : Int)) = true := decide_eq_true c3
  have c3b1 : decide (32 < a0.size) = true := decide_eq_true (by omega)
  clear c3
  obtain rfl := Option.some.inj H
  go_enter Try.func107, Try.ntmps107
  go_wp2
  go_ret
  exact ⟨by first | rfl | (simp [zn, zo] <;> rfl) | (simp [*, zn, zo] <;> rfl), by repeat (first | (with_reducible first | exact HB.out | apply zc | apply zb | apply zd) | exact HB.out)⟩
 ·rw [if_neg c3] at H
  have c3b0 : decide (32 < (a0.size : Int)) = false := decide_eq_false c3
  have c3b1 : decide (32 < a0.size) = false := decide_eq_false (by omega)
  clear c3
  replace H := Vx.mp H
  obtain ⟨t125, A40, H⟩ := H
  replace H : (zE.l0 k t125 t125 (t125.length : Int) 0) = some r := H
  have A4 := za.mk A40
  clear A40
  have H' := za.mk H
  clear H
  go_enter Try.func107, Try.ntmps107
  go_wp2_with (first | ((with_reducible refine zL (f := 114) rfl ?_); refine z8 (some 12) rfl rfl Try.func114 (by kernel_rfl) rfl #[.string a0] rfl (by (try simp only [Vw, List.map_cons, List.map_nil]); first | done | rfl | (simp only [List.length_drop, List.length_take]; rfl)) ?_; (with_reducible refine (z9.calls k a0 t125 _ A4.out).mono ?_); rintro e w5 ⟨v126, rfl, ho0, hb⟩; refine ⟨_, rfl, ?_⟩; have n0_ := za.mk (Kd.R_lower ho0 (zp (by repeat (first | (with_reducible first | exact HB.out | apply zc | apply zb | apply zd) | exact HB.out)))); have n1_ := za.mk (zi (by repeat (first | (with_reducible first | exact HB.out | apply zc | apply zb | apply zd) | exact HB.out)) hb); clear HB; have HO127 := n0_; have HB := n1_; clear n0_ n1_; (try clear hb); (try clear hb2); (try clear hk); (try clear hi); (try clear ho0); obtain ⟨Ao6, co6, eo6⟩ := Kd.R_slice HO127.out; subst eo6))
  go_loopg [15] k (fun kq v15 w' => ∃ (x15_1 : Int), v15 = .int .i64 x15_1 ∧ za (zE.l0 kq t125 t125 (t125.length : Int) x15_1 = some r) ∧ za (kq ≤ k) ∧ za (Kd.R Kd.string 9 w' w.heap.size (fun _ => True) (.slice Ao6 t125.length co6) t125) ∧ za (Kd.R Kd.string 9 w' w.heap.size (fun _ => True) (.slice Ao6 t125.length co6) t125) ∧ za (Below w.heap.size w w'))
  case atStart => exact ⟨(0), (by first | rfl | (simp; done) | (simp [*]; done)), H', ⟨Nat.le_refl _⟩, ⟨by (with_reducible repeat (first | apply Kd.R_alloc | apply Kd.R_drewN | apply Kd.R_drew)); exact HO127.out⟩, ⟨by (with_reducible repeat (first | apply Kd.R_alloc | apply Kd.R_drewN | apply Kd.R_drew)); exact HO127.out⟩, ⟨by repeat (first | (with_reducible first | exact HB.out | apply zc | apply zb | apply zd) | exact HB.out)⟩⟩
  case round =>
   clear H'
   try clear c1
   try clear p2
   try clear c3
   try clear c3b0
   try clear c3b1
   obtain ⟨x15_1, rfl, HA, HK1, HO_5, HO_13, HB⟩ := hrel
   cases gk with
   | zero => exact absurd HA.out (by simp [zE.l0])
   | succ k1 =>
    have H := HA.out
    clear HA
    simp only [zE.l0] at H
    by_cases c7 : x15_1 < (t125.length : Int)
    ·rw [if_pos c7] at H
     have c7b0 : decide (x15_1 < (t125.length : Int)) = true := decide_eq_true c7
     clear c7
     by_cases c8 : 0 ≤ x15_1
     ·rw [if_pos c8] at H
      have c8b0 : decide (0 ≤ x15_1) = true := decide_eq_true c8
      clear c8
      by_cases c9 : x15_1 < (t125.length : Int)
      ·rw [if_pos c9] at H
       have c9b0 : decide (x15_1 < (t125.length : Int)) = true := decide_eq_true c9
       clear c9
       replace H := Vx.mp H
       obtain ⟨t129, A100, H⟩ := H
       replace H : (if t129 = true then (zE.l0 k1 t125 t125 (t125.length : Int) (wrap64 (x15_1 + 1))) else (some false)) = some r := H
       have A10 := za.mk A100
       clear A100
       by_cases c11 : t129 = true
       ·subst c11
        have H1 : (zE.l0 k1 t125 t125 (t125.length : Int) (wrap64 (x15_1 + 1))) = some r := by rw [if_pos rfl] at H; exact H
        clear H
        have H := H1
        clear H1
        have H' := za.mk H
        clear H
        have p128 : 0 ≤ (x15_1 : Int) := of_decide_eq_true (by first | (with_reducible assumption) | assumption)
        have q128 : x15_1 < (t125.length : Int) := of_decide_eq_true (by first | (with_reducible assumption) | assumption)
        obtain ⟨ad128, e128, hx128_0⟩ := Kd.at_string (Kd.R_reads' HO_13.out).2.2 x15_1 p128 q128
        cases e128
        replace p128 := eq_true p128
        replace q128 := eq_true q128
        go_wp2_with (first | ((with_reducible refine zC (N := 25) rfl ?_); refine qo (some 25) rfl rfl Try.func108 (by kernel_rfl) rfl #[.int .i64 x15_1, .int .i64 (t125.length : Int), .string (xr ByteArray.empty t125 x15_1)] rfl (by (try simp only [Vw, List.map_cons, List.map_nil]); first | done | rfl | (simp only [List.length_drop, List.length_take]; rfl)) ?_; (with_reducible refine (yI.calls k1 x15_1 (t125.length : Int) (xr ByteArray.empty t125 x15_1) true _ A10.out).mono ?_); rintro e w' ⟨rfl, ⟨nd, rfl⟩⟩; refine ⟨_, rfl, ?_⟩))
        go_roundg k1
        case measure => have := HK1.out; omega
        case rel => exact ⟨(wrap64 (x15_1 + 1)), (by first | rfl | (simp; done) | (simp [*]; done)), H', ⟨by have := HK1.out; omega⟩, ⟨by (with_reducible repeat (first | apply Kd.R_alloc | apply Kd.R_drewN | apply Kd.R_drew)); exact HO_5.out⟩, ⟨by (with_reducible repeat (first | apply Kd.R_alloc | apply Kd.R_drewN | apply Kd.R_drew)); exact HO_13.out⟩, ⟨by repeat (first | (with_reducible first | exact HB.out | apply zc | apply zb | apply zd) | exact HB.out)⟩⟩
       ·replace c11 := VA.mpr c11
        subst c11
        have H1 : (some false) = some r := by rw [if_neg (show ¬ (false = true) by decide)] at H; exact H
        clear H
        have H := H1
        clear H1
        obtain rfl := Option.some.inj H
        have p128 : 0 ≤ (x15_1 : Int) := of_decide_eq_true (by first | (with_reducible assumption) | assumption)
        have q128 : x15_1 < (t125.length : Int) := of_decide_eq_true (by first | (with_reducible assumption) | assumption)
        obtain ⟨ad128, e128, hx128_0⟩ := Kd.at_string (Kd.R_reads' HO_13.out).2.2 x15_1 p128 q128
        cases e128
        replace p128 := eq_true p128
        replace q128 := eq_true q128
        go_wp2_with (first | ((with_reducible refine zC (N := 25) rfl ?_); refine qo (some 25) rfl rfl Try.func108 (by kernel_rfl) rfl #[.int .i64 x15_1, .int .i64 (t125.length : Int), .string (xr ByteArray.empty t125 x15_1)] rfl (by (try simp only [Vw, List.map_cons, List.map_nil]); first | done | rfl | (simp only [List.length_drop, List.length_take]; rfl)) ?_; (with_reducible refine (yI.calls k1 x15_1 (t125.length : Int) (xr ByteArray.empty t125 x15_1) false _ A10.out).mono ?_); rintro e w' ⟨rfl, ⟨nd, rfl⟩⟩; refine ⟨_, rfl, ?_⟩))
        go_ret
        exact ⟨by first | rfl | (simp [zn, zo] <;> rfl) | (simp [*, zn, zo] <;> rfl), by repeat (first | (with_reducible first | exact HB.out | apply zc | apply zb | apply zd) | exact HB.out)⟩
      ·rw [if_neg c9] at H
       exact absurd H (by simp)
     ·rw [if_neg c8] at H
      exact absurd H (by simp)
    ·rw [if_neg c7] at H
     have c7b0 : decide (x15_1 < (t125.length : Int)) = false := decide_eq_false c7
     clear c7
     obtain rfl := Option.some.inj H
     go_wp2
     go_ret
     exact ⟨by first | rfl | (simp [zn, zo] <;> rfl) | (simp [*, zn, zo] <;> rfl), by repeat (first | (with_reducible first | exact HB.out | apply zc | apply zb | apply zd) | exact HB.out)⟩
def yp.f (k : Nat) (a0 : ByteArray) : Option (Bool) := (zE.f k a0).bind fun t130 => (some t130)
theorem yp.mono : ∀ a0 k, LeO (yp.f k a0) (yp.f (k + 1) a0) := by
 intro a0 k
 unfold yp.f
 repeat' first
   | (with_reducible exact zE.mono _ _)
   | (with_reducible exact LeO.refl _)
   | (with_reducible exact LeO.none _)
   | (with_reducible refine LeO.ite ?_ ?_)
   | (with_reducible refine LeO.bind ?_ (fun _ => ?_))
   | exact zE.mono _ _
   | exact LeO.none _
   | refine LeO.ite ?_ ?_
   | refine LeO.bind ?_ (fun _ => ?_)
theorem yp.calls (k : Nat) (a0 : ByteArray) (r : Bool) (w : World) (h : yp.f k a0 = some r) :
  Calls Try.prog 95 #[.string a0] w fun e w' => e = .returned (.bool r) ∧ Below w.heap.size w w' := by
 have HB := za.mk (Below.refl w.heap.size w)
 have H : ((zE.f k a0).bind fun t130 => (some t130)) = some r := h
 clear h
 replace H := Vx.mp H
 obtain ⟨t130, A20, H⟩ := H
 replace H : (some t130) = some r := H
 have A2 := za.mk A20
 clear A20
 obtain rfl := Option.some.inj H
 go_enter Try.func95, Try.ntmps95
 go_wp2_with (first | ((with_reducible refine zL (f := 107) rfl ?_); refine z8 (some 4) rfl rfl Try.func107 (by kernel_rfl) rfl #[.string a0, .func (Fn.func 108) #[] #[]] rfl (by (try simp only [Vw, List.map_cons, List.map_nil]); first | done | rfl | (simp only [List.length_drop, List.length_take]; rfl)) ?_; (with_reducible refine (zE.calls k a0 t130 _ A2.out).mono ?_); rintro e w3 ⟨rfl, hb⟩; refine ⟨_, rfl, ?_⟩; have n0_ := za.mk (zi (by repeat (first | (with_reducible first | exact HB.out | apply zc | apply zb | apply zd) | exact HB.out)) hb); clear HB; have HB := n0_; clear n0_; (try clear hb); (try clear hb2); (try clear hk); (try clear hi)))
 go_ret
 exact ⟨by first | rfl | (simp [zn, zo] <;> rfl) | (simp [*, zn, zo] <;> rfl), by repeat (first | (with_reducible first | exact HB.out | apply zc | apply zb | apply zd) | exact HB.out)⟩
def yM.f (k : Nat) (a0 : Int) (a1 : Int) (a2 : ByteArray) : Option (Bool) := (zB.f a0 0 5).bind fun t131 => (if t131 = true then ((zB.f a1 1 1099511627776).bind fun t132 => (if t132 = true then ((yp.f k a2).bind fun t133 => (some t133)) else (some false))) else (some false))
theorem yM.mono : ∀ a0 a1 a2 k, LeO (yM.f k a0 a1 a2) (yM.f (k + 1) a0 a1 a2) := by
 intro a0 a1 a2 k
 unfold yM.f
 repeat' first
   | (with_reducible exact yp.mono _ _)
   | (with_reducible exact LeO.refl _)
   | (with_reducible exact LeO.none _)
   | (with_reducible refine LeO.ite ?_ ?_)
   | (with_reducible refine LeO.bind ?_ (fun _ => ?_))
   | exact yp.mono _ _
   | exact LeO.none _
   | refine LeO.ite ?_ ?_
   | refine LeO.bind ?_ (fun _ => ?_)
theorem yM.calls (k : Nat) (a0 : Int) (a1 : Int) (a2 : ByteArray) (r : Bool) (w : World) (h : yM.f k a0 a1 a2 = some r) :
  Calls Try.prog 89 #[.int .i64 a0, .int .i64 a1, .string a2] w fun e w' => e = .returned (.bool r) ∧ Below w.heap.size w w' := by
 have HB := za.mk (Below.refl w.heap.size w)
 have H : ((zB.f a0 0 5).bind fun t131 => (if t131 = true then ((zB.f a1 1 1099511627776).bind fun t132 => (if t132 = true then ((yp.f k a2).bind fun t133 => (some t133)) else (some false))) else (some false))) = some r := h
 clear h
 replace H := Vx.mp H
 obtain ⟨t131, A40, H⟩ := H
 replace H : (if t131 = true then ((zB.f a1 1 1099511627776).bind fun t132 => (if t132 = true then ((yp.f k a2).bind fun t133 => (some t133)) else (some false))) else (some false)) = some r := H
 have A4 := za.mk A40
 clear A40
 by_cases c5 : t131 = true
 ·subst c5
  have H1 : ((zB.f a1 1 1099511627776).bind fun t132 => (if t132 = true then ((yp.f k a2).bind fun t133 => (some t133)) else (some false))) = some r := by rw [if_pos rfl] at H; exact H
  clear H
  have H := H1
  clear H1
  replace H := Vx.mp H
  obtain ⟨t132, A60, H⟩ := H
  replace H : (if t132 = true then ((yp.f k a2).bind fun t133 => (some t133)) else (some false)) = some r := H
  have A6 := za.mk A60
  clear A60
  by_cases c7 : t132 = true
  ·subst c7
   have H1 : ((yp.f k a2).bind fun t133 => (some t133)) = some r := by rw [if_pos rfl] at H; exact H
   clear H
   have H := H1
   clear H1
   replace H := Vx.mp H
   obtain ⟨t133, A80, H⟩ := H
   replace H : (some t133) = some r := H
   have A8 := za.mk A80
   clear A80
   obtain rfl := Option.some.inj H
   go_enter Try.func89, Try.ntmps89
   go_wp2_with (first | ((with_reducible refine zL (f := 90) rfl ?_); refine z8 (some 8) rfl rfl Try.func90 (by kernel_rfl) rfl #[.int .i64 a0, .int .i64 0, .int .i64 5] rfl (by (try simp only [Vw, List.map_cons, List.map_nil]); first | done | rfl | (simp only [List.length_drop, List.length_take]; rfl)) ?_; (with_reducible refine (zB.calls a0 0 5 true _ A4.out).mono ?_); rintro e w' ⟨rfl, ⟨nd, rfl⟩⟩; refine ⟨_, rfl, ?_⟩) | (go_at_call 90; (with_reducible refine (zB.calls a1 1 1099511627776 true _ A6.out).mono ?_); rintro e w' ⟨rfl, ⟨nd, rfl⟩⟩) | (go_at_call 95; (with_reducible refine (yp.calls k a2 t133 _ A8.out).mono ?_); rintro e w9 ⟨rfl, hb⟩; have n0_ := za.mk (zi (by repeat (first | (with_reducible first | exact HB.out | apply zc | apply zb | apply zd) | exact HB.out)) hb); clear HB; have HB := n0_; clear n0_; (try clear hb); (try clear hb2); (try clear hk); (try clear hi)))
   go_ret
   exact ⟨by first | rfl | (simp [zn, zo] <;> rfl) | (simp [*, zn, zo] <;> rfl), by repeat (first | (with_reducible first | exact HB.out | apply zc | apply zb | apply zd) | exact HB.out)⟩
  ·replace c7 := VA.mpr c7
   subst c7
   have H1 : (some false) = some r := by rw [if_neg (show ¬ (false = true) by decide)] at H; exact H
   clear H
   have H := H1
   clear H1
   obtain rfl := Option.some.inj H
   go_enter Try.func89, Try.ntmps89
   go_wp2_with (first | ((with_reducible refine zL (f := 90) rfl ?_); refine z8 (some 8) rfl rfl Try.func90 (by kernel_rfl) rfl #[.int .i64 a0, .int .i64 0, .int .i64 5] rfl (by (try simp only [Vw, List.map_cons, List.map_nil]); first | done | rfl | (simp only [List.length_drop, List.length_take]; rfl)) ?_; (with_reducible refine (zB.calls a0 0 5 true _ A4.out).mono ?_); rintro e w' ⟨rfl, ⟨nd, rfl⟩⟩; refine ⟨_, rfl, ?_⟩) | (go_at_call 90; (with_reducible refine (zB.calls a1 1 1099511627776 false _ A6.out).mono ?_); rintro e w' ⟨rfl, ⟨nd, rfl⟩⟩))
   go_ret
   exact ⟨by first | rfl | (simp [zn, zo] <;> rfl) | (simp [*, zn, zo] <;> rfl), by repeat (first | (with_reducible first | exact HB.out | apply zc | apply zb | apply zd) | exact HB.out)⟩
 ·replace c5 := VA.mpr c5
  subst c5
  have H1 : (some false) = some r := by rw [if_neg (show ¬ (false = true) by decide)] at H; exact H
  clear H
  have H := H1
  clear H1
  obtain rfl := Option.some.inj H
  go_enter Try.func89, Try.ntmps89
  go_wp2_with (first | ((with_reducible refine zL (f := 90) rfl ?_); refine z8 (some 8) rfl rfl Try.func90 (by kernel_rfl) rfl #[.int .i64 a0, .int .i64 0, .int .i64 5] rfl (by (try simp only [Vw, List.map_cons, List.map_nil]); first | done | rfl | (simp only [List.length_drop, List.length_take]; rfl)) ?_; (with_reducible refine (zB.calls a0 0 5 false _ A4.out).mono ?_); rintro e w' ⟨rfl, ⟨nd, rfl⟩⟩; refine ⟨_, rfl, ?_⟩))
  go_ret
  exact ⟨by first | rfl | (simp [zn, zo] <;> rfl) | (simp [*, zn, zo] <;> rfl), by repeat (first | (with_reducible first | exact HB.out | apply zc | apply zb | apply zd) | exact HB.out)⟩
def zY.l0 : Nat → List Int → Int → List Int → Int → Int → Option (Bool)
 | 0, _, _, _, _, _ => none
 | k + 1, x0, x1, x7, x8, x9 => if x9 < x8 then (if 0 ≤ x9 then (if x9 < (x7.length : Int) then ((zB.f (rd x7 x9) (-1099511627776) 1099511627776).bind fun t135 => (if t135 = true then (zY.l0 k x0 x1 x7 x8 (wrap64 (x9 + 1))) else (some false))) else (none)) else (none)) else (some (decide ((x0.length : Int) ≤ x1)))
def zY.f (k : Nat) (l0 : List Int) (a1 : Int) : Option (Bool) := zY.l0 k l0 a1 l0 (l0.length : Int) 0
theorem zY.mono_l : ∀ k, (∀ y0 y1 y2 y3 y4, LeO (zY.l0 k y0 y1 y2 y3 y4) (zY.l0 (k + 1) y0 y1 y2 y3 y4))
 | 0 => fun _ _ _ _ _ r h => by simp [zY.l0] at h
 | k + 1 => by
  have ih0 := zY.mono_l k
  ·intro y0 y1 y2 y3 y4
   unfold zY.l0
   repeat' first
   | (with_reducible exact ih0 _ _ _ _ _)
   | (with_reducible exact LeO.refl _)
   | (with_reducible exact LeO.none _)
   | (with_reducible refine LeO.ite ?_ ?_)
   | (with_reducible refine LeO.bind ?_ (fun _ => ?_))
   | exact ih0 _ _ _ _ _
   | exact LeO.none _
   | refine LeO.ite ?_ ?_
   | refine LeO.bind ?_ (fun _ => ?_)
theorem zY.mono : ∀ a0 a1 k, LeO (zY.f k a0 a1) (zY.f (k + 1) a0 a1) := by
 intro a0 a1 k
 have ih0 := zY.mono_l k
 unfold zY.f
 repeat' first
   | (with_reducible exact ih0 _ _ _ _ _)
   | (with_reducible exact LeO.refl _)
   | (with_reducible exact LeO.none _)
   | (with_reducible refine LeO.ite ?_ ?_)
   | (with_reducible refine LeO.bind ?_ (fun _ => ?_))
   | exact ih0 _ _ _ _ _
   | exact LeO.none _
   | refine LeO.ite ?_ ?_
   | refine LeO.bind ?_ (fun _ => ?_)
theorem zY.calls (k : Nat) (A0 : Option Addr) (c0 : Nat) (l0 : List Int) (a1 : Int) (r : Bool) (w : World) (hr0 : Kd.C (Kd.int .i64) w A0 l0.length l0) (hc0 : l0.length ≤ c0) (h : zY.f k l0 a1 = some r) :
  Calls Try.prog 91 #[.slice A0 l0.length c0, .int .i64 a1] w fun e w' => e = .returned (.bool r) ∧ zG w w' := by
 have HR0 := za.mk hr0
 have HC0 := za.mk hc0
 clear hr0 hc0
 have H : (zY.l0 k l0 a1 l0 (l0.length : Int) 0) = some r := h
 clear h
 have H' := za.mk H
 clear H
 go_enter Try.func91, Try.ntmps91
 go_wp2
 go_loopg [9] k (fun kq v9 w' => ∃ (x9_1 : Int), v9 = .int .i64 x9_1 ∧ za (zY.l0 kq l0 a1 l0 (l0.length : Int) x9_1 = some r) ∧ za (kq ≤ k) ∧ zG w w')
 case atStart => exact ⟨(0), (by first | rfl | (simp; done) | (simp [*]; done)), H', ⟨Nat.le_refl _⟩, by repeat (first | exact zG.refl _ | apply zG.step)⟩
 case round =>
  clear H'
  try clear p2
  obtain ⟨x9_1, rfl, HA, HK1, ⟨m1, rfl⟩⟩ := hrel
  cases gk with
  | zero => exact absurd HA.out (by simp [zY.l0])
  | succ k1 =>
   have H := HA.out
   clear HA
   simp only [zY.l0] at H
   by_cases c3 : x9_1 < (l0.length : Int)
   ·rw [if_pos c3] at H
    have c3b0 : decide (x9_1 < (l0.length : Int)) = true := decide_eq_true c3
    clear c3
    by_cases c4 : 0 ≤ x9_1
    ·rw [if_pos c4] at H
     have c4b0 : decide (0 ≤ x9_1) = true := decide_eq_true c4
     clear c4
     by_cases c5 : x9_1 < (l0.length : Int)
     ·rw [if_pos c5] at H
      have c5b0 : decide (x9_1 < (l0.length : Int)) = true := decide_eq_true c5
      clear c5
      replace H := Vx.mp H
      obtain ⟨t135, A60, H⟩ := H
      replace H : (if t135 = true then (zY.l0 k1 l0 a1 l0 (l0.length : Int) (wrap64 (x9_1 + 1))) else (some false)) = some r := H
      have A6 := za.mk A60
      clear A60
      by_cases c7 : t135 = true
      ·subst c7
       have H1 : (zY.l0 k1 l0 a1 l0 (l0.length : Int) (wrap64 (x9_1 + 1))) = some r := by rw [if_pos rfl] at H; exact H
       clear H
       have H := H1
       clear H1
       have H' := za.mk H
       clear H
       have p134 : 0 ≤ (x9_1 : Int) := of_decide_eq_true (by first | (with_reducible assumption) | assumption)
       have q134 : x9_1 < (l0.length : Int) := of_decide_eq_true (by first | (with_reducible assumption) | assumption)
       obtain ⟨ad134, e134, hx134_0⟩ := Kd.at_int HR0.out x9_1 p134 q134
       cases e134
       replace p134 := eq_true p134
       replace q134 := eq_true q134
       go_wp2_with (first | ((with_reducible refine zL (f := 90) rfl ?_); refine z8 (some 14) rfl rfl Try.func90 (by kernel_rfl) rfl #[.int .i64 (rd l0 x9_1), .int .i64 (-1099511627776), .int .i64 1099511627776] rfl (by (try simp only [Vw, List.map_cons, List.map_nil]); first | done | rfl | (simp only [List.length_drop, List.length_take]; rfl)) ?_; (with_reducible refine (zB.calls (rd l0 x9_1) (-1099511627776) 1099511627776 true _ A6.out).mono ?_); rintro e w' ⟨rfl, ⟨nd, rfl⟩⟩; refine ⟨_, rfl, ?_⟩))
       go_roundg k1
       case measure => have := HK1.out; omega
       case rel => exact ⟨(wrap64 (x9_1 + 1)), (by first | rfl | (simp; done) | (simp [*]; done)), H', ⟨by have := HK1.out; omega⟩, by repeat (first | exact zG.refl _ | apply zG.step)⟩
      ·replace c7 := VA.mpr c7
       subst c7
       have H1 : (some false) = some r := by rw [if_neg (show ¬ (false = true) by decide)] at H; exact H
       clear H
       have H := H1
       clear H1
       obtain rfl := Option.some.inj H
       have p134 : 0 ≤ (x9_1 : Int) := of_decide_eq_true (by first | (with_reducible assumption) | assumption)
       have q134 : x9_1 < (l0.length : Int) := of_decide_eq_true (by first | (with_reducible assumption) | assumption)
       obtain ⟨ad134, e134, hx134_0⟩ := Kd.at_int HR0.out x9_1 p134 q134
       cases e134
       replace p134 := eq_true p134
       replace q134 := eq_true q134
       go_wp2_with (first | ((with_reducible refine zL (f := 90) rfl ?_); refine z8 (some 14) rfl rfl Try.func90 (by kernel_rfl) rfl #[.int .i64 (rd l0 x9_1), .int .i64 (-1099511627776), .int .i64 1099511627776] rfl (by (try simp only [Vw, List.map_cons, List.map_nil]); first | done | rfl | (simp only [List.length_drop, List.length_take]; rfl)) ?_; (with_reducible refine (zB.calls (rd l0 x9_1) (-1099511627776) 1099511627776 false _ A6.out).mono ?_); rintro e w' ⟨rfl, ⟨nd, rfl⟩⟩; refine ⟨_, rfl, ?_⟩))
       go_ret
       exact ⟨by first | rfl | (simp; done) | (simp [*]; done), by repeat (first | exact zG.refl _ | apply zG.step)⟩
     ·rw [if_neg c5] at H
      exact absurd H (by simp)
    ·rw [if_neg c4] at H
     exact absurd H (by simp)
   ·rw [if_neg c3] at H
    have c3b0 : decide (x9_1 < (l0.length : Int)) = false := decide_eq_false c3
    clear c3
    obtain rfl := Option.some.inj H
    go_wp2
    go_ret
    exact ⟨by first | rfl | (simp; done) | (simp [*]; done), by repeat (first | exact zG.refl _ | apply zG.step)⟩
def yL.f (k : Nat) (a0_0 : Int) (a0_1 : Int) (a0_2 : ByteArray) (a0_3 : Int) (l0_4 : List Int) (a0_5 : Int) : Option (Bool) := (yM.f k a0_0 a0_1 a0_2).bind fun t137 => (if t137 = true then ((zB.f a0_3 0 11).bind fun t138 => (if t138 = true then ((zY.f k l0_4 4).bind fun t139 => (if t139 = true then ((zB.f a0_5 (-1) 1099511627776).bind fun t140 => (some t140)) else (some false))) else (some false))) else (some false))
theorem yL.mono : ∀ a0 a1 a2 a3 a4 a5 k, LeO (yL.f k a0 a1 a2 a3 a4 a5) (yL.f (k + 1) a0 a1 a2 a3 a4 a5) := by
 intro a0 a1 a2 a3 a4 a5 k
 unfold yL.f
 repeat' first
   | (with_reducible exact yM.mono _ _ _ _)
   | (with_reducible exact zY.mono _ _ _)
   | (with_reducible exact LeO.refl _)
   | (with_reducible exact LeO.none _)
   | (with_reducible refine LeO.ite ?_ ?_)
   | (with_reducible refine LeO.bind ?_ (fun _ => ?_))
   | exact yM.mono _ _ _ _
   | exact zY.mono _ _ _
   | exact LeO.none _
   | refine LeO.ite ?_ ?_
   | refine LeO.bind ?_ (fun _ => ?_)
theorem yL.calls (k : Nat) (a0_0 : Int) (a0_1 : Int) (a0_2 : ByteArray) (a0_3 : Int) (A0_4 : Option Addr) (c0_4 : Nat) (l0_4 : List Int) (a0_5 : Int) (r : Bool) (w : World) (hr0_4 : Kd.C (Kd.int .i64) w A0_4 l0_4.length l0_4) (hc0_4 : l0_4.length ≤ c0_4) (h : yL.f k a0_0 a0_1 a0_2 a0_3 l0_4 a0_5 = some r) :
  Calls Try.prog 42 #[.agg #[.int .i64 a0_0, .int .i64 a0_1, .string a0_2, .int .i64 a0_3, .slice A0_4 l0_4.length c0_4, .int .i64 a0_5]] w fun e w' => e = .returned (.bool r) ∧ Below w.heap.size w w' := by
 have hu24 := Try.underlying24
 have HR0_4 := za.mk hr0_4
 have HC0_4 := za.mk hc0_4
 clear hr0_4 hc0_4
 have HB := za.mk (Below.refl w.heap.size w)
 have H : ((yM.f k a0_0 a0_1 a0_2).bind fun t137 => (if t137 = true then ((zB.f a0_3 0 11).bind fun t138 => (if t138 = true then ((zY.f k l0_4 4).bind fun t139 => (if t139 = true then ((zB.f a0_5 (-1) 1099511627776).bind fun t140 => (some t140)) else (some false))) else (some false))) else (some false))) = some r := h
 clear h
 replace H := Vx.mp H
 obtain ⟨t137, A20, H⟩ := H
 replace H : (if t137 = true then ((zB.f a0_3 0 11).bind fun t138 => (if t138 = true then ((zY.f k l0_4 4).bind fun t139 => (if t139 = true then ((zB.f a0_5 (-1) 1099511627776).bind fun t140 => (some t140)) else (some false))) else (some false))) else (some false)) = some r := H
 have A2 := za.mk A20
 clear A20
 by_cases c3 : t137 = true
 ·subst c3
  have H1 : ((zB.f a0_3 0 11).bind fun t138 => (if t138 = true then ((zY.f k l0_4 4).bind fun t139 => (if t139 = true then ((zB.f a0_5 (-1) 1099511627776).bind fun t140 => (some t140)) else (some false))) else (some false))) = some r := by rw [if_pos rfl] at H; exact H
  clear H
  have H := H1
  clear H1
  replace H := Vx.mp H
  obtain ⟨t138, A40, H⟩ := H
  replace H : (if t138 = true then ((zY.f k l0_4 4).bind fun t139 => (if t139 = true then ((zB.f a0_5 (-1) 1099511627776).bind fun t140 => (some t140)) else (some false))) else (some false)) = some r := H
  have A4 := za.mk A40
  clear A40
  by_cases c5 : t138 = true
  ·subst c5
   have H1 : ((zY.f k l0_4 4).bind fun t139 => (if t139 = true then ((zB.f a0_5 (-1) 1099511627776).bind fun t140 => (some t140)) else (some false))) = some r := by rw [if_pos rfl] at H; exact H
   clear H
   have H := H1
   clear H1
   replace H := Vx.mp H
   obtain ⟨t139, A60, H⟩ := H
   replace H : (if t139 = true then ((zB.f a0_5 (-1) 1099511627776).bind fun t140 => (some t140)) else (some false)) = some r := H
   have A6 := za.mk A60
   clear A60
   by_cases c7 : t139 = true
   ·subst c7
    have H1 : ((zB.f a0_5 (-1) 1099511627776).bind fun t140 => (some t140)) = some r := by rw [if_pos rfl] at H; exact H
    clear H
    have H := H1
    clear H1
    replace H := Vx.mp H
    obtain ⟨t140, A80, H⟩ := H
    replace H : (some t140) = some r := H
    have A8 := za.mk A80
    clear A80
    obtain rfl := Option.some.inj H
    go_enter Try.func42, Try.ntmps42
    go_wp2_with (first | ((with_reducible refine zC (N := 1) rfl ?_); refine zF ?hg (N := 1) ?hd (cs := #[.int .i64 a0_0, .int .i64 a0_1, .string a0_2, .int .i64 a0_3, .slice A0_4 l0_4.length c0_4, .int .i64 a0_5]) (t := 24) ?hr ?_; (case hd => rfl); (case hg => rfl); (case hr => first | (go_simp; done) | (go_simp; rfl)); intro gb136 hg w9 hbox hb; have n0_ := za.mk (zi (by repeat (first | (with_reducible first | exact HB.out | apply zc | apply zb | apply zd) | exact HB.out)) hb); have n1_ := za.mk (hbox); have n2_ := za.mk ((by rw [hg]; exact (zp (by repeat (first | (with_reducible first | exact HB.out | apply zc | apply zb | apply zd) | exact HB.out))) : w.heap.size ≤ gb136)); have n3_ := za.mk ((by rw [hg]; exact (zp (by repeat (first | (with_reducible first | exact HB.out | apply zc | apply zb | apply zd) | exact HB.out))) : w.heap.size ≤ gb136)); clear HB; have HB := n0_; have BK136 := n1_; have GW136 := n2_; have GE136 := n3_; clear n0_ n1_ n2_ n3_; clear hb hbox hg; have hcz10_0 : w9.cell? ⟨gb136, 0, none⟩ = some (.int .i64 a0_0) := (zg BK136.out 0).trans rfl; have hcz10_1 : w9.cell? ⟨gb136, 1, none⟩ = some (.int .i64 a0_1) := (zg BK136.out 1).trans rfl; have hcz10_2 : w9.cell? ⟨gb136, 2, none⟩ = some (.string a0_2) := (zg BK136.out 2).trans rfl; have hcz10_3 : w9.cell? ⟨gb136, 3, none⟩ = some (.int .i64 a0_3) := (zg BK136.out 3).trans rfl; have hcz10_4 : w9.cell? ⟨gb136, 4, none⟩ = some (.slice A0_4 l0_4.length c0_4) := (zg BK136.out 4).trans rfl; have hcz10_5 : w9.cell? ⟨gb136, 5, none⟩ = some (.int .i64 a0_5) := (zg BK136.out 5).trans rfl; have hfz10_0 := ze BK136.out 0; have hfz10_1 := ze BK136.out 1; have hfz10_2 := ze BK136.out 2; have hfz10_3 := ze BK136.out 3; have hfz10_4 := ze BK136.out 4; have hfz10_5 := ze BK136.out 5) | ((with_reducible refine zL (f := 89) rfl ?_); refine z8 (some 9) rfl rfl Try.func89 (by kernel_rfl) rfl #[.int .i64 a0_0, .int .i64 a0_1, .string a0_2] rfl (by (try simp only [Vw, List.map_cons, List.map_nil]); first | done | rfl | (simp only [List.length_drop, List.length_take]; rfl)) ?_; (with_reducible refine (yM.calls k a0_0 a0_1 a0_2 true _ A2.out).mono ?_); rintro e w11 ⟨rfl, hb⟩; refine ⟨_, rfl, ?_⟩; have n0_ := za.mk (zH (g := gb136) (o := .cells #[.int .i64 a0_0, .int .i64 a0_1, .string a0_2, .int .i64 a0_3, .slice A0_4 l0_4.length c0_4, .int .i64 a0_5] 24 (0, 0)) (by (with_reducible repeat (first | refine zt ?_ _ | refine zu ?_ | refine zr ?_ _)); exact BK136.out) hb); have n1_ := za.mk (zi (by repeat (first | (with_reducible first | exact HB.out | apply zc | apply zb | apply zd | refine zh ?_ GE136.out) | exact HB.out)) hb); clear BK136; clear HB; have BK136 := n0_; have HB := n1_; clear n0_ n1_; (try clear hb); (try clear hb2); (try clear hk); (try clear hi); have hcz12_0 : w11.cell? ⟨gb136, 0, none⟩ = some (.int .i64 a0_0) := (zg BK136.out 0).trans rfl; have hcz12_1 : w11.cell? ⟨gb136, 1, none⟩ = some (.int .i64 a0_1) := (zg BK136.out 1).trans rfl; have hcz12_2 : w11.cell? ⟨gb136, 2, none⟩ = some (.string a0_2) := (zg BK136.out 2).trans rfl; have hcz12_3 : w11.cell? ⟨gb136, 3, none⟩ = some (.int .i64 a0_3) := (zg BK136.out 3).trans rfl; have hcz12_4 : w11.cell? ⟨gb136, 4, none⟩ = some (.slice A0_4 l0_4.length c0_4) := (zg BK136.out 4).trans rfl; have hcz12_5 : w11.cell? ⟨gb136, 5, none⟩ = some (.int .i64 a0_5) := (zg BK136.out 5).trans rfl; have hfz12_0 := ze BK136.out 0; have hfz12_1 := ze BK136.out 1; have hfz12_2 := ze BK136.out 2; have hfz12_3 := ze BK136.out 3; have hfz12_4 := ze BK136.out 4; have hfz12_5 := ze BK136.out 5) | (go_at_call 90; (with_reducible refine (zB.calls a0_3 0 11 true _ A4.out).mono ?_); rintro e w' ⟨rfl, ⟨nd, rfl⟩⟩) | (go_at_call 91; (with_reducible refine (zY.calls k _ _ l0_4 4 true _ ?side1 ?side2 A6.out).mono ?_); (case side1 => repeat (first | exact (Kd.C_below HR0_4.out (by repeat (first | (with_reducible first | exact HB.out | apply zc | apply zb | apply zd | refine zh ?_ GE136.out) | exact HB.out))) | (with_reducible refine Kd.C_alloc ?_ _) | (with_reducible refine Kd.C_drewN ?_ _) | (with_reducible refine Kd.C_drew ?_))); (case side2 => exact HC0_4.out); rintro e w' ⟨rfl, ⟨nd, rfl⟩⟩) | (go_at_call 90; (with_reducible refine (zB.calls a0_5 (-1) 1099511627776 t140 _ A8.out).mono ?_); rintro e w' ⟨rfl, ⟨nd, rfl⟩⟩))
    go_ret
    exact ⟨by first | rfl | (simp [zn, zo] <;> rfl) | (simp [*, zn, zo] <;> rfl), by repeat (first | (with_reducible first | exact HB.out | apply zc | apply zb | apply zd | refine zh ?_ GE136.out) | exact HB.out)⟩
   ·replace c7 := VA.mpr c7
    subst c7
    have H1 : (some false) = some r := by rw [if_neg (show ¬ (false = true) by decide)] at H; exact H
    clear H
    have H := H1
    clear H1
    obtain rfl := Option.some.inj H
    go_enter Try.func42, Try.ntmps42
    go_wp2_with (first | ((with_reducible refine zC (N := 1) rfl ?_); refine zF ?hg (N := 1) ?hd (cs := #[.int .i64 a0_0, .int .i64 a0_1, .string a0_2, .int .i64 a0_3, .slice A0_4 l0_4.length c0_4, .int .i64 a0_5]) (t := 24) ?hr ?_; (case hd => rfl); (case hg => rfl); (case hr => first | (go_simp; done) | (go_simp; rfl)); intro gb136 hg w13 hbox hb; have n0_ := za.mk (zi (by repeat (first | (with_reducible first | exact HB.out | apply zc | apply zb | apply zd) | exact HB.out)) hb); have n1_ := za.mk (hbox); have n2_ := za.mk ((by rw [hg]; exact (zp (by repeat (first | (with_reducible first | exact HB.out | apply zc | apply zb | apply zd) | exact HB.out))) : w.heap.size ≤ gb136)); have n3_ := za.mk ((by rw [hg]; exact (zp (by repeat (first | (with_reducible first | exact HB.out | apply zc | apply zb | apply zd) | exact HB.out))) : w.heap.size ≤ gb136)); clear HB; have HB := n0_; have BK136 := n1_; have GW136 := n2_; have GE136 := n3_; clear n0_ n1_ n2_ n3_; clear hb hbox hg; have hcz14_0 : w13.cell? ⟨gb136, 0, none⟩ = some (.int .i64 a0_0) := (zg BK136.out 0).trans rfl; have hcz14_1 : w13.cell? ⟨gb136, 1, none⟩ = some (.int .i64 a0_1) := (zg BK136.out 1).trans rfl; have hcz14_2 : w13.cell? ⟨gb136, 2, none⟩ = some (.string a0_2) := (zg BK136.out 2).trans rfl; have hcz14_3 : w13.cell? ⟨gb136, 3, none⟩ = some (.int .i64 a0_3) := (zg BK136.out 3).trans rfl; have hcz14_4 : w13.cell? ⟨gb136, 4, none⟩ = some (.slice A0_4 l0_4.length c0_4) := (zg BK136.out 4).trans rfl; have hcz14_5 : w13.cell? ⟨gb136, 5, none⟩ = some (.int .i64 a0_5) := (zg BK136.out 5).trans rfl; have hfz14_0 := ze BK136.out 0; have hfz14_1 := ze BK136.out 1; have hfz14_2 := ze BK136.out 2; have hfz14_3 := ze BK136.out 3; have hfz14_4 := ze BK136.out 4; have hfz14_5 := ze BK136.out 5) | ((with_reducible refine zL (f := 89) rfl ?_); refine z8 (some 9) rfl rfl Try.func89 (by kernel_rfl) rfl #[.int .i64 a0_0, .int .i64 a0_1, .string a0_2] rfl (by (try simp only [Vw, List.map_cons, List.map_nil]); first | done | rfl | (simp only [List.length_drop, List.length_take]; rfl)) ?_; (with_reducible refine (yM.calls k a0_0 a0_1 a0_2 true _ A2.out).mono ?_); rintro e w15 ⟨rfl, hb⟩; refine ⟨_, rfl, ?_⟩; have n0_ := za.mk (zH (g := gb136) (o := .cells #[.int .i64 a0_0, .int .i64 a0_1, .string a0_2, .int .i64 a0_3, .slice A0_4 l0_4.length c0_4, .int .i64 a0_5] 24 (0, 0)) (by (with_reducible repeat (first | refine zt ?_ _ | refine zu ?_ | refine zr ?_ _)); exact BK136.out) hb); have n1_ := za.mk (zi (by repeat (first | (with_reducible first | exact HB.out | apply zc | apply zb | apply zd | refine zh ?_ GE136.out) | exact HB.out)) hb); clear BK136; clear HB; have BK136 := n0_; have HB := n1_; clear n0_ n1_; (try clear hb); (try clear hb2); (try clear hk); (try clear hi); have hcz16_0 : w15.cell? ⟨gb136, 0, none⟩ = some (.int .i64 a0_0) := (zg BK136.out 0).trans rfl; have hcz16_1 : w15.cell? ⟨gb136, 1, none⟩ = some (.int .i64 a0_1) := (zg BK136.out 1).trans rfl; have hcz16_2 : w15.cell? ⟨gb136, 2, none⟩ = some (.string a0_2) := (zg BK136.out 2).trans rfl; have hcz16_3 : w15.cell? ⟨gb136, 3, none⟩ = some (.int .i64 a0_3) := (zg BK136.out 3).trans rfl; have hcz16_4 : w15.cell? ⟨gb136, 4, none⟩ = some (.slice A0_4 l0_4.length c0_4) := (zg BK136.out 4).trans rfl; have hcz16_5 : w15.cell? ⟨gb136, 5, none⟩ = some (.int .i64 a0_5) := (zg BK136.out 5).trans rfl; have hfz16_0 := ze BK136.out 0; have hfz16_1 := ze BK136.out 1; have hfz16_2 := ze BK136.out 2; have hfz16_3 := ze BK136.out 3; have hfz16_4 := ze BK136.out 4; have hfz16_5 := ze BK136.out 5) | (go_at_call 90; (with_reducible refine (zB.calls a0_3 0 11 true _ A4.out).mono ?_); rintro e w' ⟨rfl, ⟨nd, rfl⟩⟩) | (go_at_call 91; (with_reducible refine (zY.calls k _ _ l0_4 4 false _ ?side1 ?side2 A6.out).mono ?_); (case side1 => repeat (first | exact (Kd.C_below HR0_4.out (by repeat (first | (with_reducible first | exact HB.out | apply zc | apply zb | apply zd | refine zh ?_ GE136.out) | exact HB.out))) | (with_reducible refine Kd.C_alloc ?_ _) | (with_reducible refine Kd.C_drewN ?_ _) | (with_reducible refine Kd.C_drew ?_))); (case side2 => exact HC0_4.out); rintro e w' ⟨rfl, ⟨nd, rfl⟩⟩))
    go_ret
    exact ⟨by first | rfl | (simp [zn, zo] <;> rfl) | (simp [*, zn, zo] <;> rfl), by repeat (first | (with_reducible first | exact HB.out | apply zc | apply zb | apply zd | refine zh ?_ GE136.out) | exact HB.out)⟩
  ·replace c5 := VA.mpr c5
   subst c5
   have H1 : (some false) = some r := by rw [if_neg (show ¬ (false = true) by decide)] at H; exact H
   clear H
   have H := H1
   clear H1
   obtain rfl := Option.some.inj H
   go_enter Try.func42, Try.ntmps42
   go_wp2_with (first | ((with_reducible refine zC (N := 1) rfl ?_); refine zF ?hg (N := 1) ?hd (cs := #[.int .i64 a0_0, .int .i64 a0_1, .string a0_2, .int .i64 a0_3, .slice A0_4 l0_4.length c0_4, .int .i64 a0_5]) (t := 24) ?hr ?_; (case hd => rfl); (case hg => rfl); (case hr => first | (go_simp; done) | (go_simp; rfl)); intro gb136 hg w17 hbox hb; have n0_ := za.mk (zi (by repeat (first | (with_reducible first | exact HB.out | apply zc | apply zb | apply zd) | exact HB.out)) hb); have n1_ := za.mk (hbox); have n2_ := za.mk ((by rw [hg]; exact (zp (by repeat (first | (with_reducible first | exact HB.out | apply zc | apply zb | apply zd) | exact HB.out))) : w.heap.size ≤ gb136)); have n3_ := za.mk ((by rw [hg]; exact (zp (by repeat (first | (with_reducible first | exact HB.out | apply zc | apply zb | apply zd) | exact HB.out))) : w.heap.size ≤ gb136)); clear HB; have HB := n0_; have BK136 := n1_; have GW136 := n2_; have GE136 := n3_; clear n0_ n1_ n2_ n3_; clear hb hbox hg; have hcz18_0 : w17.cell? ⟨gb136, 0, none⟩ = some (.int .i64 a0_0) := (zg BK136.out 0).trans rfl; have hcz18_1 : w17.cell? ⟨gb136, 1, none⟩ = some (.int .i64 a0_1) := (zg BK136.out 1).trans rfl; have hcz18_2 : w17.cell? ⟨gb136, 2, none⟩ = some (.string a0_2) := (zg BK136.out 2).trans rfl; have hcz18_3 : w17.cell? ⟨gb136, 3, none⟩ = some (.int .i64 a0_3) := (zg BK136.out 3).trans rfl; have hcz18_4 : w17.cell? ⟨gb136, 4, none⟩ = some (.slice A0_4 l0_4.length c0_4) := (zg BK136.out 4).trans rfl; have hcz18_5 : w17.cell? ⟨gb136, 5, none⟩ = some (.int .i64 a0_5) := (zg BK136.out 5).trans rfl; have hfz18_0 := ze BK136.out 0; have hfz18_1 := ze BK136.out 1; have hfz18_2 := ze BK136.out 2; have hfz18_3 := ze BK136.out 3; have hfz18_4 := ze BK136.out 4; have hfz18_5 := ze BK136.out 5) | ((with_reducible refine zL (f := 89) rfl ?_); refine z8 (some 9) rfl rfl Try.func89 (by kernel_rfl) rfl #[.int .i64 a0_0, .int .i64 a0_1, .string a0_2] rfl (by (try simp only [Vw, List.map_cons, List.map_nil]); first | done | rfl | (simp only [List.length_drop, List.length_take]; rfl)) ?_; (with_reducible refine (yM.calls k a0_0 a0_1 a0_2 true _ A2.out).mono ?_); rintro e w19 ⟨rfl, hb⟩; refine ⟨_, rfl, ?_⟩; have n0_ := za.mk (zH (g := gb136) (o := .cells #[.int .i64 a0_0, .int .i64 a0_1, .string a0_2, .int .i64 a0_3, .slice A0_4 l0_4.length c0_4, .int .i64 a0_5] 24 (0, 0)) (by (with_reducible repeat (first | refine zt ?_ _ | refine zu ?_ | refine zr ?_ _)); exact BK136.out) hb); have n1_ := za.mk (zi (by repeat (first | (with_reducible first | exact HB.out | apply zc | apply zb | apply zd | refine zh ?_ GE136.out) | exact HB.out)) hb); clear BK136; clear HB; have BK136 := n0_; have HB := n1_; clear n0_ n1_; (try clear hb); (try clear hb2); (try clear hk); (try clear hi); have hcz20_0 : w19.cell? ⟨gb136, 0, none⟩ = some (.int .i64 a0_0) := (zg BK136.out 0).trans rfl; have hcz20_1 : w19.cell? ⟨gb136, 1, none⟩ = some (.int .i64 a0_1) := (zg BK136.out 1).trans rfl; have hcz20_2 : w19.cell? ⟨gb136, 2, none⟩ = some (.string a0_2) := (zg BK136.out 2).trans rfl; have hcz20_3 : w19.cell? ⟨gb136, 3, none⟩ = some (.int .i64 a0_3) := (zg BK136.out 3).trans rfl; have hcz20_4 : w19.cell? ⟨gb136, 4, none⟩ = some (.slice A0_4 l0_4.length c0_4) := (zg BK136.out 4).trans rfl; have hcz20_5 : w19.cell? ⟨gb136, 5, none⟩ = some (.int .i64 a0_5) := (zg BK136.out 5).trans rfl; have hfz20_0 := ze BK136.out 0; have hfz20_1 := ze BK136.out 1; have hfz20_2 := ze BK136.out 2; have hfz20_3 := ze BK136.out 3; have hfz20_4 := ze BK136.out 4; have hfz20_5 := ze BK136.out 5) | (go_at_call 90; (with_reducible refine (zB.calls a0_3 0 11 false _ A4.out).mono ?_); rintro e w' ⟨rfl, ⟨nd, rfl⟩⟩))
   go_ret
   exact ⟨by first | rfl | (simp [zn, zo] <;> rfl) | (simp [*, zn, zo] <;> rfl), by repeat (first | (with_reducible first | exact HB.out | apply zc | apply zb | apply zd | refine zh ?_ GE136.out) | exact HB.out)⟩
 ·replace c3 := VA.mpr c3
  subst c3
  have H1 : (some false) = some r := by rw [if_neg (show ¬ (false = true) by decide)] at H; exact H
  clear H
  have H := H1
  clear H1
  obtain rfl := Option.some.inj H
  go_enter Try.func42, Try.ntmps42
  go_wp2_with (first | ((with_reducible refine zC (N := 1) rfl ?_); refine zF ?hg (N := 1) ?hd (cs := #[.int .i64 a0_0, .int .i64 a0_1, .string a0_2, .int .i64 a0_3, .slice A0_4 l0_4.length c0_4, .int .i64 a0_5]) (t := 24) ?hr ?_; (case hd => rfl); (case hg => rfl); (case hr => first | (go_simp; done) | (go_simp; rfl)); intro gb136 hg w21 hbox hb; have n0_ := za.mk (zi (by repeat (first | (with_reducible first | exact HB.out | apply zc | apply zb | apply zd) | exact HB.out)) hb); have n1_ := za.mk (hbox); have n2_ := za.mk ((by rw [hg]; exact (zp (by repeat (first | (with_reducible first | exact HB.out | apply zc | apply zb | apply zd) | exact HB.out))) : w.heap.size ≤ gb136)); have n3_ := za.mk ((by rw [hg]; exact (zp (by repeat (first | (with_reducible first | exact HB.out | apply zc | apply zb | apply zd) | exact HB.out))) : w.heap.size ≤ gb136)); clear HB; have HB := n0_; have BK136 := n1_; have GW136 := n2_; have GE136 := n3_; clear n0_ n1_ n2_ n3_; clear hb hbox hg; have hcz22_0 : w21.cell? ⟨gb136, 0, none⟩ = some (.int .i64 a0_0) := (zg BK136.out 0).trans rfl; have hcz22_1 : w21.cell? ⟨gb136, 1, none⟩ = some (.int .i64 a0_1) := (zg BK136.out 1).trans rfl; have hcz22_2 : w21.cell? ⟨gb136, 2, none⟩ = some (.string a0_2) := (zg BK136.out 2).trans rfl; have hcz22_3 : w21.cell? ⟨gb136, 3, none⟩ = some (.int .i64 a0_3) := (zg BK136.out 3).trans rfl; have hcz22_4 : w21.cell? ⟨gb136, 4, none⟩ = some (.slice A0_4 l0_4.length c0_4) := (zg BK136.out 4).trans rfl; have hcz22_5 : w21.cell? ⟨gb136, 5, none⟩ = some (.int .i64 a0_5) := (zg BK136.out 5).trans rfl; have hfz22_0 := ze BK136.out 0; have hfz22_1 := ze BK136.out 1; have hfz22_2 := ze BK136.out 2; have hfz22_3 := ze BK136.out 3; have hfz22_4 := ze BK136.out 4; have hfz22_5 := ze BK136.out 5) | ((with_reducible refine zL (f := 89) rfl ?_); refine z8 (some 9) rfl rfl Try.func89 (by kernel_rfl) rfl #[.int .i64 a0_0, .int .i64 a0_1, .string a0_2] rfl (by (try simp only [Vw, List.map_cons, List.map_nil]); first | done | rfl | (simp only [List.length_drop, List.length_take]; rfl)) ?_; (with_reducible refine (yM.calls k a0_0 a0_1 a0_2 false _ A2.out).mono ?_); rintro e w23 ⟨rfl, hb⟩; refine ⟨_, rfl, ?_⟩; have n0_ := za.mk (zH (g := gb136) (o := .cells #[.int .i64 a0_0, .int .i64 a0_1, .string a0_2, .int .i64 a0_3, .slice A0_4 l0_4.length c0_4, .int .i64 a0_5] 24 (0, 0)) (by (with_reducible repeat (first | refine zt ?_ _ | refine zu ?_ | refine zr ?_ _)); exact BK136.out) hb); have n1_ := za.mk (zi (by repeat (first | (with_reducible first | exact HB.out | apply zc | apply zb | apply zd | refine zh ?_ GE136.out) | exact HB.out)) hb); clear BK136; clear HB; have BK136 := n0_; have HB := n1_; clear n0_ n1_; (try clear hb); (try clear hb2); (try clear hk); (try clear hi)))
  go_ret
  exact ⟨by first | rfl | (simp [zn, zo] <;> rfl) | (simp [*, zn, zo] <;> rfl), by repeat (first | (with_reducible first | exact HB.out | apply zc | apply zb | apply zd | refine zh ?_ GE136.out) | exact HB.out)⟩
theorem XM (k g : Nat) (s0_0 : ByteArray) (s0_1 : Int) (a0 : Int) (a1 : Int) (a2 : ByteArray) (a3 : Int) (A : Option Addr) (c : Nat) (l : List Int) (a5 : Int) (w0 w : World) (er : Int) (he : er ≠ 0) (hI : zf w0 w g s0_0 s0_1 er) (hB : Below w0.heap.size w0 w) (hC : ∀ W_, zl w W_ g none → Kd.C (Kd.int .i64) W_ A l.length l) (hl : l.length ≤ c) :
  Calls Try.prog 69 #[.pointer (some ⟨g, 0, none⟩), .agg #[.int .i64 a0, .int .i64 a1, .string a2, .int .i64 a3, .slice A l.length c, .int .i64 a5], .func (Fn.func 42) #[] #[]] w fun e w' => e = .returned (.tuple #[.agg #[.int .i64 0, .int .i64 0, .string ⟨#[]⟩, .int .i64 0, .slice none 0 0, .int .i64 0], .int .i64 0, .int .i64 er]) ∧ zf w0 w' g s0_0 s0_1 er ∧ Below w0.heap.size w0 w' ∧ zl w w' g none := by
 have HI := za.mk hI
 have HB := za.mk hB
 have HC := za.mk hC
 have HL := za.mk hl
 have HK := za.mk (zl.refl w g none)
 clear hI hB hC hl
 have e1 : (er == 0) = false := beq_eq_false_iff_ne.mpr he
 have e2 : (er != 0) = true := bne_iff_ne.mpr he
 obtain ⟨hc_st_0, hc_st_1, hc_st_2, hf_st_0, hf_st_1, hf_st_2⟩ := yj HI.out.1
 go_enter Try.func69, Try.ntmps69
 go_wp2_with (first | ((with_reducible refine zC (N := 4) rfl ?_); refine zF ?hg (N := 4) ?hd (cs := #[.int .i64 a0, .int .i64 a1, .string a2, .int .i64 a3, .slice A l.length c, .int .i64 a5]) (t := 24) ?hr ?_; (case hd => rfl); (case hg => rfl); (case hr => first | (go_simp; done) | (go_simp; rfl)); intro g_x hg_ w1_ hbox_ hb_; have n0_ := za.mk (HI.out.below hb_); have n1_ := za.mk (zi HB.out hb_); have n2_ := za.mk (HK.out.trans (zl.of_below hb_ g none) (.inl rfl)); have n3_ := za.mk ((by rw [hg_]; exact HB.out.size : w0.heap.size ≤ g_x)); have n4_ := za.mk ((by rw [hg_]; exact HK.out.1 : w.heap.size ≤ g_x)); have n5_ := za.mk (hbox_); (try clear HI); (try clear HB); (try clear HK); (try clear GE_x); (try clear GW_x); (try clear BK_x); have HI := n0_; have HB := n1_; have HK := n2_; have GE_x := n3_; have GW_x := n4_; have BK_x := n5_; clear n0_ n1_ n2_ n3_ n4_ n5_; (try clear hc_st_0 hc_st_1 hc_st_2 hf_st_0 hf_st_1 hf_st_2); clear hbox_ hb_ hg_; obtain ⟨hc_x_0, hc_x_1, hc_x_2, hc_x_3, hc_x_4, hc_x_5, hf_x_0, hf_x_1, hf_x_2, hf_x_3, hf_x_4, hf_x_5⟩ := yw BK_x.out; obtain ⟨hc_st_0, hc_st_1, hc_st_2, hf_st_0, hf_st_1, hf_st_2⟩ := yj HI.out.1) | ((with_reducible refine zC (N := 6) rfl ?_); refine zF ?hg (N := 6) ?hd (cs := #[.int .i64 0, .int .i64 0, .string ⟨#[]⟩, .int .i64 0, .slice none 0 0, .int .i64 0]) (t := 24) ?hr ?_; (case hd => rfl); (case hg => rfl); (case hr => first | (go_simp; done) | (go_simp; rfl)); intro g_r hg_ w2_ hbox_ hb_; have n0_ := za.mk (zH BK_x.out hb_); have n1_ := za.mk (HI.out.below hb_); have n2_ := za.mk (zi HB.out hb_); have n3_ := za.mk (HK.out.trans (zl.of_below hb_ g none) (.inl rfl)); have n4_ := za.mk ((by rw [hg_]; exact HB.out.size : w0.heap.size ≤ g_r)); have n5_ := za.mk ((by rw [hg_]; exact Nat.ne_of_lt (yq BK_x.out) : g_x ≠ g_r)); have n6_ := za.mk ((by rw [hg_]; exact HK.out.1 : w.heap.size ≤ g_r)); have n7_ := za.mk (hbox_); (try clear BK_x); (try clear HI); (try clear HB); (try clear HK); (try clear GE_r); (try clear NB_x_r); (try clear GW_r); (try clear BK_r); have BK_x := n0_; have HI := n1_; have HB := n2_; have HK := n3_; have GE_r := n4_; have NB_x_r := n5_; have GW_r := n6_; have BK_r := n7_; clear n0_ n1_ n2_ n3_ n4_ n5_ n6_ n7_; (try clear hc_x_0 hc_x_1 hc_x_2 hc_x_3 hc_x_4 hc_x_5 hf_x_0 hf_x_1 hf_x_2 hf_x_3 hf_x_4 hf_x_5); (try clear hc_st_0 hc_st_1 hc_st_2 hf_st_0 hf_st_1 hf_st_2); clear hbox_ hb_ hg_; obtain ⟨hc_x_0, hc_x_1, hc_x_2, hc_x_3, hc_x_4, hc_x_5, hf_x_0, hf_x_1, hf_x_2, hf_x_3, hf_x_4, hf_x_5⟩ := yw BK_x.out; obtain ⟨hc_r_0, hc_r_1, hc_r_2, hc_r_3, hc_r_4, hc_r_5, hf_r_0, hf_r_1, hf_r_2, hf_r_3, hf_r_4, hf_r_5⟩ := yw BK_r.out; obtain ⟨hc_st_0, hc_st_1, hc_st_2, hf_st_0, hf_st_1, hf_st_2⟩ := yj HI.out.1) | ((with_reducible refine zC (N := 9) rfl ?_); refine zF ?hg (N := 9) ?hd (cs := #[.int .i64 0, .int .i64 0, .string ⟨#[]⟩, .int .i64 0, .slice none 0 0, .int .i64 0]) (t := 24) ?hr ?_; (case hd => rfl); (case hg => rfl); (case hr => first | (go_simp; done) | (go_simp; rfl)); intro g_n hg_ w3_ hbox_ hb_; have n0_ := za.mk (zH BK_x.out hb_); have n1_ := za.mk (zH BK_r.out hb_); have n2_ := za.mk (HI.out.below hb_); have n3_ := za.mk (zi HB.out hb_); have n4_ := za.mk (HK.out.trans (zl.of_below hb_ g none) (.inl rfl)); have n5_ := za.mk ((by rw [hg_]; exact HB.out.size : w0.heap.size ≤ g_n)); have n6_ := za.mk ((by rw [hg_]; exact Nat.ne_of_lt (yq BK_x.out) : g_x ≠ g_n)); have n7_ := za.mk ((by rw [hg_]; exact Nat.ne_of_lt (yq BK_r.out) : g_r ≠ g_n)); have n8_ := za.mk ((by rw [hg_]; exact HK.out.1 : w.heap.size ≤ g_n)); have n9_ := za.mk (hbox_); (try clear BK_x); (try clear BK_r); (try clear HI); (try clear HB); (try clear HK); (try clear GE_n); (try clear NB_x_n); (try clear NB_r_n); (try clear GW_n); (try clear BK_n); have BK_x := n0_; have BK_r := n1_; have HI := n2_; have HB := n3_; have HK := n4_; have GE_n := n5_; have NB_x_n := n6_; have NB_r_n := n7_; have GW_n := n8_; have BK_n := n9_; clear n0_ n1_ n2_ n3_ n4_ n5_ n6_ n7_ n8_ n9_; (try clear hc_x_0 hc_x_1 hc_x_2 hc_x_3 hc_x_4 hc_x_5 hf_x_0 hf_x_1 hf_x_2 hf_x_3 hf_x_4 hf_x_5); (try clear hc_r_0 hc_r_1 hc_r_2 hc_r_3 hc_r_4 hc_r_5 hf_r_0 hf_r_1 hf_r_2 hf_r_3 hf_r_4 hf_r_5); (try clear hc_st_0 hc_st_1 hc_st_2 hf_st_0 hf_st_1 hf_st_2); clear hbox_ hb_ hg_; obtain ⟨hc_x_0, hc_x_1, hc_x_2, hc_x_3, hc_x_4, hc_x_5, hf_x_0, hf_x_1, hf_x_2, hf_x_3, hf_x_4, hf_x_5⟩ := yw BK_x.out; obtain ⟨hc_r_0, hc_r_1, hc_r_2, hc_r_3, hc_r_4, hc_r_5, hf_r_0, hf_r_1, hf_r_2, hf_r_3, hf_r_4, hf_r_5⟩ := yw BK_r.out; obtain ⟨hc_n_0, hc_n_1, hc_n_2, hc_n_3, hc_n_4, hc_n_5, hf_n_0, hf_n_1, hf_n_2, hf_n_3, hf_n_4, hf_n_5⟩ := yw BK_n.out; obtain ⟨hc_st_0, hc_st_1, hc_st_2, hf_st_0, hf_st_1, hf_st_2⟩ := yj HI.out.1))
 have hne1_ : ¬ g = g_r := HI.out.ne_blk BK_r.out (by decide)
 have hne2_ : ¬ g_r = g := fun h_ => hne1_ h_.symm
 have HNE_r : za (g ≠ g_r) := ⟨hne1_⟩
 go_region
 all_goals (try go_wp2)
 all_goals refine bodyPost_ret (v := .tuple #[.agg #[.int .i64 0, .int .i64 0, .string ⟨#[]⟩, .int .i64 0, .slice none 0 0, .int .i64 0], .int .i64 0, .int .i64 er]) ?_ rfl ?_
 any_goals (refine xf (rs := [.cell 6 24, .tmp 7, .tmp 8]) (vs := [.agg #[.int .i64 0, .int .i64 0, .string ⟨#[]⟩, .int .i64 0, .slice none 0 0, .int .i64 0], .int .i64 0, .int .i64 er]) rfl (by simp) ?_; refine .cell g_r 24 #[.int .i64 0, .int .i64 0, .string ⟨#[]⟩, .int .i64 0, .slice none 0 0, .int .i64 0] (0, 0) _ rfl ?_ Try.underlying24 rfl (by kernel_rfl) (.tmp (.tmp .nil)); exact (by (with_reducible repeat (first | refine zt ?_ _ | refine zu ?_ | refine zr ?_ _)); refine zJ (cs := #[.int .i64 0, .int .i64 0, .string ⟨#[]⟩, .int .i64 0, .slice none 0 0, .int .i64 0]) ?_ 5 _ rfl; (with_reducible repeat (first | refine zt ?_ _ | refine zu ?_ | refine zr ?_ _)); refine zJ (cs := #[.int .i64 0, .int .i64 0, .string ⟨#[]⟩, .int .i64 0, .slice none 0 0, .int .i64 0]) ?_ 4 _ rfl; (with_reducible repeat (first | refine zt ?_ _ | refine zu ?_ | refine zr ?_ _)); refine zJ (cs := #[.int .i64 0, .int .i64 0, .string ⟨#[]⟩, .int .i64 0, .slice none 0 0, .int .i64 0]) ?_ 3 _ rfl; (with_reducible repeat (first | refine zt ?_ _ | refine zu ?_ | refine zr ?_ _)); refine zJ (cs := #[.int .i64 0, .int .i64 0, .string ⟨#[]⟩, .int .i64 0, .slice none 0 0, .int .i64 0]) ?_ 2 _ rfl; (with_reducible repeat (first | refine zt ?_ _ | refine zu ?_ | refine zr ?_ _)); refine zJ (cs := #[.int .i64 0, .int .i64 0, .string ⟨#[]⟩, .int .i64 0, .slice none 0 0, .int .i64 0]) ?_ 1 _ rfl; (with_reducible repeat (first | refine zt ?_ _ | refine zu ?_ | refine zr ?_ _)); refine zJ (cs := #[.int .i64 0, .int .i64 0, .string ⟨#[]⟩, .int .i64 0, .slice none 0 0, .int .i64 0]) ?_ 0 _ rfl; (with_reducible repeat (first | refine zt ?_ _ | refine zu ?_ | refine zr ?_ _)); exact BK_r.out))
 all_goals exact ⟨rfl, (by repeat (with_reducible first | exact HI.out | apply zf.drewN | apply zf.drew | refine zf.far ?_ HNE_r.out _)), (by repeat (with_reducible first | exact HB.out | apply zb | apply zd | refine zh ?_ GE_r.out)), (by repeat (with_reducible first | exact HK.out | apply zI | apply zO | refine xe ?_ GW_r.out _))⟩
theorem Xo (k g : Nat) (s0_0 : ByteArray) (s0_1 : Int) (a0 : Int) (a1 : Int) (a2 : ByteArray) (a3 : Int) (A : Option Addr) (c : Nat) (l : List Int) (a5 : Int) (w0 w : World) (hI : zf w0 w g s0_0 s0_1 0) (hB : Below w0.heap.size w0 w) (hC : ∀ W_, zl w W_ g none → Kd.C (Kd.int .i64) W_ A l.length l) (hl : l.length ≤ c) (h : yL.f k a0 a1 a2 a3 l a5 = some true) :
  Calls Try.prog 69 #[.pointer (some ⟨g, 0, none⟩), .agg #[.int .i64 a0, .int .i64 a1, .string a2, .int .i64 a3, .slice A l.length c, .int .i64 a5], .func (Fn.func 42) #[] #[]] w fun e w' => e = .returned (.tuple #[.agg #[.int .i64 a0, .int .i64 a1, .string a2, .int .i64 a3, .slice A l.length c, .int .i64 a5], .int .i64 s0_1, .int .i64 0]) ∧ zf w0 w' g s0_0 s0_1 0 ∧ Below w0.heap.size w0 w' ∧ zl w w' g none := by
 have HI := za.mk hI
 have HB := za.mk hB
 have HC := za.mk hC
 have HL := za.mk hl
 have HK := za.mk (zl.refl w g none)
 clear hI hB hC hl
 have HX := za.mk h
 clear h
 obtain ⟨hc_st_0, hc_st_1, hc_st_2, hf_st_0, hf_st_1, hf_st_2⟩ := yj HI.out.1
 go_enter Try.func69, Try.ntmps69
 go_wp2_with (first | ((with_reducible refine zC (N := 4) rfl ?_); refine zF ?hg (N := 4) ?hd (cs := #[.int .i64 a0, .int .i64 a1, .string a2, .int .i64 a3, .slice A l.length c, .int .i64 a5]) (t := 24) ?hr ?_; (case hd => rfl); (case hg => rfl); (case hr => first | (go_simp; done) | (go_simp; rfl)); intro g_x hg_ w1_ hbox_ hb_; have n0_ := za.mk (HI.out.below hb_); have n1_ := za.mk (zi HB.out hb_); have n2_ := za.mk (HK.out.trans (zl.of_below hb_ g none) (.inl rfl)); have n3_ := za.mk ((by rw [hg_]; exact HB.out.size : w0.heap.size ≤ g_x)); have n4_ := za.mk ((by rw [hg_]; exact HK.out.1 : w.heap.size ≤ g_x)); have n5_ := za.mk (hbox_); (try clear HI); (try clear HB); (try clear HK); (try clear GE_x); (try clear GW_x); (try clear BK_x); have HI := n0_; have HB := n1_; have HK := n2_; have GE_x := n3_; have GW_x := n4_; have BK_x := n5_; clear n0_ n1_ n2_ n3_ n4_ n5_; (try clear hc_st_0 hc_st_1 hc_st_2 hf_st_0 hf_st_1 hf_st_2); clear hbox_ hb_ hg_; obtain ⟨hc_x_0, hc_x_1, hc_x_2, hc_x_3, hc_x_4, hc_x_5, hf_x_0, hf_x_1, hf_x_2, hf_x_3, hf_x_4, hf_x_5⟩ := yw BK_x.out; obtain ⟨hc_st_0, hc_st_1, hc_st_2, hf_st_0, hf_st_1, hf_st_2⟩ := yj HI.out.1) | ((with_reducible refine zC (N := 6) rfl ?_); refine zF ?hg (N := 6) ?hd (cs := #[.int .i64 0, .int .i64 0, .string ⟨#[]⟩, .int .i64 0, .slice none 0 0, .int .i64 0]) (t := 24) ?hr ?_; (case hd => rfl); (case hg => rfl); (case hr => first | (go_simp; done) | (go_simp; rfl)); intro g_r hg_ w2_ hbox_ hb_; have n0_ := za.mk (zH BK_x.out hb_); have n1_ := za.mk (HI.out.below hb_); have n2_ := za.mk (zi HB.out hb_); have n3_ := za.mk (HK.out.trans (zl.of_below hb_ g none) (.inl rfl)); have n4_ := za.mk ((by rw [hg_]; exact HB.out.size : w0.heap.size ≤ g_r)); have n5_ := za.mk ((by rw [hg_]; exact Nat.ne_of_lt (yq BK_x.out) : g_x ≠ g_r)); have n6_ := za.mk ((by rw [hg_]; exact HK.out.1 : w.heap.size ≤ g_r)); have n7_ := za.mk (hbox_); (try clear BK_x); (try clear HI); (try clear HB); (try clear HK); (try clear GE_r); (try clear NB_x_r); (try clear GW_r); (try clear BK_r); have BK_x := n0_; have HI := n1_; have HB := n2_; have HK := n3_; have GE_r := n4_; have NB_x_r := n5_; have GW_r := n6_; have BK_r := n7_; clear n0_ n1_ n2_ n3_ n4_ n5_ n6_ n7_; (try clear hc_x_0 hc_x_1 hc_x_2 hc_x_3 hc_x_4 hc_x_5 hf_x_0 hf_x_1 hf_x_2 hf_x_3 hf_x_4 hf_x_5); (try clear hc_st_0 hc_st_1 hc_st_2 hf_st_0 hf_st_1 hf_st_2); clear hbox_ hb_ hg_; obtain ⟨hc_x_0, hc_x_1, hc_x_2, hc_x_3, hc_x_4, hc_x_5, hf_x_0, hf_x_1, hf_x_2, hf_x_3, hf_x_4, hf_x_5⟩ := yw BK_x.out; obtain ⟨hc_r_0, hc_r_1, hc_r_2, hc_r_3, hc_r_4, hc_r_5, hf_r_0, hf_r_1, hf_r_2, hf_r_3, hf_r_4, hf_r_5⟩ := yw BK_r.out; obtain ⟨hc_st_0, hc_st_1, hc_st_2, hf_st_0, hf_st_1, hf_st_2⟩ := yj HI.out.1) | ((with_reducible refine zC (N := 9) rfl ?_); refine zF ?hg (N := 9) ?hd (cs := #[.int .i64 0, .int .i64 0, .string ⟨#[]⟩, .int .i64 0, .slice none 0 0, .int .i64 0]) (t := 24) ?hr ?_; (case hd => rfl); (case hg => rfl); (case hr => first | (go_simp; done) | (go_simp; rfl)); intro g_n hg_ w3_ hbox_ hb_; have n0_ := za.mk (zH BK_x.out hb_); have n1_ := za.mk (zH BK_r.out hb_); have n2_ := za.mk (HI.out.below hb_); have n3_ := za.mk (zi HB.out hb_); have n4_ := za.mk (HK.out.trans (zl.of_below hb_ g none) (.inl rfl)); have n5_ := za.mk ((by rw [hg_]; exact HB.out.size : w0.heap.size ≤ g_n)); have n6_ := za.mk ((by rw [hg_]; exact Nat.ne_of_lt (yq BK_x.out) : g_x ≠ g_n)); have n7_ := za.mk ((by rw [hg_]; exact Nat.ne_of_lt (yq BK_r.out) : g_r ≠ g_n)); have n8_ := za.mk ((by rw [hg_]; exact HK.out.1 : w.heap.size ≤ g_n)); have n9_ := za.mk (hbox_); (try clear BK_x); (try clear BK_r); (try clear HI); (try clear HB); (try clear HK); (try clear GE_n); (try clear NB_x_n); (try clear NB_r_n); (try clear GW_n); (try clear BK_n); have BK_x := n0_; have BK_r := n1_; have HI := n2_; have HB := n3_; have HK := n4_; have GE_n := n5_; have NB_x_n := n6_; have NB_r_n := n7_; have GW_n := n8_; have BK_n := n9_; clear n0_ n1_ n2_ n3_ n4_ n5_ n6_ n7_ n8_ n9_; (try clear hc_x_0 hc_x_1 hc_x_2 hc_x_3 hc_x_4 hc_x_5 hf_x_0 hf_x_1 hf_x_2 hf_x_3 hf_x_4 hf_x_5); (try clear hc_r_0 hc_r_1 hc_r_2 hc_r_3 hc_r_4 hc_r_5 hf_r_0 hf_r_1 hf_r_2 hf_r_3 hf_r_4 hf_r_5); (try clear hc_st_0 hc_st_1 hc_st_2 hf_st_0 hf_st_1 hf_st_2); clear hbox_ hb_ hg_; obtain ⟨hc_x_0, hc_x_1, hc_x_2, hc_x_3, hc_x_4, hc_x_5, hf_x_0, hf_x_1, hf_x_2, hf_x_3, hf_x_4, hf_x_5⟩ := yw BK_x.out; obtain ⟨hc_r_0, hc_r_1, hc_r_2, hc_r_3, hc_r_4, hc_r_5, hf_r_0, hf_r_1, hf_r_2, hf_r_3, hf_r_4, hf_r_5⟩ := yw BK_r.out; obtain ⟨hc_n_0, hc_n_1, hc_n_2, hc_n_3, hc_n_4, hc_n_5, hf_n_0, hf_n_1, hf_n_2, hf_n_3, hf_n_4, hf_n_5⟩ := yw BK_n.out; obtain ⟨hc_st_0, hc_st_1, hc_st_2, hf_st_0, hf_st_1, hf_st_2⟩ := yj HI.out.1) | (go_at_call 42; (with_reducible refine (yL.calls k a0 a1 a2 a3 A c l a5 true _ ?side1 HL.out HX.out).mono ?_); (case side1 => exact HC.out _ HK.out); rintro e_ w4_ ⟨rfl, hb_⟩; have n0_ := za.mk (zH BK_x.out hb_); have n1_ := za.mk (zH BK_r.out hb_); have n2_ := za.mk (zH BK_n.out hb_); have n3_ := za.mk (HI.out.below hb_); have n4_ := za.mk (zi HB.out hb_); have n5_ := za.mk (HK.out.trans (zl.of_below hb_ g none) (.inl rfl)); (try clear BK_x); (try clear BK_r); (try clear BK_n); (try clear HI); (try clear HB); (try clear HK); have BK_x := n0_; have BK_r := n1_; have BK_n := n2_; have HI := n3_; have HB := n4_; have HK := n5_; clear n0_ n1_ n2_ n3_ n4_ n5_; (try clear hc_x_0 hc_x_1 hc_x_2 hc_x_3 hc_x_4 hc_x_5 hf_x_0 hf_x_1 hf_x_2 hf_x_3 hf_x_4 hf_x_5); (try clear hc_r_0 hc_r_1 hc_r_2 hc_r_3 hc_r_4 hc_r_5 hf_r_0 hf_r_1 hf_r_2 hf_r_3 hf_r_4 hf_r_5); (try clear hc_n_0 hc_n_1 hc_n_2 hc_n_3 hc_n_4 hc_n_5 hf_n_0 hf_n_1 hf_n_2 hf_n_3 hf_n_4 hf_n_5); (try clear hc_st_0 hc_st_1 hc_st_2 hf_st_0 hf_st_1 hf_st_2); (try clear hb_); obtain ⟨hc_x_0, hc_x_1, hc_x_2, hc_x_3, hc_x_4, hc_x_5, hf_x_0, hf_x_1, hf_x_2, hf_x_3, hf_x_4, hf_x_5⟩ := yw BK_x.out; obtain ⟨hc_r_0, hc_r_1, hc_r_2, hc_r_3, hc_r_4, hc_r_5, hf_r_0, hf_r_1, hf_r_2, hf_r_3, hf_r_4, hf_r_5⟩ := yw BK_r.out; obtain ⟨hc_n_0, hc_n_1, hc_n_2, hc_n_3, hc_n_4, hc_n_5, hf_n_0, hf_n_1, hf_n_2, hf_n_3, hf_n_4, hf_n_5⟩ := yw BK_n.out; obtain ⟨hc_st_0, hc_st_1, hc_st_2, hf_st_0, hf_st_1, hf_st_2⟩ := yj HI.out.1))
 have hne1_ : ¬ g = g_r := HI.out.ne_blk BK_r.out (by decide)
 have hne2_ : ¬ g_r = g := fun h_ => hne1_ h_.symm
 have HNE_r : za (g ≠ g_r) := ⟨hne1_⟩
 go_region
 all_goals (try go_wp2)
 all_goals refine bodyPost_ret (v := .tuple #[.agg #[.int .i64 a0, .int .i64 a1, .string a2, .int .i64 a3, .slice A l.length c, .int .i64 a5], .int .i64 s0_1, .int .i64 0]) ?_ rfl ?_
 any_goals (refine xf (rs := [.cell 6 24, .tmp 7, .tmp 8]) (vs := [.agg #[.int .i64 a0, .int .i64 a1, .string a2, .int .i64 a3, .slice A l.length c, .int .i64 a5], .int .i64 s0_1, .int .i64 0]) rfl (by simp) ?_; refine .cell g_r 24 #[.int .i64 a0, .int .i64 a1, .string a2, .int .i64 a3, .slice A l.length c, .int .i64 a5] (0, 0) _ rfl ?_ Try.underlying24 rfl (by kernel_rfl) (.tmp (.tmp .nil)); exact (by (with_reducible repeat (first | refine zt ?_ _ | refine zu ?_ | refine zr ?_ _)); refine zJ (cs := #[.int .i64 a0, .int .i64 a1, .string a2, .int .i64 a3, .slice A l.length c, .int .i64 0]) ?_ 5 _ rfl; (with_reducible repeat (first | refine zt ?_ _ | refine zu ?_ | refine zr ?_ _)); refine zJ (cs := #[.int .i64 a0, .int .i64 a1, .string a2, .int .i64 a3, .slice none 0 0, .int .i64 0]) ?_ 4 _ rfl; (with_reducible repeat (first | refine zt ?_ _ | refine zu ?_ | refine zr ?_ _)); refine zJ (cs := #[.int .i64 a0, .int .i64 a1, .string a2, .int .i64 0, .slice none 0 0, .int .i64 0]) ?_ 3 _ rfl; (with_reducible repeat (first | refine zt ?_ _ | refine zu ?_ | refine zr ?_ _)); refine zJ (cs := #[.int .i64 a0, .int .i64 a1, .string ⟨#[]⟩, .int .i64 0, .slice none 0 0, .int .i64 0]) ?_ 2 _ rfl; (with_reducible repeat (first | refine zt ?_ _ | refine zu ?_ | refine zr ?_ _)); refine zJ (cs := #[.int .i64 a0, .int .i64 0, .string ⟨#[]⟩, .int .i64 0, .slice none 0 0, .int .i64 0]) ?_ 1 _ rfl; (with_reducible repeat (first | refine zt ?_ _ | refine zu ?_ | refine zr ?_ _)); refine zJ (cs := #[.int .i64 0, .int .i64 0, .string ⟨#[]⟩, .int .i64 0, .slice none 0 0, .int .i64 0]) ?_ 0 _ rfl; (with_reducible repeat (first | refine zt ?_ _ | refine zu ?_ | refine zr ?_ _)); exact BK_r.out))
 all_goals exact ⟨rfl, (by repeat (with_reducible first | exact HI.out | apply zf.drewN | apply zf.drew | refine zf.far ?_ HNE_r.out _)), (by repeat (with_reducible first | exact HB.out | apply zb | apply zd | refine zh ?_ GE_r.out)), (by repeat (with_reducible first | exact HK.out | apply zI | apply zO | refine xe ?_ GW_r.out _))⟩
theorem YW (k g : Nat) (s0_0 : ByteArray) (s0_1 : Int) (a0 : Int) (a1 : Int) (a2 : ByteArray) (a3 : Int) (A : Option Addr) (c : Nat) (l : List Int) (a5 : Int) (w0 w : World) (hI : zf w0 w g s0_0 s0_1 0) (hB : Below w0.heap.size w0 w) (hC : ∀ W_, zl w W_ g none → Kd.C (Kd.int .i64) W_ A l.length l) (hl : l.length ≤ c) (h : yL.f k a0 a1 a2 a3 l a5 = some false) :
  Calls Try.prog 69 #[.pointer (some ⟨g, 0, none⟩), .agg #[.int .i64 a0, .int .i64 a1, .string a2, .int .i64 a3, .slice A l.length c, .int .i64 a5], .func (Fn.func 42) #[] #[]] w fun e w' => e = .returned (.tuple #[.agg #[.int .i64 0, .int .i64 0, .string ⟨#[]⟩, .int .i64 0, .slice none 0 0, .int .i64 0], .int .i64 0, .int .i64 6]) ∧ zf w0 w' g s0_0 s0_1 6 ∧ Below w0.heap.size w0 w' ∧ zl w w' g none := by
 have HI := za.mk hI
 have HB := za.mk hB
 have HC := za.mk hC
 have HL := za.mk hl
 have HK := za.mk (zl.refl w g none)
 clear hI hB hC hl
 have HX := za.mk h
 clear h
 obtain ⟨hc_st_0, hc_st_1, hc_st_2, hf_st_0, hf_st_1, hf_st_2⟩ := yj HI.out.1
 go_enter Try.func69, Try.ntmps69
 go_wp2_with (first | ((with_reducible refine zC (N := 4) rfl ?_); refine zF ?hg (N := 4) ?hd (cs := #[.int .i64 a0, .int .i64 a1, .string a2, .int .i64 a3, .slice A l.length c, .int .i64 a5]) (t := 24) ?hr ?_; (case hd => rfl); (case hg => rfl); (case hr => first | (go_simp; done) | (go_simp; rfl)); intro g_x hg_ w1_ hbox_ hb_; have n0_ := za.mk (HI.out.below hb_); have n1_ := za.mk (zi HB.out hb_); have n2_ := za.mk (HK.out.trans (zl.of_below hb_ g none) (.inl rfl)); have n3_ := za.mk ((by rw [hg_]; exact HB.out.size : w0.heap.size ≤ g_x)); have n4_ := za.mk ((by rw [hg_]; exact HK.out.1 : w.heap.size ≤ g_x)); have n5_ := za.mk (hbox_); (try clear HI); (try clear HB); (try clear HK); (try clear GE_x); (try clear GW_x); (try clear BK_x); have HI := n0_; have HB := n1_; have HK := n2_; have GE_x := n3_; have GW_x := n4_; have BK_x := n5_; clear n0_ n1_ n2_ n3_ n4_ n5_; (try clear hc_st_0 hc_st_1 hc_st_2 hf_st_0 hf_st_1 hf_st_2); clear hbox_ hb_ hg_; obtain ⟨hc_x_0, hc_x_1, hc_x_2, hc_x_3, hc_x_4, hc_x_5, hf_x_0, hf_x_1, hf_x_2, hf_x_3, hf_x_4, hf_x_5⟩ := yw BK_x.out; obtain ⟨hc_st_0, hc_st_1, hc_st_2, hf_st_0, hf_st_1, hf_st_2⟩ := yj HI.out.1) | ((with_reducible refine zC (N := 6) rfl ?_); refine zF ?hg (N := 6) ?hd (cs := #[.int .i64 0, .int .i64 0, .string ⟨#[]⟩, .int .i64 0, .slice none 0 0, .int .i64 0]) (t := 24) ?hr ?_; (case hd => rfl); (case hg => rfl); (case hr => first | (go_simp; done) | (go_simp; rfl)); intro g_r hg_ w2_ hbox_ hb_; have n0_ := za.mk (zH BK_x.out hb_); have n1_ := za.mk (HI.out.below hb_); have n2_ := za.mk (zi HB.out hb_); have n3_ := za.mk (HK.out.trans (zl.of_below hb_ g none) (.inl rfl)); have n4_ := za.mk ((by rw [hg_]; exact HB.out.size : w0.heap.size ≤ g_r)); have n5_ := za.mk ((by rw [hg_]; exact Nat.ne_of_lt (yq BK_x.out) : g_x ≠ g_r)); have n6_ := za.mk ((by rw [hg_]; exact HK.out.1 : w.heap.size ≤ g_r)); have n7_ := za.mk (hbox_); (try clear BK_x); (try clear HI); (try clear HB); (try clear HK); (try clear GE_r); (try clear NB_x_r); (try clear GW_r); (try clear BK_r); have BK_x := n0_; have HI := n1_; have HB := n2_; have HK := n3_; have GE_r := n4_; have NB_x_r := n5_; have GW_r := n6_; have BK_r := n7_; clear n0_ n1_ n2_ n3_ n4_ n5_ n6_ n7_; (try clear hc_x_0 hc_x_1 hc_x_2 hc_x_3 hc_x_4 hc_x_5 hf_x_0 hf_x_1 hf_x_2 hf_x_3 hf_x_4 hf_x_5); (try clear hc_st_0 hc_st_1 hc_st_2 hf_st_0 hf_st_1 hf_st_2); clear hbox_ hb_ hg_; obtain ⟨hc_x_0, hc_x_1, hc_x_2, hc_x_3, hc_x_4, hc_x_5, hf_x_0, hf_x_1, hf_x_2, hf_x_3, hf_x_4, hf_x_5⟩ := yw BK_x.out; obtain ⟨hc_r_0, hc_r_1, hc_r_2, hc_r_3, hc_r_4, hc_r_5, hf_r_0, hf_r_1, hf_r_2, hf_r_3, hf_r_4, hf_r_5⟩ := yw BK_r.out; obtain ⟨hc_st_0, hc_st_1, hc_st_2, hf_st_0, hf_st_1, hf_st_2⟩ := yj HI.out.1) | ((with_reducible refine zC (N := 9) rfl ?_); refine zF ?hg (N := 9) ?hd (cs := #[.int .i64 0, .int .i64 0, .string ⟨#[]⟩, .int .i64 0, .slice none 0 0, .int .i64 0]) (t := 24) ?hr ?_; (case hd => rfl); (case hg => rfl); (case hr => first | (go_simp; done) | (go_simp; rfl)); intro g_n hg_ w3_ hbox_ hb_; have n0_ := za.mk (zH BK_x.out hb_); have n1_ := za.mk (zH BK_r.out hb_); have n2_ := za.mk (HI.out.below hb_); have n3_ := za.mk (zi HB.out hb_); have n4_ := za.mk (HK.out.trans (zl.of_below hb_ g none) (.inl rfl)); have n5_ := za.mk ((by rw [hg_]; exact HB.out.size : w0.heap.size ≤ g_n)); have n6_ := za.mk ((by rw [hg_]; exact Nat.ne_of_lt (yq BK_x.out) : g_x ≠ g_n)); have n7_ := za.mk ((by rw [hg_]; exact Nat.ne_of_lt (yq BK_r.out) : g_r ≠ g_n)); have n8_ := za.mk ((by rw [hg_]; exact HK.out.1 : w.heap.size ≤ g_n)); have n9_ := za.mk (hbox_); (try clear BK_x); (try clear BK_r); (try clear HI); (try clear HB); (try clear HK); (try clear GE_n); (try clear NB_x_n); (try clear NB_r_n); (try clear GW_n); (try clear BK_n); have BK_x := n0_; have BK_r := n1_; have HI := n2_; have HB := n3_; have HK := n4_; have GE_n := n5_; have NB_x_n := n6_; have NB_r_n := n7_; have GW_n := n8_; have BK_n := n9_; clear n0_ n1_ n2_ n3_ n4_ n5_ n6_ n7_ n8_ n9_; (try clear hc_x_0 hc_x_1 hc_x_2 hc_x_3 hc_x_4 hc_x_5 hf_x_0 hf_x_1 hf_x_2 hf_x_3 hf_x_4 hf_x_5); (try clear hc_r_0 hc_r_1 hc_r_2 hc_r_3 hc_r_4 hc_r_5 hf_r_0 hf_r_1 hf_r_2 hf_r_3 hf_r_4 hf_r_5); (try clear hc_st_0 hc_st_1 hc_st_2 hf_st_0 hf_st_1 hf_st_2); clear hbox_ hb_ hg_; obtain ⟨hc_x_0, hc_x_1, hc_x_2, hc_x_3, hc_x_4, hc_x_5, hf_x_0, hf_x_1, hf_x_2, hf_x_3, hf_x_4, hf_x_5⟩ := yw BK_x.out; obtain ⟨hc_r_0, hc_r_1, hc_r_2, hc_r_3, hc_r_4, hc_r_5, hf_r_0, hf_r_1, hf_r_2, hf_r_3, hf_r_4, hf_r_5⟩ := yw BK_r.out; obtain ⟨hc_n_0, hc_n_1, hc_n_2, hc_n_3, hc_n_4, hc_n_5, hf_n_0, hf_n_1, hf_n_2, hf_n_3, hf_n_4, hf_n_5⟩ := yw BK_n.out; obtain ⟨hc_st_0, hc_st_1, hc_st_2, hf_st_0, hf_st_1, hf_st_2⟩ := yj HI.out.1) | (go_at_call 42; (with_reducible refine (yL.calls k a0 a1 a2 a3 A c l a5 false _ ?side1 HL.out HX.out).mono ?_); (case side1 => exact HC.out _ HK.out); rintro e_ w4_ ⟨rfl, hb_⟩; have n0_ := za.mk (zH BK_x.out hb_); have n1_ := za.mk (zH BK_r.out hb_); have n2_ := za.mk (zH BK_n.out hb_); have n3_ := za.mk (HI.out.below hb_); have n4_ := za.mk (zi HB.out hb_); have n5_ := za.mk (HK.out.trans (zl.of_below hb_ g none) (.inl rfl)); (try clear BK_x); (try clear BK_r); (try clear BK_n); (try clear HI); (try clear HB); (try clear HK); have BK_x := n0_; have BK_r := n1_; have BK_n := n2_; have HI := n3_; have HB := n4_; have HK := n5_; clear n0_ n1_ n2_ n3_ n4_ n5_; (try clear hc_x_0 hc_x_1 hc_x_2 hc_x_3 hc_x_4 hc_x_5 hf_x_0 hf_x_1 hf_x_2 hf_x_3 hf_x_4 hf_x_5); (try clear hc_r_0 hc_r_1 hc_r_2 hc_r_3 hc_r_4 hc_r_5 hf_r_0 hf_r_1 hf_r_2 hf_r_3 hf_r_4 hf_r_5); (try clear hc_n_0 hc_n_1 hc_n_2 hc_n_3 hc_n_4 hc_n_5 hf_n_0 hf_n_1 hf_n_2 hf_n_3 hf_n_4 hf_n_5); (try clear hc_st_0 hc_st_1 hc_st_2 hf_st_0 hf_st_1 hf_st_2); (try clear hb_); obtain ⟨hc_x_0, hc_x_1, hc_x_2, hc_x_3, hc_x_4, hc_x_5, hf_x_0, hf_x_1, hf_x_2, hf_x_3, hf_x_4, hf_x_5⟩ := yw BK_x.out; obtain ⟨hc_r_0, hc_r_1, hc_r_2, hc_r_3, hc_r_4, hc_r_5, hf_r_0, hf_r_1, hf_r_2, hf_r_3, hf_r_4, hf_r_5⟩ := yw BK_r.out; obtain ⟨hc_n_0, hc_n_1, hc_n_2, hc_n_3, hc_n_4, hc_n_5, hf_n_0, hf_n_1, hf_n_2, hf_n_3, hf_n_4, hf_n_5⟩ := yw BK_n.out; obtain ⟨hc_st_0, hc_st_1, hc_st_2, hf_st_0, hf_st_1, hf_st_2⟩ := yj HI.out.1) | ((with_reducible refine yQ (t := 28) (p := 23) rfl ?_); refine yJ (t := 28) (p := 23) (v := ?vo_w5_) (w1 := (w4_.setCell ⟨g, 2, none⟩ (.int .i64 6))) ?hg ?ho ?hn ?hr ?_; (case ho => rfl); (case hg => rfl); (case hn => rfl); (case hr => first | (go_simp; done) | (go_simp; rfl)); intro w5_ hw_; have n0_ : za (zf w0 w5_ g s0_0 s0_1 6) := ⟨(by rw [hw_]; exact (HI.out.set_2 6))⟩; have n1_ : za (Below w0.heap.size w0 w5_) := ⟨(by rw [hw_]; exact (zh (g := g) (j := 2) HB.out (HI.out.ge)))⟩; have n2_ : za (w5_.heap[g_x]? = some (.cells #[.int .i64 a0, .int .i64 a1, .string a2, .int .i64 a3, .slice A l.length c, .int .i64 a5] 24 (0, 0))) := ⟨(by rw [hw_]; exact (zU (p := ⟨g, 2, none⟩) BK_x.out (Ne.symm (HI.out.ne_blk BK_x.out (by decide))) _))⟩; have n3_ : za (w5_.heap[g_r]? = some (.cells #[.int .i64 0, .int .i64 0, .string ⟨#[]⟩, .int .i64 0, .slice none 0 0, .int .i64 0] 24 (0, 0))) := ⟨(by rw [hw_]; exact (zU (p := ⟨g, 2, none⟩) BK_r.out (Ne.symm (HI.out.ne_blk BK_r.out (by decide))) _))⟩; have n4_ : za (w5_.heap[g_n]? = some (.cells #[.int .i64 0, .int .i64 0, .string ⟨#[]⟩, .int .i64 0, .slice none 0 0, .int .i64 0] 24 (0, 0))) := ⟨(by rw [hw_]; exact (zU (p := ⟨g, 2, none⟩) BK_n.out (Ne.symm (HI.out.ne_blk BK_n.out (by decide))) _))⟩; have n5_ : za (zl w w5_ g none) := ⟨(by rw [hw_]; exact (HK.out.set_ 2 _))⟩; (try clear HI); (try clear HB); (try clear BK_x); (try clear BK_r); (try clear BK_n); (try clear HK); have HI := n0_; have HB := n1_; have BK_x := n2_; have BK_r := n3_; have BK_n := n4_; have HK := n5_; clear n0_ n1_ n2_ n3_ n4_ n5_; (try clear hc_x_0 hc_x_1 hc_x_2 hc_x_3 hc_x_4 hc_x_5 hf_x_0 hf_x_1 hf_x_2 hf_x_3 hf_x_4 hf_x_5); (try clear hc_r_0 hc_r_1 hc_r_2 hc_r_3 hc_r_4 hc_r_5 hf_r_0 hf_r_1 hf_r_2 hf_r_3 hf_r_4 hf_r_5); (try clear hc_n_0 hc_n_1 hc_n_2 hc_n_3 hc_n_4 hc_n_5 hf_n_0 hf_n_1 hf_n_2 hf_n_3 hf_n_4 hf_n_5); (try clear hc_st_0 hc_st_1 hc_st_2 hf_st_0 hf_st_1 hf_st_2); clear hw_; obtain ⟨hc_x_0, hc_x_1, hc_x_2, hc_x_3, hc_x_4, hc_x_5, hf_x_0, hf_x_1, hf_x_2, hf_x_3, hf_x_4, hf_x_5⟩ := yw BK_x.out; obtain ⟨hc_r_0, hc_r_1, hc_r_2, hc_r_3, hc_r_4, hc_r_5, hf_r_0, hf_r_1, hf_r_2, hf_r_3, hf_r_4, hf_r_5⟩ := yw BK_r.out; obtain ⟨hc_n_0, hc_n_1, hc_n_2, hc_n_3, hc_n_4, hc_n_5, hf_n_0, hf_n_1, hf_n_2, hf_n_3, hf_n_4, hf_n_5⟩ := yw BK_n.out; obtain ⟨hc_st_0, hc_st_1, hc_st_2, hf_st_0, hf_st_1, hf_st_2⟩ := yj HI.out.1))
 have hne1_ : ¬ g = g_r := HI.out.ne_blk BK_r.out (by decide)
 have hne2_ : ¬ g_r = g := fun h_ => hne1_ h_.symm
 have HNE_r : za (g ≠ g_r) := ⟨hne1_⟩
 go_region
 all_goals (try go_wp2)
 all_goals refine bodyPost_ret (v := .tuple #[.agg #[.int .i64 0, .int .i64 0, .string ⟨#[]⟩, .int .i64 0, .slice none 0 0, .int .i64 0], .int .i64 0, .int .i64 6]) ?_ rfl ?_
 any_goals (refine xf (rs := [.cell 6 24, .tmp 7, .tmp 8]) (vs := [.agg #[.int .i64 0, .int .i64 0, .string ⟨#[]⟩, .int .i64 0, .slice none 0 0, .int .i64 0], .int .i64 0, .int .i64 6]) rfl (by simp) ?_; refine .cell g_r 24 #[.int .i64 0, .int .i64 0, .string ⟨#[]⟩, .int .i64 0, .slice none 0 0, .int .i64 0] (0, 0) _ rfl ?_ Try.underlying24 rfl (by kernel_rfl) (.tmp (.tmp .nil)); exact (by (with_reducible repeat (first | refine zt ?_ _ | refine zu ?_ | refine zr ?_ _)); refine zJ (cs := #[.int .i64 0, .int .i64 0, .string ⟨#[]⟩, .int .i64 0, .slice none 0 0, .int .i64 0]) ?_ 5 _ rfl; (with_reducible repeat (first | refine zt ?_ _ | refine zu ?_ | refine zr ?_ _)); refine zJ (cs := #[.int .i64 0, .int .i64 0, .string ⟨#[]⟩, .int .i64 0, .slice none 0 0, .int .i64 0]) ?_ 4 _ rfl; (with_reducible repeat (first | refine zt ?_ _ | refine zu ?_ | refine zr ?_ _)); refine zJ (cs := #[.int .i64 0, .int .i64 0, .string ⟨#[]⟩, .int .i64 0, .slice none 0 0, .int .i64 0]) ?_ 3 _ rfl; (with_reducible repeat (first | refine zt ?_ _ | refine zu ?_ | refine zr ?_ _)); refine zJ (cs := #[.int .i64 0, .int .i64 0, .string ⟨#[]⟩, .int .i64 0, .slice none 0 0, .int .i64 0]) ?_ 2 _ rfl; (with_reducible repeat (first | refine zt ?_ _ | refine zu ?_ | refine zr ?_ _)); refine zJ (cs := #[.int .i64 0, .int .i64 0, .string ⟨#[]⟩, .int .i64 0, .slice none 0 0, .int .i64 0]) ?_ 1 _ rfl; (with_reducible repeat (first | refine zt ?_ _ | refine zu ?_ | refine zr ?_ _)); refine zJ (cs := #[.int .i64 0, .int .i64 0, .string ⟨#[]⟩, .int .i64 0, .slice none 0 0, .int .i64 0]) ?_ 0 _ rfl; (with_reducible repeat (first | refine zt ?_ _ | refine zu ?_ | refine zr ?_ _)); exact BK_r.out))
 all_goals exact ⟨rfl, (by repeat (with_reducible first | exact HI.out | apply zf.drewN | apply zf.drew | refine zf.far ?_ HNE_r.out _)), (by repeat (with_reducible first | exact HB.out | apply zb | apply zd | refine zh ?_ GE_r.out)), (by repeat (with_reducible first | exact HK.out | apply zI | apply zO | refine xe ?_ GW_r.out _))⟩
def yE.f (k : Nat) (a0 : ByteArray) (a1 : Int) (a2 : Int) : Option (Int × Int × Int) := (zk.f k a0 a1).bind fun bt222 => (if bt222.2.2 = 0 then (if bt222.1 < 0 then (some (0, 0, 6)) else (if bt222.1 > a2 then (some (0, 0, 4)) else (some (bt222.1, bt222.2.1, 0)))) else (some (0, 0, bt222.2.2)))
theorem yE.mono : ∀ a0 a1 a2 k, LeO (yE.f k a0 a1 a2) (yE.f (k + 1) a0 a1 a2) := by
 intro a0 a1 a2 k
 unfold yE.f
 repeat' first
   | (with_reducible exact zk.mono _ _ _)
   | (with_reducible exact LeO.refl _)
   | (with_reducible exact LeO.none _)
   | (with_reducible refine LeO.ite ?_ ?_)
   | (with_reducible refine LeO.bind ?_ (fun _ => ?_))
   | exact zk.mono _ _ _
   | exact LeO.none _
   | refine LeO.ite ?_ ?_
   | refine LeO.bind ?_ (fun _ => ?_)
theorem yE.calls (k : Nat) (a0 : ByteArray) (a1 : Int) (a2 : Int) (r1 : Int) (r2 : Int) (r3 : Int) (w : World) (h : yE.f k a0 a1 a2 = some (r1, r2, r3)) :
  Calls Try.prog 112 #[.string a0, .int .i64 a1, .int .i64 a2] w fun e w' => e = .returned (.tuple #[.int .i64 r1, .int .i64 r2, .int .i64 r3]) ∧ zG w w' := by
 have H : ((zk.f k a0 a1).bind fun bt222 => (if bt222.2.2 = 0 then (if bt222.1 < 0 then (some (0, 0, 6)) else (if bt222.1 > a2 then (some (0, 0, 4)) else (some (bt222.1, bt222.2.1, 0)))) else (some (0, 0, bt222.2.2)))) = some (r1, r2, r3) := h
 clear h
 replace H := Vx.mp H
 obtain ⟨⟨t222, t223, t224⟩, A40, H⟩ := H
 replace H : (if t224 = 0 then (if t222 < 0 then (some (0, 0, 6)) else (if t222 > a2 then (some (0, 0, 4)) else (some (t222, t223, 0)))) else (some (0, 0, t224))) = some (r1, r2, r3) := H
 have A4 := za.mk A40
 clear A40
 by_cases c5 : t224 = 0
 ·rw [if_pos c5] at H
  have c5b0 : (t224 == 0) = true := beq_iff_eq.mpr c5
  have c5b1 : (t224 != 0) = false := bne_eq_false_iff_eq.mpr c5
  clear c5
  by_cases c6 : t222 < 0
  ·rw [if_pos c6] at H
   have c6b0 : decide (t222 < 0) = true := decide_eq_true c6
   clear c6
   simp only [Option.some.injEq, Prod.mk.injEq] at H
   obtain ⟨rfl, rfl, rfl⟩ := H
   go_enter Try.func112, Try.ntmps112
   go_wp2_with (first | ((with_reducible refine zL (f := 102) rfl ?_); refine z8 (some 15) rfl rfl Try.func102 (by kernel_rfl) rfl #[.string a0, .int .i64 a1] rfl (by (try simp only [Vw, List.map_cons, List.map_nil]); first | done | rfl | (simp only [List.length_drop, List.length_take]; rfl)) ?_; (with_reducible refine (zk.calls k a0 a1 t222 t223 t224 _ A4.out).mono ?_); rintro e w' ⟨rfl, ⟨nd, rfl⟩⟩; refine ⟨_, rfl, ?_⟩))
   go_ret3
   exact ⟨by first | rfl | (simp; done) | (simp [*]; done), by repeat (first | exact zG.refl _ | apply zG.step)⟩
  ·rw [if_neg c6] at H
   have c6b0 : decide (t222 < 0) = false := decide_eq_false c6
   clear c6
   by_cases c7 : t222 > a2
   ·rw [if_pos c7] at H
    have c7b0 : decide (a2 < t222) = true := decide_eq_true c7
    clear c7
    simp only [Option.some.injEq, Prod.mk.injEq] at H
    obtain ⟨rfl, rfl, rfl⟩ := H
    go_enter Try.func112, Try.ntmps112
    go_wp2_with (first | ((with_reducible refine zL (f := 102) rfl ?_); refine z8 (some 15) rfl rfl Try.func102 (by kernel_rfl) rfl #[.string a0, .int .i64 a1] rfl (by (try simp only [Vw, List.map_cons, List.map_nil]); first | done | rfl | (simp only [List.length_drop, List.length_take]; rfl)) ?_; (with_reducible refine (zk.calls k a0 a1 t222 t223 t224 _ A4.out).mono ?_); rintro e w' ⟨rfl, ⟨nd, rfl⟩⟩; refine ⟨_, rfl, ?_⟩))
    go_ret3
    exact ⟨by first | rfl | (simp; done) | (simp [*]; done), by repeat (first | exact zG.refl _ | apply zG.step)⟩
   ·rw [if_neg c7] at H
    have c7b0 : decide (a2 < t222) = false := decide_eq_false c7
    clear c7
    simp only [Option.some.injEq, Prod.mk.injEq] at H
    obtain ⟨rfl, rfl, rfl⟩ := H
    go_enter Try.func112, Try.ntmps112
    go_wp2_with (first | ((with_reducible refine zL (f := 102) rfl ?_); refine z8 (some 15) rfl rfl Try.func102 (by kernel_rfl) rfl #[.string a0, .int .i64 a1] rfl (by (try simp only [Vw, List.map_cons, List.map_nil]); first | done | rfl | (simp only [List.length_drop, List.length_take]; rfl)) ?_; (with_reducible refine (zk.calls k a0 a1 t222 t223 t224 _ A4.out).mono ?_); rintro e w' ⟨rfl, ⟨nd, rfl⟩⟩; refine ⟨_, rfl, ?_⟩))
    go_ret3
    exact ⟨by first | rfl | (simp; done) | (simp [*]; done), by repeat (first | exact zG.refl _ | apply zG.step)⟩
 ·rw [if_neg c5] at H
  have c5b0 : (t224 == 0) = false := beq_eq_false_iff_ne.mpr c5
  have c5b1 : (t224 != 0) = true := bne_iff_ne.mpr c5
  simp only [Option.some.injEq, Prod.mk.injEq] at H
  obtain ⟨rfl, rfl, rfl⟩ := H
  go_enter Try.func112, Try.ntmps112
  go_wp2_with (first | ((with_reducible refine zL (f := 102) rfl ?_); refine z8 (some 15) rfl rfl Try.func102 (by kernel_rfl) rfl #[.string a0, .int .i64 a1] rfl (by (try simp only [Vw, List.map_cons, List.map_nil]); first | done | rfl | (simp only [List.length_drop, List.length_take]; rfl)) ?_; (with_reducible refine (zk.calls k a0 a1 t222 t223 t224 _ A4.out).mono ?_); rintro e w' ⟨rfl, ⟨nd, rfl⟩⟩; refine ⟨_, rfl, ?_⟩))
  go_ret3
  exact ⟨by first | rfl | (simp; done) | (simp [*]; done), by repeat (first | exact zG.refl _ | apply zG.step)⟩
def zA.l0 : Nat → ByteArray → Int → List Int → Int → Int → Option (List Int × Int × Int)
 | 0, _, _, _, _, _ => none
 | k + 1, x0, x10, x12, x26, x27 => if x27 < x26 then ((zk.f k x0 x10).bind fun bt234 => (if bt234.2.2 = 0 then (if x12.length < 17592186044416 then (zA.l0 k x0 bt234.2.1 (x12 ++ [bt234.1]) x26 (wrap64 (x27 + 1))) else (none)) else (some (([] : List Int), 0, bt234.2.2)))) else (some (x12, x10, 0))
def zA.f (k : Nat) (a0 : ByteArray) (a1 : Int)  : Option (List Int × Int × Int) := (yE.f k a0 a1 256).bind fun bt231 => (if bt231.2.2 = 0 then (zA.l0 k a0 bt231.2.1 ([] : List Int) bt231.1 0) else (some (([] : List Int), 0, bt231.2.2)))
theorem zA.mono_l : ∀ k, (∀ y0 y1 y2 y3 y4, LeO (zA.l0 k y0 y1 y2 y3 y4) (zA.l0 (k + 1) y0 y1 y2 y3 y4))
 | 0 => fun _ _ _ _ _ r h => by simp [zA.l0] at h
 | k + 1 => by
  have ih0 := zA.mono_l k
  ·intro y0 y1 y2 y3 y4
   unfold zA.l0
   repeat' first
   | (with_reducible exact ih0 _ _ _ _ _)
   | (with_reducible exact zk.mono _ _ _)
   | (with_reducible exact yE.mono _ _ _ _)
   | (with_reducible exact LeO.refl _)
   | (with_reducible exact LeO.none _)
   | (with_reducible refine LeO.ite ?_ ?_)
   | (with_reducible refine LeO.bind ?_ (fun _ => ?_))
   | exact ih0 _ _ _ _ _
   | exact zk.mono _ _ _
   | exact yE.mono _ _ _ _
   | exact LeO.none _
   | refine LeO.ite ?_ ?_
   | refine LeO.bind ?_ (fun _ => ?_)
theorem zA.mono : ∀ a0 a1 k, LeO (zA.f k a0 a1) (zA.f (k + 1) a0 a1) := by
 intro a0 a1 k
 have ih0 := zA.mono_l k
 unfold zA.f
 repeat' first
   | (with_reducible exact ih0 _ _ _ _ _)
   | (with_reducible exact zk.mono _ _ _)
   | (with_reducible exact yE.mono _ _ _ _)
   | (with_reducible exact LeO.refl _)
   | (with_reducible exact LeO.none _)
   | (with_reducible refine LeO.ite ?_ ?_)
   | (with_reducible refine LeO.bind ?_ (fun _ => ?_))
   | exact ih0 _ _ _ _ _
   | exact zk.mono _ _ _
   | exact yE.mono _ _ _ _
   | exact LeO.none _
   | refine LeO.ite ?_ ?_
   | refine LeO.bind ?_ (fun _ => ?_)
theorem zA.calls (k : Nat) (a0 : ByteArray) (a1 : Int)  (r1 : List Int) (r2 : Int) (r3 : Int) (w : World) (h : zA.f k a0 a1 = some (r1, r2, r3)) :
  Calls Try.prog 113 #[.string a0, .int .i64 a1, .func (Fn.func 102) #[] #[]] w fun e w' => ∃ v0_ : Value, e = .returned (.tuple #[v0_, .int .i64 r2, .int .i64 r3]) ∧ Kd.R (Kd.int .i64) 3 w' w.heap.size (fun _ => True) v0_ r1 ∧ Below w.heap.size w w' := by
 have HB := za.mk (Below.refl w.heap.size w)
 have H : ((yE.f k a0 a1 256).bind fun bt231 => (if bt231.2.2 = 0 then (zA.l0 k a0 bt231.2.1 ([] : List Int) bt231.1 0) else (some (([] : List Int), 0, bt231.2.2)))) = some (r1, r2, r3) := h
 clear h
 replace H := Vx.mp H
 obtain ⟨⟨t231, t232, t233⟩, A40, H⟩ := H
 replace H : (if t233 = 0 then (zA.l0 k a0 t232 ([] : List Int) t231 0) else (some (([] : List Int), 0, t233))) = some (r1, r2, r3) := H
 have A4 := za.mk A40
 clear A40
 by_cases c5 : t233 = 0
 ·rw [if_pos c5] at H
  have c5b0 : (t233 == 0) = true := beq_iff_eq.mpr c5
  have c5b1 : (t233 != 0) = false := bne_eq_false_iff_eq.mpr c5
  clear c5
  have H' := za.mk H
  clear H
  go_enter Try.func113, Try.ntmps113
  go_wp2_with (first | ((with_reducible refine zL (f := 112) rfl ?_); refine z8 (some 19) rfl rfl Try.func112 (by kernel_rfl) rfl #[.string a0, .int .i64 a1, .int .i64 256] rfl (by (try simp only [Vw, List.map_cons, List.map_nil]); first | done | rfl | (simp only [List.length_drop, List.length_take]; rfl)) ?_; (with_reducible refine (yE.calls k a0 a1 256 t231 t232 t233 _ A4.out).mono ?_); rintro e w' ⟨rfl, ⟨nd, rfl⟩⟩; refine ⟨_, rfl, ?_⟩))
  go_loopg [10, 12, 27] k (fun kq v10 v12 v27 w' => ∃ (x10_1 : Int) (x12_1 : List Int) (x27_1 : Int), v10 = .int .i64 x10_1 ∧ v27 = .int .i64 x27_1 ∧ za (zA.l0 kq a0 x10_1 x12_1 t231 x27_1 = some (r1, r2, r3)) ∧ za (kq ≤ k) ∧ za (Kd.R (Kd.int .i64) 3 w' w.heap.size (fun _ => True) v12 x12_1) ∧ za (Below w.heap.size w w'))
  case atStart => exact ⟨(t232), (([] : List Int)), (0), (by first | rfl | (simp; done) | (simp [*]; done)), (by first | rfl | (simp; done) | (simp [*]; done)), H', ⟨Nat.le_refl _⟩, ⟨by first | exact Kd.R_nil _ _ _ _ _ | exact Kd.N_nil _ _ _ _ _ | exact Kd.V_nil _ _ _ _ _ | exact Kd.Q_nil _ _ _ _ _ | exact Kd.S_nil _ _ _ _ _⟩, ⟨by repeat (first | (with_reducible first | exact HB.out | apply zc | apply zb | apply zd) | exact HB.out)⟩⟩
  case round =>
   clear H'
   try clear c1
   try clear p2
   try clear c5
   try clear c5b0
   try clear c5b1
   obtain ⟨x10_1, x12_1, x27_1, rfl, rfl, HA, HK1, HO_12, HB⟩ := hrel
   cases gk with
   | zero => exact absurd HA.out (by simp [zA.l0])
   | succ k1 =>
    have H := HA.out
    clear HA
    simp only [zA.l0] at H
    by_cases c6 : x27_1 < t231
    ·rw [if_pos c6] at H
     have c6b0 : decide (x27_1 < t231) = true := decide_eq_true c6
     clear c6
     replace H := Vx.mp H
     obtain ⟨⟨t234, t235, t236⟩, A70, H⟩ := H
     replace H : (if t236 = 0 then (if x12_1.length < 17592186044416 then (zA.l0 k1 a0 t235 (x12_1 ++ [t234]) t231 (wrap64 (x27_1 + 1))) else (none)) else (some (([] : List Int), 0, t236))) = some (r1, r2, r3) := H
     have A7 := za.mk A70
     clear A70
     by_cases c8 : t236 = 0
     ·rw [if_pos c8] at H
      have c8b0 : (t236 == 0) = true := beq_iff_eq.mpr c8
      have c8b1 : (t236 != 0) = false := bne_eq_false_iff_eq.mpr c8
      clear c8
      by_cases c9 : x12_1.length < 17592186044416
      ·rw [if_pos c9] at H
       have LMc9 := za.mk c9
       clear c9
       obtain ⟨y237, hy237⟩ : ∃ y_ : List Int, y_ = (x12_1 ++ [t234]) := ⟨_, rfl⟩
       replace H : (zA.l0 k1 a0 t235 y237 t231 (wrap64 (x27_1 + 1))) = some (r1, r2, r3) := by first | (rw [hy237]; with_reducible exact H) | (have H2_ := (Option.bind_some _ _).symm.trans H; rw [hy237]; with_reducible exact H2_) | (have H2_ := (Option.bind_some _ _).symm.trans H; with_reducible exact H2_) | with_reducible exact H | (rw [hy237]; exact H) | exact H
       have Ny237 := za.mk hy237
       clear hy237
       have H' := za.mk H
       clear H
       go_wp2_with (first | ((with_reducible refine zC (N := 33) rfl ?_); refine qo (some 33) rfl rfl Try.func102 (by kernel_rfl) rfl #[.string a0, .int .i64 x10_1] rfl (by (try simp only [Vw, List.map_cons, List.map_nil]); first | done | rfl | (simp only [List.length_drop, List.length_take]; rfl)) ?_; (with_reducible refine (zk.calls k1 a0 x10_1 t234 t235 t236 _ A7.out).mono ?_); rintro e w' ⟨rfl, ⟨nd, rfl⟩⟩; refine ⟨_, rfl, ?_⟩) | ((with_reducible refine xY (b := .append) (xs := #[.tmp 40, .tmp 42]) rfl ?_); at_builtin; refine Kd.R_append (Kd.int .i64) (w0 := w) w.heap.size rfl (.tmp 40) (.tmp 42) 22 3 (.int .i64 0) 8 rfl Try.underlying22 info3 rfl (by decide) (by omega) u12 x12_1 t234 [.int .i64 t234] (fun _ => True) (fun _ => False) rfl rfl ?aP (fun _ hk => hk.elim) ?aF ?aO ?aB ?aS ?aL ?_; (case aP => exact rfl); (case aB => exact (by repeat (first | (with_reducible first | exact HB.out | apply zc | apply zb | apply zd) | exact HB.out))); (case aF => exact (fun _ _ => trivial)); (case aO => exact (by (with_reducible repeat (first | apply Kd.R_alloc | apply Kd.R_drewN | apply Kd.R_drew)); exact HO_12.out)); (case aS => exact (zp (by repeat (first | (with_reducible first | exact HB.out | apply zc | apply zb | apply zd) | exact HB.out)))); (case aL => have := LMc9.out; omega); intro v238 w10 ho hb hg hat; rw [← Ny237.out] at ho; have n0_ := za.mk (hb); have n1_ := za.mk (ho); clear HB; clear HO_12; have HB := n0_; have HO239 := n1_; clear n0_ n1_; clear ho hb hg hat))
       go_roundg k1
       case measure => have := HK1.out; omega
       case rel => exact ⟨(t235), (y237), (wrap64 (x27_1 + 1)), (by first | rfl | (simp; done) | (simp [*]; done)), (by first | rfl | (simp; done) | (simp [*]; done)), H', ⟨by have := HK1.out; omega⟩, ⟨by (with_reducible repeat (first | apply Kd.R_alloc | apply Kd.R_drewN | apply Kd.R_drew)); exact HO239.out⟩, ⟨by repeat (first | (with_reducible first | exact HB.out | apply zc | apply zb | apply zd) | exact HB.out)⟩⟩
      ·rw [if_neg c9] at H
       exact absurd H (by simp)
     ·rw [if_neg c8] at H
      have c8b0 : (t236 == 0) = false := beq_eq_false_iff_ne.mpr c8
      have c8b1 : (t236 != 0) = true := bne_iff_ne.mpr c8
      simp only [Option.some.injEq, Prod.mk.injEq] at H
      obtain ⟨rfl, rfl, rfl⟩ := H
      go_wp2_with (first | ((with_reducible refine zC (N := 33) rfl ?_); refine qo (some 33) rfl rfl Try.func102 (by kernel_rfl) rfl #[.string a0, .int .i64 x10_1] rfl (by (try simp only [Vw, List.map_cons, List.map_nil]); first | done | rfl | (simp only [List.length_drop, List.length_take]; rfl)) ?_; (with_reducible refine (zk.calls k1 a0 x10_1 t234 t235 t236 _ A7.out).mono ?_); rintro e w' ⟨rfl, ⟨nd, rfl⟩⟩; refine ⟨_, rfl, ?_⟩))
      go_ret3
      exact ⟨_, by first | rfl | (simp [zn, zo] <;> rfl) | (simp [*, zn, zo] <;> rfl), by first | exact Kd.R_nil _ _ _ _ _ | exact Kd.N_nil _ _ _ _ _ | exact Kd.V_nil _ _ _ _ _ | exact Kd.Q_nil _ _ _ _ _ | exact Kd.S_nil _ _ _ _ _, by repeat (first | (with_reducible first | exact HB.out | apply zc | apply zb | apply zd) | exact HB.out)⟩
    ·rw [if_neg c6] at H
     have c6b0 : decide (x27_1 < t231) = false := decide_eq_false c6
     clear c6
     simp only [Option.some.injEq, Prod.mk.injEq] at H
     obtain ⟨rfl, rfl, rfl⟩ := H
     go_wp2
     go_ret3
     exact ⟨_, by first | rfl | (simp [zn, zo] <;> rfl) | (simp [*, zn, zo] <;> rfl), by (with_reducible repeat (first | apply Kd.R_alloc | apply Kd.R_drewN | apply Kd.R_drew)); exact HO_12.out, by repeat (first | (with_reducible first | exact HB.out | apply zc | apply zb | apply zd) | exact HB.out)⟩
 ·rw [if_neg c5] at H
  have c5b0 : (t233 == 0) = false := beq_eq_false_iff_ne.mpr c5
  have c5b1 : (t233 != 0) = true := bne_iff_ne.mpr c5
  simp only [Option.some.injEq, Prod.mk.injEq] at H
  obtain ⟨rfl, rfl, rfl⟩ := H
  go_enter Try.func113, Try.ntmps113
  go_wp2_with (first | ((with_reducible refine zL (f := 112) rfl ?_); refine z8 (some 19) rfl rfl Try.func112 (by kernel_rfl) rfl #[.string a0, .int .i64 a1, .int .i64 256] rfl (by (try simp only [Vw, List.map_cons, List.map_nil]); first | done | rfl | (simp only [List.length_drop, List.length_take]; rfl)) ?_; (with_reducible refine (yE.calls k a0 a1 256 t231 t232 t233 _ A4.out).mono ?_); rintro e w' ⟨rfl, ⟨nd, rfl⟩⟩; refine ⟨_, rfl, ?_⟩))
  go_ret3
  exact ⟨_, by first | rfl | (simp [zn, zo] <;> rfl) | (simp [*, zn, zo] <;> rfl), by first | exact Kd.R_nil _ _ _ _ _ | exact Kd.N_nil _ _ _ _ _ | exact Kd.V_nil _ _ _ _ _ | exact Kd.Q_nil _ _ _ _ _ | exact Kd.S_nil _ _ _ _ _, by repeat (first | (with_reducible first | exact HB.out | apply zc | apply zb | apply zd) | exact HB.out)⟩
def yS.f (k : Nat) (a0 : ByteArray) (a1 : Int) : Option (List Int × Int × Int) := (zA.f k a0 a1).bind fun bt240 => (some (bt240.1, bt240.2.1, bt240.2.2))
theorem yS.mono : ∀ a0 a1 k, LeO (yS.f k a0 a1) (yS.f (k + 1) a0 a1) := by
 intro a0 a1 k
 unfold yS.f
 repeat' first
   | (with_reducible exact zA.mono _ _ _)
   | (with_reducible exact LeO.refl _)
   | (with_reducible exact LeO.none _)
   | (with_reducible refine LeO.ite ?_ ?_)
   | (with_reducible refine LeO.bind ?_ (fun _ => ?_))
   | exact zA.mono _ _ _
   | exact LeO.none _
   | refine LeO.ite ?_ ?_
   | refine LeO.bind ?_ (fun _ => ?_)
theorem yS.calls (k : Nat) (a0 : ByteArray) (a1 : Int) (r1 : List Int) (r2 : Int) (r3 : Int) (w : World) (h : yS.f k a0 a1 = some (r1, r2, r3)) :
  Calls Try.prog 104 #[.string a0, .int .i64 a1] w fun e w' => ∃ v0_ : Value, e = .returned (.tuple #[v0_, .int .i64 r2, .int .i64 r3]) ∧ Kd.R (Kd.int .i64) 3 w' w.heap.size (fun _ => True) v0_ r1 ∧ Below w.heap.size w w' := by
 have HB := za.mk (Below.refl w.heap.size w)
 have H : ((zA.f k a0 a1).bind fun bt240 => (some (bt240.1, bt240.2.1, bt240.2.2))) = some (r1, r2, r3) := h
 clear h
 replace H := Vx.mp H
 obtain ⟨⟨t240, t241, t242⟩, A30, H⟩ := H
 replace H : (some (t240, t241, t242)) = some (r1, r2, r3) := H
 have A3 := za.mk A30
 clear A30
 simp only [Option.some.injEq, Prod.mk.injEq] at H
 obtain ⟨rfl, rfl, rfl⟩ := H
 go_enter Try.func104, Try.ntmps104
 go_wp2_with (first | ((with_reducible refine zL (f := 113) rfl ?_); refine z8 (some 9) rfl rfl Try.func113 (by kernel_rfl) rfl #[.string a0, .int .i64 a1, .func (Fn.func 102) #[] #[]] rfl (by (try simp only [Vw, List.map_cons, List.map_nil]); first | done | rfl | (simp only [List.length_drop, List.length_take]; rfl)) ?_; (with_reducible refine (zA.calls k a0 a1 t240 t241 t242 _ A3.out).mono ?_); rintro e w4 ⟨v243, rfl, ho0, hb⟩; refine ⟨_, rfl, ?_⟩; have n0_ := za.mk (Kd.R_lower ho0 (zp (by repeat (first | (with_reducible first | exact HB.out | apply zc | apply zb | apply zd) | exact HB.out)))); have n1_ := za.mk (zi (by repeat (first | (with_reducible first | exact HB.out | apply zc | apply zb | apply zd) | exact HB.out)) hb); clear HB; have HO244 := n0_; have HB := n1_; clear n0_ n1_; (try clear hb); (try clear hb2); (try clear hk); (try clear hi); (try clear ho0)))
 go_ret3
 exact ⟨_, by first | rfl | (simp [zn, zo] <;> rfl) | (simp [*, zn, zo] <;> rfl), by (with_reducible repeat (first | apply Kd.R_alloc | apply Kd.R_drewN | apply Kd.R_drew)); exact HO244.out, by repeat (first | (with_reducible first | exact HB.out | apply zc | apply zb | apply zd) | exact HB.out)⟩
def z6.f (k : Nat) (s0_0 : ByteArray) (s0_1 : Int) (s0_2 : Int) : Option (List Int × ByteArray × Int × Int) := if s0_2 = 0 then ((yS.f k s0_0 s0_1).bind fun r => some (r.1, s0_0, r.2.1, r.2.2)) else some ([], s0_0, s0_1, s0_2)
theorem z6.mono : ∀ a0 a1 a2 k, LeO (z6.f k a0 a1 a2) (z6.f (k + 1) a0 a1 a2) := by
 intro a0 a1 a2 k
 unfold z6.f
 exact LeO.ite (LeO.bind (yS.mono _ _ _) (fun _ => LeO.refl _)) (LeO.refl _)
theorem z6.calls (k : Nat) (g : Nat) (s0_0 : ByteArray) (s0_1 : Int) (s0_2 : Int) (r1 : List Int) (r2 : ByteArray) (r3 : Int) (r4 : Int) (w0 w : World) (hI : zf w0 w g s0_0 s0_1 s0_2) (hB : Below w0.heap.size w0 w) (h : z6.f k s0_0 s0_1 s0_2 = some (r1, r2, r3, r4)) :
  Calls Try.prog 68 #[.pointer (some ⟨g, 0, none⟩)] w fun e w' => ∃ v0_ : Value, e = .returned v0_ ∧ Kd.R (Kd.int .i64) 3 w' w.heap.size (fun _ => True) v0_ r1 ∧ zf w0 w' g r2 r3 r4 ∧ Below w0.heap.size w0 w' ∧ zl w w' g none := by
 have HI := za.mk hI
 have HB := za.mk hB
 clear hB
 obtain ⟨HG, hg⟩ := hI
 have hc0 := yd HG
 have hc1 := yc HG
 have hc2 := ye HG
 have hf0 := ze HG 0
 have hf1 := ze HG 1
 have hf2 := ze HG 2
 clear HG hg
 unfold z6.f at h
 by_cases c : s0_2 = 0
 ·subst c
  rw [if_pos rfl, Vx] at h
  obtain ⟨⟨x1, x2, x3⟩, hx, h⟩ := h
  simp only [Option.some.injEq, Prod.mk.injEq] at h
  obtain ⟨rfl, rfl, rfl, rfl⟩ := h
  have HX := za.mk hx
  clear hx
  go_enter Try.func68, Try.ntmps68
  go_wp2
  go_region_with (go_at_call 104; refine (yS.calls k s0_0 s0_1 x1 x2 x3 _ HX.out).mono ?_; rintro e w1 ⟨v0, rfl, hR, hb⟩; have HB2 := za.mk ((zd (Below.refl w.heap.size w)).trans hb); have HR := za.mk (show Kd.R (Kd.int .i64) 3 w1 w.heap.size (fun k_ => True ∧ k_ ≠ g) v0 x1 from (HI.out.below HB2.out).apart hR (by decide)); have HI1 := za.mk (HI.out.below HB2.out); clear hR hb hc0 hc1 hc2 hf0 hf1 hf2; have hc0 := yd HI1.out.1; have hc1 := yc HI1.out.1; have hc2 := ye HI1.out.1; have hf0 := ze HI1.out.1 0; have hf1 := ze HI1.out.1 1; have hf2 := ze HI1.out.1 2)
  all_goals
   go_wp2
   have HB1 := za.mk (zi HB.out HB2.out)
   have HK1 := za.mk (zl.of_below HB2.out g none)
   go_ret
   exact ⟨_, rfl, Kd.R_mono (Kd.R_far (p := ⟨g, 2, none⟩) (Kd.R_far (p := ⟨g, 1, none⟩) HR.out (fun _ hk => hk.2) _) (fun _ hk => hk.2) _) (fun _ _ => trivial), by repeat (first | exact HI1.out | apply zf.set_0 | apply zf.set_1 | apply zf.set_2), zh (zh HB1.out (zf.ge HI1.out)) (zf.ge HI1.out), by repeat (first | exact HK1.out | apply zl.set_)⟩
 ·rw [if_neg c] at h
  have c1 : (s0_2 == 0) = false := beq_eq_false_iff_ne.mpr c
  have c2 : (s0_2 != 0) = true := bne_iff_ne.mpr c
  simp only [Option.some.injEq, Prod.mk.injEq] at h
  obtain ⟨rfl, rfl, rfl, rfl⟩ := h
  go_enter Try.func68, Try.ntmps68
  go_wp2
  go_ret
  exact ⟨_, rfl, Kd.R_nil _ _ _ _ _, HI.out, HB.out, zl.refl _ _ _⟩
def yO.f (k : Nat) (a0 : ByteArray) (a1 : Int) : Option (ByteArray × Int × Int) := (yE.f k a0 a1 4096).bind fun bt225 => (if bt225.2.2 = 0 then (if bt225.1 > (wrap64 ((a0.size : Int) - bt225.2.1)) then (some ((⟨#[]⟩ : ByteArray), 0, 5)) else (if 0 ≤ bt225.2.1 then (if bt225.2.1 ≤ (wrap64 (bt225.2.1 + bt225.1)) then (if (wrap64 (bt225.2.1 + bt225.1)) ≤ (a0.size : Int) then (some (a0.extract (bt225.2.1 : Int).toNat ((wrap64 (bt225.2.1 + bt225.1)) : Int).toNat, wrap64 (bt225.2.1 + bt225.1), 0)) else (none)) else (none)) else (none))) else (some ((⟨#[]⟩ : ByteArray), 0, bt225.2.2)))
theorem yO.mono : ∀ a0 a1 k, LeO (yO.f k a0 a1) (yO.f (k + 1) a0 a1) := by
 intro a0 a1 k
 unfold yO.f
 repeat' first
   | (with_reducible exact yE.mono _ _ _ _)
   | (with_reducible exact LeO.refl _)
   | (with_reducible exact LeO.none _)
   | (with_reducible refine LeO.ite ?_ ?_)
   | (with_reducible refine LeO.bind ?_ (fun _ => ?_))
   | exact yE.mono _ _ _ _
   | exact LeO.none _
   | refine LeO.ite ?_ ?_
   | refine LeO.bind ?_ (fun _ => ?_)
theorem yO.calls (k : Nat) (a0 : ByteArray) (a1 : Int) (r1 : ByteArray) (r2 : Int) (r3 : Int) (w : World) (h : yO.f k a0 a1 = some (r1, r2, r3)) :
  Calls Try.prog 103 #[.string a0, .int .i64 a1] w fun e w' => e = .returned (.tuple #[.string r1, .int .i64 r2, .int .i64 r3]) ∧ zG w w' := by
 have H : ((yE.f k a0 a1 4096).bind fun bt225 => (if bt225.2.2 = 0 then (if bt225.1 > (wrap64 ((a0.size : Int) - bt225.2.1)) then (some ((⟨#[]⟩ : ByteArray), 0, 5)) else (if 0 ≤ bt225.2.1 then (if bt225.2.1 ≤ (wrap64 (bt225.2.1 + bt225.1)) then (if (wrap64 (bt225.2.1 + bt225.1)) ≤ (a0.size : Int) then (some (a0.extract (bt225.2.1 : Int).toNat ((wrap64 (bt225.2.1 + bt225.1)) : Int).toNat, wrap64 (bt225.2.1 + bt225.1), 0)) else (none)) else (none)) else (none))) else (some ((⟨#[]⟩ : ByteArray), 0, bt225.2.2)))) = some (r1, r2, r3) := h
 clear h
 replace H := Vx.mp H
 obtain ⟨⟨t225, t226, t227⟩, A30, H⟩ := H
 replace H : (if t227 = 0 then (if t225 > (wrap64 ((a0.size : Int) - t226)) then (some ((⟨#[]⟩ : ByteArray), 0, 5)) else (if 0 ≤ t226 then (if t226 ≤ (wrap64 (t226 + t225)) then (if (wrap64 (t226 + t225)) ≤ (a0.size : Int) then (some (a0.extract (t226 : Int).toNat ((wrap64 (t226 + t225)) : Int).toNat, wrap64 (t226 + t225), 0)) else (none)) else (none)) else (none))) else (some ((⟨#[]⟩ : ByteArray), 0, t227))) = some (r1, r2, r3) := H
 have A3 := za.mk A30
 clear A30
 by_cases c4 : t227 = 0
 ·rw [if_pos c4] at H
  have c4b0 : (t227 == 0) = true := beq_iff_eq.mpr c4
  have c4b1 : (t227 != 0) = false := bne_eq_false_iff_eq.mpr c4
  clear c4
  by_cases c5 : t225 > (wrap64 ((a0.size : Int) - t226))
  ·rw [if_pos c5] at H
   have c5b0 : decide ((wrap64 ((a0.size : Int) - t226)) < t225) = true := decide_eq_true c5
   clear c5
   simp only [Option.some.injEq, Prod.mk.injEq] at H
   obtain ⟨rfl, rfl, rfl⟩ := H
   go_enter Try.func103, Try.ntmps103
   go_wp2_with (first | ((with_reducible refine zL (f := 112) rfl ?_); refine z8 (some 13) rfl rfl Try.func112 (by kernel_rfl) rfl #[.string a0, .int .i64 a1, .int .i64 4096] rfl (by (try simp only [Vw, List.map_cons, List.map_nil]); first | done | rfl | (simp only [List.length_drop, List.length_take]; rfl)) ?_; (with_reducible refine (yE.calls k a0 a1 4096 t225 t226 t227 _ A3.out).mono ?_); rintro e w' ⟨rfl, ⟨nd, rfl⟩⟩; refine ⟨_, rfl, ?_⟩))
   go_ret3
   exact ⟨by first | rfl | (simp; done) | (simp [*]; done), by repeat (first | exact zG.refl _ | apply zG.step)⟩
  ·rw [if_neg c5] at H
   have c5b0 : decide ((wrap64 ((a0.size : Int) - t226)) < t225) = false := decide_eq_false c5
   clear c5
   by_cases c6 : 0 ≤ t226
   ·rw [if_pos c6] at H
    have c6b0 := eq_true c6
    have c6b1 : decide (0 ≤ t226) = true := decide_eq_true c6
    clear c6
    by_cases c7 : t226 ≤ (wrap64 (t226 + t225))
    ·rw [if_pos c7] at H
     have c7b0 := eq_true c7
     have c7b1 : decide (t226 ≤ (wrap64 (t226 + t225))) = true := decide_eq_true c7
     by_cases c8 : (wrap64 (t226 + t225)) ≤ (a0.size : Int)
     ·rw [if_pos c8] at H
      have c8b0 := eq_true c8
      have c8b1 : decide ((wrap64 (t226 + t225)) ≤ (a0.size : Int)) = true := decide_eq_true c8
      simp only [Option.some.injEq, Prod.mk.injEq] at H
      obtain ⟨rfl, rfl, rfl⟩ := H
      go_enter Try.func103, Try.ntmps103
      go_wp2_with (first | ((with_reducible refine zL (f := 112) rfl ?_); refine z8 (some 13) rfl rfl Try.func112 (by kernel_rfl) rfl #[.string a0, .int .i64 a1, .int .i64 4096] rfl (by (try simp only [Vw, List.map_cons, List.map_nil]); first | done | rfl | (simp only [List.length_drop, List.length_take]; rfl)) ?_; (with_reducible refine (yE.calls k a0 a1 4096 t225 t226 t227 _ A3.out).mono ?_); rintro e w' ⟨rfl, ⟨nd, rfl⟩⟩; refine ⟨_, rfl, ?_⟩))
      go_ret3
      exact ⟨by first | rfl | (simp; done) | (simp [*]; done), by repeat (first | exact zG.refl _ | apply zG.step)⟩
     ·rw [if_neg c8] at H
      exact absurd H (by simp)
    ·rw [if_neg c7] at H
     exact absurd H (by simp)
   ·rw [if_neg c6] at H
    exact absurd H (by simp)
 ·rw [if_neg c4] at H
  have c4b0 : (t227 == 0) = false := beq_eq_false_iff_ne.mpr c4
  have c4b1 : (t227 != 0) = true := bne_iff_ne.mpr c4
  simp only [Option.some.injEq, Prod.mk.injEq] at H
  obtain ⟨rfl, rfl, rfl⟩ := H
  go_enter Try.func103, Try.ntmps103
  go_wp2_with (first | ((with_reducible refine zL (f := 112) rfl ?_); refine z8 (some 13) rfl rfl Try.func112 (by kernel_rfl) rfl #[.string a0, .int .i64 a1, .int .i64 4096] rfl (by (try simp only [Vw, List.map_cons, List.map_nil]); first | done | rfl | (simp only [List.length_drop, List.length_take]; rfl)) ?_; (with_reducible refine (yE.calls k a0 a1 4096 t225 t226 t227 _ A3.out).mono ?_); rintro e w' ⟨rfl, ⟨nd, rfl⟩⟩; refine ⟨_, rfl, ?_⟩))
  go_ret3
  exact ⟨by first | rfl | (simp; done) | (simp [*]; done), by repeat (first | exact zG.refl _ | apply zG.step)⟩
def yg.f (k : Nat) (s0_0 : ByteArray) (s0_1 : Int) (s0_2 : Int) : Option (ByteArray × ByteArray × Int × Int) := if s0_2 = 0 then ((yO.f k s0_0 s0_1).bind fun bt228 => (some (bt228.1, s0_0, bt228.2.1, bt228.2.2))) else (some ((⟨#[]⟩ : ByteArray), s0_0, s0_1, s0_2))
theorem yg.mono : ∀ a0 a1 a2 k, LeO (yg.f k a0 a1 a2) (yg.f (k + 1) a0 a1 a2) := by
 intro a0 a1 a2 k
 unfold yg.f
 repeat' first
   | (with_reducible exact yO.mono _ _ _)
   | (with_reducible exact LeO.refl _)
   | (with_reducible exact LeO.none _)
   | (with_reducible refine LeO.ite ?_ ?_)
   | (with_reducible refine LeO.bind ?_ (fun _ => ?_))
   | exact yO.mono _ _ _
   | exact LeO.none _
   | refine LeO.ite ?_ ?_
   | refine LeO.bind ?_ (fun _ => ?_)
theorem yg.calls (k : Nat) (g : Nat) (s0_0 : ByteArray) (s0_1 : Int) (s0_2 : Int) (r1 : ByteArray) (r2 : ByteArray) (r3 : Int) (r4 : Int) (w0 w : World) (hI : zf w0 w g s0_0 s0_1 s0_2) (hB : Below w0.heap.size w0 w) (h : yg.f k s0_0 s0_1 s0_2 = some (r1, r2, r3, r4)) :
  Calls Try.prog 67 #[.pointer (some ⟨g, 0, none⟩)] w fun e w' => e = .returned (.string r1) ∧ zf w0 w' g r2 r3 r4 ∧ Below w0.heap.size w0 w' ∧ zl w w' g none := by
 have HI0 := za.mk hI
 have HK := za.mk (zl.refl w g none)
 have HL := za.mk hB.size
 clear hI
 have HW0 := za.mk hB.size
 have HB := za.mk hB
 clear hB
 have H : (if s0_2 = 0 then ((yO.f k s0_0 s0_1).bind fun bt228 => (some (bt228.1, s0_0, bt228.2.1, bt228.2.2))) else (some ((⟨#[]⟩ : ByteArray), s0_0, s0_1, s0_2))) = some (r1, r2, r3, r4) := h
 clear h
 by_cases c2 : s0_2 = 0
 ·rw [if_pos c2] at H
  have c2b0 : (s0_2 == 0) = true := beq_iff_eq.mpr c2
  have c2b1 : (s0_2 != 0) = false := bne_eq_false_iff_eq.mpr c2
  clear c2
  replace H := Vx.mp H
  obtain ⟨⟨t228, t229, t230⟩, A30, H⟩ := H
  replace H : (some (t228, s0_0, t229, t230)) = some (r1, r2, r3, r4) := H
  have A3 := za.mk A30
  clear A30
  simp only [Option.some.injEq, Prod.mk.injEq] at H
  obtain ⟨rfl, rfl, rfl, rfl⟩ := H
  obtain ⟨HGz4, hgz4⟩ := HI0.out
  have hcz4_0 := yd HGz4
  have hcz4_1 := yc HGz4
  have hcz4_2 := ye HGz4
  have hfz4_0 := ze HGz4 0
  have hfz4_1 := ze HGz4 1
  have hfz4_2 := ze HGz4 2
  clear HGz4 hgz4
  go_enter Try.func67, Try.ntmps67
  go_wp2_with (first | (go_at_call 103; (with_reducible refine (yO.calls k s0_0 s0_1 t228 t229 t230 _ A3.out).mono ?_); rintro e w' ⟨rfl, ⟨nd, rfl⟩⟩; (try first | exact ⟨rfl, _, World.drewN_drewN _ _ _⟩ | exact ⟨rfl, _, Eq.trans (World.drewN_drewN _ _ _) (congrArg (World.drewN _) (Nat.add_assoc _ _ _))⟩)))
  repeat (go_quiet (first | (go_at_call 103; (with_reducible refine (yO.calls k s0_0 s0_1 t228 t229 t230 _ A3.out).mono ?_); rintro e w' ⟨rfl, ⟨nd, rfl⟩⟩; (try first | exact ⟨rfl, _, World.drewN_drewN _ _ _⟩ | exact ⟨rfl, _, Eq.trans (World.drewN_drewN _ _ _) (congrArg (World.drewN _) (Nat.add_assoc _ _ _))⟩))); try go_wp2_with (first | (go_at_call 103; (with_reducible refine (yO.calls k s0_0 s0_1 t228 t229 t230 _ A3.out).mono ?_); rintro e w' ⟨rfl, ⟨nd, rfl⟩⟩; (try first | exact ⟨rfl, _, World.drewN_drewN _ _ _⟩ | exact ⟨rfl, _, Eq.trans (World.drewN_drewN _ _ _) (congrArg (World.drewN _) (Nat.add_assoc _ _ _))⟩))))
  go_ret
  exact ⟨by first | rfl | (simp [zn, zo] <;> rfl) | (simp [*, zn, zo] <;> rfl), by repeat (first | (with_reducible first | exact HI0.out | apply zf.alloc | apply zf.drewN | apply zf.drew | apply zf.set_0 | apply zf.set_1 | apply zf.set_2) | exact HI0.out), by repeat (first | (with_reducible first | exact HB.out | apply zc | apply zb | apply zd | refine zh ?_ (zf.ge HI0.out)) | exact HB.out), by repeat (first | (with_reducible first | exact HK.out | apply zl.set_ | apply zI | apply zO | apply zQ) | exact HK.out)⟩
 ·rw [if_neg c2] at H
  have c2b0 : (s0_2 == 0) = false := beq_eq_false_iff_ne.mpr c2
  have c2b1 : (s0_2 != 0) = true := bne_iff_ne.mpr c2
  simp only [Option.some.injEq, Prod.mk.injEq] at H
  obtain ⟨rfl, rfl, rfl, rfl⟩ := H
  obtain ⟨HGz5, hgz5⟩ := HI0.out
  have hcz5_0 := yd HGz5
  have hcz5_1 := yc HGz5
  have hcz5_2 := ye HGz5
  have hfz5_0 := ze HGz5 0
  have hfz5_1 := ze HGz5 1
  have hfz5_2 := ze HGz5 2
  clear HGz5 hgz5
  go_enter Try.func67, Try.ntmps67
  go_wp2
  repeat (go_quiet (fail); try go_wp2)
  go_ret
  exact ⟨by first | rfl | (simp [zn, zo] <;> rfl) | (simp [*, zn, zo] <;> rfl), by repeat (first | (with_reducible first | exact HI0.out | apply zf.alloc | apply zf.drewN | apply zf.drew | apply zf.set_0 | apply zf.set_1 | apply zf.set_2) | exact HI0.out), by repeat (first | (with_reducible first | exact HB.out | apply zc | apply zb | apply zd | refine zh ?_ (zf.ge HI0.out)) | exact HB.out), by repeat (first | (with_reducible first | exact HK.out | apply zl.set_ | apply zI | apply zO | apply zQ) | exact HK.out)⟩
end Go.Proofs.Ytbfehjncllkogaa.Q
