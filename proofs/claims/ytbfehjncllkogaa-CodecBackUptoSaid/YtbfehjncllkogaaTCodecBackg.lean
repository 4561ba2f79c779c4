/- Texts of this session laid together (shrink.py): what the claim's law rests on. -/
import Derived.Below
import Derived.Deep.Draws
import Derived.Deep.AppendLies
import Derived.Maps.AppendAt
import Derived.OwnWalk
import Derived.Laws.BytesArg
import Derived.Laws.MakeOwn
import Derived.Laws.OwnMore
import Derived.Deep.OwnRows
import Derived.Tactics
import Derived.Lib.ConvBytes
import Derived.Laws.Slices
import Derived.WalkKit
import Derived.KernelRfl
import Derived.RowKit3
import Derived.Deep.LoopGhost
import Derived.Deep.QuietTactic
import Derived.BigQuiet
import Derived.WideLaws
import Derived.Deep.DeepCutAuto
import Derived.Deep.CutBlock
import Derived.Deep.RegionHeld3
import Derived.Laws.Rows
import Derived.Lib.AppendStr
import Derived.ArgAppend
import Derived.Laws.IdiomCopy
import Derived.RowKit
import Derived.OrdersHeld
import Derived.Laws.BitsLemmas
import Derived.Laws.StructEq
import Derived.Test.YtbfehjncllkogaaProg
import Derived.WalkMore
import Derived.Lib.Strings
import Derived.Outline
import Derived.Test.YtbfehjncllkogaaTCodecBackf
set_option linter.unusedVariables false
set_option linter.unusedSimpArgs false
set_option maxRecDepth 100000
set_option maxHeartbeats 8000000
open Bool renaming true → ZT, false → ZF
open List renaming setIfInBounds_toArray → Vt
open List renaming set_cons_zero → Vu
open List renaming set_cons_succ → Vv
open List renaming map_toArray → Vw
open Option renaming bind_eq_some_iff → Vx
open Go.World renaming block_lt_of_cell? → Vy
open ByteArray renaming size_append → Vz
open Bool renaming eq_false_iff → VA
open List renaming length_append → VB
namespace Go.Proofs.Ytbfehjncllkogaa.Q
open Go.RowKit Go.Proofs.YtbfehjncllkogaaW.PrintWords Go.Proofs.YtbfehjncllkogaaW.PrintLast Go.Proofs.YtbfehjncllkogaaW.PrintMore
attribute [local go_sem] qw qx qN qK qg qh qz qu
def zS.l0 : Nat → List (S93) → List (S93) → Int → Option (Bool)
 | 0, _, _, _ => none
 | k + 1, x0, x1, x5 => if x5 < (x0.length : Int) then (if 0 ≤ x5 then (if x5 < (x1.length : Int) then (if ((zM x0 x5).f0).toList = ((zM x1 x5).f0).toList then ((xw.f k ((zM x0 x5).f1.f0) ((zM x0 x5).f1.f1) ((zM x0 x5).f1.f2) ((zM x1 x5).f1.f0) ((zM x1 x5).f1.f1) ((zM x1 x5).f1.f2)).bind fun t632 => (if t632 = true then (zS.l0 k x0 x1 (wrap64 (x5 + 1))) else (some false))) else (some false)) else (none)) else (none)) else (some true)
def zS.f (k : Nat) (l0 : List (S93)) (l1 : List (S93)) : Option (Bool) := if (l0.length : Int) = (l1.length : Int) then (zS.l0 k l0 l1 0) else (some false)
def zS.T6 : Bool × List (List Nat × List Nat) := (true, [([], []), ([], []), ([0, 1], [0, 1]), ([2], [2]), ([3], [3]), ([], []), ([], []), ([5, 6], [5, 6]), ([7], [7]), ([8], [8]), ([4, 9], [4, 9]), ([10], [10]), ([11], [11]), ([11], [11]), ([12, 13, 11], [11, 12, 13]), ([14, 11], [11, 14]), ([15, 11], [11, 15]), ([11], [11]), ([11], [11]), ([17, 18, 11], [11, 17, 18]), ([19, 11], [11, 19]), ([20, 11], [11, 20]), ([16, 21, 11, 11], [11, 16, 21]), ([22, 11], [11, 22]), ([11, 23], [11, 23])])
def zS.B6 : List Nat := [0, 0, 3, 7, 15, 0, 0, 96, 224, 480, 1023, 2047, 4095, 4095, 16383, 32767, 65535, 4095, 4095, 397311, 921599, 1970175, 4194303, 8388607, 16777215]
theorem zS.tab6 : xJ .any (vm Try.f34 6) = zS.T6 := by kernel_rfl
theorem zS.bits6 : qe zS.T6.2 zS.B6 = true := by kernel_rfl
theorem zS.calls (k : Nat) (A0 : Option Addr) (c0 : Nat) (l0 : List (S93)) (A1 : Option Addr) (c1 : Nat) (l1 : List (S93)) (r : Bool) (w : World) (hr0 : Kd.C k93 w A0 l0.length l0) (hc0 : l0.length ≤ c0) (hr1 : Kd.C k93 w A1 l1.length l1) (hc1 : l1.length ≤ c1) (h : zS.f k l0 l1 = some r) :
  Calls Try.prog 34 #[.slice A0 l0.length c0, .slice A1 l1.length c1] w fun e w' => e = .returned (.bool r) ∧ Below w.heap.size w w' := by
 have hu91 := Try.underlying91
 have HR0 := za.mk hr0
 have HC0 := za.mk hc0
 clear hr0 hc0
 have HR1 := za.mk hr1
 have HC1 := za.mk hc1
 clear hr1 hc1
 have HB := za.mk (Below.refl w.heap.size w)
 have H : (if (l0.length : Int) = (l1.length : Int) then (zS.l0 k l0 l1 0) else (some false)) = some r := h
 clear h
 by_cases c3 : (l0.length : Int) = (l1.length : Int)
 ·rw [if_pos c3] at H
  have c3b0 : ((l0.length : Int) == (l1.length : Int)) = true := beq_iff_eq.mpr c3
  have c3b1 : ((l0.length : Int) != (l1.length : Int)) = false := bne_eq_false_iff_eq.mpr c3
  have c3b2 : (l0.length == l1.length) = true := by first | simpa using c3 | (simp at c3 ⊢; omega)
  clear c3
  have H' := za.mk H
  clear H
  go_enter Try.func34, Try.ntmps34
  go_wp2
  go_loopg [5] k (fun kq v5 w' => ∃ (x5_1 : Int), v5 = .int .i64 x5_1 ∧ za (zS.l0 kq l0 l1 x5_1 = some r) ∧ za (kq ≤ k) ∧ za (Below w.heap.size w w'))
  case atStart => exact ⟨(0), (by first | rfl | (simp; done) | (simp [*]; done)), H', ⟨Nat.le_refl _⟩, ⟨by repeat (first | (with_reducible first | exact HB.out | apply zc | apply zb | apply zd) | exact HB.out)⟩⟩
  case round =>
   clear H'
   try clear c1
   try clear p2
   try clear c3
   try clear c3b0
   try clear c3b1
   try clear c3b2
   obtain ⟨x5_1, rfl, HA, HK1, HB⟩ := hrel
   cases gk with
   | zero => exact absurd HA.out (by simp [zS.l0])
   | succ k1 =>
    have H := HA.out
    clear HA
    simp only [zS.l0] at H
    by_cases c4 : x5_1 < (l0.length : Int)
    ·rw [if_pos c4] at H
     have c4b0 : decide (x5_1 < (l0.length : Int)) = true := decide_eq_true c4
     clear c4
     by_cases c5 : 0 ≤ x5_1
     ·rw [if_pos c5] at H
      have c5b0 : decide (0 ≤ x5_1) = true := decide_eq_true c5
      clear c5
      by_cases c6 : x5_1 < (l1.length : Int)
      ·rw [if_pos c6] at H
       have c6b0 : decide (x5_1 < (l1.length : Int)) = true := decide_eq_true c6
       clear c6
       by_cases c7 : ((zM l0 x5_1).f0).toList = ((zM l1 x5_1).f0).toList
       ·rw [if_pos c7] at H
        have c7b0 : (((zM l0 x5_1).f0).toList == ((zM l1 x5_1).f0).toList) = true := beq_iff_eq.mpr c7
        have c7b1 : (((zM l0 x5_1).f0).toList != ((zM l1 x5_1).f0).toList) = false := bne_eq_false_iff_eq.mpr c7
        clear c7
        replace H := Vx.mp H
        obtain ⟨t632, A80, H⟩ := H
        replace H : (if t632 = true then (zS.l0 k1 l0 l1 (wrap64 (x5_1 + 1))) else (some false)) = some r := H
        have A8 := za.mk A80
        clear A80
        by_cases c9 : t632 = true
        ·subst c9
         have H1 : (zS.l0 k1 l0 l1 (wrap64 (x5_1 + 1))) = some r := by rw [if_pos rfl] at H; exact H
         clear H
         have H := H1
         clear H1
         have H' := za.mk H
         clear H
         try go_wp2
         have n0_ := za.mk (zd HB.out)
         clear HB
         have HB := n0_
         clear n0_
         have p628 : 0 ≤ (x5_1 : Int) := of_decide_eq_true (by first | (with_reducible assumption) | assumption)
         have q628 : x5_1 < (l0.length : Int) := of_decide_eq_true (by first | (with_reducible assumption) | assumption)
         obtain ⟨ad628, A628_3, c628_3, e628, hx628_0, hx628_1, hx628_2, hx628_3, hl628_3, hi628_3⟩ := qc HR0.out x5_1 p628 q628
         have hw628_3 := hx628_3
         have hw628_2 := hx628_2
         have hw628_1 := hx628_1
         have hw628_0 := hx628_0
         cases e628
         replace hx628_0 := (HB.out.cell (Vy w _ hx628_0)).trans hx628_0
         replace hx628_1 := (HB.out.cell (Vy w _ hx628_1)).trans hx628_1
         replace hx628_2 := (HB.out.cell (Vy w _ hx628_2)).trans hx628_2
         replace hx628_3 := (HB.out.cell (Vy w _ hx628_3)).trans hx628_3
         have HR628_3 := za.mk hi628_3
         have HC628_3 := za.mk hl628_3
         clear hi628_3 hl628_3
         replace p628 := eq_true p628
         replace q628 := eq_true q628
         have p629 : 0 ≤ (x5_1 : Int) := of_decide_eq_true (by first | (with_reducible assumption) | assumption)
         have q629 : x5_1 < (l1.length : Int) := of_decide_eq_true (by first | (with_reducible assumption) | assumption)
         obtain ⟨ad629, A629_3, c629_3, e629, hx629_0, hx629_1, hx629_2, hx629_3, hl629_3, hi629_3⟩ := qc HR1.out x5_1 p629 q629
         have hw629_3 := hx629_3
         have hw629_2 := hx629_2
         have hw629_1 := hx629_1
         have hw629_0 := hx629_0
         cases e629
         replace hx629_0 := (HB.out.cell (Vy w _ hx629_0)).trans hx629_0
         replace hx629_1 := (HB.out.cell (Vy w _ hx629_1)).trans hx629_1
         replace hx629_2 := (HB.out.cell (Vy w _ hx629_2)).trans hx629_2
         replace hx629_3 := (HB.out.cell (Vy w _ hx629_3)).trans hx629_3
         have HR629_3 := za.mk hi629_3
         have HC629_3 := za.mk hl629_3
         clear hi629_3 hl629_3
         replace p629 := eq_true p629
         replace q629 := eq_true q629
         have p630 : 0 ≤ (x5_1 : Int) := of_decide_eq_true (by first | (with_reducible assumption) | assumption)
         have q630 : x5_1 < (l0.length : Int) := of_decide_eq_true (by first | (with_reducible assumption) | assumption)
         obtain ⟨ad630, A630_3, c630_3, e630, hx630_0, hx630_1, hx630_2, hx630_3, hl630_3, hi630_3⟩ := qc HR0.out x5_1 p630 q630
         have hw630_3 := hx630_3
         have hw630_2 := hx630_2
         have hw630_1 := hx630_1
         have hw630_0 := hx630_0
         obtain rfl : ad628 = ad630 := (by injection e630)
         replace hx630_0 := (HB.out.cell (Vy w _ hx630_0)).trans hx630_0
         replace hx630_1 := (HB.out.cell (Vy w _ hx630_1)).trans hx630_1
         replace hx630_2 := (HB.out.cell (Vy w _ hx630_2)).trans hx630_2
         replace hx630_3 := (HB.out.cell (Vy w _ hx630_3)).trans hx630_3
         have HR630_3 := za.mk hi630_3
         have HC630_3 := za.mk hl630_3
         clear hi630_3 hl630_3
         replace p630 := eq_true p630
         replace q630 := eq_true q630
         have ea_ := Option.some.inj (hx628_3.symm.trans hx630_3)
         injection ea_ with ea_ en_ ec_
         subst ea_
         subst ec_
         clear en_
         have p631 : 0 ≤ (x5_1 : Int) := of_decide_eq_true (by first | (with_reducible assumption) | assumption)
         have q631 : x5_1 < (l1.length : Int) := of_decide_eq_true (by first | (with_reducible assumption) | assumption)
         obtain ⟨ad631, A631_3, c631_3, e631, hx631_0, hx631_1, hx631_2, hx631_3, hl631_3, hi631_3⟩ := qc HR1.out x5_1 p631 q631
         have hw631_3 := hx631_3
         have hw631_2 := hx631_2
         have hw631_1 := hx631_1
         have hw631_0 := hx631_0
         obtain rfl : ad629 = ad631 := (by injection e631)
         replace hx631_0 := (HB.out.cell (Vy w _ hx631_0)).trans hx631_0
         replace hx631_1 := (HB.out.cell (Vy w _ hx631_1)).trans hx631_1
         replace hx631_2 := (HB.out.cell (Vy w _ hx631_2)).trans hx631_2
         replace hx631_3 := (HB.out.cell (Vy w _ hx631_3)).trans hx631_3
         have HR631_3 := za.mk hi631_3
         have HC631_3 := za.mk hl631_3
         clear hi631_3 hl631_3
         replace p631 := eq_true p631
         replace q631 := eq_true q631
         have ea_ := Option.some.inj (hx629_3.symm.trans hx631_3)
         injection ea_ with ea_ en_ ec_
         subst ea_
         subst ec_
         clear en_
         refine qF (n := 25) (S := fun w' => w'.cell? (ad628.add ((x5_1).toNat * 4)) = some (.string ((zM l0 x5_1).f0)) ∧ w'.cell? ⟨(ad628.add ((x5_1).toNat * 4)).block, (ad628.add ((x5_1).toNat * 4)).off + 1, none⟩ = some (.int .i64 ((zM l0 x5_1).f1.f0)) ∧ w'.cell? ⟨(ad628.add ((x5_1).toNat * 4)).block, (ad628.add ((x5_1).toNat * 4)).off + 2, none⟩ = some (.int .i64 ((zM l0 x5_1).f1.f1)) ∧ w'.cell? ⟨(ad628.add ((x5_1).toNat * 4)).block, (ad628.add ((x5_1).toNat * 4)).off + 3, none⟩ = some (.slice A628_3 ((zM l0 x5_1).f1.f2).length c628_3) ∧ w'.cell? (ad629.add ((x5_1).toNat * 4)) = some (.string ((zM l1 x5_1).f0)) ∧ w'.cell? ⟨(ad629.add ((x5_1).toNat * 4)).block, (ad629.add ((x5_1).toNat * 4)).off + 1, none⟩ = some (.int .i64 ((zM l1 x5_1).f1.f0)) ∧ w'.cell? ⟨(ad629.add ((x5_1).toNat * 4)).block, (ad629.add ((x5_1).toNat * 4)).off + 2, none⟩ = some (.int .i64 ((zM l1 x5_1).f1.f1)) ∧ w'.cell? ⟨(ad629.add ((x5_1).toNat * 4)).block, (ad629.add ((x5_1).toNat * 4)).off + 3, none⟩ = some (.slice A629_3 ((zM l1 x5_1).f1.f2).length c629_3) ∧ w'.cell? (ad628.add ((x5_1).toNat * 4)) = some (.string ((zM l0 x5_1).f0)) ∧ w'.cell? ⟨(ad628.add ((x5_1).toNat * 4)).block, (ad628.add ((x5_1).toNat * 4)).off + 1, none⟩ = some (.int .i64 ((zM l0 x5_1).f1.f0)) ∧ w'.cell? ⟨(ad628.add ((x5_1).toNat * 4)).block, (ad628.add ((x5_1).toNat * 4)).off + 2, none⟩ = some (.int .i64 ((zM l0 x5_1).f1.f1)) ∧ w'.cell? ⟨(ad628.add ((x5_1).toNat * 4)).block, (ad628.add ((x5_1).toNat * 4)).off + 3, none⟩ = some (.slice A628_3 ((zM l0 x5_1).f1.f2).length c628_3) ∧ w'.cell? (ad629.add ((x5_1).toNat * 4)) = some (.string ((zM l1 x5_1).f0)) ∧ w'.cell? ⟨(ad629.add ((x5_1).toNat * 4)).block, (ad629.add ((x5_1).toNat * 4)).off + 1, none⟩ = some (.int .i64 ((zM l1 x5_1).f1.f0)) ∧ w'.cell? ⟨(ad629.add ((x5_1).toNat * 4)).block, (ad629.add ((x5_1).toNat * 4)).off + 2, none⟩ = some (.int .i64 ((zM l1 x5_1).f1.f1)) ∧ w'.cell? ⟨(ad629.add ((x5_1).toNat * 4)).block, (ad629.add ((x5_1).toNat * 4)).off + 3, none⟩ = some (.slice A629_3 ((zM l1 x5_1).f1.f2).length c629_3)) (ds := []) #[ZF,ZF,ZF,ZF,ZF,ZF,ZF,ZF,ZF,ZF,ZF,ZF,ZF,ZF,ZF,ZF,ZF,ZF,ZF,ZF,ZF,ZF,ZF,ZF,ZF] (by kernel_rfl) rfl rfl ⟨((HB.out.cell (Vy w _ hw628_0)).trans hw628_0), ((HB.out.cell (Vy w _ hw628_1)).trans hw628_1), ((HB.out.cell (Vy w _ hw628_2)).trans hw628_2), ((HB.out.cell (Vy w _ hw628_3)).trans hw628_3), ((HB.out.cell (Vy w _ hw629_0)).trans hw629_0), ((HB.out.cell (Vy w _ hw629_1)).trans hw629_1), ((HB.out.cell (Vy w _ hw629_2)).trans hw629_2), ((HB.out.cell (Vy w _ hw629_3)).trans hw629_3), ((HB.out.cell (Vy w _ hw630_0)).trans hw630_0), ((HB.out.cell (Vy w _ hw630_1)).trans hw630_1), ((HB.out.cell (Vy w _ hw630_2)).trans hw630_2), ((HB.out.cell (Vy w _ hw630_3)).trans hw630_3), ((HB.out.cell (Vy w _ hw631_0)).trans hw631_0), ((HB.out.cell (Vy w _ hw631_1)).trans hw631_1), ((HB.out.cell (Vy w _ hw631_2)).trans hw631_2), ((HB.out.cell (Vy w _ hw631_3)).trans hw631_3)⟩ (fun hHeld => ?_); refine xV zS.tab6 zS.bits6 (fun HT_ HW_ => ?_)
         generalize wr.drew = w10 at HB HR628_3 HR629_3 HR630_3 HR631_3 hx628_0 hx628_1 hx628_2 hx628_3 hx629_0 hx629_1 hx629_2 hx629_3 hx630_0 hx630_1 hx630_2 hx630_3 hx631_0 hx631_1 hx631_2 hx631_3 hHeld ⊢
         refine zZ (i := 0) (N := some 17) (v := ?_) (a' := ?_) #[ZT,ZF,ZF,ZF,ZF,ZF,ZF,ZF,ZF,ZF,ZF,ZF,ZF,ZF,ZF,ZF,ZF,ZF,ZF,ZF,ZF,ZF,ZF,ZF,ZF] rfl rfl (zV HT_.out (by kernel_rfl)) (fun _ _ _ h => h) (Or.inl ⟨by rfl, ?_⟩) ?_ ?_
         rotate_left
         ·intro w'
          go_simp
          with_reducible rfl
         rotate_left
         ·simp only [Act.put, Vt, Vu, Vv, zx, zz]
          rfl
         refine zZ (i := 1) (N := some 18) (v := ?_) (a' := ?_) #[ZT,ZT,ZF,ZF,ZF,ZF,ZF,ZF,ZF,ZF,ZF,ZF,ZF,ZF,ZF,ZF,ZF,ZF,ZF,ZF,ZF,ZF,ZF,ZF,ZF] rfl rfl (zV HT_.out (by kernel_rfl)) (fun _ _ _ h => h) (Or.inl ⟨by rfl, ?_⟩) ?_ ?_
         rotate_left
         ·intro w'
          go_simp
          with_reducible rfl
         rotate_left
         ·simp only [Act.put, Vt, Vu, Vv, zx, zz]
          rfl
         refine zZ (i := 2) (N := some 19) (v := ?_) (a' := ?_) #[ZT,ZT,ZT,ZF,ZF,ZF,ZF,ZF,ZF,ZF,ZF,ZF,ZF,ZF,ZF,ZF,ZF,ZF,ZF,ZF,ZF,ZF,ZF,ZF,ZF] rfl rfl (zV HT_.out (by kernel_rfl)) (fun _ _ _ h => h) (Or.inl ⟨by rfl, ?_⟩) ?_ ?_
         rotate_left
         ·intro w'
          go_simp
          with_reducible rfl
         rotate_left
         ·simp only [Act.put, Vt, Vu, Vv, zx, zz]
          rfl
         refine zZ (i := 3) (N := some 20) (v := ?_) (a' := ?_) #[ZT,ZT,ZT,ZT,ZF,ZF,ZF,ZF,ZF,ZF,ZF,ZF,ZF,ZF,ZF,ZF,ZF,ZF,ZF,ZF,ZF,ZF,ZF,ZF,ZF] rfl rfl (zV HT_.out (by kernel_rfl)) (fun _ _ _ h => h) (Or.inl ⟨by rfl, ?_⟩) ?_ ?_
         rotate_left
         ·intro w'
          go_simp
          with_reducible rfl
         rotate_left
         ·simp only [Act.put, Vt, Vu, Vv, zx, zz]
          rfl
         refine zZ (i := 5) (N := some 22) (v := ?_) (a' := ?_) #[ZT,ZT,ZT,ZT,ZF,ZT,ZF,ZF,ZF,ZF,ZF,ZF,ZF,ZF,ZF,ZF,ZF,ZF,ZF,ZF,ZF,ZF,ZF,ZF,ZF] rfl rfl (zV HT_.out (by kernel_rfl)) (fun _ _ _ h => h) (Or.inl ⟨by rfl, ?_⟩) ?_ ?_
         rotate_left
         ·intro w'
          go_simp
          with_reducible rfl
         rotate_left
         ·simp only [Act.put, Vt, Vu, Vv, zx, zz]
          rfl
         refine zZ (i := 6) (N := some 23) (v := ?_) (a' := ?_) #[ZT,ZT,ZT,ZT,ZF,ZT,ZT,ZF,ZF,ZF,ZF,ZF,ZF,ZF,ZF,ZF,ZF,ZF,ZF,ZF,ZF,ZF,ZF,ZF,ZF] rfl rfl (zV HT_.out (by kernel_rfl)) (fun _ _ _ h => h) (Or.inl ⟨by rfl, ?_⟩) ?_ ?_
         rotate_left
         ·intro w'
          go_simp
          with_reducible rfl
         rotate_left
         ·simp only [Act.put, Vt, Vu, Vv, zx, zz]
          rfl
         refine zZ (i := 7) (N := some 24) (v := ?_) (a' := ?_) #[ZT,ZT,ZT,ZT,ZF,ZT,ZT,ZT,ZF,ZF,ZF,ZF,ZF,ZF,ZF,ZF,ZF,ZF,ZF,ZF,ZF,ZF,ZF,ZF,ZF] rfl rfl (zV HT_.out (by kernel_rfl)) (fun _ _ _ h => h) (Or.inl ⟨by rfl, ?_⟩) ?_ ?_
         rotate_left
         ·intro w'
          go_simp
          with_reducible rfl
         rotate_left
         ·simp only [Act.put, Vt, Vu, Vv, zx, zz]
          rfl
         refine zZ (i := 8) (N := some 25) (v := ?_) (a' := ?_) #[ZT,ZT,ZT,ZT,ZF,ZT,ZT,ZT,ZT,ZF,ZF,ZF,ZF,ZF,ZF,ZF,ZF,ZF,ZF,ZF,ZF,ZF,ZF,ZF,ZF] rfl rfl (zV HT_.out (by kernel_rfl)) (fun _ _ _ h => h) (Or.inl ⟨by rfl, ?_⟩) ?_ ?_
         rotate_left
         ·intro w'
          go_simp
          with_reducible rfl
         rotate_left
         ·simp only [Act.put, Vt, Vu, Vv, zx, zz]
          rfl
         refine take_ (i := 4) (N := some 21) (v := ?_) (a' := ?_) #[ZT,ZT,ZT,ZT,ZT,ZT,ZT,ZT,ZT,ZF,ZF,ZF,ZF,ZF,ZF,ZF,ZF,ZF,ZF,ZF,ZF,ZF,ZF,ZF,ZF] rfl rfl (yN HT_.out HW_.out (by kernel_rfl)) (fun _ _ _ h => h) (Or.inl ⟨by rfl, ?_⟩) hHeld ?_ ?_
         rotate_left
         ·rintro w' ⟨s0, s1, s2, s3, s4, s5, s6, s7, s8, s9, s10, s11, s12, s13, s14, s15⟩
          go_simp
          with_reducible rfl
         rotate_left
         ·simp only [Act.put, Vt, Vu, Vv, zx, zz]
          rfl
         refine take_ (i := 9) (N := some 26) (v := ?_) (a' := ?_) #[ZT,ZT,ZT,ZT,ZT,ZT,ZT,ZT,ZT,ZT,ZF,ZF,ZF,ZF,ZF,ZF,ZF,ZF,ZF,ZF,ZF,ZF,ZF,ZF,ZF] rfl rfl (yN HT_.out HW_.out (by kernel_rfl)) (fun _ _ _ h => h) (Or.inl ⟨by rfl, ?_⟩) hHeld ?_ ?_
         rotate_left
         ·rintro w' ⟨s0, s1, s2, s3, s4, s5, s6, s7, s8, s9, s10, s11, s12, s13, s14, s15⟩
          go_simp
          with_reducible rfl
         rotate_left
         ·simp only [Act.put, Vt, Vu, Vv, zx, zz]
          rfl
         refine zZ (i := 10) (N := some 27) (v := ?_) (a' := ?_) #[ZT,ZT,ZT,ZT,ZT,ZT,ZT,ZT,ZT,ZT,ZT,ZF,ZF,ZF,ZF,ZF,ZF,ZF,ZF,ZF,ZF,ZF,ZF,ZF,ZF] rfl rfl (zV HT_.out (by kernel_rfl)) (fun _ _ _ h => h) (Or.inl ⟨by rfl, ?_⟩) ?_ ?_
         rotate_left
         ·intro w'
          go_simp
          with_reducible rfl
         rotate_left
         ·simp only [Act.put, Vt, Vu, Vv, zx, zz]
          rfl
         refine zZ (i := 11) (N := some 28) (v := ?_) (a' := ?_) #[ZT,ZT,ZT,ZT,ZT,ZT,ZT,ZT,ZT,ZT,ZT,ZT,ZF,ZF,ZF,ZF,ZF,ZF,ZF,ZF,ZF,ZF,ZF,ZF,ZF] rfl rfl (zV HT_.out (by kernel_rfl)) (fun _ _ _ h => h) (Or.inl ⟨by rfl, ?_⟩) ?_ ?_
         rotate_left
         ·intro w'
          go_simp
          with_reducible rfl
         rotate_left
         ·simp only [Act.put, Vt, Vu, Vv, zx, zz]
          rfl
         refine zZ (i := 12) (N := some 29) (v := ?_) (a' := ?_) #[ZT,ZT,ZT,ZT,ZT,ZT,ZT,ZT,ZT,ZT,ZT,ZT,ZT,ZF,ZF,ZF,ZF,ZF,ZF,ZF,ZF,ZF,ZF,ZF,ZF] rfl rfl (zV HT_.out (by kernel_rfl)) (fun _ _ _ h => h) (Or.inl ⟨by rfl, ?_⟩) ?_ ?_
         rotate_left
         ·intro w'
          go_simp
          with_reducible rfl
         rotate_left
         ·simp only [Act.put, Vt, Vu, Vv, zx, zz]
          rfl
         refine zZ (i := 13) (N := some 30) (v := ?_) (a' := ?_) #[ZT,ZT,ZT,ZT,ZT,ZT,ZT,ZT,ZT,ZT,ZT,ZT,ZT,ZT,ZF,ZF,ZF,ZF,ZF,ZF,ZF,ZF,ZF,ZF,ZF] rfl rfl (zV HT_.out (by kernel_rfl)) (fun _ _ _ h => h) (Or.inl ⟨by rfl, ?_⟩) ?_ ?_
         rotate_left
         ·intro w'
          go_simp
          with_reducible rfl
         rotate_left
         ·simp only [Act.put, Vt, Vu, Vv, zx, zz]
          rfl
         refine zZ (i := 14) (N := some 31) (v := ?_) (a' := ?_) #[ZT,ZT,ZT,ZT,ZT,ZT,ZT,ZT,ZT,ZT,ZT,ZT,ZT,ZT,ZT,ZF,ZF,ZF,ZF,ZF,ZF,ZF,ZF,ZF,ZF] rfl rfl (zV HT_.out (by kernel_rfl)) (fun _ _ _ h => h) (Or.inl ⟨by rfl, ?_⟩) ?_ ?_
         rotate_left
         ·intro w'
          go_simp
          with_reducible rfl
         rotate_left
         ·simp only [Act.put, Vt, Vu, Vv, zx, zz]
          rfl
         refine zZ (i := 15) (N := some 32) (v := ?_) (a' := ?_) #[ZT,ZT,ZT,ZT,ZT,ZT,ZT,ZT,ZT,ZT,ZT,ZT,ZT,ZT,ZT,ZT,ZF,ZF,ZF,ZF,ZF,ZF,ZF,ZF,ZF] rfl rfl (zV HT_.out (by kernel_rfl)) (fun _ _ _ h => h) (Or.inl ⟨by rfl, ?_⟩) ?_ ?_
         rotate_left
         ·intro w'
          go_simp
          with_reducible rfl
         rotate_left
         ·simp only [Act.put, Vt, Vu, Vv, zx, zz]
          rfl
         refine zZ (i := 17) (N := some 34) (v := ?_) (a' := ?_) #[ZT,ZT,ZT,ZT,ZT,ZT,ZT,ZT,ZT,ZT,ZT,ZT,ZT,ZT,ZT,ZT,ZF,ZT,ZF,ZF,ZF,ZF,ZF,ZF,ZF] rfl rfl (zV HT_.out (by kernel_rfl)) (fun _ _ _ h => h) (Or.inl ⟨by rfl, ?_⟩) ?_ ?_
         rotate_left
         ·intro w'
          go_simp
          with_reducible rfl
         rotate_left
         ·simp only [Act.put, Vt, Vu, Vv, zx, zz]
          rfl
         refine zZ (i := 18) (N := some 35) (v := ?_) (a' := ?_) #[ZT,ZT,ZT,ZT,ZT,ZT,ZT,ZT,ZT,ZT,ZT,ZT,ZT,ZT,ZT,ZT,ZF,ZT,ZT,ZF,ZF,ZF,ZF,ZF,ZF] rfl rfl (zV HT_.out (by kernel_rfl)) (fun _ _ _ h => h) (Or.inl ⟨by rfl, ?_⟩) ?_ ?_
         rotate_left
         ·intro w'
          go_simp
          with_reducible rfl
         rotate_left
         ·simp only [Act.put, Vt, Vu, Vv, zx, zz]
          rfl
         refine zZ (i := 19) (N := some 36) (v := ?_) (a' := ?_) #[ZT,ZT,ZT,ZT,ZT,ZT,ZT,ZT,ZT,ZT,ZT,ZT,ZT,ZT,ZT,ZT,ZF,ZT,ZT,ZT,ZF,ZF,ZF,ZF,ZF] rfl rfl (zV HT_.out (by kernel_rfl)) (fun _ _ _ h => h) (Or.inl ⟨by rfl, ?_⟩) ?_ ?_
         rotate_left
         ·intro w'
          go_simp
          with_reducible rfl
         rotate_left
         ·simp only [Act.put, Vt, Vu, Vv, zx, zz]
          rfl
         refine zZ (i := 20) (N := some 37) (v := ?_) (a' := ?_) #[ZT,ZT,ZT,ZT,ZT,ZT,ZT,ZT,ZT,ZT,ZT,ZT,ZT,ZT,ZT,ZT,ZF,ZT,ZT,ZT,ZT,ZF,ZF,ZF,ZF] rfl rfl (zV HT_.out (by kernel_rfl)) (fun _ _ _ h => h) (Or.inl ⟨by rfl, ?_⟩) ?_ ?_
         rotate_left
         ·intro w'
          go_simp
          with_reducible rfl
         rotate_left
         ·simp only [Act.put, Vt, Vu, Vv, zx, zz]
          rfl
         refine take_ (i := 16) (N := some 33) (v := ?_) (a' := ?_) #[ZT,ZT,ZT,ZT,ZT,ZT,ZT,ZT,ZT,ZT,ZT,ZT,ZT,ZT,ZT,ZT,ZT,ZT,ZT,ZT,ZT,ZF,ZF,ZF,ZF] rfl rfl (yN HT_.out HW_.out (by kernel_rfl)) (fun _ _ _ h => h) (Or.inl ⟨by rfl, ?_⟩) hHeld ?_ ?_
         rotate_left
         ·rintro w' ⟨s0, s1, s2, s3, s4, s5, s6, s7, s8, s9, s10, s11, s12, s13, s14, s15⟩
          go_simp
          with_reducible rfl
         rotate_left
         ·simp only [Act.put, Vt, Vu, Vv, zx, zz]
          rfl
         refine take_ (i := 21) (N := some 38) (v := ?_) (a' := ?_) #[ZT,ZT,ZT,ZT,ZT,ZT,ZT,ZT,ZT,ZT,ZT,ZT,ZT,ZT,ZT,ZT,ZT,ZT,ZT,ZT,ZT,ZT,ZF,ZF,ZF] rfl rfl (yN HT_.out HW_.out (by kernel_rfl)) (fun _ _ _ h => h) (Or.inl ⟨by rfl, ?_⟩) hHeld ?_ ?_
         rotate_left
         ·rintro w' ⟨s0, s1, s2, s3, s4, s5, s6, s7, s8, s9, s10, s11, s12, s13, s14, s15⟩
          go_simp
          with_reducible rfl
         rotate_left
         ·simp only [Act.put, Vt, Vu, Vv, zx, zz]
          rfl
         refine xC (i := 22) (N := some 39) #[ZT,ZT,ZT,ZT,ZT,ZT,ZT,ZT,ZT,ZT,ZT,ZT,ZT,ZT,ZT,ZT,ZT,ZT,ZT,ZT,ZT,ZT,ZT,ZF,ZF] rfl rfl (y9 HT_.out (by kernel_rfl)) (by decide) (fun K hK => ?_)
         refine xa Try.func81 (by kernel_rfl) rfl #[.agg #[.int .i64 ((zM l0 x5_1).f1.f0), .int .i64 ((zM l0 x5_1).f1.f1), .slice A628_3 ((zM l0 x5_1).f1.f2).length c628_3], .agg #[.int .i64 ((zM l1 x5_1).f1.f0), .int .i64 ((zM l1 x5_1).f1.f1), .slice A629_3 ((zM l1 x5_1).f1.f2).length c629_3]] (by rfl) rfl rfl (by (try simp only [Vw, List.map_cons, List.map_nil]); first | done | rfl | (simp only [List.length_drop, List.length_take]; rfl)) ?_
         with_reducible refine (xw.calls k1 ((zM l0 x5_1).f1.f0) ((zM l0 x5_1).f1.f1) _ _ ((zM l0 x5_1).f1.f2) ((zM l1 x5_1).f1.f0) ((zM l1 x5_1).f1.f1) _ _ ((zM l1 x5_1).f1.f2) true _ ?side1 ?side2 ?side3 ?side4 A8.out).mono ?_
         (case side1 => repeat (first | exact (Kd.C_below HR630_3.out HB.out) | (with_reducible refine Kd.C_alloc ?_ _) | (with_reducible refine Kd.C_drewN ?_ _) | (with_reducible refine Kd.C_drew ?_)))
         (case side2 => exact HC630_3.out)
         (case side3 => repeat (first | exact (Kd.C_below HR631_3.out HB.out) | (with_reducible refine Kd.C_alloc ?_ _) | (with_reducible refine Kd.C_drewN ?_ _) | (with_reducible refine Kd.C_drew ?_)))
         (case side4 => exact HC631_3.out)
         rintro e w11 ⟨rfl, hb⟩
         refine ⟨_, rfl, ?_⟩
         have n0_ := za.mk (zi (by repeat (first | (with_reducible first | exact HB.out | apply zc | apply zb | apply zd) | exact HB.out)) hb)
         clear HB
         have HB := n0_
         clear n0_
         (try clear hb)
         (try clear hb2)
         (try clear hk)
         (try clear hi)
         refine hK.out _ _ ⟨((HB.out.cell (Vy w _ hw628_0)).trans hw628_0), ((HB.out.cell (Vy w _ hw628_1)).trans hw628_1), ((HB.out.cell (Vy w _ hw628_2)).trans hw628_2), ((HB.out.cell (Vy w _ hw628_3)).trans hw628_3), ((HB.out.cell (Vy w _ hw629_0)).trans hw629_0), ((HB.out.cell (Vy w _ hw629_1)).trans hw629_1), ((HB.out.cell (Vy w _ hw629_2)).trans hw629_2), ((HB.out.cell (Vy w _ hw629_3)).trans hw629_3), ((HB.out.cell (Vy w _ hw630_0)).trans hw630_0), ((HB.out.cell (Vy w _ hw630_1)).trans hw630_1), ((HB.out.cell (Vy w _ hw630_2)).trans hw630_2), ((HB.out.cell (Vy w _ hw630_3)).trans hw630_3), ((HB.out.cell (Vy w _ hw631_0)).trans hw631_0), ((HB.out.cell (Vy w _ hw631_1)).trans hw631_1), ((HB.out.cell (Vy w _ hw631_2)).trans hw631_2), ((HB.out.cell (Vy w _ hw631_3)).trans hw631_3)⟩ (fun hHeld => ?_)
         clear hK K
         refine yH (a' := ?_) ?_ ?_
         rotate_left
         ·show Act.put _ (some 39) _ = _
          simp only [Act.put, Vt, Vu, Vv, zx, zz]
          rfl
         refine zZ (i := 23) (N := some 40) (v := ?_) (a' := ?_) #[ZT,ZT,ZT,ZT,ZT,ZT,ZT,ZT,ZT,ZT,ZT,ZT,ZT,ZT,ZT,ZT,ZT,ZT,ZT,ZT,ZT,ZT,ZT,ZT,ZF] rfl rfl (zV HT_.out (by kernel_rfl)) (fun _ _ _ h => h) (Or.inl ⟨by rfl, ?_⟩) ?_ ?_
         rotate_left
         ·intro w'
          go_simp
          with_reducible rfl
         rotate_left
         ·simp only [Act.put, Vt, Vu, Vv, zx, zz]
          rfl
         refine zZ (i := 24) (N := some 41) (v := ?_) (a' := ?_) #[ZT,ZT,ZT,ZT,ZT,ZT,ZT,ZT,ZT,ZT,ZT,ZT,ZT,ZT,ZT,ZT,ZT,ZT,ZT,ZT,ZT,ZT,ZT,ZT,ZT] rfl rfl (zV HT_.out (by kernel_rfl)) (fun _ _ _ h => h) (Or.inl ⟨by rfl, ?_⟩) ?_ ?_
         rotate_left
         ·intro w'
          go_simp
          with_reducible rfl
         rotate_left
         ·simp only [Act.put, Vt, Vu, Vv, zx, zz]
          rfl
         refine q4 (qB HT_.out (by kernel_rfl)) ?_
         try go_wp2
         go_roundg k1
         case measure => have := HK1.out; omega
         case rel => exact ⟨(wrap64 (x5_1 + 1)), (by first | rfl | (simp; done) | (simp [*]; done)), H', ⟨by have := HK1.out; omega⟩, ⟨by repeat (first | (with_reducible first | exact HB.out | apply zc | apply zb | apply zd) | exact HB.out)⟩⟩
        ·replace c9 := VA.mpr c9
         subst c9
         have H1 : (some false) = some r := by rw [if_neg (show ¬ (false = true) by decide)] at H; exact H
         clear H
         have H := H1
         clear H1
         obtain rfl := Option.some.inj H
         try go_wp2
         have n0_ := za.mk (zd HB.out)
         clear HB
         have HB := n0_
         clear n0_
         have p628 : 0 ≤ (x5_1 : Int) := of_decide_eq_true (by first | (with_reducible assumption) | assumption)
         have q628 : x5_1 < (l0.length : Int) := of_decide_eq_true (by first | (with_reducible assumption) | assumption)
         obtain ⟨ad628, A628_3, c628_3, e628, hx628_0, hx628_1, hx628_2, hx628_3, hl628_3, hi628_3⟩ := qc HR0.out x5_1 p628 q628
         have hw628_3 := hx628_3
         have hw628_2 := hx628_2
         have hw628_1 := hx628_1
         have hw628_0 := hx628_0
         cases e628
         replace hx628_0 := (HB.out.cell (Vy w _ hx628_0)).trans hx628_0
         replace hx628_1 := (HB.out.cell (Vy w _ hx628_1)).trans hx628_1
         replace hx628_2 := (HB.out.cell (Vy w _ hx628_2)).trans hx628_2
         replace hx628_3 := (HB.out.cell (Vy w _ hx628_3)).trans hx628_3
         have HR628_3 := za.mk hi628_3
         have HC628_3 := za.mk hl628_3
         clear hi628_3 hl628_3
         replace p628 := eq_true p628
         replace q628 := eq_true q628
         have p629 : 0 ≤ (x5_1 : Int) := of_decide_eq_true (by first | (with_reducible assumption) | assumption)
         have q629 : x5_1 < (l1.length : Int) := of_decide_eq_true (by first | (with_reducible assumption) | assumption)
         obtain ⟨ad629, A629_3, c629_3, e629, hx629_0, hx629_1, hx629_2, hx629_3, hl629_3, hi629_3⟩ := qc HR1.out x5_1 p629 q629
         have hw629_3 := hx629_3
         have hw629_2 := hx629_2
         have hw629_1 := hx629_1
         have hw629_0 := hx629_0
         cases e629
         replace hx629_0 := (HB.out.cell (Vy w _ hx629_0)).trans hx629_0
         replace hx629_1 := (HB.out.cell (Vy w _ hx629_1)).trans hx629_1
         replace hx629_2 := (HB.out.cell (Vy w _ hx629_2)).trans hx629_2
         replace hx629_3 := (HB.out.cell (Vy w _ hx629_3)).trans hx629_3
         have HR629_3 := za.mk hi629_3
         have HC629_3 := za.mk hl629_3
         clear hi629_3 hl629_3
         replace p629 := eq_true p629
         replace q629 := eq_true q629
         have p630 : 0 ≤ (x5_1 : Int) := of_decide_eq_true (by first | (with_reducible assumption) | assumption)
         have q630 : x5_1 < (l0.length : Int) := of_decide_eq_true (by first | (with_reducible assumption) | assumption)
         obtain ⟨ad630, A630_3, c630_3, e630, hx630_0, hx630_1, hx630_2, hx630_3, hl630_3, hi630_3⟩ := qc HR0.out x5_1 p630 q630
         have hw630_3 := hx630_3
         have hw630_2 := hx630_2
         have hw630_1 := hx630_1
         have hw630_0 := hx630_0
         obtain rfl : ad628 = ad630 := (by injection e630)
         replace hx630_0 := (HB.out.cell (Vy w _ hx630_0)).trans hx630_0
         replace hx630_1 := (HB.out.cell (Vy w _ hx630_1)).trans hx630_1
         replace hx630_2 := (HB.out.cell (Vy w _ hx630_2)).trans hx630_2
         replace hx630_3 := (HB.out.cell (Vy w _ hx630_3)).trans hx630_3
         have HR630_3 := za.mk hi630_3
         have HC630_3 := za.mk hl630_3
         clear hi630_3 hl630_3
         replace p630 := eq_true p630
         replace q630 := eq_true q630
         have ea_ := Option.some.inj (hx628_3.symm.trans hx630_3)
         injection ea_ with ea_ en_ ec_
         subst ea_
         subst ec_
         clear en_
         have p631 : 0 ≤ (x5_1 : Int) := of_decide_eq_true (by first | (with_reducible assumption) | assumption)
         have q631 : x5_1 < (l1.length : Int) := of_decide_eq_true (by first | (with_reducible assumption) | assumption)
         obtain ⟨ad631, A631_3, c631_3, e631, hx631_0, hx631_1, hx631_2, hx631_3, hl631_3, hi631_3⟩ := qc HR1.out x5_1 p631 q631
         have hw631_3 := hx631_3
         have hw631_2 := hx631_2
         have hw631_1 := hx631_1
         have hw631_0 := hx631_0
         obtain rfl : ad629 = ad631 := (by injection e631)
         replace hx631_0 := (HB.out.cell (Vy w _ hx631_0)).trans hx631_0
         replace hx631_1 := (HB.out.cell (Vy w _ hx631_1)).trans hx631_1
         replace hx631_2 := (HB.out.cell (Vy w _ hx631_2)).trans hx631_2
         replace hx631_3 := (HB.out.cell (Vy w _ hx631_3)).trans hx631_3
         have HR631_3 := za.mk hi631_3
         have HC631_3 := za.mk hl631_3
         clear hi631_3 hl631_3
         replace p631 := eq_true p631
         replace q631 := eq_true q631
         have ea_ := Option.some.inj (hx629_3.symm.trans hx631_3)
         injection ea_ with ea_ en_ ec_
         subst ea_
         subst ec_
         clear en_
         refine qF (n := 25) (S := fun w' => w'.cell? (ad628.add ((x5_1).toNat * 4)) = some (.string ((zM l0 x5_1).f0)) ∧ w'.cell? ⟨(ad628.add ((x5_1).toNat * 4)).block, (ad628.add ((x5_1).toNat * 4)).off + 1, none⟩ = some (.int .i64 ((zM l0 x5_1).f1.f0)) ∧ w'.cell? ⟨(ad628.add ((x5_1).toNat * 4)).block, (ad628.add ((x5_1).toNat * 4)).off + 2, none⟩ = some (.int .i64 ((zM l0 x5_1).f1.f1)) ∧ w'.cell? ⟨(ad628.add ((x5_1).toNat * 4)).block, (ad628.add ((x5_1).toNat * 4)).off + 3, none⟩ = some (.slice A628_3 ((zM l0 x5_1).f1.f2).length c628_3) ∧ w'.cell? (ad629.add ((x5_1).toNat * 4)) = some (.string ((zM l1 x5_1).f0)) ∧ w'.cell? ⟨(ad629.add ((x5_1).toNat * 4)).block, (ad629.add ((x5_1).toNat * 4)).off + 1, none⟩ = some (.int .i64 ((zM l1 x5_1).f1.f0)) ∧ w'.cell? ⟨(ad629.add ((x5_1).toNat * 4)).block, (ad629.add ((x5_1).toNat * 4)).off + 2, none⟩ = some (.int .i64 ((zM l1 x5_1).f1.f1)) ∧ w'.cell? ⟨(ad629.add ((x5_1).toNat * 4)).block, (ad629.add ((x5_1).toNat * 4)).off + 3, none⟩ = some (.slice A629_3 ((zM l1 x5_1).f1.f2).length c629_3) ∧ w'.cell? (ad628.add ((x5_1).toNat * 4)) = some (.string ((zM l0 x5_1).f0)) ∧ w'.cell? ⟨(ad628.add ((x5_1).toNat * 4)).block, (ad628.add ((x5_1).toNat * 4)).off + 1, none⟩ = some (.int .i64 ((zM l0 x5_1).f1.f0)) ∧ w'.cell? ⟨(ad628.add ((x5_1).toNat * 4)).block, (ad628.add ((x5_1).toNat * 4)).off + 2, none⟩ = some (.int .i64 ((zM l0 x5_1).f1.f1)) ∧ w'.cell? ⟨(ad628.add ((x5_1).toNat * 4)).block, (ad628.add ((x5_1).toNat * 4)).off + 3, none⟩ = some (.slice A628_3 ((zM l0 x5_1).f1.f2).length c628_3) ∧ w'.cell? (ad629.add ((x5_1).toNat * 4)) = some (.string ((zM l1 x5_1).f0)) ∧ w'.cell? ⟨(ad629.add ((x5_1).toNat * 4)).block, (ad629.add ((x5_1).toNat * 4)).off + 1, none⟩ = some (.int .i64 ((zM l1 x5_1).f1.f0)) ∧ w'.cell? ⟨(ad629.add ((x5_1).toNat * 4)).block, (ad629.add ((x5_1).toNat * 4)).off + 2, none⟩ = some (.int .i64 ((zM l1 x5_1).f1.f1)) ∧ w'.cell? ⟨(ad629.add ((x5_1).toNat * 4)).block, (ad629.add ((x5_1).toNat * 4)).off + 3, none⟩ = some (.slice A629_3 ((zM l1 x5_1).f1.f2).length c629_3)) (ds := []) #[ZF,ZF,ZF,ZF,ZF,ZF,ZF,ZF,ZF,ZF,ZF,ZF,ZF,ZF,ZF,ZF,ZF,ZF,ZF,ZF,ZF,ZF,ZF,ZF,ZF] (by kernel_rfl) rfl rfl ⟨((HB.out.cell (Vy w _ hw628_0)).trans hw628_0), ((HB.out.cell (Vy w _ hw628_1)).trans hw628_1), ((HB.out.cell (Vy w _ hw628_2)).trans hw628_2), ((HB.out.cell (Vy w _ hw628_3)).trans hw628_3), ((HB.out.cell (Vy w _ hw629_0)).trans hw629_0), ((HB.out.cell (Vy w _ hw629_1)).trans hw629_1), ((HB.out.cell (Vy w _ hw629_2)).trans hw629_2), ((HB.out.cell (Vy w _ hw629_3)).trans hw629_3), ((HB.out.cell (Vy w _ hw630_0)).trans hw630_0), ((HB.out.cell (Vy w _ hw630_1)).trans hw630_1), ((HB.out.cell (Vy w _ hw630_2)).trans hw630_2), ((HB.out.cell (Vy w _ hw630_3)).trans hw630_3), ((HB.out.cell (Vy w _ hw631_0)).trans hw631_0), ((HB.out.cell (Vy w _ hw631_1)).trans hw631_1), ((HB.out.cell (Vy w _ hw631_2)).trans hw631_2), ((HB.out.cell (Vy w _ hw631_3)).trans hw631_3)⟩ (fun hHeld => ?_); refine xV zS.tab6 zS.bits6 (fun HT_ HW_ => ?_)
         generalize wr.drew = w12 at HB HR628_3 HR629_3 HR630_3 HR631_3 hx628_0 hx628_1 hx628_2 hx628_3 hx629_0 hx629_1 hx629_2 hx629_3 hx630_0 hx630_1 hx630_2 hx630_3 hx631_0 hx631_1 hx631_2 hx631_3 hHeld ⊢
         refine zZ (i := 0) (N := some 17) (v := ?_) (a' := ?_) #[ZT,ZF,ZF,ZF,ZF,ZF,ZF,ZF,ZF,ZF,ZF,ZF,ZF,ZF,ZF,ZF,ZF,ZF,ZF,ZF,ZF,ZF,ZF,ZF,ZF] rfl rfl (zV HT_.out (by kernel_rfl)) (fun _ _ _ h => h) (Or.inl ⟨by rfl, ?_⟩) ?_ ?_
         rotate_left
         ·intro w'
          go_simp
          with_reducible rfl
         rotate_left
         ·simp only [Act.put, Vt, Vu, Vv, zx, zz]
          rfl
         refine zZ (i := 1) (N := some 18) (v := ?_) (a' := ?_) #[ZT,ZT,ZF,ZF,ZF,ZF,ZF,ZF,ZF,ZF,ZF,ZF,ZF,ZF,ZF,ZF,ZF,ZF,ZF,ZF,ZF,ZF,ZF,ZF,ZF] rfl rfl (zV HT_.out (by kernel_rfl)) (fun _ _ _ h => h) (Or.inl ⟨by rfl, ?_⟩) ?_ ?_
         rotate_left
         ·intro w'
          go_simp
          with_reducible rfl
         rotate_left
         ·simp only [Act.put, Vt, Vu, Vv, zx, zz]
          rfl
         refine zZ (i := 2) (N := some 19) (v := ?_) (a' := ?_) #[ZT,ZT,ZT,ZF,ZF,ZF,ZF,ZF,ZF,ZF,ZF,ZF,ZF,ZF,ZF,ZF,ZF,ZF,ZF,ZF,ZF,ZF,ZF,ZF,ZF] rfl rfl (zV HT_.out (by kernel_rfl)) (fun _ _ _ h => h) (Or.inl ⟨by rfl, ?_⟩) ?_ ?_
         rotate_left
         ·intro w'
          go_simp
          with_reducible rfl
         rotate_left
         ·simp only [Act.put, Vt, Vu, Vv, zx, zz]
          rfl
         refine zZ (i := 3) (N := some 20) (v := ?_) (a' := ?_) #[ZT,ZT,ZT,ZT,ZF,ZF,ZF,ZF,ZF,ZF,ZF,ZF,ZF,ZF,ZF,ZF,ZF,ZF,ZF,ZF,ZF,ZF,ZF,ZF,ZF] rfl rfl (zV HT_.out (by kernel_rfl)) (fun _ _ _ h => h) (Or.inl ⟨by rfl, ?_⟩) ?_ ?_
         rotate_left
         ·intro w'
          go_simp
          with_reducible rfl
         rotate_left
         ·simp only [Act.put, Vt, Vu, Vv, zx, zz]
          rfl
         refine zZ (i := 5) (N := some 22) (v := ?_) (a' := ?_) #[ZT,ZT,ZT,ZT,ZF,ZT,ZF,ZF,ZF,ZF,ZF,ZF,ZF,ZF,ZF,ZF,ZF,ZF,ZF,ZF,ZF,ZF,ZF,ZF,ZF] rfl rfl (zV HT_.out (by kernel_rfl)) (fun _ _ _ h => h) (Or.inl ⟨by rfl, ?_⟩) ?_ ?_
         rotate_left
         ·intro w'
          go_simp
          with_reducible rfl
         rotate_left
         ·simp only [Act.put, Vt, Vu, Vv, zx, zz]
          rfl
         refine zZ (i := 6) (N := some 23) (v := ?_) (a' := ?_) #[ZT,ZT,ZT,ZT,ZF,ZT,ZT,ZF,ZF,ZF,ZF,ZF,ZF,ZF,ZF,ZF,ZF,ZF,ZF,ZF,ZF,ZF,ZF,ZF,ZF] rfl rfl (zV HT_.out (by kernel_rfl)) (fun _ _ _ h => h) (Or.inl ⟨by rfl, ?_⟩) ?_ ?_
         rotate_left
         ·intro w'
          go_simp
          with_reducible rfl
         rotate_left
         ·simp only [Act.put, Vt, Vu, Vv, zx, zz]
          rfl
         refine zZ (i := 7) (N := some 24) (v := ?_) (a' := ?_) #[ZT,ZT,ZT,ZT,ZF,ZT,ZT,ZT,ZF,ZF,ZF,ZF,ZF,ZF,ZF,ZF,ZF,ZF,ZF,ZF,ZF,ZF,ZF,ZF,ZF] rfl rfl (zV HT_.out (by kernel_rfl)) (fun _ _ _ h => h) (Or.inl ⟨by rfl, ?_⟩) ?_ ?_
         rotate_left
         ·intro w'
          go_simp
          with_reducible rfl
         rotate_left
         ·simp only [Act.put, Vt, Vu, Vv, zx, zz]
          rfl
         refine zZ (i := 8) (N := some 25) (v := ?_) (a' := ?_) #[ZT,ZT,ZT,ZT,ZF,ZT,ZT,ZT,ZT,ZF,ZF,ZF,ZF,ZF,ZF,ZF,ZF,ZF,ZF,ZF,ZF,ZF,ZF,ZF,ZF] rfl rfl (zV HT_.out (by kernel_rfl)) (fun _ _ _ h => h) (Or.inl ⟨by rfl, ?_⟩) ?_ ?_
         rotate_left
         ·intro w'
          go_simp
          with_reducible rfl
         rotate_left
         ·simp only [Act.put, Vt, Vu, Vv, zx, zz]
          rfl
         refine take_ (i := 4) (N := some 21) (v := ?_) (a' := ?_) #[ZT,ZT,ZT,ZT,ZT,ZT,ZT,ZT,ZT,ZF,ZF,ZF,ZF,ZF,ZF,ZF,ZF,ZF,ZF,ZF,ZF,ZF,ZF,ZF,ZF] rfl rfl (yN HT_.out HW_.out (by kernel_rfl)) (fun _ _ _ h => h) (Or.inl ⟨by rfl, ?_⟩) hHeld ?_ ?_
         rotate_left
         ·rintro w' ⟨s0, s1, s2, s3, s4, s5, s6, s7, s8, s9, s10, s11, s12, s13, s14, s15⟩
          go_simp
          with_reducible rfl
         rotate_left
         ·simp only [Act.put, Vt, Vu, Vv, zx, zz]
          rfl
         refine take_ (i := 9) (N := some 26) (v := ?_) (a' := ?_) #[ZT,ZT,ZT,ZT,ZT,ZT,ZT,ZT,ZT,ZT,ZF,ZF,ZF,ZF,ZF,ZF,ZF,ZF,ZF,ZF,ZF,ZF,ZF,ZF,ZF] rfl rfl (yN HT_.out HW_.out (by kernel_rfl)) (fun _ _ _ h => h) (Or.inl ⟨by rfl, ?_⟩) hHeld ?_ ?_
         rotate_left
         ·rintro w' ⟨s0, s1, s2, s3, s4, s5, s6, s7, s8, s9, s10, s11, s12, s13, s14, s15⟩
          go_simp
          with_reducible rfl
         rotate_left
         ·simp only [Act.put, Vt, Vu, Vv, zx, zz]
          rfl
         refine zZ (i := 10) (N := some 27) (v := ?_) (a' := ?_) #[ZT,ZT,ZT,ZT,ZT,ZT,ZT,ZT,ZT,ZT,ZT,ZF,ZF,ZF,ZF,ZF,ZF,ZF,ZF,ZF,ZF,ZF,ZF,ZF,ZF] rfl rfl (zV HT_.out (by kernel_rfl)) (fun _ _ _ h => h) (Or.inl ⟨by rfl, ?_⟩) ?_ ?_
         rotate_left
         ·intro w'
          go_simp
          with_reducible rfl
         rotate_left
         ·simp only [Act.put, Vt, Vu, Vv, zx, zz]
          rfl
         refine zZ (i := 11) (N := some 28) (v := ?_) (a' := ?_) #[ZT,ZT,ZT,ZT,ZT,ZT,ZT,ZT,ZT,ZT,ZT,ZT,ZF,ZF,ZF,ZF,ZF,ZF,ZF,ZF,ZF,ZF,ZF,ZF,ZF] rfl rfl (zV HT_.out (by kernel_rfl)) (fun _ _ _ h => h) (Or.inl ⟨by rfl, ?_⟩) ?_ ?_
         rotate_left
         ·intro w'
          go_simp
          with_reducible rfl
         rotate_left
         ·simp only [Act.put, Vt, Vu, Vv, zx, zz]
          rfl
         refine zZ (i := 12) (N := some 29) (v := ?_) (a' := ?_) #[ZT,ZT,ZT,ZT,ZT,ZT,ZT,ZT,ZT,ZT,ZT,ZT,ZT,ZF,ZF,ZF,ZF,ZF,ZF,ZF,ZF,ZF,ZF,ZF,ZF] rfl rfl (zV HT_.out (by kernel_rfl)) (fun _ _ _ h => h) (Or.inl ⟨by rfl, ?_⟩) ?_ ?_
         rotate_left
         ·intro w'
          go_simp
          with_reducible rfl
         rotate_left
         ·simp only [Act.put, Vt, Vu, Vv, zx, zz]
          rfl
         refine zZ (i := 13) (N := some 30) (v := ?_) (a' := ?_) #[ZT,ZT,ZT,ZT,ZT,ZT,ZT,ZT,ZT,ZT,ZT,ZT,ZT,ZT,ZF,ZF,ZF,ZF,ZF,ZF,ZF,ZF,ZF,ZF,ZF] rfl rfl (zV HT_.out (by kernel_rfl)) (fun _ _ _ h => h) (Or.inl ⟨by rfl, ?_⟩) ?_ ?_
         rotate_left
         ·intro w'
          go_simp
          with_reducible rfl
         rotate_left
         ·simp only [Act.put, Vt, Vu, Vv, zx, zz]
          rfl
         refine zZ (i := 14) (N := some 31) (v := ?_) (a' := ?_) #[ZT,ZT,ZT,ZT,ZT,ZT,ZT,ZT,ZT,ZT,ZT,ZT,ZT,ZT,ZT,ZF,ZF,ZF,ZF,ZF,ZF,ZF,ZF,ZF,ZF] rfl rfl (zV HT_.out (by kernel_rfl)) (fun _ _ _ h => h) (Or.inl ⟨by rfl, ?_⟩) ?_ ?_
         rotate_left
         ·intro w'
          go_simp
          with_reducible rfl
         rotate_left
         ·simp only [Act.put, Vt, Vu, Vv, zx, zz]
          rfl
         refine zZ (i := 15) (N := some 32) (v := ?_) (a' := ?_) #[ZT,ZT,ZT,ZT,ZT,ZT,ZT,ZT,ZT,ZT,ZT,ZT,ZT,ZT,ZT,ZT,ZF,ZF,ZF,ZF,ZF,ZF,ZF,ZF,ZF] rfl rfl (zV HT_.out (by kernel_rfl)) (fun _ _ _ h => h) (Or.inl ⟨by rfl, ?_⟩) ?_ ?_
         rotate_left
         ·intro w'
          go_simp
          with_reducible rfl
         rotate_left
         ·simp only [Act.put, Vt, Vu, Vv, zx, zz]
          rfl
         refine zZ (i := 17) (N := some 34) (v := ?_) (a' := ?_) #[ZT,ZT,ZT,ZT,ZT,ZT,ZT,ZT,ZT,ZT,ZT,ZT,ZT,ZT,ZT,ZT,ZF,ZT,ZF,ZF,ZF,ZF,ZF,ZF,ZF] rfl rfl (zV HT_.out (by kernel_rfl)) (fun _ _ _ h => h) (Or.inl ⟨by rfl, ?_⟩) ?_ ?_
         rotate_left
         ·intro w'
          go_simp
          with_reducible rfl
         rotate_left
         ·simp only [Act.put, Vt, Vu, Vv, zx, zz]
          rfl
         refine zZ (i := 18) (N := some 35) (v := ?_) (a' := ?_) #[ZT,ZT,ZT,ZT,ZT,ZT,ZT,ZT,ZT,ZT,ZT,ZT,ZT,ZT,ZT,ZT,ZF,ZT,ZT,ZF,ZF,ZF,ZF,ZF,ZF] rfl rfl (zV HT_.out (by kernel_rfl)) (fun _ _ _ h => h) (Or.inl ⟨by rfl, ?_⟩) ?_ ?_
         rotate_left
         ·intro w'
          go_simp
          with_reducible rfl
         rotate_left
         ·simp only [Act.put, Vt, Vu, Vv, zx, zz]
          rfl
         refine zZ (i := 19) (N := some 36) (v := ?_) (a' := ?_) #[ZT,ZT,ZT,ZT,ZT,ZT,ZT,ZT,ZT,ZT,ZT,ZT,ZT,ZT,ZT,ZT,ZF,ZT,ZT,ZT,ZF,ZF,ZF,ZF,ZF] rfl rfl (zV HT_.out (by kernel_rfl)) (fun _ _ _ h => h) (Or.inl ⟨by rfl, ?_⟩) ?_ ?_
         rotate_left
         ·intro w'
          go_simp
          with_reducible rfl
         rotate_left
         ·simp only [Act.put, Vt, Vu, Vv, zx, zz]
          rfl
         refine zZ (i := 20) (N := some 37) (v := ?_) (a' := ?_) #[ZT,ZT,ZT,ZT,ZT,ZT,ZT,ZT,ZT,ZT,ZT,ZT,ZT,ZT,ZT,ZT,ZF,ZT,ZT,ZT,ZT,ZF,ZF,ZF,ZF] rfl rfl (zV HT_.out (by kernel_rfl)) (fun _ _ _ h => h) (Or.inl ⟨by rfl, ?_⟩) ?_ ?_
         rotate_left
         ·intro w'
          go_simp
          with_reducible rfl
         rotate_left
         ·simp only [Act.put, Vt, Vu, Vv, zx, zz]
          rfl
         refine take_ (i := 16) (N := some 33) (v := ?_) (a' := ?_) #[ZT,ZT,ZT,ZT,ZT,ZT,ZT,ZT,ZT,ZT,ZT,ZT,ZT,ZT,ZT,ZT,ZT,ZT,ZT,ZT,ZT,ZF,ZF,ZF,ZF] rfl rfl (yN HT_.out HW_.out (by kernel_rfl)) (fun _ _ _ h => h) (Or.inl ⟨by rfl, ?_⟩) hHeld ?_ ?_
         rotate_left
         ·rintro w' ⟨s0, s1, s2, s3, s4, s5, s6, s7, s8, s9, s10, s11, s12, s13, s14, s15⟩
          go_simp
          with_reducible rfl
         rotate_left
         ·simp only [Act.put, Vt, Vu, Vv, zx, zz]
          rfl
         refine take_ (i := 21) (N := some 38) (v := ?_) (a' := ?_) #[ZT,ZT,ZT,ZT,ZT,ZT,ZT,ZT,ZT,ZT,ZT,ZT,ZT,ZT,ZT,ZT,ZT,ZT,ZT,ZT,ZT,ZT,ZF,ZF,ZF] rfl rfl (yN HT_.out HW_.out (by kernel_rfl)) (fun _ _ _ h => h) (Or.inl ⟨by rfl, ?_⟩) hHeld ?_ ?_
         rotate_left
         ·rintro w' ⟨s0, s1, s2, s3, s4, s5, s6, s7, s8, s9, s10, s11, s12, s13, s14, s15⟩
          go_simp
          with_reducible rfl
         rotate_left
         ·simp only [Act.put, Vt, Vu, Vv, zx, zz]
          rfl
         refine xC (i := 22) (N := some 39) #[ZT,ZT,ZT,ZT,ZT,ZT,ZT,ZT,ZT,ZT,ZT,ZT,ZT,ZT,ZT,ZT,ZT,ZT,ZT,ZT,ZT,ZT,ZT,ZF,ZF] rfl rfl (y9 HT_.out (by kernel_rfl)) (by decide) (fun K hK => ?_)
         refine xa Try.func81 (by kernel_rfl) rfl #[.agg #[.int .i64 ((zM l0 x5_1).f1.f0), .int .i64 ((zM l0 x5_1).f1.f1), .slice A628_3 ((zM l0 x5_1).f1.f2).length c628_3], .agg #[.int .i64 ((zM l1 x5_1).f1.f0), .int .i64 ((zM l1 x5_1).f1.f1), .slice A629_3 ((zM l1 x5_1).f1.f2).length c629_3]] (by rfl) rfl rfl (by (try simp only [Vw, List.map_cons, List.map_nil]); first | done | rfl | (simp only [List.length_drop, List.length_take]; rfl)) ?_
         with_reducible refine (xw.calls k1 ((zM l0 x5_1).f1.f0) ((zM l0 x5_1).f1.f1) _ _ ((zM l0 x5_1).f1.f2) ((zM l1 x5_1).f1.f0) ((zM l1 x5_1).f1.f1) _ _ ((zM l1 x5_1).f1.f2) false _ ?side1 ?side2 ?side3 ?side4 A8.out).mono ?_
         (case side1 => repeat (first | exact (Kd.C_below HR630_3.out HB.out) | (with_reducible refine Kd.C_alloc ?_ _) | (with_reducible refine Kd.C_drewN ?_ _) | (with_reducible refine Kd.C_drew ?_)))
         (case side2 => exact HC630_3.out)
         (case side3 => repeat (first | exact (Kd.C_below HR631_3.out HB.out) | (with_reducible refine Kd.C_alloc ?_ _) | (with_reducible refine Kd.C_drewN ?_ _) | (with_reducible refine Kd.C_drew ?_)))
         (case side4 => exact HC631_3.out)
         rintro e w13 ⟨rfl, hb⟩
         refine ⟨_, rfl, ?_⟩
         have n0_ := za.mk (zi (by repeat (first | (with_reducible first | exact HB.out | apply zc | apply zb | apply zd) | exact HB.out)) hb)
         clear HB
         have HB := n0_
         clear n0_
         (try clear hb)
         (try clear hb2)
         (try clear hk)
         (try clear hi)
         refine hK.out _ _ ⟨((HB.out.cell (Vy w _ hw628_0)).trans hw628_0), ((HB.out.cell (Vy w _ hw628_1)).trans hw628_1), ((HB.out.cell (Vy w _ hw628_2)).trans hw628_2), ((HB.out.cell (Vy w _ hw628_3)).trans hw628_3), ((HB.out.cell (Vy w _ hw629_0)).trans hw629_0), ((HB.out.cell (Vy w _ hw629_1)).trans hw629_1), ((HB.out.cell (Vy w _ hw629_2)).trans hw629_2), ((HB.out.cell (Vy w _ hw629_3)).trans hw629_3), ((HB.out.cell (Vy w _ hw630_0)).trans hw630_0), ((HB.out.cell (Vy w _ hw630_1)).trans hw630_1), ((HB.out.cell (Vy w _ hw630_2)).trans hw630_2), ((HB.out.cell (Vy w _ hw630_3)).trans hw630_3), ((HB.out.cell (Vy w _ hw631_0)).trans hw631_0), ((HB.out.cell (Vy w _ hw631_1)).trans hw631_1), ((HB.out.cell (Vy w _ hw631_2)).trans hw631_2), ((HB.out.cell (Vy w _ hw631_3)).trans hw631_3)⟩ (fun hHeld => ?_)
         clear hK K
         refine yH (a' := ?_) ?_ ?_
         rotate_left
         ·show Act.put _ (some 39) _ = _
          simp only [Act.put, Vt, Vu, Vv, zx, zz]
          rfl
         refine zZ (i := 23) (N := some 40) (v := ?_) (a' := ?_) #[ZT,ZT,ZT,ZT,ZT,ZT,ZT,ZT,ZT,ZT,ZT,ZT,ZT,ZT,ZT,ZT,ZT,ZT,ZT,ZT,ZT,ZT,ZT,ZT,ZF] rfl rfl (zV HT_.out (by kernel_rfl)) (fun _ _ _ h => h) (Or.inl ⟨by rfl, ?_⟩) ?_ ?_
         rotate_left
         ·intro w'
          go_simp
          with_reducible rfl
         rotate_left
         ·simp only [Act.put, Vt, Vu, Vv, zx, zz]
          rfl
         refine zZ (i := 24) (N := some 41) (v := ?_) (a' := ?_) #[ZT,ZT,ZT,ZT,ZT,ZT,ZT,ZT,ZT,ZT,ZT,ZT,ZT,ZT,ZT,ZT,ZT,ZT,ZT,ZT,ZT,ZT,ZT,ZT,ZT] rfl rfl (zV HT_.out (by kernel_rfl)) (fun _ _ _ h => h) (Or.inl ⟨by rfl, ?_⟩) ?_ ?_
         rotate_left
         ·intro w'
          go_simp
          with_reducible rfl
         rotate_left
         ·simp only [Act.put, Vt, Vu, Vv, zx, zz]
          rfl
         refine q4 (qB HT_.out (by kernel_rfl)) ?_
         try go_wp2
         go_ret
         exact ⟨by first | rfl | (simp [zn, zo] <;> rfl) | (simp [*, zn, zo] <;> rfl), by repeat (first | (with_reducible first | exact HB.out | apply zc | apply zb | apply zd) | exact HB.out)⟩
       ·rw [if_neg c7] at H
        have c7b0 : (((zM l0 x5_1).f0).toList == ((zM l1 x5_1).f0).toList) = false := beq_eq_false_iff_ne.mpr c7
        have c7b1 : (((zM l0 x5_1).f0).toList != ((zM l1 x5_1).f0).toList) = true := bne_iff_ne.mpr c7
        obtain rfl := Option.some.inj H
        try go_wp2
        have n0_ := za.mk (zd HB.out)
        clear HB
        have HB := n0_
        clear n0_
        have p628 : 0 ≤ (x5_1 : Int) := of_decide_eq_true (by first | (with_reducible assumption) | assumption)
        have q628 : x5_1 < (l0.length : Int) := of_decide_eq_true (by first | (with_reducible assumption) | assumption)
        obtain ⟨ad628, A628_3, c628_3, e628, hx628_0, hx628_1, hx628_2, hx628_3, hl628_3, hi628_3⟩ := qc HR0.out x5_1 p628 q628
        have hw628_3 := hx628_3
        have hw628_2 := hx628_2
        have hw628_1 := hx628_1
        have hw628_0 := hx628_0
        cases e628
        replace hx628_0 := (HB.out.cell (Vy w _ hx628_0)).trans hx628_0
        replace hx628_1 := (HB.out.cell (Vy w _ hx628_1)).trans hx628_1
        replace hx628_2 := (HB.out.cell (Vy w _ hx628_2)).trans hx628_2
        replace hx628_3 := (HB.out.cell (Vy w _ hx628_3)).trans hx628_3
        have HR628_3 := za.mk hi628_3
        have HC628_3 := za.mk hl628_3
        clear hi628_3 hl628_3
        replace p628 := eq_true p628
        replace q628 := eq_true q628
        have p629 : 0 ≤ (x5_1 : Int) := of_decide_eq_true (by first | (with_reducible assumption) | assumption)
        have q629 : x5_1 < (l1.length : Int) := of_decide_eq_true (by first | (with_reducible assumption) | assumption)
        obtain ⟨ad629, A629_3, c629_3, e629, hx629_0, hx629_1, hx629_2, hx629_3, hl629_3, hi629_3⟩ := qc HR1.out x5_1 p629 q629
        have hw629_3 := hx629_3
        have hw629_2 := hx629_2
        have hw629_1 := hx629_1
        have hw629_0 := hx629_0
        cases e629
        replace hx629_0 := (HB.out.cell (Vy w _ hx629_0)).trans hx629_0
        replace hx629_1 := (HB.out.cell (Vy w _ hx629_1)).trans hx629_1
        replace hx629_2 := (HB.out.cell (Vy w _ hx629_2)).trans hx629_2
        replace hx629_3 := (HB.out.cell (Vy w _ hx629_3)).trans hx629_3
        have HR629_3 := za.mk hi629_3
        have HC629_3 := za.mk hl629_3
        clear hi629_3 hl629_3
        replace p629 := eq_true p629
        replace q629 := eq_true q629
        refine qF (n := 25) (S := fun w' => w'.cell? (ad628.add ((x5_1).toNat * 4)) = some (.string ((zM l0 x5_1).f0)) ∧ w'.cell? ⟨(ad628.add ((x5_1).toNat * 4)).block, (ad628.add ((x5_1).toNat * 4)).off + 1, none⟩ = some (.int .i64 ((zM l0 x5_1).f1.f0)) ∧ w'.cell? ⟨(ad628.add ((x5_1).toNat * 4)).block, (ad628.add ((x5_1).toNat * 4)).off + 2, none⟩ = some (.int .i64 ((zM l0 x5_1).f1.f1)) ∧ w'.cell? ⟨(ad628.add ((x5_1).toNat * 4)).block, (ad628.add ((x5_1).toNat * 4)).off + 3, none⟩ = some (.slice A628_3 ((zM l0 x5_1).f1.f2).length c628_3) ∧ w'.cell? (ad629.add ((x5_1).toNat * 4)) = some (.string ((zM l1 x5_1).f0)) ∧ w'.cell? ⟨(ad629.add ((x5_1).toNat * 4)).block, (ad629.add ((x5_1).toNat * 4)).off + 1, none⟩ = some (.int .i64 ((zM l1 x5_1).f1.f0)) ∧ w'.cell? ⟨(ad629.add ((x5_1).toNat * 4)).block, (ad629.add ((x5_1).toNat * 4)).off + 2, none⟩ = some (.int .i64 ((zM l1 x5_1).f1.f1)) ∧ w'.cell? ⟨(ad629.add ((x5_1).toNat * 4)).block, (ad629.add ((x5_1).toNat * 4)).off + 3, none⟩ = some (.slice A629_3 ((zM l1 x5_1).f1.f2).length c629_3)) (ds := []) #[ZF,ZF,ZF,ZF,ZF,ZF,ZF,ZF,ZF,ZF,ZF,ZF,ZF,ZF,ZF,ZF,ZF,ZF,ZF,ZF,ZF,ZF,ZF,ZF,ZF] (by kernel_rfl) rfl rfl ⟨((HB.out.cell (Vy w _ hw628_0)).trans hw628_0), ((HB.out.cell (Vy w _ hw628_1)).trans hw628_1), ((HB.out.cell (Vy w _ hw628_2)).trans hw628_2), ((HB.out.cell (Vy w _ hw628_3)).trans hw628_3), ((HB.out.cell (Vy w _ hw629_0)).trans hw629_0), ((HB.out.cell (Vy w _ hw629_1)).trans hw629_1), ((HB.out.cell (Vy w _ hw629_2)).trans hw629_2), ((HB.out.cell (Vy w _ hw629_3)).trans hw629_3)⟩ (fun hHeld => ?_); refine xV zS.tab6 zS.bits6 (fun HT_ HW_ => ?_)
        generalize wr.drew = w14 at HB HR628_3 HR629_3 hx628_0 hx628_1 hx628_2 hx628_3 hx629_0 hx629_1 hx629_2 hx629_3 hHeld ⊢
        refine zZ (i := 0) (N := some 17) (v := ?_) (a' := ?_) #[ZT,ZF,ZF,ZF,ZF,ZF,ZF,ZF,ZF,ZF,ZF,ZF,ZF,ZF,ZF,ZF,ZF,ZF,ZF,ZF,ZF,ZF,ZF,ZF,ZF] rfl rfl (zV HT_.out (by kernel_rfl)) (fun _ _ _ h => h) (Or.inl ⟨by rfl, ?_⟩) ?_ ?_
        rotate_left
        ·intro w'
         go_simp
         with_reducible rfl
        rotate_left
        ·simp only [Act.put, Vt, Vu, Vv, zx, zz]
         rfl
        refine zZ (i := 1) (N := some 18) (v := ?_) (a' := ?_) #[ZT,ZT,ZF,ZF,ZF,ZF,ZF,ZF,ZF,ZF,ZF,ZF,ZF,ZF,ZF,ZF,ZF,ZF,ZF,ZF,ZF,ZF,ZF,ZF,ZF] rfl rfl (zV HT_.out (by kernel_rfl)) (fun _ _ _ h => h) (Or.inl ⟨by rfl, ?_⟩) ?_ ?_
        rotate_left
        ·intro w'
         go_simp
         with_reducible rfl
        rotate_left
        ·simp only [Act.put, Vt, Vu, Vv, zx, zz]
         rfl
        refine zZ (i := 2) (N := some 19) (v := ?_) (a' := ?_) #[ZT,ZT,ZT,ZF,ZF,ZF,ZF,ZF,ZF,ZF,ZF,ZF,ZF,ZF,ZF,ZF,ZF,ZF,ZF,ZF,ZF,ZF,ZF,ZF,ZF] rfl rfl (zV HT_.out (by kernel_rfl)) (fun _ _ _ h => h) (Or.inl ⟨by rfl, ?_⟩) ?_ ?_
        rotate_left
        ·intro w'
         go_simp
         with_reducible rfl
        rotate_left
        ·simp only [Act.put, Vt, Vu, Vv, zx, zz]
         rfl
        refine zZ (i := 3) (N := some 20) (v := ?_) (a' := ?_) #[ZT,ZT,ZT,ZT,ZF,ZF,ZF,ZF,ZF,ZF,ZF,ZF,ZF,ZF,ZF,ZF,ZF,ZF,ZF,ZF,ZF,ZF,ZF,ZF,ZF] rfl rfl (zV HT_.out (by kernel_rfl)) (fun _ _ _ h => h) (Or.inl ⟨by rfl, ?_⟩) ?_ ?_
        rotate_left
        ·intro w'
         go_simp
         with_reducible rfl
        rotate_left
        ·simp only [Act.put, Vt, Vu, Vv, zx, zz]
         rfl
        refine zZ (i := 5) (N := some 22) (v := ?_) (a' := ?_) #[ZT,ZT,ZT,ZT,ZF,ZT,ZF,ZF,ZF,ZF,ZF,ZF,ZF,ZF,ZF,ZF,ZF,ZF,ZF,ZF,ZF,ZF,ZF,ZF,ZF] rfl rfl (zV HT_.out (by kernel_rfl)) (fun _ _ _ h => h) (Or.inl ⟨by rfl, ?_⟩) ?_ ?_
        rotate_left
        ·intro w'
         go_simp
         with_reducible rfl
        rotate_left
        ·simp only [Act.put, Vt, Vu, Vv, zx, zz]
         rfl
        refine zZ (i := 6) (N := some 23) (v := ?_) (a' := ?_) #[ZT,ZT,ZT,ZT,ZF,ZT,ZT,ZF,ZF,ZF,ZF,ZF,ZF,ZF,ZF,ZF,ZF,ZF,ZF,ZF,ZF,ZF,ZF,ZF,ZF] rfl rfl (zV HT_.out (by kernel_rfl)) (fun _ _ _ h => h) (Or.inl ⟨by rfl, ?_⟩) ?_ ?_
        rotate_left
        ·intro w'
         go_simp
         with_reducible rfl
        rotate_left
        ·simp only [Act.put, Vt, Vu, Vv, zx, zz]
         rfl
        refine zZ (i := 7) (N := some 24) (v := ?_) (a' := ?_) #[ZT,ZT,ZT,ZT,ZF,ZT,ZT,ZT,ZF,ZF,ZF,ZF,ZF,ZF,ZF,ZF,ZF,ZF,ZF,ZF,ZF,ZF,ZF,ZF,ZF] rfl rfl (zV HT_.out (by kernel_rfl)) (fun _ _ _ h => h) (Or.inl ⟨by rfl, ?_⟩) ?_ ?_
        rotate_left
        ·intro w'
         go_simp
         with_reducible rfl
        rotate_left
        ·simp only [Act.put, Vt, Vu, Vv, zx, zz]
         rfl
        refine zZ (i := 8) (N := some 25) (v := ?_) (a' := ?_) #[ZT,ZT,ZT,ZT,ZF,ZT,ZT,ZT,ZT,ZF,ZF,ZF,ZF,ZF,ZF,ZF,ZF,ZF,ZF,ZF,ZF,ZF,ZF,ZF,ZF] rfl rfl (zV HT_.out (by kernel_rfl)) (fun _ _ _ h => h) (Or.inl ⟨by rfl, ?_⟩) ?_ ?_
        rotate_left
        ·intro w'
         go_simp
         with_reducible rfl
        rotate_left
        ·simp only [Act.put, Vt, Vu, Vv, zx, zz]
         rfl
        refine take_ (i := 4) (N := some 21) (v := ?_) (a' := ?_) #[ZT,ZT,ZT,ZT,ZT,ZT,ZT,ZT,ZT,ZF,ZF,ZF,ZF,ZF,ZF,ZF,ZF,ZF,ZF,ZF,ZF,ZF,ZF,ZF,ZF] rfl rfl (yN HT_.out HW_.out (by kernel_rfl)) (fun _ _ _ h => h) (Or.inl ⟨by rfl, ?_⟩) hHeld ?_ ?_
        rotate_left
        ·rintro w' ⟨s0, s1, s2, s3, s4, s5, s6, s7⟩
         go_simp
         with_reducible rfl
        rotate_left
        ·simp only [Act.put, Vt, Vu, Vv, zx, zz]
         rfl
        refine take_ (i := 9) (N := some 26) (v := ?_) (a' := ?_) #[ZT,ZT,ZT,ZT,ZT,ZT,ZT,ZT,ZT,ZT,ZF,ZF,ZF,ZF,ZF,ZF,ZF,ZF,ZF,ZF,ZF,ZF,ZF,ZF,ZF] rfl rfl (yN HT_.out HW_.out (by kernel_rfl)) (fun _ _ _ h => h) (Or.inl ⟨by rfl, ?_⟩) hHeld ?_ ?_
        rotate_left
        ·rintro w' ⟨s0, s1, s2, s3, s4, s5, s6, s7⟩
         go_simp
         with_reducible rfl
        rotate_left
        ·simp only [Act.put, Vt, Vu, Vv, zx, zz]
         rfl
        refine zZ (i := 10) (N := some 27) (v := ?_) (a' := ?_) #[ZT,ZT,ZT,ZT,ZT,ZT,ZT,ZT,ZT,ZT,ZT,ZF,ZF,ZF,ZF,ZF,ZF,ZF,ZF,ZF,ZF,ZF,ZF,ZF,ZF] rfl rfl (zV HT_.out (by kernel_rfl)) (fun _ _ _ h => h) (Or.inl ⟨by rfl, ?_⟩) ?_ ?_
        rotate_left
        ·intro w'
         go_simp
         with_reducible rfl
        rotate_left
        ·simp only [Act.put, Vt, Vu, Vv, zx, zz]
         rfl
        refine zZ (i := 11) (N := some 28) (v := ?_) (a' := ?_) #[ZT,ZT,ZT,ZT,ZT,ZT,ZT,ZT,ZT,ZT,ZT,ZT,ZF,ZF,ZF,ZF,ZF,ZF,ZF,ZF,ZF,ZF,ZF,ZF,ZF] rfl rfl (zV HT_.out (by kernel_rfl)) (fun _ _ _ h => h) (Or.inl ⟨by rfl, ?_⟩) ?_ ?_
        rotate_left
        ·intro w'
         go_simp
         with_reducible rfl
        rotate_left
        ·simp only [Act.put, Vt, Vu, Vv, zx, zz]
         rfl
        refine zZ (i := 12) (N := some 29) (v := undef) (a' := ?_) #[ZT,ZT,ZT,ZT,ZT,ZT,ZT,ZT,ZT,ZT,ZT,ZT,ZT,ZF,ZF,ZF,ZF,ZF,ZF,ZF,ZF,ZF,ZF,ZF,ZF] rfl rfl (zV HT_.out (by kernel_rfl)) (fun _ _ _ h => h) (Or.inr ⟨by rfl, rfl⟩) ?_ ?_
        rotate_left
        ·simp only [Act.put, Vt, Vu, Vv, zx, zz]
         rfl
        refine zZ (i := 13) (N := some 30) (v := undef) (a' := ?_) #[ZT,ZT,ZT,ZT,ZT,ZT,ZT,ZT,ZT,ZT,ZT,ZT,ZT,ZT,ZF,ZF,ZF,ZF,ZF,ZF,ZF,ZF,ZF,ZF,ZF] rfl rfl (zV HT_.out (by kernel_rfl)) (fun _ _ _ h => h) (Or.inr ⟨by rfl, rfl⟩) ?_ ?_
        rotate_left
        ·simp only [Act.put, Vt, Vu, Vv, zx, zz]
         rfl
        refine zZ (i := 14) (N := some 31) (v := undef) (a' := ?_) #[ZT,ZT,ZT,ZT,ZT,ZT,ZT,ZT,ZT,ZT,ZT,ZT,ZT,ZT,ZT,ZF,ZF,ZF,ZF,ZF,ZF,ZF,ZF,ZF,ZF] rfl rfl (zV HT_.out (by kernel_rfl)) (fun _ _ _ h => h) (Or.inr ⟨by rfl, rfl⟩) ?_ ?_
        rotate_left
        ·simp only [Act.put, Vt, Vu, Vv, zx, zz]
         rfl
        refine zZ (i := 15) (N := some 32) (v := undef) (a' := ?_) #[ZT,ZT,ZT,ZT,ZT,ZT,ZT,ZT,ZT,ZT,ZT,ZT,ZT,ZT,ZT,ZT,ZF,ZF,ZF,ZF,ZF,ZF,ZF,ZF,ZF] rfl rfl (zV HT_.out (by kernel_rfl)) (fun _ _ _ h => h) (Or.inr ⟨by rfl, rfl⟩) ?_ ?_
        rotate_left
        ·simp only [Act.put, Vt, Vu, Vv, zx, zz]
         rfl
        refine zZ (i := 16) (N := some 33) (v := undef) (a' := ?_) #[ZT,ZT,ZT,ZT,ZT,ZT,ZT,ZT,ZT,ZT,ZT,ZT,ZT,ZT,ZT,ZT,ZT,ZF,ZF,ZF,ZF,ZF,ZF,ZF,ZF] rfl rfl (zV HT_.out (by kernel_rfl)) (fun _ _ _ h => h) (Or.inr ⟨by rfl, rfl⟩) ?_ ?_
        rotate_left
        ·simp only [Act.put, Vt, Vu, Vv, zx, zz]
         rfl
        refine zZ (i := 17) (N := some 34) (v := undef) (a' := ?_) #[ZT,ZT,ZT,ZT,ZT,ZT,ZT,ZT,ZT,ZT,ZT,ZT,ZT,ZT,ZT,ZT,ZT,ZT,ZF,ZF,ZF,ZF,ZF,ZF,ZF] rfl rfl (zV HT_.out (by kernel_rfl)) (fun _ _ _ h => h) (Or.inr ⟨by rfl, rfl⟩) ?_ ?_
        rotate_left
        ·simp only [Act.put, Vt, Vu, Vv, zx, zz]
         rfl
        refine zZ (i := 18) (N := some 35) (v := undef) (a' := ?_) #[ZT,ZT,ZT,ZT,ZT,ZT,ZT,ZT,ZT,ZT,ZT,ZT,ZT,ZT,ZT,ZT,ZT,ZT,ZT,ZF,ZF,ZF,ZF,ZF,ZF] rfl rfl (zV HT_.out (by kernel_rfl)) (fun _ _ _ h => h) (Or.inr ⟨by rfl, rfl⟩) ?_ ?_
        rotate_left
        ·simp only [Act.put, Vt, Vu, Vv, zx, zz]
         rfl
        refine zZ (i := 19) (N := some 36) (v := undef) (a' := ?_) #[ZT,ZT,ZT,ZT,ZT,ZT,ZT,ZT,ZT,ZT,ZT,ZT,ZT,ZT,ZT,ZT,ZT,ZT,ZT,ZT,ZF,ZF,ZF,ZF,ZF] rfl rfl (zV HT_.out (by kernel_rfl)) (fun _ _ _ h => h) (Or.inr ⟨by rfl, rfl⟩) ?_ ?_
        rotate_left
        ·simp only [Act.put, Vt, Vu, Vv, zx, zz]
         rfl
        refine zZ (i := 20) (N := some 37) (v := undef) (a' := ?_) #[ZT,ZT,ZT,ZT,ZT,ZT,ZT,ZT,ZT,ZT,ZT,ZT,ZT,ZT,ZT,ZT,ZT,ZT,ZT,ZT,ZT,ZF,ZF,ZF,ZF] rfl rfl (zV HT_.out (by kernel_rfl)) (fun _ _ _ h => h) (Or.inr ⟨by rfl, rfl⟩) ?_ ?_
        rotate_left
        ·simp only [Act.put, Vt, Vu, Vv, zx, zz]
         rfl
        refine zZ (i := 21) (N := some 38) (v := undef) (a' := ?_) #[ZT,ZT,ZT,ZT,ZT,ZT,ZT,ZT,ZT,ZT,ZT,ZT,ZT,ZT,ZT,ZT,ZT,ZT,ZT,ZT,ZT,ZT,ZF,ZF,ZF] rfl rfl (zV HT_.out (by kernel_rfl)) (fun _ _ _ h => h) (Or.inr ⟨by rfl, rfl⟩) ?_ ?_
        rotate_left
        ·simp only [Act.put, Vt, Vu, Vv, zx, zz]
         rfl
        refine zZ (i := 22) (N := some 39) (v := undef) (a' := ?_) #[ZT,ZT,ZT,ZT,ZT,ZT,ZT,ZT,ZT,ZT,ZT,ZT,ZT,ZT,ZT,ZT,ZT,ZT,ZT,ZT,ZT,ZT,ZT,ZF,ZF] rfl rfl (zV HT_.out (by kernel_rfl)) (fun _ _ _ h => h) (Or.inr ⟨by rfl, rfl⟩) ?_ ?_
        rotate_left
        ·simp only [Act.put, Vt, Vu, Vv, zx, zz]
         rfl
        refine zZ (i := 23) (N := some 40) (v := undef) (a' := ?_) #[ZT,ZT,ZT,ZT,ZT,ZT,ZT,ZT,ZT,ZT,ZT,ZT,ZT,ZT,ZT,ZT,ZT,ZT,ZT,ZT,ZT,ZT,ZT,ZT,ZF] rfl rfl (zV HT_.out (by kernel_rfl)) (fun _ _ _ h => h) (Or.inr ⟨by rfl, rfl⟩) ?_ ?_
        rotate_left
        ·simp only [Act.put, Vt, Vu, Vv, zx, zz]
         rfl
        refine zZ (i := 24) (N := some 41) (v := ?_) (a' := ?_) #[ZT,ZT,ZT,ZT,ZT,ZT,ZT,ZT,ZT,ZT,ZT,ZT,ZT,ZT,ZT,ZT,ZT,ZT,ZT,ZT,ZT,ZT,ZT,ZT,ZT] rfl rfl (zV HT_.out (by kernel_rfl)) (fun _ _ _ h => h) (Or.inl ⟨by rfl, ?_⟩) ?_ ?_
        rotate_left
        ·intro w'
         go_simp
         with_reducible rfl
        rotate_left
        ·simp only [Act.put, Vt, Vu, Vv, zx, zz]
         rfl
        refine q4 (qB HT_.out (by kernel_rfl)) ?_
        try go_wp2
        go_ret
        exact ⟨by first | rfl | (simp [zn, zo] <;> rfl) | (simp [*, zn, zo] <;> rfl), by repeat (first | (with_reducible first | exact HB.out | apply zc | apply zb | apply zd) | exact HB.out)⟩
      ·rw [if_neg c6] at H
       exact absurd H (by simp)
     ·rw [if_neg c5] at H
      exact absurd H (by simp)
    ·rw [if_neg c4] at H
     have c4b0 : decide (x5_1 < (l0.length : Int)) = false := decide_eq_false c4
     clear c4
     obtain rfl := Option.some.inj H
     go_wp2
     go_ret
     exact ⟨by first | rfl | (simp [zn, zo] <;> rfl) | (simp [*, zn, zo] <;> rfl), by repeat (first | (with_reducible first | exact HB.out | apply zc | apply zb | apply zd) | exact HB.out)⟩
 ·rw [if_neg c3] at H
  have c3b0 : ((l0.length : Int) == (l1.length : Int)) = false := beq_eq_false_iff_ne.mpr c3
  have c3b1 : ((l0.length : Int) != (l1.length : Int)) = true := bne_iff_ne.mpr c3
  have c3b2 : (l0.length == l1.length) = false := by first | simpa using c3 | (simp at c3 ⊢; omega)
  obtain rfl := Option.some.inj H
  go_enter Try.func34, Try.ntmps34
  go_wp2
  go_ret
  exact ⟨by first | rfl | (simp [zn, zo] <;> rfl) | (simp [*, zn, zo] <;> rfl), by repeat (first | (with_reducible first | exact HB.out | apply zc | apply zb | apply zd) | exact HB.out)⟩
theorem eqA97 (d : Nat) (w : World) (x0 y0 : Int) (x1 y1 : Int) :
  (Op.equalIn (d + 2) 97 (.agg #[.int .i64 x0, .int .i64 x1]) (.agg #[.int .i64 y0, .int .i64 y1])).run Try.prog w = .ok (x0 == y0 && (x1 == y1)) w := by
 refine Vi Try.underlying97 (by kernel_rfl) ?_
 refine JC (by rfl) (by go_simp; rfl) (by go_simp; rfl) (by go_simp) ?_
 exact JD (by rfl) (by go_simp; rfl) (by go_simp; rfl) (by go_simp)
attribute [local go_sem high] eqA97
def yb.l0 : Nat → List (S97) → List (S97) → Int → Option (Bool)
 | 0, _, _, _ => none
 | k + 1, x0, x1, x5 => if x5 < (x0.length : Int) then (if 0 ≤ x5 then (if x5 < (x1.length : Int) then (if (!(((zP x0 x5).f0) == ((zP x1 x5).f0)) || (!(((zP x0 x5).f1) == ((zP x1 x5).f1)))) = true then (some false) else (yb.l0 k x0 x1 (wrap64 (x5 + 1)))) else (none)) else (none)) else (some true)
def yb.f (k : Nat) (l0 : List (S97)) (l1 : List (S97)) : Option (Bool) := if (l0.length : Int) = (l1.length : Int) then (yb.l0 k l0 l1 0) else (some false)
theorem yb.calls (k : Nat) (A0 : Option Addr) (c0 : Nat) (l0 : List (S97)) (A1 : Option Addr) (c1 : Nat) (l1 : List (S97)) (r : Bool) (w : World) (hr0 : Kd.C k97 w A0 l0.length l0) (hc0 : l0.length ≤ c0) (hr1 : Kd.C k97 w A1 l1.length l1) (hc1 : l1.length ≤ c1) (h : yb.f k l0 l1 = some r) :
  Calls Try.prog 35 #[.slice A0 l0.length c0, .slice A1 l1.length c1] w fun e w' => e = .returned (.bool r) ∧ zG w w' := by
 have hu97 := Try.underlying97
 have HR0 := za.mk hr0
 have HC0 := za.mk hc0
 clear hr0 hc0
 have HR1 := za.mk hr1
 have HC1 := za.mk hc1
 clear hr1 hc1
 have H : (if (l0.length : Int) = (l1.length : Int) then (yb.l0 k l0 l1 0) else (some false)) = some r := h
 clear h
 by_cases c3 : (l0.length : Int) = (l1.length : Int)
 ·rw [if_pos c3] at H
  have c3b0 : ((l0.length : Int) == (l1.length : Int)) = true := beq_iff_eq.mpr c3
  have c3b1 : ((l0.length : Int) != (l1.length : Int)) = false := bne_eq_false_iff_eq.mpr c3
  have c3b2 : (l0.length == l1.length) = true := by first | simpa using c3 | (simp at c3 ⊢; omega)
  clear c3
  have H' := za.mk H
  clear H
  go_enter Try.func35, Try.ntmps35
  go_wp2
  repeat (go_quiet (fail); try go_wp2)
  go_loopg [5] k (fun kq v5 w' => ∃ (x5_1 : Int), v5 = .int .i64 x5_1 ∧ za (yb.l0 kq l0 l1 x5_1 = some r) ∧ za (kq ≤ k) ∧ zG w w')
  case atStart => exact ⟨(0), (by first | rfl | (simp; done) | (simp [*]; done)), H', ⟨Nat.le_refl _⟩, by repeat (first | exact zG.refl _ | apply zG.step)⟩
  case round =>
   clear H'
   try clear c1
   try clear p2
   try clear c3
   try clear c3b0
   try clear c3b1
   try clear c3b2
   obtain ⟨x5_1, rfl, HA, HK1, ⟨m1, rfl⟩⟩ := hrel
   cases gk with
   | zero => exact absurd HA.out (by simp [yb.l0])
   | succ k1 =>
    have H := HA.out
    clear HA
    simp only [yb.l0] at H
    by_cases c4 : x5_1 < (l0.length : Int)
    ·rw [if_pos c4] at H
     have c4b0 : decide (x5_1 < (l0.length : Int)) = true := decide_eq_true c4
     clear c4
     by_cases c5 : 0 ≤ x5_1
     ·rw [if_pos c5] at H
      have c5b0 : decide (0 ≤ x5_1) = true := decide_eq_true c5
      clear c5
      by_cases c6 : x5_1 < (l1.length : Int)
      ·rw [if_pos c6] at H
       have c6b0 : decide (x5_1 < (l1.length : Int)) = true := decide_eq_true c6
       clear c6
       by_cases c7 : (!(((zP l0 x5_1).f0) == ((zP l1 x5_1).f0)) || (!(((zP l0 x5_1).f1) == ((zP l1 x5_1).f1)))) = true
       ·rw [if_pos c7] at H
        have c7b0 : (!(((zP l0 x5_1).f0) == ((zP l1 x5_1).f0)) || (!(((zP l0 x5_1).f1) == ((zP l1 x5_1).f1)))) = true := c7
        clear c7
        obtain rfl := Option.some.inj H
        have p633 : 0 ≤ (x5_1 : Int) := of_decide_eq_true (by first | (with_reducible assumption) | assumption)
        have q633 : x5_1 < (l0.length : Int) := of_decide_eq_true (by first | (with_reducible assumption) | assumption)
        obtain ⟨ad633, e633, hx633_0, hx633_1⟩ := xU HR0.out x5_1 p633 q633
        cases e633
        replace p633 := eq_true p633
        replace q633 := eq_true q633
        have p634 : 0 ≤ (x5_1 : Int) := of_decide_eq_true (by first | (with_reducible assumption) | assumption)
        have q634 : x5_1 < (l1.length : Int) := of_decide_eq_true (by first | (with_reducible assumption) | assumption)
        obtain ⟨ad634, e634, hx634_0, hx634_1⟩ := xU HR1.out x5_1 p634 q634
        cases e634
        replace p634 := eq_true p634
        replace q634 := eq_true q634
        go_wp2
        repeat (go_quiet (fail); try go_wp2)
        go_ret
        exact ⟨by first | rfl | (simp; done) | (simp [*]; done), by repeat (first | exact zG.refl _ | apply zG.step)⟩
       ·rw [if_neg c7] at H
        have c7b0 : (!(((zP l0 x5_1).f0) == ((zP l1 x5_1).f0)) || (!(((zP l0 x5_1).f1) == ((zP l1 x5_1).f1)))) = false := by simpa using c7
        clear c7
        have H' := za.mk H
        clear H
        have p633 : 0 ≤ (x5_1 : Int) := of_decide_eq_true (by first | (with_reducible assumption) | assumption)
        have q633 : x5_1 < (l0.length : Int) := of_decide_eq_true (by first | (with_reducible assumption) | assumption)
        obtain ⟨ad633, e633, hx633_0, hx633_1⟩ := xU HR0.out x5_1 p633 q633
        cases e633
        replace p633 := eq_true p633
        replace q633 := eq_true q633
        have p634 : 0 ≤ (x5_1 : Int) := of_decide_eq_true (by first | (with_reducible assumption) | assumption)
        have q634 : x5_1 < (l1.length : Int) := of_decide_eq_true (by first | (with_reducible assumption) | assumption)
        obtain ⟨ad634, e634, hx634_0, hx634_1⟩ := xU HR1.out x5_1 p634 q634
        cases e634
        replace p634 := eq_true p634
        replace q634 := eq_true q634
        go_wp2
        repeat (go_quiet (fail); try go_wp2)
        go_roundg k1
        case measure => have := HK1.out; omega
        case rel => exact ⟨(wrap64 (x5_1 + 1)), (by first | rfl | (simp; done) | (simp [*]; done)), H', ⟨by have := HK1.out; omega⟩, by repeat (first | exact zG.refl _ | apply zG.step)⟩
      ·rw [if_neg c6] at H
       exact absurd H (by simp)
     ·rw [if_neg c5] at H
      exact absurd H (by simp)
    ·rw [if_neg c4] at H
     have c4b0 : decide (x5_1 < (l0.length : Int)) = false := decide_eq_false c4
     clear c4
     obtain rfl := Option.some.inj H
     go_wp2
     repeat (go_quiet (fail); try go_wp2)
     go_ret
     exact ⟨by first | rfl | (simp; done) | (simp [*]; done), by repeat (first | exact zG.refl _ | apply zG.step)⟩
 ·rw [if_neg c3] at H
  have c3b0 : ((l0.length : Int) == (l1.length : Int)) = false := beq_eq_false_iff_ne.mpr c3
  have c3b1 : ((l0.length : Int) != (l1.length : Int)) = true := bne_iff_ne.mpr c3
  have c3b2 : (l0.length == l1.length) = false := by first | simpa using c3 | (simp at c3 ⊢; omega)
  obtain rfl := Option.some.inj H
  go_enter Try.func35, Try.ntmps35
  go_wp2
  repeat (go_quiet (fail); try go_wp2)
  go_ret
  exact ⟨by first | rfl | (simp; done) | (simp [*]; done), by repeat (first | exact zG.refl _ | apply zG.step)⟩
def yD.l0 : Nat → List ByteArray → List ByteArray → Int → Option (Bool)
 | 0, _, _, _ => none
 | k + 1, x0, x1, x5 => if x5 < (x0.length : Int) then (if 0 ≤ x5 then (if x5 < (x1.length : Int) then (if (xr ByteArray.empty x0 x5).toList = (xr ByteArray.empty x1 x5).toList then (yD.l0 k x0 x1 (wrap64 (x5 + 1))) else (some false)) else (none)) else (none)) else (some true)
def yD.f (k : Nat) (l0 : List ByteArray) (l1 : List ByteArray) : Option (Bool) := if (l0.length : Int) = (l1.length : Int) then (yD.l0 k l0 l1 0) else (some false)
theorem yD.calls (k : Nat) (A0 : Option Addr) (c0 : Nat) (l0 : List ByteArray) (A1 : Option Addr) (c1 : Nat) (l1 : List ByteArray) (r : Bool) (w : World) (hr0 : Kd.C Kd.string w A0 l0.length l0) (hc0 : l0.length ≤ c0) (hr1 : Kd.C Kd.string w A1 l1.length l1) (hc1 : l1.length ≤ c1) (h : yD.f k l0 l1 = some r) :
  Calls Try.prog 37 #[.slice A0 l0.length c0, .slice A1 l1.length c1] w fun e w' => e = .returned (.bool r) ∧ zG w w' := by
 have HR0 := za.mk hr0
 have HC0 := za.mk hc0
 clear hr0 hc0
 have HR1 := za.mk hr1
 have HC1 := za.mk hc1
 clear hr1 hc1
 have H : (if (l0.length : Int) = (l1.length : Int) then (yD.l0 k l0 l1 0) else (some false)) = some r := h
 clear h
 by_cases c3 : (l0.length : Int) = (l1.length : Int)
 ·rw [if_pos c3] at H
  have c3b0 : ((l0.length : Int) == (l1.length : Int)) = true := beq_iff_eq.mpr c3
  have c3b1 : ((l0.length : Int) != (l1.length : Int)) = false := bne_eq_false_iff_eq.mpr c3
  have c3b2 : (l0.length == l1.length) = true := by first | simpa using c3 | (simp at c3 ⊢; omega)
  clear c3
  have H' := za.mk H
  clear H
  go_enter Try.func37, Try.ntmps37
  go_wp2
  repeat (go_quiet (fail); try go_wp2)
  go_loopg [5] k (fun kq v5 w' => ∃ (x5_1 : Int), v5 = .int .i64 x5_1 ∧ za (yD.l0 kq l0 l1 x5_1 = some r) ∧ za (kq ≤ k) ∧ zG w w')
  case atStart => exact ⟨(0), (by first | rfl | (simp; done) | (simp [*]; done)), H', ⟨Nat.le_refl _⟩, by repeat (first | exact zG.refl _ | apply zG.step)⟩
  case round =>
   clear H'
   try clear c1
   try clear p2
   try clear c3
   try clear c3b0
   try clear c3b1
   try clear c3b2
   obtain ⟨x5_1, rfl, HA, HK1, ⟨m1, rfl⟩⟩ := hrel
   cases gk with
   | zero => exact absurd HA.out (by simp [yD.l0])
   | succ k1 =>
    have H := HA.out
    clear HA
    simp only [yD.l0] at H
    by_cases c4 : x5_1 < (l0.length : Int)
    ·rw [if_pos c4] at H
     have c4b0 : decide (x5_1 < (l0.length : Int)) = true := decide_eq_true c4
     clear c4
     by_cases c5 : 0 ≤ x5_1
     ·rw [if_pos c5] at H
      have c5b0 : decide (0 ≤ x5_1) = true := decide_eq_true c5
      clear c5
      by_cases c6 : x5_1 < (l1.length : Int)
      ·rw [if_pos c6] at H
       have c6b0 : decide (x5_1 < (l1.length : Int)) = true := decide_eq_true c6
       clear c6
       by_cases c7 : (xr ByteArray.empty l0 x5_1).toList = (xr ByteArray.empty l1 x5_1).toList
       ·rw [if_pos c7] at H
        have c7b0 : ((xr ByteArray.empty l0 x5_1).toList == (xr ByteArray.empty l1 x5_1).toList) = true := beq_iff_eq.mpr c7
        have c7b1 : ((xr ByteArray.empty l0 x5_1).toList != (xr ByteArray.empty l1 x5_1).toList) = false := bne_eq_false_iff_eq.mpr c7
        clear c7
        have H' := za.mk H
        clear H
        have p654 : 0 ≤ (x5_1 : Int) := of_decide_eq_true (by first | (with_reducible assumption) | assumption)
        have q654 : x5_1 < (l0.length : Int) := of_decide_eq_true (by first | (with_reducible assumption) | assumption)
        obtain ⟨ad654, e654, hx654_0⟩ := Kd.at_string HR0.out x5_1 p654 q654
        cases e654
        replace p654 := eq_true p654
        replace q654 := eq_true q654
        have p655 : 0 ≤ (x5_1 : Int) := of_decide_eq_true (by first | (with_reducible assumption) | assumption)
        have q655 : x5_1 < (l1.length : Int) := of_decide_eq_true (by first | (with_reducible assumption) | assumption)
        obtain ⟨ad655, e655, hx655_0⟩ := Kd.at_string HR1.out x5_1 p655 q655
        cases e655
        replace p655 := eq_true p655
        replace q655 := eq_true q655
        go_wp2
        repeat (go_quiet (fail); try go_wp2)
        go_roundg k1
        case measure => have := HK1.out; omega
        case rel => exact ⟨(wrap64 (x5_1 + 1)), (by first | rfl | (simp; done) | (simp [*]; done)), H', ⟨by have := HK1.out; omega⟩, by repeat (first | exact zG.refl _ | apply zG.step)⟩
       ·rw [if_neg c7] at H
        have c7b0 : ((xr ByteArray.empty l0 x5_1).toList == (xr ByteArray.empty l1 x5_1).toList) = false := beq_eq_false_iff_ne.mpr c7
        have c7b1 : ((xr ByteArray.empty l0 x5_1).toList != (xr ByteArray.empty l1 x5_1).toList) = true := bne_iff_ne.mpr c7
        obtain rfl := Option.some.inj H
        have p654 : 0 ≤ (x5_1 : Int) := of_decide_eq_true (by first | (with_reducible assumption) | assumption)
        have q654 : x5_1 < (l0.length : Int) := of_decide_eq_true (by first | (with_reducible assumption) | assumption)
        obtain ⟨ad654, e654, hx654_0⟩ := Kd.at_string HR0.out x5_1 p654 q654
        cases e654
        replace p654 := eq_true p654
        replace q654 := eq_true q654
        have p655 : 0 ≤ (x5_1 : Int) := of_decide_eq_true (by first | (with_reducible assumption) | assumption)
        have q655 : x5_1 < (l1.length : Int) := of_decide_eq_true (by first | (with_reducible assumption) | assumption)
        obtain ⟨ad655, e655, hx655_0⟩ := Kd.at_string HR1.out x5_1 p655 q655
        cases e655
        replace p655 := eq_true p655
        replace q655 := eq_true q655
        go_wp2
        repeat (go_quiet (fail); try go_wp2)
        go_ret
        exact ⟨by first | rfl | (simp; done) | (simp [*]; done), by repeat (first | exact zG.refl _ | apply zG.step)⟩
      ·rw [if_neg c6] at H
       exact absurd H (by simp)
     ·rw [if_neg c5] at H
      exact absurd H (by simp)
    ·rw [if_neg c4] at H
     have c4b0 : decide (x5_1 < (l0.length : Int)) = false := decide_eq_false c4
     clear c4
     obtain rfl := Option.some.inj H
     go_wp2
     repeat (go_quiet (fail); try go_wp2)
     go_ret
     exact ⟨by first | rfl | (simp; done) | (simp [*]; done), by repeat (first | exact zG.refl _ | apply zG.step)⟩
 ·rw [if_neg c3] at H
  have c3b0 : ((l0.length : Int) == (l1.length : Int)) = false := beq_eq_false_iff_ne.mpr c3
  have c3b1 : ((l0.length : Int) != (l1.length : Int)) = true := bne_iff_ne.mpr c3
  have c3b2 : (l0.length == l1.length) = false := by first | simpa using c3 | (simp at c3 ⊢; omega)
  obtain rfl := Option.some.inj H
  go_enter Try.func37, Try.ntmps37
  go_wp2
  repeat (go_quiet (fail); try go_wp2)
  go_ret
  exact ⟨by first | rfl | (simp; done) | (simp [*]; done), by repeat (first | exact zG.refl _ | apply zG.step)⟩
def yR.f (l0 : List Int) (a1 : ByteArray) : Option (List Int) := (xp.f a1).bind fun bt103 => (if l0.length + bt103.1.size < 140737488355328 then (some (l0 ++ bytesOf bt103.1)) else (none))
theorem yR.calls (P0_ : Nat → Prop) (u9000_ : Value) (l0 : List Int) (a1 : ByteArray) (r : List Int) (w0 w : World) (hB : Below w0.heap.size w0 w) (ho0 : Kd.R (Kd.int .u8) 5 w w0.heap.size P0_ u9000_ l0) (h : yR.f l0 a1 = some r) :
  Calls Try.prog 38 #[u9000_, .string a1] w fun e w' => ∃ v0_ : Value, e = .returned (v0_) ∧ Kd.R (Kd.int .u8) 5 w' w0.heap.size (fun k_ => (P0_ k_ ∨ w.heap.size ≤ k_)) v0_ r ∧ Below w0.heap.size w0 w' ∧ zq w w' (fun k_ => P0_ k_) := by
 have HO0 := za.mk (show Kd.R (Kd.int .u8) 5 w w0.heap.size (fun k_ => (P0_ k_ ∨ w.heap.size ≤ k_)) u9000_ l0 from Kd.R_mono ho0 (fun k_ hk => (.inl hk)))
 have HK := za.mk (zq.refl w (fun k_ => P0_ k_))
 have HW0 := za.mk hB.size
 have HB := za.mk hB
 clear hB
 have H : ((xp.f a1).bind fun bt103 => (if l0.length + bt103.1.size < 140737488355328 then (some (l0 ++ bytesOf bt103.1)) else (none))) = some r := h
 clear h
 replace H := Vx.mp H
 obtain ⟨⟨t103, t104⟩, A30, H⟩ := H
 replace H : (if l0.length + t103.size < 140737488355328 then (some (l0 ++ bytesOf t103)) else (none)) = some r := H
 have A3 := za.mk A30
 clear A30
 by_cases c4 : l0.length + t103.size < 140737488355328
 ·rw [if_pos c4] at H
  have LMc4 := za.mk c4
  clear c4
  obtain ⟨y105, hy105⟩ : ∃ y_ : List Int, y_ = (l0 ++ bytesOf t103) := ⟨_, rfl⟩
  replace H : (some y105) = some r := by first | (rw [hy105]; with_reducible exact H) | (have H2_ := (Option.bind_some _ _).symm.trans H; rw [hy105]; with_reducible exact H2_) | (have H2_ := (Option.bind_some _ _).symm.trans H; with_reducible exact H2_) | with_reducible exact H | (rw [hy105]; exact H) | exact H
  have Ny105 := za.mk hy105
  clear hy105
  obtain rfl := Option.some.inj H
  go_enter Try.func38, Try.ntmps38
  go_wp2_with (first | ((with_reducible refine zL (f := 86) rfl ?_); refine z8 (some 9) rfl rfl Try.func86 (by kernel_rfl) rfl #[.string a1] rfl (by (try simp only [Vw, List.map_cons, List.map_nil]); first | done | rfl | (simp only [List.length_drop, List.length_take]; rfl)) ?_; (with_reducible refine (xp.calls a1 t103 t104 _ A3.out).mono ?_); rintro e w5 ⟨rfl, hb⟩; refine ⟨_, rfl, ?_⟩; have n0_ := za.mk (Kd.R_below (by (with_reducible repeat (first | apply Kd.R_alloc | apply Kd.R_drewN | apply Kd.R_drew)); exact HO0.out) hb); have n1_ := za.mk (zq.below (S := (fun k_ => P0_ k_)) (by repeat (first | (with_reducible first | exact HK.out | apply zq.alloc | apply zq.drewN | apply zq.drew) | exact HK.out)) hb); have n2_ := za.mk (zi (by repeat (first | (with_reducible first | exact HB.out | apply zc | apply zb | apply zd) | exact HB.out)) hb); clear HO0; clear HK; clear HB; have HO0 := n0_; have HK := n1_; have HB := n2_; clear n0_ n1_ n2_; (try clear hb); (try clear hb2); (try clear hk); (try clear hi)) | (at_builtin; refine jr (w0 := w0) w0.heap.size rfl (.tmp 12) _ 74 9 5 rfl Try.underlying74 Try.underlying9 Qg u9000_ l0 t103 rfl rfl ?aO ?aB ?aS ?aL ?_; (case aB => exact (by repeat (first | (with_reducible first | exact HB.out | apply zc | apply zb | apply zd) | exact HB.out))); (case aO => exact (Kd.own_of_R (by (with_reducible repeat (first | apply Kd.R_alloc | apply Kd.R_drewN | apply Kd.R_drew)); exact HO0.out))); (case aS => exact (zp (by repeat (first | (with_reducible first | exact HB.out | apply zc | apply zb | apply zd) | exact HB.out)))); (case aL => have := LMc4.out; omega); intro v106 w6 ho0 hb hg hat; have ho := Kd.R_of_own (h1 := fun _ => rfl) (ok := (fun k_ => (P0_ k_ ∨ w.heap.size ≤ k_))) ho0 (fun k_ hk_ => Or.elim hat (fun h1_ => HO0.out.1 k_ (h1_.symm.trans hk_)) (fun h2_ => (fun k_ hk => (.inr (Nat.le_trans (by first | exact HK.out.1 | exact (show zq w _ (fun k_ => P0_ k_) from by repeat (first | (with_reducible first | exact HK.out | apply zq.alloc | apply zq.drewN | apply zq.drew) | exact HK.out)).1) hk))) k_ (by obtain ⟨b_, hb_, hl_⟩ := h2_; rw [hb_] at hk_; cases hk_; exact hl_))); clear ho0; rw [← Ny105.out] at ho; change Kd.R (Kd.int .u8) 5 w6 w0.heap.size (fun k_ => (P0_ k_ ∨ w.heap.size ≤ k_)) v106 y105 at ho; have n0_ := za.mk (hb); have n1_ := za.mk (zq.of_grown (S := (fun k_ => P0_ k_)) hg (by repeat (first | (with_reducible first | exact HK.out | apply zq.alloc | apply zq.drewN | apply zq.drew) | exact HK.out)) (fun k_ e_ => (HO0.out.1 k_ e_))); have n2_ := za.mk (ho); clear HB; clear HK; clear HO0; have HB := n0_; have HK := n1_; have HO107 := n2_; clear n0_ n1_ n2_; clear ho hb hg hat))
  go_ret
  exact ⟨_, by first | rfl | (simp [zn, zo] <;> rfl) | (simp [*, zn, zo] <;> rfl), by (with_reducible repeat (first | apply Kd.R_alloc | apply Kd.R_drewN | apply Kd.R_drew)); exact HO107.out, by repeat (first | (with_reducible first | exact HB.out | apply zc | apply zb | apply zd) | exact HB.out), by repeat (first | (with_reducible first | exact HK.out | apply zq.alloc | apply zq.drewN | apply zq.drew) | exact HK.out)⟩
 ·rw [if_neg c4] at H
  exact absurd H (by simp)
def zD.l0 : Nat → List Int → List Int → Int → Int → Option (List Int)
 | 0, _, _, _, _ => none
 | k + 1, x0, x7, x8, x9 => if x9 < x8 then (if 0 ≤ x9 then (if x9 < (x7.length : Int) then ((yv.f (rd x7 x9)).bind fun t109 => (if x0.length + t109.size < 140737488355328 then (zD.l0 k (x0 ++ bytesOf t109) x7 x8 (wrap64 (x9 + 1))) else (none))) else (none)) else (none)) else (some x0)
def zD.f (k : Nat) (l0 : List Int) (l1 : List Int) : Option (List Int) := zD.l0 k l0 l1 (l1.length : Int) 0
theorem zD.mono_l : ∀ k, (∀ y0 y1 y2 y3, LeO (zD.l0 k y0 y1 y2 y3) (zD.l0 (k + 1) y0 y1 y2 y3))
 | 0 => fun _ _ _ _ r h => by simp [zD.l0] at h
 | k + 1 => by
  have ih0 := zD.mono_l k
  ·intro y0 y1 y2 y3
   unfold zD.l0
   repeat' first
   | (with_reducible exact ih0 _ _ _ _)
   | (with_reducible exact LeO.refl _)
   | (with_reducible exact LeO.none _)
   | (with_reducible refine LeO.ite ?_ ?_)
   | (with_reducible refine LeO.bind ?_ (fun _ => ?_))
   | exact ih0 _ _ _ _
   | exact LeO.none _
   | refine LeO.ite ?_ ?_
   | refine LeO.bind ?_ (fun _ => ?_)
theorem zD.mono : ∀ a0 a1 k, LeO (zD.f k a0 a1) (zD.f (k + 1) a0 a1) := by
 intro a0 a1 k
 have ih0 := zD.mono_l k
 unfold zD.f
 repeat' first
   | (with_reducible exact ih0 _ _ _ _)
   | (with_reducible exact LeO.refl _)
   | (with_reducible exact LeO.none _)
   | (with_reducible refine LeO.ite ?_ ?_)
   | (with_reducible refine LeO.bind ?_ (fun _ => ?_))
   | exact ih0 _ _ _ _
   | exact LeO.none _
   | refine LeO.ite ?_ ?_
   | refine LeO.bind ?_ (fun _ => ?_)
theorem zD.calls (k : Nat) (P0_ : Nat → Prop) (u9000_ : Value) (l0 : List Int) (A1 : Option Addr) (c1 : Nat) (l1 : List Int) (r : List Int) (w0 w : World) (hB : Below w0.heap.size w0 w) (ho0 : Kd.R (Kd.int .u8) 5 w w0.heap.size P0_ u9000_ l0) (hr1 : ∀ W_, zq w W_ (fun k_ => P0_ k_) → Kd.C (Kd.int .i64) W_ A1 l1.length l1) (hc1 : l1.length ≤ c1) (h : zD.f k l0 l1 = some r) :
  Calls Try.prog 39 #[u9000_, .slice A1 l1.length c1] w fun e w' => ∃ v0_ : Value, e = .returned (v0_) ∧ Kd.R (Kd.int .u8) 5 w' w0.heap.size (fun k_ => (P0_ k_ ∨ w.heap.size ≤ k_)) v0_ r ∧ Below w0.heap.size w0 w' ∧ zq w w' (fun k_ => P0_ k_) := by
 have HO0 := za.mk (show Kd.R (Kd.int .u8) 5 w w0.heap.size (fun k_ => (P0_ k_ ∨ w.heap.size ≤ k_)) u9000_ l0 from Kd.R_mono ho0 (fun k_ hk => (.inl hk)))
 have HR1 := za.mk hr1
 have HC1 := za.mk hc1
 clear hr1 hc1
 have HK := za.mk (zq.refl w (fun k_ => P0_ k_))
 have HW0 := za.mk hB.size
 have HB := za.mk hB
 clear hB
 have H : (zD.l0 k l0 l1 (l1.length : Int) 0) = some r := h
 clear h
 have H' := za.mk H
 clear H
 go_enter Try.func39, Try.ntmps39
 go_wp2
 go_loopg [0, 9] k (fun kq v0 v9 w' => ∃ (x0_1 : List Int) (x9_1 : Int), v9 = .int .i64 x9_1 ∧ za (zD.l0 kq x0_1 l1 (l1.length : Int) x9_1 = some r) ∧ za (kq ≤ k) ∧ za (Kd.R (Kd.int .u8) 5 w' w0.heap.size (fun k_ => (P0_ k_ ∨ w.heap.size ≤ k_)) v0 x0_1) ∧ za (zq w w' (fun k_ => P0_ k_)) ∧ za (Below w0.heap.size w0 w'))
 case atStart => exact ⟨(l0), (0), (by first | rfl | (simp; done) | (simp [*]; done)), H', ⟨Nat.le_refl _⟩, ⟨by (with_reducible repeat (first | apply Kd.R_alloc | apply Kd.R_drewN | apply Kd.R_drew)); exact HO0.out⟩, ⟨by repeat (first | (with_reducible first | exact HK.out | apply zq.alloc | apply zq.drewN | apply zq.drew) | exact HK.out)⟩, ⟨by repeat (first | (with_reducible first | exact HB.out | apply zc | apply zb | apply zd) | exact HB.out)⟩⟩
 case round =>
  clear H'
  try clear c1
  try clear p2
  obtain ⟨x0_1, x9_1, rfl, HA, HK1, HO_0, HK, HB⟩ := hrel
  cases gk with
  | zero => exact absurd HA.out (by simp [zD.l0])
  | succ k1 =>
   have H := HA.out
   clear HA
   simp only [zD.l0] at H
   by_cases c3 : x9_1 < (l1.length : Int)
   ·rw [if_pos c3] at H
    have c3b0 : decide (x9_1 < (l1.length : Int)) = true := decide_eq_true c3
    clear c3
    by_cases c4 : 0 ≤ x9_1
    ·rw [if_pos c4] at H
     have c4b0 : decide (0 ≤ x9_1) = true := decide_eq_true c4
     clear c4
     by_cases c5 : x9_1 < (l1.length : Int)
     ·rw [if_pos c5] at H
      have c5b0 : decide (x9_1 < (l1.length : Int)) = true := decide_eq_true c5
      clear c5
      replace H := Vx.mp H
      obtain ⟨t109, A60, H⟩ := H
      replace H : (if x0_1.length + t109.size < 140737488355328 then (zD.l0 k1 (x0_1 ++ bytesOf t109) l1 (l1.length : Int) (wrap64 (x9_1 + 1))) else (none)) = some r := H
      have A6 := za.mk A60
      clear A60
      by_cases c7 : x0_1.length + t109.size < 140737488355328
      ·rw [if_pos c7] at H
       have LMc7 := za.mk c7
       clear c7
       obtain ⟨y110, hy110⟩ : ∃ y_ : List Int, y_ = (x0_1 ++ bytesOf t109) := ⟨_, rfl⟩
       replace H : (zD.l0 k1 y110 l1 (l1.length : Int) (wrap64 (x9_1 + 1))) = some r := by first | (rw [hy110]; with_reducible exact H) | (have H2_ := (Option.bind_some _ _).symm.trans H; rw [hy110]; with_reducible exact H2_) | (have H2_ := (Option.bind_some _ _).symm.trans H; with_reducible exact H2_) | with_reducible exact H | (rw [hy110]; exact H) | exact H
       have Ny110 := za.mk hy110
       clear hy110
       have H' := za.mk H
       clear H
       have p108 : 0 ≤ (x9_1 : Int) := of_decide_eq_true (by first | (with_reducible assumption) | assumption)
       have q108 : x9_1 < (l1.length : Int) := of_decide_eq_true (by first | (with_reducible assumption) | assumption)
       obtain ⟨ad108, e108, hx108_0⟩ := Kd.at_int (Kd.C_kept_now HR1.out HK.out) x9_1 p108 q108
       cases e108
       replace p108 := eq_true p108
       replace q108 := eq_true q108
       go_wp2_with (first | ((with_reducible refine zL (f := 87) rfl ?_); refine z8 (some 15) rfl rfl Try.func87 (by kernel_rfl) rfl #[.int .i64 (rd l1 x9_1)] rfl (by (try simp only [Vw, List.map_cons, List.map_nil]); first | done | rfl | (simp only [List.length_drop, List.length_take]; rfl)) ?_; (with_reducible refine (yv.calls (rd l1 x9_1) t109 _ A6.out).mono ?_); rintro e w8 ⟨rfl, hb⟩; refine ⟨_, rfl, ?_⟩; have n0_ := za.mk (Kd.R_below (by (with_reducible repeat (first | apply Kd.R_alloc | apply Kd.R_drewN | apply Kd.R_drew)); exact HO_0.out) hb); have n1_ := za.mk (zq.below (S := (fun k_ => P0_ k_)) (by repeat (first | (with_reducible first | exact HK.out | apply zq.alloc | apply zq.drewN | apply zq.drew) | exact HK.out)) hb); have n2_ := za.mk (zi (by repeat (first | (with_reducible first | exact HB.out | apply zc | apply zb | apply zd) | exact HB.out)) hb); clear HO_0; clear HK; clear HB; have HO_0 := n0_; have HK := n1_; have HB := n2_; clear n0_ n1_ n2_; (try clear hb); (try clear hb2); (try clear hk); (try clear hi)) | (at_builtin; refine jr (w0 := w0) w0.heap.size rfl (.tmp 13) _ 74 9 5 rfl Try.underlying74 Try.underlying9 Qg u0 x0_1 t109 rfl rfl ?aO ?aB ?aS ?aL ?_; (case aB => exact (by repeat (first | (with_reducible first | exact HB.out | apply zc | apply zb | apply zd) | exact HB.out))); (case aO => exact (Kd.own_of_R (by (with_reducible repeat (first | apply Kd.R_alloc | apply Kd.R_drewN | apply Kd.R_drew)); exact HO_0.out))); (case aS => exact (zp (by repeat (first | (with_reducible first | exact HB.out | apply zc | apply zb | apply zd) | exact HB.out)))); (case aL => have := LMc7.out; omega); intro v111 w9 ho0 hb hg hat; have ho := Kd.R_of_own (h1 := fun _ => rfl) (ok := (fun k_ => (P0_ k_ ∨ w.heap.size ≤ k_))) ho0 (fun k_ hk_ => Or.elim hat (fun h1_ => HO_0.out.1 k_ (h1_.symm.trans hk_)) (fun h2_ => (fun k_ hk => (.inr (Nat.le_trans (by first | exact HK.out.1 | exact (show zq w _ (fun k_ => P0_ k_) from by repeat (first | (with_reducible first | exact HK.out | apply zq.alloc | apply zq.drewN | apply zq.drew) | exact HK.out)).1) hk))) k_ (by obtain ⟨b_, hb_, hl_⟩ := h2_; rw [hb_] at hk_; cases hk_; exact hl_))); clear ho0; rw [← Ny110.out] at ho; change Kd.R (Kd.int .u8) 5 w9 w0.heap.size (fun k_ => (P0_ k_ ∨ w.heap.size ≤ k_)) v111 y110 at ho; have n0_ := za.mk (hb); have n1_ := za.mk (zq.of_grown (S := (fun k_ => P0_ k_)) hg (by repeat (first | (with_reducible first | exact HK.out | apply zq.alloc | apply zq.drewN | apply zq.drew) | exact HK.out)) (fun k_ e_ => (HO_0.out.1 k_ e_))); have n2_ := za.mk (ho); clear HB; clear HK; clear HO_0; have HB := n0_; have HK := n1_; have HO112 := n2_; clear n0_ n1_ n2_; clear ho hb hg hat))
       go_roundg k1
       case measure => have := HK1.out; omega
       case rel => exact ⟨(y110), (wrap64 (x9_1 + 1)), (by first | rfl | (simp; done) | (simp [*]; done)), H', ⟨by have := HK1.out; omega⟩, ⟨by (with_reducible repeat (first | apply Kd.R_alloc | apply Kd.R_drewN | apply Kd.R_drew)); exact HO112.out⟩, ⟨by repeat (first | (with_reducible first | exact HK.out | apply zq.alloc | apply zq.drewN | apply zq.drew) | exact HK.out)⟩, ⟨by repeat (first | (with_reducible first | exact HB.out | apply zc | apply zb | apply zd) | exact HB.out)⟩⟩
      ·rw [if_neg c7] at H
       exact absurd H (by simp)
     ·rw [if_neg c5] at H
      exact absurd H (by simp)
    ·rw [if_neg c4] at H
     exact absurd H (by simp)
   ·rw [if_neg c3] at H
    have c3b0 : decide (x9_1 < (l1.length : Int)) = false := decide_eq_false c3
    clear c3
    obtain rfl := Option.some.inj H
    go_wp2
    go_ret
    exact ⟨_, by first | rfl | (simp [zn, zo] <;> rfl) | (simp [*, zn, zo] <;> rfl), by (with_reducible repeat (first | apply Kd.R_alloc | apply Kd.R_drewN | apply Kd.R_drew)); exact HO_0.out, by repeat (first | (with_reducible first | exact HB.out | apply zc | apply zb | apply zd) | exact HB.out), by repeat (first | (with_reducible first | exact HK.out | apply zq.alloc | apply zq.drewN | apply zq.drew) | exact HK.out)⟩
def qq.f (a0 : Int) : Option (ByteArray × Int) := (yv.f a0).bind fun t101 => (some (t101, 0))
theorem qq.calls (a0 : Int) (r1 : ByteArray) (r2 : Int) (w : World) (h : qq.f a0 = some (r1, r2)) :
  Calls Try.prog 106 #[.int .i64 a0] w fun e w' => e = .returned (.tuple #[.string r1, .int .i64 r2]) ∧ Below w.heap.size w w' := by
 have HB := za.mk (Below.refl w.heap.size w)
 have H : ((yv.f a0).bind fun t101 => (some (t101, 0))) = some (r1, r2) := h
 clear h
 replace H := Vx.mp H
 obtain ⟨t101, A20, H⟩ := H
 replace H : (some (t101, 0)) = some (r1, r2) := H
 have A2 := za.mk A20
 clear A20
 simp only [Option.some.injEq, Prod.mk.injEq] at H
 obtain ⟨rfl, rfl⟩ := H
 go_enter Try.func106, Try.ntmps106
 go_wp2_with (first | ((with_reducible refine zL (f := 87) rfl ?_); refine z8 (some 5) rfl rfl Try.func87 (by kernel_rfl) rfl #[.int .i64 a0] rfl (by (try simp only [Vw, List.map_cons, List.map_nil]); first | done | rfl | (simp only [List.length_drop, List.length_take]; rfl)) ?_; (with_reducible refine (yv.calls a0 t101 _ A2.out).mono ?_); rintro e w3 ⟨rfl, hb⟩; refine ⟨_, rfl, ?_⟩; have n0_ := za.mk (zi (by repeat (first | (with_reducible first | exact HB.out | apply zc | apply zb | apply zd) | exact HB.out)) hb); clear HB; have HB := n0_; clear n0_; (try clear hb); (try clear hb2); (try clear hk); (try clear hi)))
 go_ret2
 exact ⟨by first | rfl | (simp [zn, zo] <;> rfl) | (simp [*, zn, zo] <;> rfl), by repeat (first | (with_reducible first | exact HB.out | apply zc | apply zb | apply zd) | exact HB.out)⟩
theorem vJ (x : Int) (s : ByteArray) (e2 : Int) (w : World) (h : (yv.f x).map (fun t => (t, (0 : Int))) = some (s, e2)) :
  Calls Try.prog 106 #[.int .i64 x] w fun e w' => e = .returned (.tuple #[.string s, .int .i64 e2]) ∧ Below w.heap.size w w' := by
 rw [Option.map_eq_some_iff] at h
 obtain ⟨t, ht, h⟩ := h
 simp only [Prod.mk.injEq] at h
 obtain ⟨rfl, rfl⟩ := h
 exact qq.calls x t 0 w (by unfold qq.f; rw [zN ht])
theorem QK (k : Nat) (A : Option Addr) (c : Nat) (l : List Int) (t0 : ByteArray) (r1 : ByteArray) (r2 : Int) (w : World) (hr : Kd.C (Kd.int .i64) w A l.length l) (hc : l.length ≤ c) (hl : l.length ≤ 256) (ht : yv.f (l.length : Int) = some t0) (h0 : t0.size ≤ 140737488351232) (h : qJ (fun x => (yv.f x).map (fun t => (t, (0 : Int)))) l (bytesOf t0) = some (r1, r2)) :
  Calls Try.prog 105 #[.slice A l.length c, .func (Fn.func 106) #[] #[]] w fun e w' => e = .returned (.tuple #[.string r1, .int .i64 r2]) ∧ Below w.heap.size w w' := by
 have HT := za.mk ht
 have HL := za.mk h
 have HR := za.mk hr
 have hcv := fun W : World => Lib.run_convert_string_bytes (P := Try.prog) W 9 74 5 t0 Try.underlying9 Try.underlying74 Try.underlying5
 clear ht h hr
 obtain ⟨i0, hi, hz0, hz1, hz2⟩ := info_parts JN
 go_enter Try.func105, Try.ntmps105
 go_wp2_with (first | (go_at_call 87; refine (yv.calls (l.length : Int) t0 _ HT.out).mono ?_; rintro e w1 ⟨rfl, hb⟩; have HB1 := za.mk hb; have HM1 := za.mk (xj.of_bytes w1 w.heap.size 5 t0 HB1.out.size (by simp only [maxLen]; omega)); have HB2 := za.mk (vn HB1.out HB1.out.size 5 t0)))
 have hcv0 := za.mk hcv
 clear hcv
 go_loopg [6, 20] l.length (fun kq vb vi wr => ∃ (i : Nat) (xs : List Int), vi = .int .i64 i ∧ za (i + kq = l.length) ∧ za (qJ (fun x => (yv.f x).map (fun t => (t, (0 : Int)))) (l.drop i) xs = some (r1, r2)) ∧ za (xj wr w.heap.size 5 vb (xo .u8 xs)) ∧ za (Below w.heap.size w wr))
 case atStart => exact ⟨0, bytesOf t0, rfl, ⟨by simp⟩, ⟨by rw [List.drop_zero]; exact HL.out⟩, ⟨by rw [← qW]; exact HM1.out⟩, HB2⟩
 case round =>
  clear HB2 HM1
  obtain ⟨i, xs, rfl, HK, HO, HM, HB⟩ := hrel
  have hil : i ≤ l.length := by have := HK.out; omega
  by_cases hlt : i < l.length
  ·obtain ⟨ad, ea, hcell⟩ := Kd.at_int HR.out (i : Int) (by omega) (by omega)
   cases ea
   replace hcell := (HB.out.cell (Vy w _ hcell)).trans hcell
   rw [Int.toNat_natCast] at hcell
   obtain ⟨x, hx⟩ : ∃ x, x = rd l (i : Int) := ⟨_, rfl⟩
   rw [← hx] at hcell
   have ho := HO.out
   rw [List.drop_eq_getElem_cons hlt, qJ, Vx] at ho
   rw [X5 l i hlt] at hx
   rw [← hx] at ho
   obtain ⟨⟨s, e2⟩, hs, ho⟩ := ho
   have HS := za.mk hs
   have HO2 := za.mk ho
   clear hs ho hx HO
   by_cases he : e2 = 0
   ·subst he
    have ho := HO2.out
    rw [if_pos rfl] at ho
    by_cases hfit : xs.length + s.size ≤ 140737488355328
    ·rw [if_pos hfit] at ho
     have HO3 := za.mk ho
     have HF := za.mk hfit
     clear ho HO2 hfit
     go_wp2_with (first
      | (go_at_call 106; refine (vJ x s 0 _ HS.out).mono ?_; rintro e w2 ⟨rfl, hb⟩; have HB3 := za.mk (Below.trans HB.out (hb.mono HB.out.size)); have HM3 := za.mk (HM.out.below hb); clear hb HB HM)
      | ((with_reducible refine zC (N := 35) rfl ?_); refine qT _ rfl (.tmp 33) (.tmp 34) 74 9 rfl w.heap.size 5 i0 Try.underlying74 Try.underlying9 hi hz0 hz1 hz2 _ (xo .u8 xs) rfl HM3.out s rfl (by rw [qD]; exact HF.out) HB3.out.size ?_; intro v1 w3 hm1 hg1; rw [Z2] at hm1; have HM4 := za.mk hm1; have HB4 := za.mk (HB3.out.grown hg1 HB3.out.size (fun k hk => HM3.out.base_le k hk)); clear hm1 hg1))
     go_roundg (l.length - (i + 1))
     case measure => have := HK.out; omega
     case rel => exact ⟨i + 1, xs ++ bytesOf s, by go_num, ⟨by omega⟩, HO3, HM4, HB4⟩
    ·rw [if_neg hfit] at ho
     cases ho
   ·have ho := HO2.out
    rw [if_neg he] at ho
    simp only [Option.some.injEq, Prod.mk.injEq] at ho
    obtain ⟨rfl, rfl⟩ := ho
    go_wp2_with (go_at_call 106; refine (vJ x s e2 _ HS.out).mono ?_; rintro e w2 ⟨rfl, hb⟩; have HB3 := za.mk (Below.trans HB.out (hb.mono HB.out.size)); clear hb)
    go_ret2
    exact ⟨rfl, HB3.out⟩
  ·obtain rfl : i = l.length := by omega
   have ho := HO.out
   rw [List.drop_length, qJ] at ho
   simp only [Option.some.injEq, Prod.mk.injEq] at ho
   obtain ⟨hs, rfl⟩ := ho
   have hcs := xj.to_string (P := Try.prog) Try.underlying74 Try.underlying5 Try.underlying9 HM.out
   rw [hs] at hcs
   clear hs
   go_wp2
   go_ret2
   exact ⟨rfl, HB.out⟩
def xH.f (l : List Int) : Option (ByteArray × Int) :=
 if 256 < l.length then some (⟨#[]⟩, 4) else (yv.f (l.length : Int)).bind fun t => qJ (fun x => (yv.f x).map (fun t => (t, (0 : Int)))) l (bytesOf t)
set_option maxHeartbeats 1000000 in
theorem xH.calls (A : Option Addr) (c : Nat) (l : List Int) (r1 : ByteArray) (r2 : Int) (w : World) (hr : Kd.C (Kd.int .i64) w A l.length l) (hc : l.length ≤ c) (h : xH.f l = some (r1, r2)) :
  Calls Try.prog 88 #[.slice A l.length c] w fun e w' => e = .returned (.tuple #[.string r1, .int .i64 r2]) ∧ Below w.heap.size w w' := by
 have hbig : 256 < l.length → Calls Try.prog 105 #[.slice A l.length c, .func (Fn.func 106) #[] #[]] w fun e w' => e = .returned (.tuple #[.string ⟨#[]⟩, .int .i64 4]) ∧ Below w.heap.size w w' := by
  intro hb
  go_enter Try.func105, Try.ntmps105
  go_wp2
  go_ret2
  exact ⟨rfl, Below.refl _ _⟩
 have HC : za (Calls Try.prog 105 #[.slice A l.length c, .func (Fn.func 106) #[] #[]] w fun e w' => e = .returned (.tuple #[.string r1, .int .i64 r2]) ∧ Below w.heap.size w w') := by
  unfold xH.f at h
  by_cases hb : 256 < l.length
  ·rw [if_pos hb] at h
   simp only [Option.some.injEq, Prod.mk.injEq] at h
   obtain ⟨rfl, rfl⟩ := h
   exact ⟨hbig hb⟩
  ·rw [if_neg hb, Vx] at h
   obtain ⟨t, ht, h⟩ := h
   have hz : t.size ≤ 140737488351232 := by
    unfold yv.f at ht
    split at ht
    ·obtain rfl := Option.some.inj ht
     have := yk (l.length : Int)
     omega
    ·cases ht
   exact ⟨QK 0 A c l t r1 r2 w hr hc (by omega) ht hz h⟩
 clear hbig h hr
 go_enter Try.func88, Try.ntmps88
 go_wp2_with (go_at_call 105; refine HC.out.mono ?_; rintro e w1 ⟨rfl, hb⟩; have HB := za.mk hb; clear hb)
 go_ret2
 exact ⟨rfl, HB.out⟩
def yy.f (l0 : List Int) (l1 : List Int) : Option (List Int) := (xH.f l1).bind fun bt113 => (if l0.length + bt113.1.size < 140737488355328 then (some (l0 ++ bytesOf bt113.1)) else (none))
theorem yy.calls (P0_ : Nat → Prop) (u9000_ : Value) (l0 : List Int) (A1 : Option Addr) (c1 : Nat) (l1 : List Int) (r : List Int) (w0 w : World) (hB : Below w0.heap.size w0 w) (ho0 : Kd.R (Kd.int .u8) 5 w w0.heap.size P0_ u9000_ l0) (hr1 : ∀ W_, zq w W_ (fun k_ => P0_ k_) → Kd.C (Kd.int .i64) W_ A1 l1.length l1) (hc1 : l1.length ≤ c1) (h : yy.f l0 l1 = some r) :
  Calls Try.prog 40 #[u9000_, .slice A1 l1.length c1] w fun e w' => ∃ v0_ : Value, e = .returned (v0_) ∧ Kd.R (Kd.int .u8) 5 w' w0.heap.size (fun k_ => (P0_ k_ ∨ w.heap.size ≤ k_)) v0_ r ∧ Below w0.heap.size w0 w' ∧ zq w w' (fun k_ => P0_ k_) := by
 have HO0 := za.mk (show Kd.R (Kd.int .u8) 5 w w0.heap.size (fun k_ => (P0_ k_ ∨ w.heap.size ≤ k_)) u9000_ l0 from Kd.R_mono ho0 (fun k_ hk => (.inl hk)))
 have HR1 := za.mk hr1
 have HC1 := za.mk hc1
 clear hr1 hc1
 have HK := za.mk (zq.refl w (fun k_ => P0_ k_))
 have HW0 := za.mk hB.size
 have HB := za.mk hB
 clear hB
 have H : ((xH.f l1).bind fun bt113 => (if l0.length + bt113.1.size < 140737488355328 then (some (l0 ++ bytesOf bt113.1)) else (none))) = some r := h
 clear h
 replace H := Vx.mp H
 obtain ⟨⟨t113, t114⟩, A30, H⟩ := H
 replace H : (if l0.length + t113.size < 140737488355328 then (some (l0 ++ bytesOf t113)) else (none)) = some r := H
 have A3 := za.mk A30
 clear A30
 by_cases c4 : l0.length + t113.size < 140737488355328
 ·rw [if_pos c4] at H
  have LMc4 := za.mk c4
  clear c4
  obtain ⟨y115, hy115⟩ : ∃ y_ : List Int, y_ = (l0 ++ bytesOf t113) := ⟨_, rfl⟩
  replace H : (some y115) = some r := by first | (rw [hy115]; with_reducible exact H) | (have H2_ := (Option.bind_some _ _).symm.trans H; rw [hy115]; with_reducible exact H2_) | (have H2_ := (Option.bind_some _ _).symm.trans H; with_reducible exact H2_) | with_reducible exact H | (rw [hy115]; exact H) | exact H
  have Ny115 := za.mk hy115
  clear hy115
  obtain rfl := Option.some.inj H
  go_enter Try.func40, Try.ntmps40
  go_wp2_with (first | ((with_reducible refine zL (f := 88) rfl ?_); refine z8 (some 9) rfl rfl Try.func88 (by kernel_rfl) rfl #[.slice A1 l1.length c1] rfl (by (try simp only [Vw, List.map_cons, List.map_nil]); first | done | rfl | (simp only [List.length_drop, List.length_take]; rfl)) ?_; (with_reducible refine (xH.calls _ _ l1 t113 t114 _ ?side1 ?side2 A3.out).mono ?_); (case side1 => exact Kd.C_kept_now HR1.out (by repeat (first | (with_reducible first | exact HK.out | apply zq.alloc | apply zq.drewN | apply zq.drew) | exact HK.out))); (case side2 => exact HC1.out); rintro e w5 ⟨rfl, hb⟩; refine ⟨_, rfl, ?_⟩; have n0_ := za.mk (Kd.R_below (by (with_reducible repeat (first | apply Kd.R_alloc | apply Kd.R_drewN | apply Kd.R_drew)); exact HO0.out) hb); have n1_ := za.mk (zq.below (S := (fun k_ => P0_ k_)) (by repeat (first | (with_reducible first | exact HK.out | apply zq.alloc | apply zq.drewN | apply zq.drew) | exact HK.out)) hb); have n2_ := za.mk (zi (by repeat (first | (with_reducible first | exact HB.out | apply zc | apply zb | apply zd) | exact HB.out)) hb); clear HO0; clear HK; clear HB; have HO0 := n0_; have HK := n1_; have HB := n2_; clear n0_ n1_ n2_; (try clear hb); (try clear hb2); (try clear hk); (try clear hi)) | (at_builtin; refine jr (w0 := w0) w0.heap.size rfl (.tmp 12) _ 74 9 5 rfl Try.underlying74 Try.underlying9 Qg u9000_ l0 t113 rfl rfl ?aO ?aB ?aS ?aL ?_; (case aB => exact (by repeat (first | (with_reducible first | exact HB.out | apply zc | apply zb | apply zd) | exact HB.out))); (case aO => exact (Kd.own_of_R (by (with_reducible repeat (first | apply Kd.R_alloc | apply Kd.R_drewN | apply Kd.R_drew)); exact HO0.out))); (case aS => exact (zp (by repeat (first | (with_reducible first | exact HB.out | apply zc | apply zb | apply zd) | exact HB.out)))); (case aL => have := LMc4.out; omega); intro v116 w6 ho0 hb hg hat; have ho := Kd.R_of_own (h1 := fun _ => rfl) (ok := (fun k_ => (P0_ k_ ∨ w.heap.size ≤ k_))) ho0 (fun k_ hk_ => Or.elim hat (fun h1_ => HO0.out.1 k_ (h1_.symm.trans hk_)) (fun h2_ => (fun k_ hk => (.inr (Nat.le_trans (by first | exact HK.out.1 | exact (show zq w _ (fun k_ => P0_ k_) from by repeat (first | (with_reducible first | exact HK.out | apply zq.alloc | apply zq.drewN | apply zq.drew) | exact HK.out)).1) hk))) k_ (by obtain ⟨b_, hb_, hl_⟩ := h2_; rw [hb_] at hk_; cases hk_; exact hl_))); clear ho0; rw [← Ny115.out] at ho; change Kd.R (Kd.int .u8) 5 w6 w0.heap.size (fun k_ => (P0_ k_ ∨ w.heap.size ≤ k_)) v116 y115 at ho; have n0_ := za.mk (hb); have n1_ := za.mk (zq.of_grown (S := (fun k_ => P0_ k_)) hg (by repeat (first | (with_reducible first | exact HK.out | apply zq.alloc | apply zq.drewN | apply zq.drew) | exact HK.out)) (fun k_ e_ => (HO0.out.1 k_ e_))); have n2_ := za.mk (ho); clear HB; clear HK; clear HO0; have HB := n0_; have HK := n1_; have HO117 := n2_; clear n0_ n1_ n2_; clear ho hb hg hat))
  go_ret
  exact ⟨_, by first | rfl | (simp [zn, zo] <;> rfl) | (simp [*, zn, zo] <;> rfl), by (with_reducible repeat (first | apply Kd.R_alloc | apply Kd.R_drewN | apply Kd.R_drew)); exact HO117.out, by repeat (first | (with_reducible first | exact HB.out | apply zc | apply zb | apply zd) | exact HB.out), by repeat (first | (with_reducible first | exact HK.out | apply zq.alloc | apply zq.drewN | apply zq.drew) | exact HK.out)⟩
 ·rw [if_neg c4] at H
  exact absurd H (by simp)
def zX.f (k : Nat) (a0_0 : Int) (a0_1 : Int) (a0_2 : ByteArray) (a0_3 : Int) (l0_4 : List Int) (a0_5 : Int) : Option (ByteArray × Int) := (zD.f k ([] : List Int) (([a0_0, a0_1] : List Int))).bind fun t145 => ((yR.f t145 a0_2).bind fun t148 => ((zD.f k t148 (([a0_3] : List Int))).bind fun t154 => ((yy.f t154 l0_4).bind fun t157 => ((yL.f k a0_0 a0_1 a0_2 a0_3 l0_4 a0_5).bind fun t160 => ((zD.f k t157 (([a0_5] : List Int))).bind fun t164 => ((yi.f t160 t164).bind fun bt167 => (some (bt167.1, bt167.2))))))))
theorem zX.mono : ∀ a0 a1 a2 a3 a4 a5 k, LeO (zX.f k a0 a1 a2 a3 a4 a5) (zX.f (k + 1) a0 a1 a2 a3 a4 a5) := by
 intro a0 a1 a2 a3 a4 a5 k
 unfold zX.f
 repeat' first
   | (with_reducible exact yL.mono _ _ _ _ _ _ _)
   | (with_reducible exact zD.mono _ _ _)
   | (with_reducible exact LeO.refl _)
   | (with_reducible exact LeO.none _)
   | (with_reducible refine LeO.ite ?_ ?_)
   | (with_reducible refine LeO.bind ?_ (fun _ => ?_))
   | exact yL.mono _ _ _ _ _ _ _
   | exact zD.mono _ _ _
   | exact LeO.none _
   | refine LeO.ite ?_ ?_
   | refine LeO.bind ?_ (fun _ => ?_)
def zX.T1 : Bool × List (List Nat × List Nat) := (true, [([], []), ([0], [0]), ([], []), ([2], [2]), ([1, 3], [1, 3]), ([4], [4]), ([], []), ([6], [6]), ([5, 7, 5], [5, 7]), ([8, 8, 0, 1, 2, 3, 4, 5, 6, 7, 8], [8])])
def zX.B1 : List Nat := [0, 1, 0, 4, 15, 31, 0, 64, 255, 511]
theorem zX.tab1 : xJ .any (vm Try.f7 1) = zX.T1 := by kernel_rfl
theorem zX.bits1 : qe zX.T1.2 zX.B1 = true := by kernel_rfl
def zX.T2 : Bool × List (List Nat × List Nat) := (true, [([], []), ([], []), ([1], [1]), ([2], [2]), ([0, 3], [0, 3]), ([], []), ([5], [5]), ([4, 6, 4], [4, 6]), ([7, 7, 0, 1, 2, 3, 4, 5, 6, 7], [0, 7])])
def zX.B2 : List Nat := [0, 0, 2, 6, 15, 0, 32, 127, 255]
theorem zX.tab2 : xJ .any (vm Try.f7 2) = zX.T2 := by kernel_rfl
theorem zX.bits2 : qe zX.T2.2 zX.B2 = true := by kernel_rfl
def zX.T3 : Bool × List (List Nat × List Nat) := (true, [([], []), ([0], [0]), ([], []), ([], []), ([3], [3]), ([4], [4]), ([2, 5, 1], [2, 5]), ([1, 6, 6], [1, 6]), ([7], [7]), ([7], [7]), ([8, 7, 0, 1, 2, 3, 4, 5, 6, 7, 8, 9], [8]), ([9, 10, 0, 1, 2, 3, 4, 5, 6, 7, 8, 9, 10], [9])])
def zX.B3 : List Nat := [0, 1, 0, 0, 8, 24, 63, 127, 255, 255, 1023, 2047]
theorem zX.tab3 : xJ .any (vm Try.f7 3) = zX.T3 := by kernel_rfl
theorem zX.bits3 : qe zX.T3.2 zX.B3 = true := by kernel_rfl
theorem zX.calls (k : Nat) (a0_0 : Int) (a0_1 : Int) (a0_2 : ByteArray) (a0_3 : Int) (A0_4 : Option Addr) (c0_4 : Nat) (l0_4 : List Int) (a0_5 : Int) (r1 : ByteArray) (r2 : Int) (w : World) (hr0_4 : Kd.C (Kd.int .i64) w A0_4 l0_4.length l0_4) (hc0_4 : l0_4.length ≤ c0_4) (h : zX.f k a0_0 a0_1 a0_2 a0_3 l0_4 a0_5 = some (r1, r2)) :
  Calls Try.prog 7 #[.agg #[.int .i64 a0_0, .int .i64 a0_1, .string a0_2, .int .i64 a0_3, .slice A0_4 l0_4.length c0_4, .int .i64 a0_5]] w fun e w' => e = .returned (.tuple #[.string r1, .int .i64 r2]) ∧ Below w.heap.size w w' := by
 have hu24 := Try.underlying24
 have HR0_4 := za.mk hr0_4
 have HC0_4 := za.mk hc0_4
 clear hr0_4 hc0_4
 have HB := za.mk (Below.refl w.heap.size w)
 have H : ((zD.f k ([] : List Int) (([a0_0, a0_1] : List Int))).bind fun t145 => ((yR.f t145 a0_2).bind fun t148 => ((zD.f k t148 (([a0_3] : List Int))).bind fun t154 => ((yy.f t154 l0_4).bind fun t157 => ((yL.f k a0_0 a0_1 a0_2 a0_3 l0_4 a0_5).bind fun t160 => ((zD.f k t157 (([a0_5] : List Int))).bind fun t164 => ((yi.f t160 t164).bind fun bt167 => (some (bt167.1, bt167.2))))))))) = some (r1, r2) := h
 clear h
 obtain ⟨y142, hy142⟩ : ∃ y_ : List Int, y_ = (([a0_0, a0_1] : List Int)) := ⟨_, rfl⟩
 replace H : ((zD.f k ([] : List Int) y142).bind fun t145 => ((yR.f t145 a0_2).bind fun t148 => ((zD.f k t148 (([a0_3] : List Int))).bind fun t154 => ((yy.f t154 l0_4).bind fun t157 => ((yL.f k a0_0 a0_1 a0_2 a0_3 l0_4 a0_5).bind fun t160 => ((zD.f k t157 (([a0_5] : List Int))).bind fun t164 => ((yi.f t160 t164).bind fun bt167 => (some (bt167.1, bt167.2))))))))) = some (r1, r2) := by first | (rw [hy142]; with_reducible exact H) | (have H2_ := (Option.bind_some _ _).symm.trans H; rw [hy142]; with_reducible exact H2_) | (have H2_ := (Option.bind_some _ _).symm.trans H; with_reducible exact H2_) | with_reducible exact H | (rw [hy142]; exact H) | exact H
 have Ny142 := za.mk hy142
 clear hy142
 replace H := Vx.mp H
 obtain ⟨t145, A20, H⟩ := H
 replace H : ((yR.f t145 a0_2).bind fun t148 => ((zD.f k t148 (([a0_3] : List Int))).bind fun t154 => ((yy.f t154 l0_4).bind fun t157 => ((yL.f k a0_0 a0_1 a0_2 a0_3 l0_4 a0_5).bind fun t160 => ((zD.f k t157 (([a0_5] : List Int))).bind fun t164 => ((yi.f t160 t164).bind fun bt167 => (some (bt167.1, bt167.2)))))))) = some (r1, r2) := H
 have A2 := za.mk A20
 clear A20
 replace H := Vx.mp H
 obtain ⟨t148, A30, H⟩ := H
 replace H : ((zD.f k t148 (([a0_3] : List Int))).bind fun t154 => ((yy.f t154 l0_4).bind fun t157 => ((yL.f k a0_0 a0_1 a0_2 a0_3 l0_4 a0_5).bind fun t160 => ((zD.f k t157 (([a0_5] : List Int))).bind fun t164 => ((yi.f t160 t164).bind fun bt167 => (some (bt167.1, bt167.2))))))) = some (r1, r2) := H
 have A3 := za.mk A30
 clear A30
 obtain ⟨y151, hy151⟩ : ∃ y_ : List Int, y_ = (([a0_3] : List Int)) := ⟨_, rfl⟩
 replace H : ((zD.f k t148 y151).bind fun t154 => ((yy.f t154 l0_4).bind fun t157 => ((yL.f k a0_0 a0_1 a0_2 a0_3 l0_4 a0_5).bind fun t160 => ((zD.f k t157 (([a0_5] : List Int))).bind fun t164 => ((yi.f t160 t164).bind fun bt167 => (some (bt167.1, bt167.2))))))) = some (r1, r2) := by first | (rw [hy151]; with_reducible exact H) | (have H2_ := (Option.bind_some _ _).symm.trans H; rw [hy151]; with_reducible exact H2_) | (have H2_ := (Option.bind_some _ _).symm.trans H; with_reducible exact H2_) | with_reducible exact H | (rw [hy151]; exact H) | exact H
 have Ny151 := za.mk hy151
 clear hy151
 replace H := Vx.mp H
 obtain ⟨t154, A40, H⟩ := H
 replace H : ((yy.f t154 l0_4).bind fun t157 => ((yL.f k a0_0 a0_1 a0_2 a0_3 l0_4 a0_5).bind fun t160 => ((zD.f k t157 (([a0_5] : List Int))).bind fun t164 => ((yi.f t160 t164).bind fun bt167 => (some (bt167.1, bt167.2)))))) = some (r1, r2) := H
 have A4 := za.mk A40
 clear A40
 replace H := Vx.mp H
 obtain ⟨t157, A50, H⟩ := H
 replace H : ((yL.f k a0_0 a0_1 a0_2 a0_3 l0_4 a0_5).bind fun t160 => ((zD.f k t157 (([a0_5] : List Int))).bind fun t164 => ((yi.f t160 t164).bind fun bt167 => (some (bt167.1, bt167.2))))) = some (r1, r2) := H
 have A5 := za.mk A50
 clear A50
 replace H := Vx.mp H
 obtain ⟨t160, A60, H⟩ := H
 replace H : ((zD.f k t157 (([a0_5] : List Int))).bind fun t164 => ((yi.f t160 t164).bind fun bt167 => (some (bt167.1, bt167.2)))) = some (r1, r2) := H
 have A6 := za.mk A60
 clear A60
 obtain ⟨y161, hy161⟩ : ∃ y_ : List Int, y_ = (([a0_5] : List Int)) := ⟨_, rfl⟩
 replace H : ((zD.f k t157 y161).bind fun t164 => ((yi.f t160 t164).bind fun bt167 => (some (bt167.1, bt167.2)))) = some (r1, r2) := by first | (rw [hy161]; with_reducible exact H) | (have H2_ := (Option.bind_some _ _).symm.trans H; rw [hy161]; with_reducible exact H2_) | (have H2_ := (Option.bind_some _ _).symm.trans H; with_reducible exact H2_) | with_reducible exact H | (rw [hy161]; exact H) | exact H
 have Ny161 := za.mk hy161
 clear hy161
 replace H := Vx.mp H
 obtain ⟨t164, A70, H⟩ := H
 replace H : ((yi.f t160 t164).bind fun bt167 => (some (bt167.1, bt167.2))) = some (r1, r2) := H
 have A7 := za.mk A70
 clear A70
 replace H := Vx.mp H
 obtain ⟨⟨t167, t168⟩, A80, H⟩ := H
 replace H : (some (t167, t168)) = some (r1, r2) := H
 have A8 := za.mk A80
 clear A80
 simp only [Option.some.injEq, Prod.mk.injEq] at H
 obtain ⟨rfl, rfl⟩ := H
 go_enter Try.func7, Try.ntmps7
 try go_wp2_with (first | ((with_reducible refine zC (N := 1) rfl ?_); refine zF ?hg (N := 1) ?hd (cs := #[.int .i64 a0_0, .int .i64 a0_1, .string a0_2, .int .i64 a0_3, .slice A0_4 l0_4.length c0_4, .int .i64 a0_5]) (t := 24) ?hr ?_; (case hd => rfl); (case hg => rfl); (case hr => first | (go_simp; done) | (go_simp; rfl)); intro gb141 hg w9 hbox hb; have n0_ := za.mk (zi (by repeat (first | (with_reducible first | exact HB.out | apply zc | apply zb | apply zd) | exact HB.out)) hb); have n1_ := za.mk (hbox); have n2_ := za.mk ((by rw [hg]; exact (zp (by repeat (first | (with_reducible first | exact HB.out | apply zc | apply zb | apply zd) | exact HB.out))) : w.heap.size ≤ gb141)); have n3_ := za.mk ((by rw [hg]; exact (zp (by repeat (first | (with_reducible first | exact HB.out | apply zc | apply zb | apply zd) | exact HB.out))) : w.heap.size ≤ gb141)); clear HB; have HB := n0_; have BK141 := n1_; have GW141 := n2_; have GE141 := n3_; clear n0_ n1_ n2_ n3_; clear hb hbox hg))
 have n0_ := za.mk (zu BK141.out)
 have n1_ := za.mk (zd HB.out)
 clear BK141
 clear HB
 have BK141 := n0_
 have HB := n1_
 clear n0_ n1_
 refine qF (n := 10) (S := fun w' => w'.cell? ⟨gb141, 0, none⟩ = some (.int .i64 a0_0) ∧ w'.cell? ⟨gb141, 1, none⟩ = some (.int .i64 a0_1) ∧ w'.cell? ⟨gb141, 2, none⟩ = some (.string a0_2) ∧ w'.cell? ⟨gb141, 3, none⟩ = some (.int .i64 a0_3) ∧ w'.cell? ⟨gb141, 4, none⟩ = some (.slice A0_4 l0_4.length c0_4) ∧ w'.cell? ⟨gb141, 5, none⟩ = some (.int .i64 a0_5)) (ds := []) #[ZF,ZF,ZF,ZF,ZF,ZF,ZF,ZF,ZF,ZF] (by kernel_rfl) rfl rfl ⟨(zg BK141.out 0).trans rfl, (zg BK141.out 1).trans rfl, (zg BK141.out 2).trans rfl, (zg BK141.out 3).trans rfl, (zg BK141.out 4).trans rfl, (zg BK141.out 5).trans rfl⟩ (fun hHeld => ?_); refine xV zX.tab1 zX.bits1 (fun HT_ HW_ => ?_)
 generalize w9.drew = w10 at BK141 HB hHeld ⊢
 refine zZ (i := 0) (N := some 5) (v := ?_) (a' := ?_) #[ZT,ZF,ZF,ZF,ZF,ZF,ZF,ZF,ZF,ZF] rfl rfl (zV HT_.out (by kernel_rfl)) (fun _ _ _ h => h) (Or.inl ⟨by rfl, ?_⟩) ?_ ?_
 rotate_left
 ·intro w'
  go_simp
  with_reducible rfl
 rotate_left
 ·simp only [Act.put, Vt, Vu, Vv, zx, zz]
  rfl
 refine zZ (i := 2) (N := some 7) (v := ?_) (a' := ?_) #[ZT,ZF,ZT,ZF,ZF,ZF,ZF,ZF,ZF,ZF] rfl rfl (zV HT_.out (by kernel_rfl)) (fun _ _ _ h => h) (Or.inl ⟨by rfl, ?_⟩) ?_ ?_
 rotate_left
 ·intro w'
  go_simp
  with_reducible rfl
 rotate_left
 ·simp only [Act.put, Vt, Vu, Vv, zx, zz]
  rfl
 refine zZ (i := 6) (N := some 11) (v := ?_) (a' := ?_) #[ZT,ZF,ZT,ZF,ZF,ZF,ZT,ZF,ZF,ZF] rfl rfl (zV HT_.out (by kernel_rfl)) (fun _ _ _ h => h) (Or.inl ⟨by rfl, ?_⟩) ?_ ?_
 rotate_left
 ·intro w'
  go_simp
  with_reducible rfl
 rotate_left
 ·simp only [Act.put, Vt, Vu, Vv, zx, zz]
  rfl
 refine take_ (i := 1) (N := some 6) (v := ?_) (a' := ?_) #[ZT,ZT,ZT,ZF,ZF,ZF,ZT,ZF,ZF,ZF] rfl rfl (yN HT_.out HW_.out (by kernel_rfl)) (fun _ _ _ h => h) (Or.inl ⟨by rfl, ?_⟩) hHeld ?_ ?_
 rotate_left
 ·rintro w' ⟨s0, s1, s2, s3, s4, s5⟩
  go_simp
  with_reducible rfl
 rotate_left
 ·simp only [Act.put, Vt, Vu, Vv, zx, zz]
  rfl
 refine take_ (i := 3) (N := some 8) (v := ?_) (a' := ?_) #[ZT,ZT,ZT,ZT,ZF,ZF,ZT,ZF,ZF,ZF] rfl rfl (yN HT_.out HW_.out (by kernel_rfl)) (fun _ _ _ h => h) (Or.inl ⟨by rfl, ?_⟩) hHeld ?_ ?_
 rotate_left
 ·rintro w' ⟨s0, s1, s2, s3, s4, s5⟩
  go_simp
  with_reducible rfl
 rotate_left
 ·simp only [Act.put, Vt, Vu, Vv, zx, zz]
  rfl
 refine take_ (i := 7) (N := some 12) (v := ?_) (a' := ?_) #[ZT,ZT,ZT,ZT,ZF,ZF,ZT,ZT,ZF,ZF] rfl rfl (yN HT_.out HW_.out (by kernel_rfl)) (fun _ _ _ h => h) (Or.inl ⟨by rfl, ?_⟩) hHeld ?_ ?_
 rotate_left
 ·rintro w' ⟨s0, s1, s2, s3, s4, s5⟩
  go_simp
  with_reducible rfl
 rotate_left
 ·simp only [Act.put, Vt, Vu, Vv, zx, zz]
  rfl
 refine xC (i := 4) (N := some 9) #[ZT,ZT,ZT,ZT,ZT,ZF,ZT,ZT,ZF,ZF] rfl rfl (y9 HT_.out (by kernel_rfl)) (by decide) (fun K hK => ?_)
 refine Kd.R_lit_step (Kd.int .i64) _ 3 ?hg (N := 9) ?hd (xs := ([a0_0, a0_1] : List Int)) (inner := [.int .i64 a0_0, .int .i64 a0_1]) (ok := fun _ => True) (okp := fun _ => True) ?hr ?hp (fun _ hk => hk) trivial (Below.refl _ _) (Nat.le_refl _) (by simp) ?_; (case hd => rfl); (case hg => rfl); (case hr => first | (go_simp; done) | (go_simp; rfl)); (case hp => exact (yh.one (show Kd.M (Kd.int .i64) _ _ _ a0_0 [.int .i64 a0_0] from rfl) (yh.one (show Kd.M (Kd.int .i64) _ _ _ a0_1 [.int .i64 a0_1] from rfl) (yh.none _ _))))
 intro v143 w11 ho12 hb hg_ hnew_
 clear hg_ hnew_
 (first | rw [← Ny142.out] at ho12 | (simp only [Int.reduceToNat] at ho12; rw [← Ny142.out] at ho12))
 have n0_ := za.mk (Kd.R_lower ho12 (zp (by repeat (first | (with_reducible first | exact HB.out | apply zc | apply zb | apply zd | refine zh ?_ GE141.out) | exact HB.out))))
 have n1_ := za.mk (zH (g := gb141) (o := .cells #[.int .i64 a0_0, .int .i64 a0_1, .string a0_2, .int .i64 a0_3, .slice A0_4 l0_4.length c0_4, .int .i64 a0_5] 24 (0, 0)) (by (with_reducible repeat (first | refine zt ?_ _ | refine zu ?_ | refine zr ?_ _)); exact BK141.out) hb)
 have n2_ := za.mk (zi (by repeat (first | (with_reducible first | exact HB.out | apply zc | apply zb | apply zd | refine zh ?_ GE141.out) | exact HB.out)) hb)
 clear BK141
 clear HB
 have HO144 := n0_
 have BK141 := n1_
 have HB := n2_
 clear n0_ n1_ n2_
 clear hb ho12
 obtain ⟨Ao13, co13, eo13⟩ := Kd.R_slice HO144.out
 (first | subst eo13 | (injection eo13 with f1_ f2_ f3_; have f4_ := f1_.symm; have f5_ := f3_.symm; clear f1_ f2_ f3_; subst f4_; subst f5_))
 refine hK.out _ _ ⟨(zg BK141.out 0).trans rfl, (zg BK141.out 1).trans rfl, (zg BK141.out 2).trans rfl, (zg BK141.out 3).trans rfl, (zg BK141.out 4).trans rfl, (zg BK141.out 5).trans rfl⟩ (fun hHeld => ?_)
 clear hK K
 refine yH (a' := ?_) ?_ ?_
 rotate_left
 ·show Act.put _ (some 9) _ = _
  simp only [Act.put, Vt, Vu, Vv, zx, zz]
  rfl
 refine xC (i := 5) (N := some 10) #[ZT,ZT,ZT,ZT,ZT,ZT,ZT,ZT,ZF,ZF] rfl rfl (y9 HT_.out (by kernel_rfl)) (by decide) (fun K hK => ?_)
 refine xa Try.func39 (by kernel_rfl) rfl #[.slice none 0 0, .slice Ao13 y142.length co13] (by rfl) rfl rfl (by (try simp only [Vw, List.map_cons, List.map_nil]); first | done | rfl | (simp only [List.length_drop, List.length_take]; rfl)) ?_
 refine (zD.calls k (fun k_ => some k_ = (.slice none 0 0 : Value).ownBlock) (.slice none 0 0) ([] : List Int) _ _ y142 t145 w _ ?side1 ?side2 ?side3 ?side4 A2.out).mono ?_
 (case side1 => repeat (first | (with_reducible first | exact HB.out | apply zc | apply zb | apply zd | refine zh ?_ GE141.out) | exact HB.out))
 (case side2 => exact Kd.R_nil _ _ _ _ _)
 (case side3 => exact Kd.C_kept_own (HO144.out) (fun k_ hk_ hs_ => (fun e_ => by simp [Value.ownBlock] at e_) hs_))
 (case side4 => exact (Kd.R_reads' HO144.out).2.1)
 rintro e w14 ⟨v146, rfl, ho0, hb, hkp⟩
 refine ⟨_, rfl, ?_⟩
 have n0_ := za.mk (y6 (by (with_reducible repeat (first | refine zt ?_ _ | refine zu ?_ | refine zr ?_ _)); exact BK141.out) hkp (fun hs_ => (fun e_ => by simp [Value.ownBlock] at e_) hs_))
 have n1_ := za.mk (Kd.R_mono (ok' := fun k_ => True) (Kd.R_keptB (HO144.out) hkp (fun k_ hk_ hs_ => (fun e_ => by simp [Value.ownBlock] at e_) hs_)) (fun k_ hk_ => trivial))
 have n2_ := za.mk (Kd.R_mono (ok' := fun k_ => True) ho0 (fun k_ hk_ => trivial))
 have n3_ := za.mk (hb)
 clear BK141
 clear HO144
 clear HB
 have BK141 := n0_
 have HO144 := n1_
 have HO147 := n2_
 have HB := n3_
 clear n0_ n1_ n2_ n3_
 (try clear hb)
 (try clear hkp)
 (try clear ho0)
 obtain ⟨Ao15, co15, eo15⟩ := Kd.R_slice HO147.out
 (first | subst eo15 | (injection eo15 with f1_ f2_ f3_; have f4_ := f1_.symm; have f5_ := f3_.symm; clear f1_ f2_ f3_; subst f4_; subst f5_))
 refine hK.out _ _ ⟨(zg BK141.out 0).trans rfl, (zg BK141.out 1).trans rfl, (zg BK141.out 2).trans rfl, (zg BK141.out 3).trans rfl, (zg BK141.out 4).trans rfl, (zg BK141.out 5).trans rfl⟩ (fun hHeld => ?_)
 clear hK K
 refine yH (a' := ?_) ?_ ?_
 rotate_left
 ·show Act.put _ (some 10) _ = _
  simp only [Act.put, Vt, Vu, Vv, zx, zz]
  rfl
 refine xC (i := 8) (N := some 13) #[ZT,ZT,ZT,ZT,ZT,ZT,ZT,ZT,ZT,ZF] rfl rfl (y9 HT_.out (by kernel_rfl)) (by decide) (fun K hK => ?_)
 refine xa Try.func38 (by kernel_rfl) rfl #[.slice Ao15 t145.length co15, .string a0_2] (by rfl) rfl rfl (by (try simp only [Vw, List.map_cons, List.map_nil]); first | done | rfl | (simp only [List.length_drop, List.length_take]; rfl)) ?_
 with_reducible refine (yR.calls (fun k_ => some k_ = (.slice Ao15 t145.length co15 : Value).ownBlock) (.slice Ao15 t145.length co15) t145 a0_2 t148 w _ ?side1 ?side2 A3.out).mono ?_
 (case side1 => repeat (first | (with_reducible first | exact HB.out | apply zc | apply zb | apply zd | refine zh ?_ GE141.out) | exact HB.out))
 (case side2 => exact Kd.R_tight rfl HO147.out)
 rintro e w16 ⟨v149, rfl, ho0, hb, hkp⟩
 refine ⟨_, rfl, ?_⟩
 have n0_ := za.mk (y6 (by (with_reducible repeat (first | refine zt ?_ _ | refine zu ?_ | refine zr ?_ _)); exact BK141.out) hkp (fun hs_ => (fun e_ => (Kd.R_ne HO147.out BK141.out (by decide)) e_) hs_))
 have n1_ := za.mk (Kd.R_mono (ok' := fun k_ => True) (Kd.R_keptB ((Kd.R_apart' HO144.out (Kd.R_typed HO147.out) (by decide))) hkp (fun k_ hk_ hs_ => (hk_.2) hs_)) (fun k_ hk_ => trivial))
 have n2_ := za.mk (Kd.R_mono (ok' := fun k_ => True) ho0 (fun k_ hk_ => trivial))
 have n3_ := za.mk (hb)
 clear BK141
 clear HO144
 clear HB
 clear HO147
 have BK141 := n0_
 have HO144 := n1_
 have HO150 := n2_
 have HB := n3_
 clear n0_ n1_ n2_ n3_
 (try clear hb)
 (try clear hkp)
 (try clear ho0)
 refine hK.out _ _ ⟨(zg BK141.out 0).trans rfl, (zg BK141.out 1).trans rfl, (zg BK141.out 2).trans rfl, (zg BK141.out 3).trans rfl, (zg BK141.out 4).trans rfl, (zg BK141.out 5).trans rfl⟩ (fun hHeld => ?_)
 clear hK K
 refine yH (a' := ?_) ?_ ?_
 rotate_left
 ·show Act.put _ (some 13) _ = _
  simp only [Act.put, Vt, Vu, Vv, zx, zz]
  rfl
 refine zZ (i := 9) (N := some 4) (v := ?_) (a' := ?_) #[ZT,ZT,ZT,ZT,ZT,ZT,ZT,ZT,ZT,ZT] rfl rfl (zV HT_.out (by kernel_rfl)) (fun _ _ _ h => h) (Or.inl ⟨by rfl, ?_⟩) ?_ ?_
 rotate_left
 ·intro w'
  go_simp
  with_reducible rfl
 rotate_left
 ·simp only [Act.put, Vt, Vu, Vv, zx, zz]
  rfl
 refine q4 (qB HT_.out (by kernel_rfl)) ?_
 try go_wp2
 have n0_ := za.mk (Kd.R_drew HO144.out)
 have n1_ := za.mk (Kd.R_drew HO150.out)
 have n2_ := za.mk (zu BK141.out)
 have n3_ := za.mk (zd HB.out)
 clear HO144
 clear HO150
 clear BK141
 clear HB
 have HO144 := n0_
 have HO150 := n1_
 have BK141 := n2_
 have HB := n3_
 clear n0_ n1_ n2_ n3_
 refine qF (n := 9) (S := fun w' => w'.cell? ⟨gb141, 0, none⟩ = some (.int .i64 a0_0) ∧ w'.cell? ⟨gb141, 1, none⟩ = some (.int .i64 a0_1) ∧ w'.cell? ⟨gb141, 2, none⟩ = some (.string a0_2) ∧ w'.cell? ⟨gb141, 3, none⟩ = some (.int .i64 a0_3) ∧ w'.cell? ⟨gb141, 4, none⟩ = some (.slice A0_4 l0_4.length c0_4) ∧ w'.cell? ⟨gb141, 5, none⟩ = some (.int .i64 a0_5)) (ds := []) #[ZF,ZF,ZF,ZF,ZF,ZF,ZF,ZF,ZF] (by kernel_rfl) rfl rfl ⟨(zg BK141.out 0).trans rfl, (zg BK141.out 1).trans rfl, (zg BK141.out 2).trans rfl, (zg BK141.out 3).trans rfl, (zg BK141.out 4).trans rfl, (zg BK141.out 5).trans rfl⟩ (fun hHeld => ?_); refine xV zX.tab2 zX.bits2 (fun HT_ HW_ => ?_)
 generalize w16.drew = w17 at HO144 HO150 BK141 HB hHeld ⊢
 refine zZ (i := 0) (N := some 14) (v := ?_) (a' := ?_) #[ZT,ZF,ZF,ZF,ZF,ZF,ZF,ZF,ZF] rfl rfl (zV HT_.out (by kernel_rfl)) (fun _ _ _ h => h) (Or.inl ⟨by rfl, ?_⟩) ?_ ?_
 rotate_left
 ·intro w'
  go_simp
  with_reducible rfl
 rotate_left
 ·simp only [Act.put, Vt, Vu, Vv, zx, zz]
  rfl
 refine zZ (i := 1) (N := some 15) (v := ?_) (a' := ?_) #[ZT,ZT,ZF,ZF,ZF,ZF,ZF,ZF,ZF] rfl rfl (zV HT_.out (by kernel_rfl)) (fun _ _ _ h => h) (Or.inl ⟨by rfl, ?_⟩) ?_ ?_
 rotate_left
 ·intro w'
  go_simp
  with_reducible rfl
 rotate_left
 ·simp only [Act.put, Vt, Vu, Vv, zx, zz]
  rfl
 refine zZ (i := 5) (N := some 19) (v := ?_) (a' := ?_) #[ZT,ZT,ZF,ZF,ZF,ZT,ZF,ZF,ZF] rfl rfl (zV HT_.out (by kernel_rfl)) (fun _ _ _ h => h) (Or.inl ⟨by rfl, ?_⟩) ?_ ?_
 rotate_left
 ·intro w'
  go_simp
  with_reducible rfl
 rotate_left
 ·simp only [Act.put, Vt, Vu, Vv, zx, zz]
  rfl
 refine take_ (i := 2) (N := some 16) (v := ?_) (a' := ?_) #[ZT,ZT,ZT,ZF,ZF,ZT,ZF,ZF,ZF] rfl rfl (yN HT_.out HW_.out (by kernel_rfl)) (fun _ _ _ h => h) (Or.inl ⟨by rfl, ?_⟩) hHeld ?_ ?_
 rotate_left
 ·rintro w' ⟨s0, s1, s2, s3, s4, s5⟩
  go_simp
  with_reducible rfl
 rotate_left
 ·simp only [Act.put, Vt, Vu, Vv, zx, zz]
  rfl
 refine take_ (i := 6) (N := some 20) (v := ?_) (a' := ?_) #[ZT,ZT,ZT,ZF,ZF,ZT,ZT,ZF,ZF] rfl rfl (yN HT_.out HW_.out (by kernel_rfl)) (fun _ _ _ h => h) (Or.inl ⟨by rfl, ?_⟩) hHeld ?_ ?_
 rotate_left
 ·rintro w' ⟨s0, s1, s2, s3, s4, s5⟩
  go_simp
  with_reducible rfl
 rotate_left
 ·simp only [Act.put, Vt, Vu, Vv, zx, zz]
  rfl
 refine xC (i := 3) (N := some 17) #[ZT,ZT,ZT,ZT,ZF,ZT,ZT,ZF,ZF] rfl rfl (y9 HT_.out (by kernel_rfl)) (by decide) (fun K hK => ?_)
 refine Kd.R_lit_step (Kd.int .i64) _ 3 ?hg (N := 17) ?hd (xs := ([a0_3] : List Int)) (inner := [.int .i64 a0_3]) (ok := fun _ => True) (okp := fun _ => True) ?hr ?hp (fun _ hk => hk) trivial (Below.refl _ _) (Nat.le_refl _) (by simp) ?_; (case hd => rfl); (case hg => rfl); (case hr => first | (go_simp; done) | (go_simp; rfl)); (case hp => exact (yh.one (show Kd.M (Kd.int .i64) _ _ _ a0_3 [.int .i64 a0_3] from rfl) (yh.none _ _)))
 intro v152 w18 ho19 hb hg_ hnew_
 clear hg_ hnew_
 (first | rw [← Ny151.out] at ho19 | (simp only [Int.reduceToNat] at ho19; rw [← Ny151.out] at ho19))
 have n0_ := za.mk (Kd.R_elder' (by (with_reducible repeat (first | apply Kd.R_alloc | apply Kd.R_drewN | apply Kd.R_drew)); exact HO144.out) (Kd.R_base ho19) hb)
 have n1_ := za.mk (Kd.R_below (by (with_reducible repeat (first | apply Kd.R_alloc | apply Kd.R_drewN | apply Kd.R_drew)); exact HO150.out) hb)
 have n2_ := za.mk (Kd.R_lower (Kd.R_new' ho19 (Kd.R_lt (by (with_reducible repeat (first | apply Kd.R_alloc | apply Kd.R_drewN | apply Kd.R_drew)); exact HO144.out))) (zp (by repeat (first | (with_reducible first | exact HB.out | apply zc | apply zb | apply zd | refine zh ?_ GE141.out) | exact HB.out))))
 have n3_ := za.mk (zH (g := gb141) (o := .cells #[.int .i64 a0_0, .int .i64 a0_1, .string a0_2, .int .i64 a0_3, .slice A0_4 l0_4.length c0_4, .int .i64 a0_5] 24 (0, 0)) (by (with_reducible repeat (first | refine zt ?_ _ | refine zu ?_ | refine zr ?_ _)); exact BK141.out) hb)
 have n4_ := za.mk (zi (by repeat (first | (with_reducible first | exact HB.out | apply zc | apply zb | apply zd | refine zh ?_ GE141.out) | exact HB.out)) hb)
 clear HO144
 clear HO150
 clear BK141
 clear HB
 have HO144 := n0_
 have HO150 := n1_
 have HO153 := n2_
 have BK141 := n3_
 have HB := n4_
 clear n0_ n1_ n2_ n3_ n4_
 clear hb ho19
 obtain ⟨Ao20, co20, eo20⟩ := Kd.R_slice HO150.out
 (first | subst eo20 | (injection eo20 with f1_ f2_ f3_; have f4_ := f1_.symm; have f5_ := f3_.symm; clear f1_ f2_ f3_; subst f4_; subst f5_))
 obtain ⟨Ao21, co21, eo21⟩ := Kd.R_slice HO153.out
 (first | subst eo21 | (injection eo21 with f1_ f2_ f3_; have f4_ := f1_.symm; have f5_ := f3_.symm; clear f1_ f2_ f3_; subst f4_; subst f5_))
 refine hK.out _ _ ⟨(zg BK141.out 0).trans rfl, (zg BK141.out 1).trans rfl, (zg BK141.out 2).trans rfl, (zg BK141.out 3).trans rfl, (zg BK141.out 4).trans rfl, (zg BK141.out 5).trans rfl⟩ (fun hHeld => ?_)
 clear hK K
 refine yH (a' := ?_) ?_ ?_
 rotate_left
 ·show Act.put _ (some 17) _ = _
  simp only [Act.put, Vt, Vu, Vv, zx, zz]
  rfl
 refine xC (i := 4) (N := some 18) #[ZT,ZT,ZT,ZT,ZT,ZT,ZT,ZF,ZF] rfl rfl (y9 HT_.out (by kernel_rfl)) (by decide) (fun K hK => ?_)
 refine xa Try.func39 (by kernel_rfl) rfl #[.slice Ao20 t148.length co20, .slice Ao21 y151.length co21] (by rfl) rfl rfl (by (try simp only [Vw, List.map_cons, List.map_nil]); first | done | rfl | (simp only [List.length_drop, List.length_take]; rfl)) ?_
 with_reducible refine (zD.calls k (fun k_ => some k_ = (.slice Ao20 t148.length co20 : Value).ownBlock) (.slice Ao20 t148.length co20) t148 _ _ y151 t154 w _ ?side1 ?side2 ?side3 ?side4 A4.out).mono ?_
 (case side1 => repeat (first | (with_reducible first | exact HB.out | apply zc | apply zb | apply zd | refine zh ?_ GE141.out) | exact HB.out))
 (case side2 => exact Kd.R_tight rfl HO150.out)
 (case side3 => exact Kd.C_kept_own ((Kd.R_apart' HO153.out (Kd.R_typed HO150.out) (by decide))) (fun k_ hk_ hs_ => (hk_.2) hs_))
 (case side4 => exact (Kd.R_reads' HO153.out).2.1)
 rintro e w22 ⟨v155, rfl, ho0, hb, hkp⟩
 refine ⟨_, rfl, ?_⟩
 have n0_ := za.mk (y6 (by (with_reducible repeat (first | refine zt ?_ _ | refine zu ?_ | refine zr ?_ _)); exact BK141.out) hkp (fun hs_ => (fun e_ => (Kd.R_ne HO150.out BK141.out (by decide)) e_) hs_))
 have n1_ := za.mk (Kd.R_mono (ok' := fun k_ => some k_ ≠ (.slice Ao21 y151.length co21 : Value).ownBlock) (Kd.R_keptB ((Kd.R_apart' HO144.out (Kd.R_typed HO150.out) (by decide))) hkp (fun k_ hk_ hs_ => (hk_.2) hs_)) (fun k_ hk_ => hk_.1.1.2))
 have n2_ := za.mk (Kd.R_mono (ok' := fun k_ => some k_ ≠ (.slice Ao13 y142.length co13 : Value).ownBlock) (Kd.R_keptB ((Kd.R_apart' HO153.out (Kd.R_typed HO150.out) (by decide))) hkp (fun k_ hk_ hs_ => (hk_.2) hs_)) (fun k_ hk_ => hk_.1.1.2))
 have n3_ := za.mk (Kd.R_mono (ok' := fun k_ => True) ho0 (fun k_ hk_ => trivial))
 have n4_ := za.mk (hb)
 clear BK141
 clear HO144
 clear HO153
 clear HB
 clear HO150
 have BK141 := n0_
 have HO144 := n1_
 have HO153 := n2_
 have HO156 := n3_
 have HB := n4_
 clear n0_ n1_ n2_ n3_ n4_
 (try clear hb)
 (try clear hkp)
 (try clear ho0)
 obtain ⟨Ao23, co23, eo23⟩ := Kd.R_slice HO156.out
 (first | subst eo23 | (injection eo23 with f1_ f2_ f3_; have f4_ := f1_.symm; have f5_ := f3_.symm; clear f1_ f2_ f3_; subst f4_; subst f5_))
 refine hK.out _ _ ⟨(zg BK141.out 0).trans rfl, (zg BK141.out 1).trans rfl, (zg BK141.out 2).trans rfl, (zg BK141.out 3).trans rfl, (zg BK141.out 4).trans rfl, (zg BK141.out 5).trans rfl⟩ (fun hHeld => ?_)
 clear hK K
 refine yH (a' := ?_) ?_ ?_
 rotate_left
 ·show Act.put _ (some 18) _ = _
  simp only [Act.put, Vt, Vu, Vv, zx, zz]
  rfl
 refine xC (i := 7) (N := some 21) #[ZT,ZT,ZT,ZT,ZT,ZT,ZT,ZT,ZF] rfl rfl (y9 HT_.out (by kernel_rfl)) (by decide) (fun K hK => ?_)
 refine xa Try.func40 (by kernel_rfl) rfl #[.slice Ao23 t154.length co23, .slice A0_4 l0_4.length c0_4] (by rfl) rfl rfl (by (try simp only [Vw, List.map_cons, List.map_nil]); first | done | rfl | (simp only [List.length_drop, List.length_take]; rfl)) ?_
 with_reducible refine (yy.calls (fun k_ => some k_ = (.slice Ao23 t154.length co23 : Value).ownBlock) (.slice Ao23 t154.length co23) t154 _ _ l0_4 t157 w _ ?side1 ?side2 ?side3 ?side4 A5.out).mono ?_
 (case side1 => repeat (first | (with_reducible first | exact HB.out | apply zc | apply zb | apply zd | refine zh ?_ GE141.out) | exact HB.out))
 (case side2 => exact Kd.R_tight rfl HO156.out)
 (case side3 => exact Kd.C_kept_came (Kd.heap_int .i64) HR0_4.out (by repeat (first | (with_reducible first | exact HB.out | apply zc | apply zb | apply zd | refine zh ?_ GE141.out) | exact HB.out)) (fun k_ hs_ => (fun e_ => Kd.R_base HO156.out k_ e_.symm) hs_))
 (case side4 => exact HC0_4.out)
 rintro e w24 ⟨v158, rfl, ho0, hb, hkp⟩
 refine ⟨_, rfl, ?_⟩
 have n0_ := za.mk (y6 (by (with_reducible repeat (first | refine zt ?_ _ | refine zu ?_ | refine zr ?_ _)); exact BK141.out) hkp (fun hs_ => (fun e_ => (Kd.R_ne HO156.out BK141.out (by decide)) e_) hs_))
 have n1_ := za.mk (Kd.R_mono (ok' := fun k_ => some k_ ≠ (.slice Ao21 y151.length co21 : Value).ownBlock) (Kd.R_keptB ((Kd.R_apart' HO144.out (Kd.R_typed HO156.out) (by decide))) hkp (fun k_ hk_ hs_ => (hk_.2) hs_)) (fun k_ hk_ => hk_.1.1))
 have n2_ := za.mk (Kd.R_mono (ok' := fun k_ => some k_ ≠ (.slice Ao13 y142.length co13 : Value).ownBlock) (Kd.R_keptB ((Kd.R_apart' HO153.out (Kd.R_typed HO156.out) (by decide))) hkp (fun k_ hk_ hs_ => (hk_.2) hs_)) (fun k_ hk_ => hk_.1.1))
 have n3_ := za.mk (Kd.R_mono (ok' := fun k_ => True) ho0 (fun k_ hk_ => trivial))
 have n4_ := za.mk (hb)
 clear BK141
 clear HO144
 clear HO153
 clear HB
 clear HO156
 have BK141 := n0_
 have HO144 := n1_
 have HO153 := n2_
 have HO159 := n3_
 have HB := n4_
 clear n0_ n1_ n2_ n3_ n4_
 (try clear hb)
 (try clear hkp)
 (try clear ho0)
 refine hK.out _ _ ⟨(zg BK141.out 0).trans rfl, (zg BK141.out 1).trans rfl, (zg BK141.out 2).trans rfl, (zg BK141.out 3).trans rfl, (zg BK141.out 4).trans rfl, (zg BK141.out 5).trans rfl⟩ (fun hHeld => ?_)
 clear hK K
 refine yH (a' := ?_) ?_ ?_
 rotate_left
 ·show Act.put _ (some 21) _ = _
  simp only [Act.put, Vt, Vu, Vv, zx, zz]
  rfl
 refine zZ (i := 8) (N := some 4) (v := ?_) (a' := ?_) #[ZT,ZT,ZT,ZT,ZT,ZT,ZT,ZT,ZT] rfl rfl (zV HT_.out (by kernel_rfl)) (fun _ _ _ h => h) (Or.inl ⟨by rfl, ?_⟩) ?_ ?_
 rotate_left
 ·intro w'
  go_simp
  with_reducible rfl
 rotate_left
 ·simp only [Act.put, Vt, Vu, Vv, zx, zz]
  rfl
 refine q4 (qB HT_.out (by kernel_rfl)) ?_
 obtain ⟨Ao25, co25, eo25⟩ := Kd.R_slice HO159.out
 subst eo25
 try go_wp2
 have n0_ := za.mk (Kd.R_drew HO144.out)
 have n1_ := za.mk (Kd.R_drew HO153.out)
 have n2_ := za.mk (Kd.R_drew HO159.out)
 have n3_ := za.mk (zu BK141.out)
 have n4_ := za.mk (zd HB.out)
 clear HO144
 clear HO153
 clear HO159
 clear BK141
 clear HB
 have HO144 := n0_
 have HO153 := n1_
 have HO159 := n2_
 have BK141 := n3_
 have HB := n4_
 clear n0_ n1_ n2_ n3_ n4_
 refine qF (n := 12) (S := fun w' => w'.cell? ⟨gb141, 0, none⟩ = some (.int .i64 a0_0) ∧ w'.cell? ⟨gb141, 1, none⟩ = some (.int .i64 a0_1) ∧ w'.cell? ⟨gb141, 2, none⟩ = some (.string a0_2) ∧ w'.cell? ⟨gb141, 3, none⟩ = some (.int .i64 a0_3) ∧ w'.cell? ⟨gb141, 4, none⟩ = some (.slice A0_4 l0_4.length c0_4) ∧ w'.cell? ⟨gb141, 5, none⟩ = some (.int .i64 a0_5)) (ds := []) #[ZF,ZF,ZF,ZF,ZF,ZF,ZF,ZF,ZF,ZF,ZF,ZF] (by kernel_rfl) rfl rfl ⟨(zg BK141.out 0).trans rfl, (zg BK141.out 1).trans rfl, (zg BK141.out 2).trans rfl, (zg BK141.out 3).trans rfl, (zg BK141.out 4).trans rfl, (zg BK141.out 5).trans rfl⟩ (fun hHeld => ?_); refine xV zX.tab3 zX.bits3 (fun HT_ HW_ => ?_)
 generalize w24.drew = w26 at HO144 HO153 HO159 BK141 HB hHeld ⊢
 refine zZ (i := 2) (N := some 24) (v := ?_) (a' := ?_) #[ZF,ZF,ZT,ZF,ZF,ZF,ZF,ZF,ZF,ZF,ZF,ZF] rfl rfl (zV HT_.out (by kernel_rfl)) (fun _ _ _ h => h) (Or.inl ⟨by rfl, ?_⟩) ?_ ?_
 rotate_left
 ·intro w'
  go_simp
  with_reducible rfl
 rotate_left
 ·simp only [Act.put, Vt, Vu, Vv, zx, zz]
  rfl
 refine zZ (i := 3) (N := some 25) (v := ?_) (a' := ?_) #[ZF,ZF,ZT,ZT,ZF,ZF,ZF,ZF,ZF,ZF,ZF,ZF] rfl rfl (zV HT_.out (by kernel_rfl)) (fun _ _ _ h => h) (Or.inl ⟨by rfl, ?_⟩) ?_ ?_
 rotate_left
 ·intro w'
  go_simp
  with_reducible rfl
 rotate_left
 ·simp only [Act.put, Vt, Vu, Vv, zx, zz]
  rfl
 refine take_ (i := 0) (N := some 22) (v := ?_) (a' := ?_) #[ZT,ZF,ZT,ZT,ZF,ZF,ZF,ZF,ZF,ZF,ZF,ZF] rfl rfl (yN HT_.out HW_.out (by kernel_rfl)) (fun _ _ _ h => h) (Or.inl ⟨by rfl, ?_⟩) hHeld ?_ ?_
 rotate_left
 ·rintro w' ⟨s0, s1, s2, s3, s4, s5⟩
  go_simp
  with_reducible rfl
 rotate_left
 ·simp only [Act.put, Vt, Vu, Vv, zx, zz]
  rfl
 refine take_ (i := 4) (N := some 26) (v := ?_) (a' := ?_) #[ZT,ZF,ZT,ZT,ZT,ZF,ZF,ZF,ZF,ZF,ZF,ZF] rfl rfl (yN HT_.out HW_.out (by kernel_rfl)) (fun _ _ _ h => h) (Or.inl ⟨by rfl, ?_⟩) hHeld ?_ ?_
 rotate_left
 ·rintro w' ⟨s0, s1, s2, s3, s4, s5⟩
  go_simp
  with_reducible rfl
 rotate_left
 ·simp only [Act.put, Vt, Vu, Vv, zx, zz]
  rfl
 refine X7 (σ := Value) 6 #[ZT,ZT,ZT,ZT,ZT,ZT,ZF,ZF,ZF,ZF,ZF,ZF] (fun s_ => [(23, .bool t160), (27, s_)]) (fun s_ w' => (w'.cell? ⟨gb141, 0, none⟩ = some (.int .i64 a0_0) ∧ w'.cell? ⟨gb141, 1, none⟩ = some (.int .i64 a0_1) ∧ w'.cell? ⟨gb141, 2, none⟩ = some (.string a0_2) ∧ w'.cell? ⟨gb141, 3, none⟩ = some (.int .i64 a0_3) ∧ w'.cell? ⟨gb141, 4, none⟩ = some (.slice A0_4 l0_4.length c0_4) ∧ w'.cell? ⟨gb141, 5, none⟩ = some (.int .i64 a0_5)) ∧ (Kd.R (Kd.int .i64) 3 w' w.heap.size (fun k_ => some k_ ≠ (.slice Ao21 y151.length co21 : Value).ownBlock ∧ some k_ ≠ (s_ : Value).ownBlock) (.slice Ao13 y142.length co13) y142) ∧ (Kd.R (Kd.int .i64) 3 w' w.heap.size (fun k_ => some k_ ≠ (.slice Ao13 y142.length co13 : Value).ownBlock ∧ some k_ ≠ (s_ : Value).ownBlock) (.slice Ao21 y151.length co21) y151) ∧ (Kd.R (Kd.int .u8) 5 w' w.heap.size (fun _ => True) (.slice Ao25 t157.length co25) t157) ∧ (Kd.R (Kd.int .i64) 3 w' w.heap.size (fun k_ => some k_ ≠ (.slice Ao13 y142.length co13 : Value).ownBlock ∧ some k_ ≠ (.slice Ao21 y151.length co21 : Value).ownBlock) s_ y161) ∧ (w'.heap[gb141]? = some (.cells #[.int .i64 a0_0, .int .i64 a0_1, .string a0_2, .int .i64 a0_3, .slice A0_4 l0_4.length c0_4, .int .i64 a0_5] 24 (0, 0))) ∧ (Below w.heap.size w w')) ?_ ?_
 rotate_left
 ·intro hCont
  refine Xq (i := 1) (j := 5) (Ni := some 23) (Nj := some 27) #[ZT,ZT,ZT,ZT,ZT,ZF,ZF,ZF,ZF,ZF,ZF,ZF] #[ZT,ZF,ZT,ZT,ZT,ZT,ZF,ZF,ZF,ZF,ZF,ZF] rfl rfl rfl rfl (vZ HT_.out (by kernel_rfl)) (by decide) (by decide) (fun K hK => ?_) (fun K hK => ?_)
  ·skip
   refine xa Try.func42 (by kernel_rfl) rfl #[.agg #[.int .i64 a0_0, .int .i64 a0_1, .string a0_2, .int .i64 a0_3, .slice A0_4 l0_4.length c0_4, .int .i64 a0_5]] (by rfl) rfl rfl (by (try simp only [Vw, List.map_cons, List.map_nil]); first | done | rfl | (simp only [List.length_drop, List.length_take]; rfl)) ?_
   with_reducible refine (yL.calls k a0_0 a0_1 a0_2 a0_3 _ _ l0_4 a0_5 t160 _ ?side1 ?side2 A6.out).mono ?_
   (case side1 => repeat (first | exact (Kd.C_below HR0_4.out HB.out) | (with_reducible refine Kd.C_alloc ?_ _) | (with_reducible refine Kd.C_drewN ?_ _) | (with_reducible refine Kd.C_drew ?_)))
   (case side2 => exact HC0_4.out)
   rintro e w27 ⟨rfl, hb⟩
   refine ⟨_, rfl, ?_⟩
   have n0_ := za.mk (Kd.R_below (by (with_reducible repeat (first | apply Kd.R_alloc | apply Kd.R_drewN | apply Kd.R_drew)); exact HO144.out) hb)
   have n1_ := za.mk (Kd.R_below (by (with_reducible repeat (first | apply Kd.R_alloc | apply Kd.R_drewN | apply Kd.R_drew)); exact HO153.out) hb)
   have n2_ := za.mk (Kd.R_below (by (with_reducible repeat (first | apply Kd.R_alloc | apply Kd.R_drewN | apply Kd.R_drew)); exact HO159.out) hb)
   have n3_ := za.mk (zH (g := gb141) (o := .cells #[.int .i64 a0_0, .int .i64 a0_1, .string a0_2, .int .i64 a0_3, .slice A0_4 l0_4.length c0_4, .int .i64 a0_5] 24 (0, 0)) (by (with_reducible repeat (first | refine zt ?_ _ | refine zu ?_ | refine zr ?_ _)); exact BK141.out) hb)
   have n4_ := za.mk (zi (by repeat (first | (with_reducible first | exact HB.out | apply zc | apply zb | apply zd | refine zh ?_ GE141.out) | exact HB.out)) hb)
   clear HO144
   clear HO153
   clear HO159
   clear BK141
   clear HB
   have HO144 := n0_
   have HO153 := n1_
   have HO159 := n2_
   have BK141 := n3_
   have HB := n4_
   clear n0_ n1_ n2_ n3_ n4_
   (try clear hb)
   (try clear hb2)
   (try clear hk)
   (try clear hi)
   refine hK.out _ _ ⟨(zg BK141.out 0).trans rfl, (zg BK141.out 1).trans rfl, (zg BK141.out 2).trans rfl, (zg BK141.out 3).trans rfl, (zg BK141.out 4).trans rfl, (zg BK141.out 5).trans rfl⟩ (fun hHeld => ?_)
   clear hK K
   refine yH (a' := ?_) ?_ ?_
   rotate_left
   ·show Act.put _ (some 23) _ = _
    simp only [Act.put, Vt, Vu, Vv, zx, zz]
    rfl
   refine xC (i := 5) (N := some 27) #[ZT,ZT,ZT,ZT,ZT,ZT,ZF,ZF,ZF,ZF,ZF,ZF] rfl rfl (y9 HT_.out (by kernel_rfl)) (by decide) (fun K hK => ?_)
   refine Kd.R_lit_step (Kd.int .i64) _ 3 ?hg (N := 27) ?hd (xs := ([a0_5] : List Int)) (inner := [.int .i64 a0_5]) (ok := fun _ => True) (okp := fun _ => True) ?hr ?hp (fun _ hk => hk) trivial (Below.refl _ _) (Nat.le_refl _) (by simp) ?_; (case hd => rfl); (case hg => rfl); (case hr => first | (go_simp; done) | (go_simp; rfl)); (case hp => exact (yh.one (show Kd.M (Kd.int .i64) _ _ _ a0_5 [.int .i64 a0_5] from rfl) (yh.none _ _)))
   intro v162 w28 ho29 hb hg_ hnew_
   clear hg_ hnew_
   (first | rw [← Ny161.out] at ho29 | (simp only [Int.reduceToNat] at ho29; rw [← Ny161.out] at ho29))
   have n0_ := za.mk (Kd.R_elder' (by (with_reducible repeat (first | apply Kd.R_alloc | apply Kd.R_drewN | apply Kd.R_drew)); exact HO144.out) (Kd.R_base ho29) hb)
   have n1_ := za.mk (Kd.R_elder' (by (with_reducible repeat (first | apply Kd.R_alloc | apply Kd.R_drewN | apply Kd.R_drew)); exact HO153.out) (Kd.R_base ho29) hb)
   have n2_ := za.mk (Kd.R_below (by (with_reducible repeat (first | apply Kd.R_alloc | apply Kd.R_drewN | apply Kd.R_drew)); exact HO159.out) hb)
   have n3_ := za.mk (Kd.R_lower (Kd.R_new' (Kd.R_new' ho29 (Kd.R_lt (by (with_reducible repeat (first | apply Kd.R_alloc | apply Kd.R_drewN | apply Kd.R_drew)); exact HO144.out))) (Kd.R_lt (by (with_reducible repeat (first | apply Kd.R_alloc | apply Kd.R_drewN | apply Kd.R_drew)); exact HO153.out))) (zp (by repeat (first | (with_reducible first | exact HB.out | apply zc | apply zb | apply zd | refine zh ?_ GE141.out) | exact HB.out))))
   have n4_ := za.mk (zH (g := gb141) (o := .cells #[.int .i64 a0_0, .int .i64 a0_1, .string a0_2, .int .i64 a0_3, .slice A0_4 l0_4.length c0_4, .int .i64 a0_5] 24 (0, 0)) (by (with_reducible repeat (first | refine zt ?_ _ | refine zu ?_ | refine zr ?_ _)); exact BK141.out) hb)
   have n5_ := za.mk (zi (by repeat (first | (with_reducible first | exact HB.out | apply zc | apply zb | apply zd | refine zh ?_ GE141.out) | exact HB.out)) hb)
   clear HO144
   clear HO153
   clear HO159
   clear BK141
   clear HB
   have HO144 := n0_
   have HO153 := n1_
   have HO159 := n2_
   have HO163 := n3_
   have BK141 := n4_
   have HB := n5_
   clear n0_ n1_ n2_ n3_ n4_ n5_
   clear hb ho29
   refine hK.out _ _ ⟨(zg BK141.out 0).trans rfl, (zg BK141.out 1).trans rfl, (zg BK141.out 2).trans rfl, (zg BK141.out 3).trans rfl, (zg BK141.out 4).trans rfl, (zg BK141.out 5).trans rfl⟩ (fun hHeld => ?_)
   clear hK K
   refine yH (a' := ?_) ?_ ?_
   rotate_left
   ·show Act.put _ (some 27) _ = _
    simp only [Act.put, Vt, Vu, Vv, zx, zz]
    rfl
   exact yH (by simp only [qk, Act.put, Vt, Vu, Vv]) (hCont (v162) _ ⟨hHeld, (by (with_reducible repeat (first | apply Kd.R_alloc | apply Kd.R_drewN | apply Kd.R_drew)); exact HO144.out), (by (with_reducible repeat (first | apply Kd.R_alloc | apply Kd.R_drewN | apply Kd.R_drew)); exact HO153.out), (by (with_reducible repeat (first | apply Kd.R_alloc | apply Kd.R_drewN | apply Kd.R_drew)); exact HO159.out), (by (with_reducible repeat (first | apply Kd.R_alloc | apply Kd.R_drewN | apply Kd.R_drew)); exact Kd.R_mono HO163.out (fun _ hk => ⟨hk.1.2, hk.2⟩)), (by (with_reducible repeat (first | refine zt ?_ _ | refine zu ?_ | refine zr ?_ _)); exact BK141.out), (by repeat (first | (with_reducible first | exact HB.out | apply zc | apply zb | apply zd | refine zh ?_ GE141.out) | exact HB.out))⟩)
  ·skip
   refine Kd.R_lit_step (Kd.int .i64) _ 3 ?hg (N := 27) ?hd (xs := ([a0_5] : List Int)) (inner := [.int .i64 a0_5]) (ok := fun _ => True) (okp := fun _ => True) ?hr ?hp (fun _ hk => hk) trivial (Below.refl _ _) (Nat.le_refl _) (by simp) ?_; (case hd => rfl); (case hg => rfl); (case hr => first | (go_simp; done) | (go_simp; rfl)); (case hp => exact (yh.one (show Kd.M (Kd.int .i64) _ _ _ a0_5 [.int .i64 a0_5] from rfl) (yh.none _ _)))
   intro v162 w27 ho28 hb hg_ hnew_
   clear hg_ hnew_
   (first | rw [← Ny161.out] at ho28 | (simp only [Int.reduceToNat] at ho28; rw [← Ny161.out] at ho28))
   have n0_ := za.mk (Kd.R_elder' (by (with_reducible repeat (first | apply Kd.R_alloc | apply Kd.R_drewN | apply Kd.R_drew)); exact HO144.out) (Kd.R_base ho28) hb)
   have n1_ := za.mk (Kd.R_elder' (by (with_reducible repeat (first | apply Kd.R_alloc | apply Kd.R_drewN | apply Kd.R_drew)); exact HO153.out) (Kd.R_base ho28) hb)
   have n2_ := za.mk (Kd.R_below (by (with_reducible repeat (first | apply Kd.R_alloc | apply Kd.R_drewN | apply Kd.R_drew)); exact HO159.out) hb)
   have n3_ := za.mk (Kd.R_lower (Kd.R_new' (Kd.R_new' ho28 (Kd.R_lt (by (with_reducible repeat (first | apply Kd.R_alloc | apply Kd.R_drewN | apply Kd.R_drew)); exact HO144.out))) (Kd.R_lt (by (with_reducible repeat (first | apply Kd.R_alloc | apply Kd.R_drewN | apply Kd.R_drew)); exact HO153.out))) (zp (by repeat (first | (with_reducible first | exact HB.out | apply zc | apply zb | apply zd | refine zh ?_ GE141.out) | exact HB.out))))
   have n4_ := za.mk (zH (g := gb141) (o := .cells #[.int .i64 a0_0, .int .i64 a0_1, .string a0_2, .int .i64 a0_3, .slice A0_4 l0_4.length c0_4, .int .i64 a0_5] 24 (0, 0)) (by (with_reducible repeat (first | refine zt ?_ _ | refine zu ?_ | refine zr ?_ _)); exact BK141.out) hb)
   have n5_ := za.mk (zi (by repeat (first | (with_reducible first | exact HB.out | apply zc | apply zb | apply zd | refine zh ?_ GE141.out) | exact HB.out)) hb)
   clear HO144
   clear HO153
   clear HO159
   clear BK141
   clear HB
   have HO144 := n0_
   have HO153 := n1_
   have HO159 := n2_
   have HO163 := n3_
   have BK141 := n4_
   have HB := n5_
   clear n0_ n1_ n2_ n3_ n4_ n5_
   clear hb ho28
   refine hK.out _ _ ⟨(zg BK141.out 0).trans rfl, (zg BK141.out 1).trans rfl, (zg BK141.out 2).trans rfl, (zg BK141.out 3).trans rfl, (zg BK141.out 4).trans rfl, (zg BK141.out 5).trans rfl⟩ (fun hHeld => ?_)
   clear hK K
   refine yH (a' := ?_) ?_ ?_
   rotate_left
   ·show Act.put _ (some 27) _ = _
    simp only [Act.put, Vt, Vu, Vv, zx, zz]
    rfl
   refine xC (i := 1) (N := some 23) #[ZT,ZT,ZT,ZT,ZT,ZT,ZF,ZF,ZF,ZF,ZF,ZF] rfl rfl (y9 HT_.out (by kernel_rfl)) (by decide) (fun K hK => ?_)
   refine xa Try.func42 (by kernel_rfl) rfl #[.agg #[.int .i64 a0_0, .int .i64 a0_1, .string a0_2, .int .i64 a0_3, .slice A0_4 l0_4.length c0_4, .int .i64 a0_5]] (by rfl) rfl rfl (by (try simp only [Vw, List.map_cons, List.map_nil]); first | done | rfl | (simp only [List.length_drop, List.length_take]; rfl)) ?_
   with_reducible refine (yL.calls k a0_0 a0_1 a0_2 a0_3 _ _ l0_4 a0_5 t160 _ ?side1 ?side2 A6.out).mono ?_
   (case side1 => repeat (first | exact (Kd.C_below HR0_4.out HB.out) | (with_reducible refine Kd.C_alloc ?_ _) | (with_reducible refine Kd.C_drewN ?_ _) | (with_reducible refine Kd.C_drew ?_)))
   (case side2 => exact HC0_4.out)
   rintro e w29 ⟨rfl, hb⟩
   refine ⟨_, rfl, ?_⟩
   have n0_ := za.mk (Kd.R_below (by (with_reducible repeat (first | apply Kd.R_alloc | apply Kd.R_drewN | apply Kd.R_drew)); exact HO144.out) hb)
   have n1_ := za.mk (Kd.R_below (by (with_reducible repeat (first | apply Kd.R_alloc | apply Kd.R_drewN | apply Kd.R_drew)); exact HO153.out) hb)
   have n2_ := za.mk (Kd.R_below (by (with_reducible repeat (first | apply Kd.R_alloc | apply Kd.R_drewN | apply Kd.R_drew)); exact HO159.out) hb)
   have n3_ := za.mk (Kd.R_below (by (with_reducible repeat (first | apply Kd.R_alloc | apply Kd.R_drewN | apply Kd.R_drew)); exact HO163.out) hb)
   have n4_ := za.mk (zH (g := gb141) (o := .cells #[.int .i64 a0_0, .int .i64 a0_1, .string a0_2, .int .i64 a0_3, .slice A0_4 l0_4.length c0_4, .int .i64 a0_5] 24 (0, 0)) (by (with_reducible repeat (first | refine zt ?_ _ | refine zu ?_ | refine zr ?_ _)); exact BK141.out) hb)
   have n5_ := za.mk (zi (by repeat (first | (with_reducible first | exact HB.out | apply zc | apply zb | apply zd | refine zh ?_ GE141.out) | exact HB.out)) hb)
   clear HO144
   clear HO153
   clear HO159
   clear HO163
   clear BK141
   clear HB
   have HO144 := n0_
   have HO153 := n1_
   have HO159 := n2_
   have HO163 := n3_
   have BK141 := n4_
   have HB := n5_
   clear n0_ n1_ n2_ n3_ n4_ n5_
   (try clear hb)
   (try clear hb2)
   (try clear hk)
   (try clear hi)
   refine hK.out _ _ ⟨(zg BK141.out 0).trans rfl, (zg BK141.out 1).trans rfl, (zg BK141.out 2).trans rfl, (zg BK141.out 3).trans rfl, (zg BK141.out 4).trans rfl, (zg BK141.out 5).trans rfl⟩ (fun hHeld => ?_)
   clear hK K
   refine yH (a' := ?_) ?_ ?_
   rotate_left
   ·show Act.put _ (some 23) _ = _
    simp only [Act.put, Vt, Vu, Vv, zx, zz]
    rfl
   exact yH (by simp only [qk, Act.put, Vt, Vu, Vv]) (hCont (v162) _ ⟨hHeld, (by (with_reducible repeat (first | apply Kd.R_alloc | apply Kd.R_drewN | apply Kd.R_drew)); exact HO144.out), (by (with_reducible repeat (first | apply Kd.R_alloc | apply Kd.R_drewN | apply Kd.R_drew)); exact HO153.out), (by (with_reducible repeat (first | apply Kd.R_alloc | apply Kd.R_drewN | apply Kd.R_drew)); exact HO159.out), (by (with_reducible repeat (first | apply Kd.R_alloc | apply Kd.R_drewN | apply Kd.R_drew)); exact Kd.R_mono HO163.out (fun _ hk => ⟨hk.1.2, hk.2⟩)), (by (with_reducible repeat (first | refine zt ?_ _ | refine zu ?_ | refine zr ?_ _)); exact BK141.out), (by repeat (first | (with_reducible first | exact HB.out | apply zc | apply zb | apply zd | refine zh ?_ GE141.out) | exact HB.out))⟩)
 rintro v162 w30 ⟨hS_, h0_, h1_, h2_, h3_, h4_, h5_⟩
 have n0_ : za (Kd.R (Kd.int .i64) 3 w30 w.heap.size (fun k_ => some k_ ≠ (.slice Ao21 y151.length co21 : Value).ownBlock ∧ some k_ ≠ (v162 : Value).ownBlock) (.slice Ao13 y142.length co13) y142) := ⟨h0_⟩
 have n1_ : za (Kd.R (Kd.int .i64) 3 w30 w.heap.size (fun k_ => some k_ ≠ (.slice Ao13 y142.length co13 : Value).ownBlock ∧ some k_ ≠ (v162 : Value).ownBlock) (.slice Ao21 y151.length co21) y151) := ⟨h1_⟩
 have n2_ : za (Kd.R (Kd.int .u8) 5 w30 w.heap.size (fun _ => True) (.slice Ao25 t157.length co25) t157) := ⟨h2_⟩
 have n3_ : za (Kd.R (Kd.int .i64) 3 w30 w.heap.size (fun k_ => some k_ ≠ (.slice Ao13 y142.length co13 : Value).ownBlock ∧ some k_ ≠ (.slice Ao21 y151.length co21 : Value).ownBlock) v162 y161) := ⟨h3_⟩
 have n4_ : za (w30.heap[gb141]? = some (.cells #[.int .i64 a0_0, .int .i64 a0_1, .string a0_2, .int .i64 a0_3, .slice A0_4 l0_4.length c0_4, .int .i64 a0_5] 24 (0, 0))) := ⟨h4_⟩
 have n5_ : za (Below w.heap.size w w30) := ⟨h5_⟩
 clear HO144
 clear HO153
 clear HO159
 clear BK141
 clear HB
 clear h0_ h1_ h2_ h3_ h4_ h5_
 have HO144 := n0_
 have HO153 := n1_
 have HO159 := n2_
 have HO163 := n3_
 have BK141 := n4_
 have HB := n5_
 clear n0_ n1_ n2_ n3_ n4_ n5_
 have hHeld : w30.cell? ⟨gb141, 0, none⟩ = some (.int .i64 a0_0) ∧ w30.cell? ⟨gb141, 1, none⟩ = some (.int .i64 a0_1) ∧ w30.cell? ⟨gb141, 2, none⟩ = some (.string a0_2) ∧ w30.cell? ⟨gb141, 3, none⟩ = some (.int .i64 a0_3) ∧ w30.cell? ⟨gb141, 4, none⟩ = some (.slice A0_4 l0_4.length c0_4) ∧ w30.cell? ⟨gb141, 5, none⟩ = some (.int .i64 a0_5) := hS_
 obtain ⟨Ao31, co31, eo31⟩ := Kd.R_slice HO163.out
 (first | subst eo31 | (injection eo31 with f1_ f2_ f3_; have f4_ := f1_.symm; have f5_ := f3_.symm; clear f1_ f2_ f3_; subst f4_; subst f5_))
 refine yH (a' := ?_) ?_ ?_
 rotate_left
 ·simp only [qk, Act.put, Vt, Vu, Vv]
  rfl
 refine xC (i := 6) (N := some 28) #[ZT,ZT,ZT,ZT,ZT,ZT,ZT,ZF,ZF,ZF,ZF,ZF] rfl rfl (y9 HT_.out (by kernel_rfl)) (by decide) (fun K hK => ?_)
 refine xa Try.func39 (by kernel_rfl) rfl #[.slice Ao25 t157.length co25, .slice Ao31 y161.length co31] (by rfl) rfl rfl (by (try simp only [Vw, List.map_cons, List.map_nil]); first | done | rfl | (simp only [List.length_drop, List.length_take]; rfl)) ?_
 with_reducible refine (zD.calls k (fun k_ => some k_ = (.slice Ao25 t157.length co25 : Value).ownBlock) (.slice Ao25 t157.length co25) t157 _ _ y161 t164 w _ ?side1 ?side2 ?side3 ?side4 A7.out).mono ?_
 (case side1 => repeat (first | (with_reducible first | exact HB.out | apply zc | apply zb | apply zd | refine zh ?_ GE141.out) | exact HB.out))
 (case side2 => exact Kd.R_tight rfl HO159.out)
 (case side3 => exact Kd.C_kept_own ((Kd.R_apart' HO163.out (Kd.R_typed HO159.out) (by decide))) (fun k_ hk_ hs_ => (hk_.2) hs_))
 (case side4 => exact (Kd.R_reads' HO163.out).2.1)
 rintro e w32 ⟨v165, rfl, ho0, hb, hkp⟩
 refine ⟨_, rfl, ?_⟩
 have n0_ := za.mk (y6 (by (with_reducible repeat (first | refine zt ?_ _ | refine zu ?_ | refine zr ?_ _)); exact BK141.out) hkp (fun hs_ => (fun e_ => (Kd.R_ne HO159.out BK141.out (by decide)) e_) hs_))
 have n1_ := za.mk (Kd.R_mono (ok' := fun k_ => some k_ ≠ (.slice Ao21 y151.length co21 : Value).ownBlock ∧ some k_ ≠ (.slice Ao31 y161.length co31 : Value).ownBlock) (Kd.R_keptB ((Kd.R_apart' HO144.out (Kd.R_typed HO159.out) (by decide))) hkp (fun k_ hk_ hs_ => (hk_.2) hs_)) (fun k_ hk_ => ⟨hk_.1.1.1, hk_.1.1.2⟩))
 have n2_ := za.mk (Kd.R_mono (ok' := fun k_ => some k_ ≠ (.slice Ao13 y142.length co13 : Value).ownBlock ∧ some k_ ≠ (.slice Ao31 y161.length co31 : Value).ownBlock) (Kd.R_keptB ((Kd.R_apart' HO153.out (Kd.R_typed HO159.out) (by decide))) hkp (fun k_ hk_ hs_ => (hk_.2) hs_)) (fun k_ hk_ => ⟨hk_.1.1.1, hk_.1.1.2⟩))
 have n3_ := za.mk (Kd.R_mono (ok' := fun k_ => some k_ ≠ (.slice Ao13 y142.length co13 : Value).ownBlock ∧ some k_ ≠ (.slice Ao21 y151.length co21 : Value).ownBlock) (Kd.R_keptB ((Kd.R_apart' HO163.out (Kd.R_typed HO159.out) (by decide))) hkp (fun k_ hk_ hs_ => (hk_.2) hs_)) (fun k_ hk_ => ⟨hk_.1.1.1, hk_.1.1.2⟩))
 have n4_ := za.mk (Kd.R_mono (ok' := fun k_ => True) ho0 (fun k_ hk_ => trivial))
 have n5_ := za.mk (hb)
 clear BK141
 clear HO144
 clear HO153
 clear HO163
 clear HB
 clear HO159
 have BK141 := n0_
 have HO144 := n1_
 have HO153 := n2_
 have HO163 := n3_
 have HO166 := n4_
 have HB := n5_
 clear n0_ n1_ n2_ n3_ n4_ n5_
 (try clear hb)
 (try clear hkp)
 (try clear ho0)
 obtain ⟨Ao33, co33, eo33⟩ := Kd.R_slice HO166.out
 (first | subst eo33 | (injection eo33 with f1_ f2_ f3_; have f4_ := f1_.symm; have f5_ := f3_.symm; clear f1_ f2_ f3_; subst f4_; subst f5_))
 refine hK.out _ _ ⟨(zg BK141.out 0).trans rfl, (zg BK141.out 1).trans rfl, (zg BK141.out 2).trans rfl, (zg BK141.out 3).trans rfl, (zg BK141.out 4).trans rfl, (zg BK141.out 5).trans rfl⟩ (fun hHeld => ?_)
 clear hK K
 refine yH (a' := ?_) ?_ ?_
 rotate_left
 ·show Act.put _ (some 28) _ = _
  simp only [Act.put, Vt, Vu, Vv, zx, zz]
  rfl
 refine xC (i := 7) (N := some 29) #[ZT,ZT,ZT,ZT,ZT,ZT,ZT,ZT,ZF,ZF,ZF,ZF] rfl rfl (y9 HT_.out (by kernel_rfl)) (by decide) (fun K hK => ?_)
 refine xa Try.func41 (by kernel_rfl) rfl #[.bool t160, .slice Ao33 t164.length co33] (by rfl) rfl rfl (by (try simp only [Vw, List.map_cons, List.map_nil]); first | done | rfl | (simp only [List.length_drop, List.length_take]; rfl)) ?_
 with_reducible refine (yi.calls t160 _ _ t164 t167 t168 _ ?side1 ?side2 A8.out).mono ?_
 (case side1 => repeat (first | exact (Kd.R_reads' HO166.out).2.2 | (with_reducible refine Kd.C_alloc ?_ _) | (with_reducible refine Kd.C_drewN ?_ _) | (with_reducible refine Kd.C_drew ?_)))
 (case side2 => exact (Kd.R_reads' HO166.out).2.1)
 rintro e w' ⟨rfl, ⟨nd, rfl⟩⟩
 refine ⟨_, rfl, ?_⟩
 refine hK.out _ _ ⟨(zg BK141.out 0).trans rfl, (zg BK141.out 1).trans rfl, (zg BK141.out 2).trans rfl, (zg BK141.out 3).trans rfl, (zg BK141.out 4).trans rfl, (zg BK141.out 5).trans rfl⟩ (fun hHeld => ?_)
 clear hK K
 refine yH (a' := ?_) ?_ ?_
 rotate_left
 ·show Act.put _ (some 29) _ = _
  simp only [Act.put, Vt, Vu, Vv, zx, zz]
  rfl
 refine zZ (i := 8) (N := some 30) (v := ?_) (a' := ?_) #[ZT,ZT,ZT,ZT,ZT,ZT,ZT,ZT,ZT,ZF,ZF,ZF] rfl rfl (zV HT_.out (by kernel_rfl)) (fun _ _ _ h => h) (Or.inl ⟨by rfl, ?_⟩) ?_ ?_
 rotate_left
 ·intro w'
  go_simp
  with_reducible rfl
 rotate_left
 ·simp only [Act.put, Vt, Vu, Vv, zx, zz]
  rfl
 refine zZ (i := 9) (N := some 31) (v := ?_) (a' := ?_) #[ZT,ZT,ZT,ZT,ZT,ZT,ZT,ZT,ZT,ZT,ZF,ZF] rfl rfl (zV HT_.out (by kernel_rfl)) (fun _ _ _ h => h) (Or.inl ⟨by rfl, ?_⟩) ?_ ?_
 rotate_left
 ·intro w'
  go_simp
  with_reducible rfl
 rotate_left
 ·simp only [Act.put, Vt, Vu, Vv, zx, zz]
  rfl
 refine zZ (i := 10) (N := some 2) (v := ?_) (a' := ?_) #[ZT,ZT,ZT,ZT,ZT,ZT,ZT,ZT,ZT,ZT,ZT,ZF] rfl rfl (zV HT_.out (by kernel_rfl)) (fun _ _ _ h => h) (Or.inl ⟨by rfl, ?_⟩) ?_ ?_
 rotate_left
 ·intro w'
  go_simp
  with_reducible rfl
 rotate_left
 ·simp only [Act.put, Vt, Vu, Vv, zx, zz]
  rfl
 refine zZ (i := 11) (N := some 3) (v := ?_) (a' := ?_) #[ZT,ZT,ZT,ZT,ZT,ZT,ZT,ZT,ZT,ZT,ZT,ZT] rfl rfl (zV HT_.out (by kernel_rfl)) (fun _ _ _ h => h) (Or.inl ⟨by rfl, ?_⟩) ?_ ?_
 rotate_left
 ·intro w'
  go_simp
  with_reducible rfl
 rotate_left
 ·simp only [Act.put, Vt, Vu, Vv, zx, zz]
  rfl
 refine q4 (qB HT_.out (by kernel_rfl)) ?_
 try go_wp2
 go_ret2
 exact ⟨by first | rfl | (simp [zn, zo] <;> rfl) | (simp [*, zn, zo] <;> rfl), by repeat (first | (with_reducible first | exact HB.out | apply zc | apply zb | apply zd | refine zh ?_ GE141.out) | exact HB.out)⟩
def ja {α : Type} (T : List Int → α → Option (List Int)) : List α → List Int → Option (List Int)
 | [], acc => some acc
 | x :: l, acc => (T acc x).bind fun a => ja T l a
theorem ZP {α : Type} {d : Kd α} {w : World} {P : Nat → Prop} {A : Option Addr} {n : Nat} {xs : List α} (hr : ∀ W_, zq w W_ P → d.C W_ A n xs) (hn : 0 < n) (hsz : 0 < d.sz) : ∃ ad, A = some ad ∧ ad.block < w.heap.size ∧ ¬ P ad.block := by
 have key : ∀ W_, d.C W_ A n xs → ∃ ad u, A = some ad ∧ W_.cell? ad = some u := by
  intro W_ hC
  obtain ⟨ad, ea, hc⟩ := hC.2.2 hn
  obtain ⟨x, hx⟩ : ∃ x, xs[0]? = some x := ⟨xs[0]'(by have := hC.1; omega), List.getElem?_eq_getElem _⟩
  obtain ⟨c, hl, _, hcell⟩ := hc 0 x hx
  have h0 : c[0]? = some (c[0]'(by omega)) := List.getElem?_eq_getElem _
  have h1 := hcell 0 _ h0
  simp only [Nat.zero_mul, Nat.add_zero, Addr.add_zero'] at h1
  exact ⟨ad, _, ea, h1⟩
 obtain ⟨ad, u, ea, hc⟩ := key w (hr w (zq.refl _ _))
 refine ⟨ad, ea, Vy w _ hc, fun hP => ?_⟩
 have hlt := Vy w _ hc
 have hk : zq w { w with heap := w.heap.setIfInBounds ad.block (.cells #[] 0) } P := by
  refine ⟨by simp, fun i hi hn => ?_⟩
  have hne : ad.block ≠ i := fun h => hn (h ▸ hP)
  simp [hne]
 obtain ⟨ad2, u2, ea2, hc2⟩ := key _ (hr _ hk)
 rw [ea] at ea2
 injection ea2 with ea2
 subst ea2
 simp [World.cell?, hlt] at hc2
end Go.Proofs.Ytbfehjncllkogaa.Q
