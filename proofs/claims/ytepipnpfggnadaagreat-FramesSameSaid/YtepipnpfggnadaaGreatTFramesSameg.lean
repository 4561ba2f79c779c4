/- Texts of this session laid together (shrink.py): what the claim's law rests on. -/
import Derived.Below
import Derived.Deep.Draws
import Derived.Deep.AppendLies
import Derived.Maps.AppendAt
import Derived.OwnWalk
import Derived.Laws.BytesArg
import Derived.Laws.MakeOwn
import Derived.Laws.OwnMore
import Derived.Deep.OwnRows
import Derived.Tactics
import Derived.Lib.ConvBytes
import Derived.Laws.Slices
import Derived.WalkKit
import Derived.KernelRfl
import Derived.RowKit3
import Derived.Deep.LoopGhost
import Derived.Deep.QuietTactic
import Derived.BigQuiet
import Derived.WideLaws
import Derived.Deep.DeepCutAuto
import Derived.Deep.CutBlock
import Derived.Deep.RegionHeld3
import Derived.Laws.Rows
import Derived.Lib.AppendStr
import Derived.ArgAppend
import Derived.Laws.IdiomCopy
import Derived.RowKit
import Derived.OrdersHeld
import Derived.Laws.BitsLemmas
import Derived.Laws.StructEq
import Derived.Test.YtepipnpfggnadaaGreatProg
import Derived.WalkMore
import Derived.Lib.Strings
import Derived.Test.YtepipnpfggnadaaGreatTFramesSamef
set_option linter.unusedVariables false
set_option linter.unusedSimpArgs false
set_option maxRecDepth 100000
set_option maxHeartbeats 8000000
open Bool renaming true → O, false → X
open List renaming setIfInBounds_toArray → Ze
open List renaming set_cons_zero → Zf
open List renaming set_cons_succ → Zg
open List renaming map_toArray → Zh
open Option renaming bind_eq_some_iff → Zi
open Go.World renaming block_lt_of_cell? → Zj
open Bool renaming eq_false_iff → Zk
open List renaming length_append → Zl
namespace Go.Proofs.YtepipnpfggnadaaGreat.Q
open Go.RowKit Go.Proofs.YtepipnpfggnadaaGreatW.PrintWords Go.Proofs.YtepipnpfggnadaaGreatW.PrintLast Go.Proofs.YtepipnpfggnadaaGreatW.PrintMore
attribute [local go_sem] xh xg xm xn yT yU xe xd
def zz.l0 : Nat → List (S46) → List (S46) → Int → Option (Bool)
 | 0, _, _, _ => none
 | k + 1, x0, x1, x5 => if x5 < (x0.length : Int) then (if 0 ≤ x5 then (if x5 < (x1.length : Int) then (if ((zn x0 x5).f0) = ((zn x1 x5).f0) then (if ((zn x0 x5).f1).toList = ((zn x1 x5).f1).toList then (if ((zn x0 x5).f3) = ((zn x1 x5).f3) then (if ((zn x0 x5).f4) = ((zn x1 x5).f4) then ((z3.f k ((zn x0 x5).f2) ((zn x1 x5).f2)).bind fun t731 => (if t731 = true then (zz.l0 k x0 x1 (wrap64 (x5 + 1))) else (some false))) else (some false)) else (some false)) else (some false)) else (some false)) else (none)) else (none)) else (some true)
def zz.f (k : Nat) (l0 : List (S46)) (l1 : List (S46)) : Option (Bool) := if (l0.length : Int) = (l1.length : Int) then (zz.l0 k l0 l1 0) else (some false)
def zz.T6 : Bool × List (List Nat × List Nat) := (true, [([], []), ([], []), ([0, 1], [0, 1]), ([2], [2]), ([3], [3]), ([], []), ([], []), ([5, 6], [5, 6]), ([7], [7]), ([8], [8]), ([4, 9], [4, 9]), ([10], [10]), ([11], [11]), ([11], [11]), ([12, 13, 11], [11, 12, 13]), ([14, 11], [11, 14]), ([15, 11], [11, 15]), ([11], [11]), ([11], [11]), ([17, 18, 11], [11, 17, 18]), ([19, 11], [11, 19]), ([20, 11], [11, 20]), ([16, 21, 11], [11, 16, 21]), ([11, 22], [11, 22]), ([23, 11], [23]), ([24], [24]), ([24], [24]), ([25, 26, 24], [24, 25, 26]), ([27, 24], [24, 27]), ([28, 24], [24, 28]), ([24], [24]), ([24], [24]), ([30, 31, 24], [24, 30, 31]), ([32, 24], [24, 32]), ([33, 24], [24, 33]), ([29, 34, 24], [24, 29, 34]), ([24, 35], [24, 35]), ([36, 24], [36]), ([37], [37]), ([37], [37]), ([38, 39, 37], [37, 38, 39]), ([40, 37], [37, 40]), ([41, 37], [37, 41]), ([37], [37]), ([37], [37]), ([43, 44, 37], [37, 43, 44]), ([45, 37], [37, 45]), ([46, 37], [37, 46]), ([42, 47, 37], [37, 42, 47]), ([37, 48], [37, 48]), ([49, 37], [49]), ([50], [50]), ([50], [50]), ([51, 52, 50], [50, 51, 52]), ([53, 50], [50, 53]), ([54, 50], [50, 54]), ([50], [50]), ([50], [50]), ([56, 57, 50], [50, 56, 57]), ([58, 50], [50, 58]), ([59, 50], [50, 59]), ([55, 60, 50, 50], [50, 55, 60]), ([61, 50], [50, 61]), ([50, 62], [50, 62])])
def zz.B6 : List Nat := [0, 0, 3, 7, 15, 0, 0, 96, 224, 480, 1023, 2047, 4095, 4095, 16383, 32767, 65535, 4095, 4095, 397311, 921599, 1970175, 4194303, 8388607, 16777215, 33554431, 33554431, 134217727, 268435455, 536870911, 33554431, 33554431, 3254779903, 7549747199, 16139681791, 34359738367, 68719476735, 137438953471, 274877906943, 274877906943, 1099511627775, 2199023255551, 4398046511103, 274877906943, 274877906943, 26663156973567, 61847529062399, 132216273240063, 281474976710655, 562949953421311, 1125899906842623, 2251799813685247, 2251799813685247, 9007199254740991, 18014398509481983, 36028797018963967, 2251799813685247, 2251799813685247, 218424581927469055, 506654958079180799, 1083115710382604287, 2305843009213693951, 4611686018427387903, 9223372036854775807]
theorem zz.tab6 : yR .any (qS Tryz.f42 6) = zz.T6 := by kernel_rfl
theorem zz.bits6 : xt zz.T6.2 zz.B6 = true := by kernel_rfl
theorem zz.calls (k : Nat) (A0 : Option Addr) (c0 : Nat) (l0 : List (S46)) (A1 : Option Addr) (c1 : Nat) (l1 : List (S46)) (r : Bool) (w : World) (hr0 : Kd.C k46 w A0 l0.length l0) (hc0 : l0.length ≤ c0) (hr1 : Kd.C k46 w A1 l1.length l1) (hc1 : l1.length ≤ c1) (h : zz.f k l0 l1 = some r) :
  Calls Tryz.prog 42 #[.slice A0 l0.length c0, .slice A1 l1.length c1] w fun e w' => e = .returned (.bool r) ∧ Below w.heap.size w w' := by
 have HR0 := zc.mk hr0
 have HC0 := zc.mk hc0
 clear hr0 hc0
 have HR1 := zc.mk hr1
 have HC1 := zc.mk hc1
 clear hr1 hc1
 have HB := zc.mk (Below.refl w.heap.size w)
 have H : (if (l0.length : Int) = (l1.length : Int) then (zz.l0 k l0 l1 0) else (some false)) = some r := h
 clear h
 by_cases c3 : (l0.length : Int) = (l1.length : Int)
 ·rw [if_pos c3] at H
  have c3b0 : ((l0.length : Int) == (l1.length : Int)) = true := beq_iff_eq.mpr c3
  have c3b1 : ((l0.length : Int) != (l1.length : Int)) = false := bne_eq_false_iff_eq.mpr c3
  have c3b2 : (l0.length == l1.length) = true := by first | simpa using c3 | (simp at c3 ⊢; omega)
  clear c3
  have H' := zc.mk H
  clear H
  go_enter Tryz.func42, Tryz.ntmps42
  go_wp2
  go_loopg [5] k (fun kq v5 w' => ∃ (x5_1 : Int), v5 = .int .i64 x5_1 ∧ zc (zz.l0 kq l0 l1 x5_1 = some r) ∧ zc (kq ≤ k) ∧ zc (Below w.heap.size w w'))
  case atStart => exact ⟨(0), (by first | rfl | (simp; done) | (simp [*]; done)), H', ⟨Nat.le_refl _⟩, ⟨by repeat (first | (with_reducible first | exact HB.out | apply zf | apply zd | apply ze) | exact HB.out)⟩⟩
  case round =>
   clear H'
   try clear c1
   try clear p2
   try clear c3
   try clear c3b0
   try clear c3b1
   try clear c3b2
   obtain ⟨x5_1, rfl, HA, HK1, HB⟩ := hrel
   cases gk with
   | zero => exact absurd HA.out (by simp [zz.l0])
   | succ k1 =>
    have H := HA.out
    clear HA
    simp only [zz.l0] at H
    by_cases c4 : x5_1 < (l0.length : Int)
    ·rw [if_pos c4] at H
     have c4b0 : decide (x5_1 < (l0.length : Int)) = true := decide_eq_true c4
     clear c4
     by_cases c5 : 0 ≤ x5_1
     ·rw [if_pos c5] at H
      have c5b0 : decide (0 ≤ x5_1) = true := decide_eq_true c5
      clear c5
      by_cases c6 : x5_1 < (l1.length : Int)
      ·rw [if_pos c6] at H
       have c6b0 : decide (x5_1 < (l1.length : Int)) = true := decide_eq_true c6
       clear c6
       by_cases c7 : ((zn l0 x5_1).f0) = ((zn l1 x5_1).f0)
       ·rw [if_pos c7] at H
        have c7b0 : (((zn l0 x5_1).f0) == ((zn l1 x5_1).f0)) = true := beq_iff_eq.mpr c7
        have c7b1 : (((zn l0 x5_1).f0) != ((zn l1 x5_1).f0)) = false := bne_eq_false_iff_eq.mpr c7
        clear c7
        by_cases c8 : ((zn l0 x5_1).f1).toList = ((zn l1 x5_1).f1).toList
        ·rw [if_pos c8] at H
         have c8b0 : (((zn l0 x5_1).f1).toList == ((zn l1 x5_1).f1).toList) = true := beq_iff_eq.mpr c8
         have c8b1 : (((zn l0 x5_1).f1).toList != ((zn l1 x5_1).f1).toList) = false := bne_eq_false_iff_eq.mpr c8
         clear c8
         by_cases c9 : ((zn l0 x5_1).f3) = ((zn l1 x5_1).f3)
         ·rw [if_pos c9] at H
          have c9b0 : (((zn l0 x5_1).f3) == ((zn l1 x5_1).f3)) = true := beq_iff_eq.mpr c9
          have c9b1 : (((zn l0 x5_1).f3) != ((zn l1 x5_1).f3)) = false := bne_eq_false_iff_eq.mpr c9
          clear c9
          by_cases c10 : ((zn l0 x5_1).f4) = ((zn l1 x5_1).f4)
          ·rw [if_pos c10] at H
           have c10b0 : (((zn l0 x5_1).f4) == ((zn l1 x5_1).f4)) = true := beq_iff_eq.mpr c10
           have c10b1 : (((zn l0 x5_1).f4) != ((zn l1 x5_1).f4)) = false := bne_eq_false_iff_eq.mpr c10
           clear c10
           replace H := Zi.mp H
           obtain ⟨t731, A110, H⟩ := H
           replace H : (if t731 = true then (zz.l0 k1 l0 l1 (wrap64 (x5_1 + 1))) else (some false)) = some r := H
           have A11 := zc.mk A110
           clear A110
           by_cases c12 : t731 = true
           ·subst c12
            have H1 : (zz.l0 k1 l0 l1 (wrap64 (x5_1 + 1))) = some r := by rw [if_pos rfl] at H; exact H
            clear H
            have H := H1
            clear H1
            have H' := zc.mk H
            clear H
            try go_wp2
            have n0_ := zc.mk (ze HB.out)
            clear HB
            have HB := n0_
            clear n0_
            have p721 : 0 ≤ (x5_1 : Int) := of_decide_eq_true (by first | (with_reducible assumption) | assumption)
            have q721 : x5_1 < (l0.length : Int) := of_decide_eq_true (by first | (with_reducible assumption) | assumption)
            obtain ⟨ad721, A721_2, c721_2, e721, hx721_0, hx721_1, hx721_2, hx721_3, hx721_4, hl721_2, hi721_2⟩ := yc HR0.out x5_1 p721 q721
            have hw721_4 := hx721_4
            have hw721_3 := hx721_3
            have hw721_2 := hx721_2
            have hw721_1 := hx721_1
            have hw721_0 := hx721_0
            cases e721
            replace hx721_0 := (HB.out.cell (Zj w _ hx721_0)).trans hx721_0
            replace hx721_1 := (HB.out.cell (Zj w _ hx721_1)).trans hx721_1
            replace hx721_2 := (HB.out.cell (Zj w _ hx721_2)).trans hx721_2
            replace hx721_3 := (HB.out.cell (Zj w _ hx721_3)).trans hx721_3
            replace hx721_4 := (HB.out.cell (Zj w _ hx721_4)).trans hx721_4
            have HR721_2 := zc.mk hi721_2
            have HC721_2 := zc.mk hl721_2
            clear hi721_2 hl721_2
            replace p721 := eq_true p721
            replace q721 := eq_true q721
            have p722 : 0 ≤ (x5_1 : Int) := of_decide_eq_true (by first | (with_reducible assumption) | assumption)
            have q722 : x5_1 < (l1.length : Int) := of_decide_eq_true (by first | (with_reducible assumption) | assumption)
            obtain ⟨ad722, A722_2, c722_2, e722, hx722_0, hx722_1, hx722_2, hx722_3, hx722_4, hl722_2, hi722_2⟩ := yc HR1.out x5_1 p722 q722
            have hw722_4 := hx722_4
            have hw722_3 := hx722_3
            have hw722_2 := hx722_2
            have hw722_1 := hx722_1
            have hw722_0 := hx722_0
            cases e722
            replace hx722_0 := (HB.out.cell (Zj w _ hx722_0)).trans hx722_0
            replace hx722_1 := (HB.out.cell (Zj w _ hx722_1)).trans hx722_1
            replace hx722_2 := (HB.out.cell (Zj w _ hx722_2)).trans hx722_2
            replace hx722_3 := (HB.out.cell (Zj w _ hx722_3)).trans hx722_3
            replace hx722_4 := (HB.out.cell (Zj w _ hx722_4)).trans hx722_4
            have HR722_2 := zc.mk hi722_2
            have HC722_2 := zc.mk hl722_2
            clear hi722_2 hl722_2
            replace p722 := eq_true p722
            replace q722 := eq_true q722
            have p723 : 0 ≤ (x5_1 : Int) := of_decide_eq_true (by first | (with_reducible assumption) | assumption)
            have q723 : x5_1 < (l0.length : Int) := of_decide_eq_true (by first | (with_reducible assumption) | assumption)
            obtain ⟨ad723, A723_2, c723_2, e723, hx723_0, hx723_1, hx723_2, hx723_3, hx723_4, hl723_2, hi723_2⟩ := yc HR0.out x5_1 p723 q723
            have hw723_4 := hx723_4
            have hw723_3 := hx723_3
            have hw723_2 := hx723_2
            have hw723_1 := hx723_1
            have hw723_0 := hx723_0
            obtain rfl : ad721 = ad723 := (by injection e723)
            replace hx723_0 := (HB.out.cell (Zj w _ hx723_0)).trans hx723_0
            replace hx723_1 := (HB.out.cell (Zj w _ hx723_1)).trans hx723_1
            replace hx723_2 := (HB.out.cell (Zj w _ hx723_2)).trans hx723_2
            replace hx723_3 := (HB.out.cell (Zj w _ hx723_3)).trans hx723_3
            replace hx723_4 := (HB.out.cell (Zj w _ hx723_4)).trans hx723_4
            have HR723_2 := zc.mk hi723_2
            have HC723_2 := zc.mk hl723_2
            clear hi723_2 hl723_2
            replace p723 := eq_true p723
            replace q723 := eq_true q723
            have ea_ := Option.some.inj (hx721_2.symm.trans hx723_2)
            injection ea_ with ea_ en_ ec_
            subst ea_
            subst ec_
            clear en_
            have p724 : 0 ≤ (x5_1 : Int) := of_decide_eq_true (by first | (with_reducible assumption) | assumption)
            have q724 : x5_1 < (l1.length : Int) := of_decide_eq_true (by first | (with_reducible assumption) | assumption)
            obtain ⟨ad724, A724_2, c724_2, e724, hx724_0, hx724_1, hx724_2, hx724_3, hx724_4, hl724_2, hi724_2⟩ := yc HR1.out x5_1 p724 q724
            have hw724_4 := hx724_4
            have hw724_3 := hx724_3
            have hw724_2 := hx724_2
            have hw724_1 := hx724_1
            have hw724_0 := hx724_0
            obtain rfl : ad722 = ad724 := (by injection e724)
            replace hx724_0 := (HB.out.cell (Zj w _ hx724_0)).trans hx724_0
            replace hx724_1 := (HB.out.cell (Zj w _ hx724_1)).trans hx724_1
            replace hx724_2 := (HB.out.cell (Zj w _ hx724_2)).trans hx724_2
            replace hx724_3 := (HB.out.cell (Zj w _ hx724_3)).trans hx724_3
            replace hx724_4 := (HB.out.cell (Zj w _ hx724_4)).trans hx724_4
            have HR724_2 := zc.mk hi724_2
            have HC724_2 := zc.mk hl724_2
            clear hi724_2 hl724_2
            replace p724 := eq_true p724
            replace q724 := eq_true q724
            have ea_ := Option.some.inj (hx722_2.symm.trans hx724_2)
            injection ea_ with ea_ en_ ec_
            subst ea_
            subst ec_
            clear en_
            have p725 : 0 ≤ (x5_1 : Int) := of_decide_eq_true (by first | (with_reducible assumption) | assumption)
            have q725 : x5_1 < (l0.length : Int) := of_decide_eq_true (by first | (with_reducible assumption) | assumption)
            obtain ⟨ad725, A725_2, c725_2, e725, hx725_0, hx725_1, hx725_2, hx725_3, hx725_4, hl725_2, hi725_2⟩ := yc HR0.out x5_1 p725 q725
            have hw725_4 := hx725_4
            have hw725_3 := hx725_3
            have hw725_2 := hx725_2
            have hw725_1 := hx725_1
            have hw725_0 := hx725_0
            obtain rfl : ad721 = ad725 := (by injection e725)
            replace hx725_0 := (HB.out.cell (Zj w _ hx725_0)).trans hx725_0
            replace hx725_1 := (HB.out.cell (Zj w _ hx725_1)).trans hx725_1
            replace hx725_2 := (HB.out.cell (Zj w _ hx725_2)).trans hx725_2
            replace hx725_3 := (HB.out.cell (Zj w _ hx725_3)).trans hx725_3
            replace hx725_4 := (HB.out.cell (Zj w _ hx725_4)).trans hx725_4
            have HR725_2 := zc.mk hi725_2
            have HC725_2 := zc.mk hl725_2
            clear hi725_2 hl725_2
            replace p725 := eq_true p725
            replace q725 := eq_true q725
            have ea_ := Option.some.inj (hx721_2.symm.trans hx725_2)
            injection ea_ with ea_ en_ ec_
            subst ea_
            subst ec_
            clear en_
            have p726 : 0 ≤ (x5_1 : Int) := of_decide_eq_true (by first | (with_reducible assumption) | assumption)
            have q726 : x5_1 < (l1.length : Int) := of_decide_eq_true (by first | (with_reducible assumption) | assumption)
            obtain ⟨ad726, A726_2, c726_2, e726, hx726_0, hx726_1, hx726_2, hx726_3, hx726_4, hl726_2, hi726_2⟩ := yc HR1.out x5_1 p726 q726
            have hw726_4 := hx726_4
            have hw726_3 := hx726_3
            have hw726_2 := hx726_2
            have hw726_1 := hx726_1
            have hw726_0 := hx726_0
            obtain rfl : ad722 = ad726 := (by injection e726)
            replace hx726_0 := (HB.out.cell (Zj w _ hx726_0)).trans hx726_0
            replace hx726_1 := (HB.out.cell (Zj w _ hx726_1)).trans hx726_1
            replace hx726_2 := (HB.out.cell (Zj w _ hx726_2)).trans hx726_2
            replace hx726_3 := (HB.out.cell (Zj w _ hx726_3)).trans hx726_3
            replace hx726_4 := (HB.out.cell (Zj w _ hx726_4)).trans hx726_4
            have HR726_2 := zc.mk hi726_2
            have HC726_2 := zc.mk hl726_2
            clear hi726_2 hl726_2
            replace p726 := eq_true p726
            replace q726 := eq_true q726
            have ea_ := Option.some.inj (hx722_2.symm.trans hx726_2)
            injection ea_ with ea_ en_ ec_
            subst ea_
            subst ec_
            clear en_
            have p727 : 0 ≤ (x5_1 : Int) := of_decide_eq_true (by first | (with_reducible assumption) | assumption)
            have q727 : x5_1 < (l0.length : Int) := of_decide_eq_true (by first | (with_reducible assumption) | assumption)
            obtain ⟨ad727, A727_2, c727_2, e727, hx727_0, hx727_1, hx727_2, hx727_3, hx727_4, hl727_2, hi727_2⟩ := yc HR0.out x5_1 p727 q727
            have hw727_4 := hx727_4
            have hw727_3 := hx727_3
            have hw727_2 := hx727_2
            have hw727_1 := hx727_1
            have hw727_0 := hx727_0
            obtain rfl : ad721 = ad727 := (by injection e727)
            replace hx727_0 := (HB.out.cell (Zj w _ hx727_0)).trans hx727_0
            replace hx727_1 := (HB.out.cell (Zj w _ hx727_1)).trans hx727_1
            replace hx727_2 := (HB.out.cell (Zj w _ hx727_2)).trans hx727_2
            replace hx727_3 := (HB.out.cell (Zj w _ hx727_3)).trans hx727_3
            replace hx727_4 := (HB.out.cell (Zj w _ hx727_4)).trans hx727_4
            have HR727_2 := zc.mk hi727_2
            have HC727_2 := zc.mk hl727_2
            clear hi727_2 hl727_2
            replace p727 := eq_true p727
            replace q727 := eq_true q727
            have ea_ := Option.some.inj (hx721_2.symm.trans hx727_2)
            injection ea_ with ea_ en_ ec_
            subst ea_
            subst ec_
            clear en_
            have p728 : 0 ≤ (x5_1 : Int) := of_decide_eq_true (by first | (with_reducible assumption) | assumption)
            have q728 : x5_1 < (l1.length : Int) := of_decide_eq_true (by first | (with_reducible assumption) | assumption)
            obtain ⟨ad728, A728_2, c728_2, e728, hx728_0, hx728_1, hx728_2, hx728_3, hx728_4, hl728_2, hi728_2⟩ := yc HR1.out x5_1 p728 q728
            have hw728_4 := hx728_4
            have hw728_3 := hx728_3
            have hw728_2 := hx728_2
            have hw728_1 := hx728_1
            have hw728_0 := hx728_0
            obtain rfl : ad722 = ad728 := (by injection e728)
            replace hx728_0 := (HB.out.cell (Zj w _ hx728_0)).trans hx728_0
            replace hx728_1 := (HB.out.cell (Zj w _ hx728_1)).trans hx728_1
            replace hx728_2 := (HB.out.cell (Zj w _ hx728_2)).trans hx728_2
            replace hx728_3 := (HB.out.cell (Zj w _ hx728_3)).trans hx728_3
            replace hx728_4 := (HB.out.cell (Zj w _ hx728_4)).trans hx728_4
            have HR728_2 := zc.mk hi728_2
            have HC728_2 := zc.mk hl728_2
            clear hi728_2 hl728_2
            replace p728 := eq_true p728
            replace q728 := eq_true q728
            have ea_ := Option.some.inj (hx722_2.symm.trans hx728_2)
            injection ea_ with ea_ en_ ec_
            subst ea_
            subst ec_
            clear en_
            have p729 : 0 ≤ (x5_1 : Int) := of_decide_eq_true (by first | (with_reducible assumption) | assumption)
            have q729 : x5_1 < (l0.length : Int) := of_decide_eq_true (by first | (with_reducible assumption) | assumption)
            obtain ⟨ad729, A729_2, c729_2, e729, hx729_0, hx729_1, hx729_2, hx729_3, hx729_4, hl729_2, hi729_2⟩ := yc HR0.out x5_1 p729 q729
            have hw729_4 := hx729_4
            have hw729_3 := hx729_3
            have hw729_2 := hx729_2
            have hw729_1 := hx729_1
            have hw729_0 := hx729_0
            obtain rfl : ad721 = ad729 := (by injection e729)
            replace hx729_0 := (HB.out.cell (Zj w _ hx729_0)).trans hx729_0
            replace hx729_1 := (HB.out.cell (Zj w _ hx729_1)).trans hx729_1
            replace hx729_2 := (HB.out.cell (Zj w _ hx729_2)).trans hx729_2
            replace hx729_3 := (HB.out.cell (Zj w _ hx729_3)).trans hx729_3
            replace hx729_4 := (HB.out.cell (Zj w _ hx729_4)).trans hx729_4
            have HR729_2 := zc.mk hi729_2
            have HC729_2 := zc.mk hl729_2
            clear hi729_2 hl729_2
            replace p729 := eq_true p729
            replace q729 := eq_true q729
            have ea_ := Option.some.inj (hx721_2.symm.trans hx729_2)
            injection ea_ with ea_ en_ ec_
            subst ea_
            subst ec_
            clear en_
            have p730 : 0 ≤ (x5_1 : Int) := of_decide_eq_true (by first | (with_reducible assumption) | assumption)
            have q730 : x5_1 < (l1.length : Int) := of_decide_eq_true (by first | (with_reducible assumption) | assumption)
            obtain ⟨ad730, A730_2, c730_2, e730, hx730_0, hx730_1, hx730_2, hx730_3, hx730_4, hl730_2, hi730_2⟩ := yc HR1.out x5_1 p730 q730
            have hw730_4 := hx730_4
            have hw730_3 := hx730_3
            have hw730_2 := hx730_2
            have hw730_1 := hx730_1
            have hw730_0 := hx730_0
            obtain rfl : ad722 = ad730 := (by injection e730)
            replace hx730_0 := (HB.out.cell (Zj w _ hx730_0)).trans hx730_0
            replace hx730_1 := (HB.out.cell (Zj w _ hx730_1)).trans hx730_1
            replace hx730_2 := (HB.out.cell (Zj w _ hx730_2)).trans hx730_2
            replace hx730_3 := (HB.out.cell (Zj w _ hx730_3)).trans hx730_3
            replace hx730_4 := (HB.out.cell (Zj w _ hx730_4)).trans hx730_4
            have HR730_2 := zc.mk hi730_2
            have HC730_2 := zc.mk hl730_2
            clear hi730_2 hl730_2
            replace p730 := eq_true p730
            replace q730 := eq_true q730
            have ea_ := Option.some.inj (hx722_2.symm.trans hx730_2)
            injection ea_ with ea_ en_ ec_
            subst ea_
            subst ec_
            clear en_
            refine yK (n := 64) (S := fun w' => w'.cell? (ad721.add ((x5_1).toNat * 5)) = some (.int .i64 ((zn l0 x5_1).f0)) ∧ w'.cell? ⟨(ad721.add ((x5_1).toNat * 5)).block, (ad721.add ((x5_1).toNat * 5)).off + 1, none⟩ = some (.string ((zn l0 x5_1).f1)) ∧ w'.cell? ⟨(ad721.add ((x5_1).toNat * 5)).block, (ad721.add ((x5_1).toNat * 5)).off + 2, none⟩ = some (.slice A721_2 ((zn l0 x5_1).f2).length c721_2) ∧ w'.cell? ⟨(ad721.add ((x5_1).toNat * 5)).block, (ad721.add ((x5_1).toNat * 5)).off + 3, none⟩ = some (.int .i64 ((zn l0 x5_1).f3)) ∧ w'.cell? ⟨(ad721.add ((x5_1).toNat * 5)).block, (ad721.add ((x5_1).toNat * 5)).off + 4, none⟩ = some (.int .i64 ((zn l0 x5_1).f4)) ∧ w'.cell? (ad722.add ((x5_1).toNat * 5)) = some (.int .i64 ((zn l1 x5_1).f0)) ∧ w'.cell? ⟨(ad722.add ((x5_1).toNat * 5)).block, (ad722.add ((x5_1).toNat * 5)).off + 1, none⟩ = some (.string ((zn l1 x5_1).f1)) ∧ w'.cell? ⟨(ad722.add ((x5_1).toNat * 5)).block, (ad722.add ((x5_1).toNat * 5)).off + 2, none⟩ = some (.slice A722_2 ((zn l1 x5_1).f2).length c722_2) ∧ w'.cell? ⟨(ad722.add ((x5_1).toNat * 5)).block, (ad722.add ((x5_1).toNat * 5)).off + 3, none⟩ = some (.int .i64 ((zn l1 x5_1).f3)) ∧ w'.cell? ⟨(ad722.add ((x5_1).toNat * 5)).block, (ad722.add ((x5_1).toNat * 5)).off + 4, none⟩ = some (.int .i64 ((zn l1 x5_1).f4)) ∧ w'.cell? (ad721.add ((x5_1).toNat * 5)) = some (.int .i64 ((zn l0 x5_1).f0)) ∧ w'.cell? ⟨(ad721.add ((x5_1).toNat * 5)).block, (ad721.add ((x5_1).toNat * 5)).off + 1, none⟩ = some (.string ((zn l0 x5_1).f1)) ∧ w'.cell? ⟨(ad721.add ((x5_1).toNat * 5)).block, (ad721.add ((x5_1).toNat * 5)).off + 2, none⟩ = some (.slice A721_2 ((zn l0 x5_1).f2).length c721_2) ∧ w'.cell? ⟨(ad721.add ((x5_1).toNat * 5)).block, (ad721.add ((x5_1).toNat * 5)).off + 3, none⟩ = some (.int .i64 ((zn l0 x5_1).f3)) ∧ w'.cell? ⟨(ad721.add ((x5_1).toNat * 5)).block, (ad721.add ((x5_1).toNat * 5)).off + 4, none⟩ = some (.int .i64 ((zn l0 x5_1).f4)) ∧ w'.cell? (ad722.add ((x5_1).toNat * 5)) = some (.int .i64 ((zn l1 x5_1).f0)) ∧ w'.cell? ⟨(ad722.add ((x5_1).toNat * 5)).block, (ad722.add ((x5_1).toNat * 5)).off + 1, none⟩ = some (.string ((zn l1 x5_1).f1)) ∧ w'.cell? ⟨(ad722.add ((x5_1).toNat * 5)).block, (ad722.add ((x5_1).toNat * 5)).off + 2, none⟩ = some (.slice A722_2 ((zn l1 x5_1).f2).length c722_2) ∧ w'.cell? ⟨(ad722.add ((x5_1).toNat * 5)).block, (ad722.add ((x5_1).toNat * 5)).off + 3, none⟩ = some (.int .i64 ((zn l1 x5_1).f3)) ∧ w'.cell? ⟨(ad722.add ((x5_1).toNat * 5)).block, (ad722.add ((x5_1).toNat * 5)).off + 4, none⟩ = some (.int .i64 ((zn l1 x5_1).f4)) ∧ w'.cell? (ad721.add ((x5_1).toNat * 5)) = some (.int .i64 ((zn l0 x5_1).f0)) ∧ w'.cell? ⟨(ad721.add ((x5_1).toNat * 5)).block, (ad721.add ((x5_1).toNat * 5)).off + 1, none⟩ = some (.string ((zn l0 x5_1).f1)) ∧ w'.cell? ⟨(ad721.add ((x5_1).toNat * 5)).block, (ad721.add ((x5_1).toNat * 5)).off + 2, none⟩ = some (.slice A721_2 ((zn l0 x5_1).f2).length c721_2) ∧ w'.cell? ⟨(ad721.add ((x5_1).toNat * 5)).block, (ad721.add ((x5_1).toNat * 5)).off + 3, none⟩ = some (.int .i64 ((zn l0 x5_1).f3)) ∧ w'.cell? ⟨(ad721.add ((x5_1).toNat * 5)).block, (ad721.add ((x5_1).toNat * 5)).off + 4, none⟩ = some (.int .i64 ((zn l0 x5_1).f4)) ∧ w'.cell? (ad722.add ((x5_1).toNat * 5)) = some (.int .i64 ((zn l1 x5_1).f0)) ∧ w'.cell? ⟨(ad722.add ((x5_1).toNat * 5)).block, (ad722.add ((x5_1).toNat * 5)).off + 1, none⟩ = some (.string ((zn l1 x5_1).f1)) ∧ w'.cell? ⟨(ad722.add ((x5_1).toNat * 5)).block, (ad722.add ((x5_1).toNat * 5)).off + 2, none⟩ = some (.slice A722_2 ((zn l1 x5_1).f2).length c722_2) ∧ w'.cell? ⟨(ad722.add ((x5_1).toNat * 5)).block, (ad722.add ((x5_1).toNat * 5)).off + 3, none⟩ = some (.int .i64 ((zn l1 x5_1).f3)) ∧ w'.cell? ⟨(ad722.add ((x5_1).toNat * 5)).block, (ad722.add ((x5_1).toNat * 5)).off + 4, none⟩ = some (.int .i64 ((zn l1 x5_1).f4)) ∧ w'.cell? (ad721.add ((x5_1).toNat * 5)) = some (.int .i64 ((zn l0 x5_1).f0)) ∧ w'.cell? ⟨(ad721.add ((x5_1).toNat * 5)).block, (ad721.add ((x5_1).toNat * 5)).off + 1, none⟩ = some (.string ((zn l0 x5_1).f1)) ∧ w'.cell? ⟨(ad721.add ((x5_1).toNat * 5)).block, (ad721.add ((x5_1).toNat * 5)).off + 2, none⟩ = some (.slice A721_2 ((zn l0 x5_1).f2).length c721_2) ∧ w'.cell? ⟨(ad721.add ((x5_1).toNat * 5)).block, (ad721.add ((x5_1).toNat * 5)).off + 3, none⟩ = some (.int .i64 ((zn l0 x5_1).f3)) ∧ w'.cell? ⟨(ad721.add ((x5_1).toNat * 5)).block, (ad721.add ((x5_1).toNat * 5)).off + 4, none⟩ = some (.int .i64 ((zn l0 x5_1).f4)) ∧ w'.cell? (ad722.add ((x5_1).toNat * 5)) = some (.int .i64 ((zn l1 x5_1).f0)) ∧ w'.cell? ⟨(ad722.add ((x5_1).toNat * 5)).block, (ad722.add ((x5_1).toNat * 5)).off + 1, none⟩ = some (.string ((zn l1 x5_1).f1)) ∧ w'.cell? ⟨(ad722.add ((x5_1).toNat * 5)).block, (ad722.add ((x5_1).toNat * 5)).off + 2, none⟩ = some (.slice A722_2 ((zn l1 x5_1).f2).length c722_2) ∧ w'.cell? ⟨(ad722.add ((x5_1).toNat * 5)).block, (ad722.add ((x5_1).toNat * 5)).off + 3, none⟩ = some (.int .i64 ((zn l1 x5_1).f3)) ∧ w'.cell? ⟨(ad722.add ((x5_1).toNat * 5)).block, (ad722.add ((x5_1).toNat * 5)).off + 4, none⟩ = some (.int .i64 ((zn l1 x5_1).f4)) ∧ w'.cell? (ad721.add ((x5_1).toNat * 5)) = some (.int .i64 ((zn l0 x5_1).f0)) ∧ w'.cell? ⟨(ad721.add ((x5_1).toNat * 5)).block, (ad721.add ((x5_1).toNat * 5)).off + 1, none⟩ = some (.string ((zn l0 x5_1).f1)) ∧ w'.cell? ⟨(ad721.add ((x5_1).toNat * 5)).block, (ad721.add ((x5_1).toNat * 5)).off + 2, none⟩ = some (.slice A721_2 ((zn l0 x5_1).f2).length c721_2) ∧ w'.cell? ⟨(ad721.add ((x5_1).toNat * 5)).block, (ad721.add ((x5_1).toNat * 5)).off + 3, none⟩ = some (.int .i64 ((zn l0 x5_1).f3)) ∧ w'.cell? ⟨(ad721.add ((x5_1).toNat * 5)).block, (ad721.add ((x5_1).toNat * 5)).off + 4, none⟩ = some (.int .i64 ((zn l0 x5_1).f4)) ∧ w'.cell? (ad722.add ((x5_1).toNat * 5)) = some (.int .i64 ((zn l1 x5_1).f0)) ∧ w'.cell? ⟨(ad722.add ((x5_1).toNat * 5)).block, (ad722.add ((x5_1).toNat * 5)).off + 1, none⟩ = some (.string ((zn l1 x5_1).f1)) ∧ w'.cell? ⟨(ad722.add ((x5_1).toNat * 5)).block, (ad722.add ((x5_1).toNat * 5)).off + 2, none⟩ = some (.slice A722_2 ((zn l1 x5_1).f2).length c722_2) ∧ w'.cell? ⟨(ad722.add ((x5_1).toNat * 5)).block, (ad722.add ((x5_1).toNat * 5)).off + 3, none⟩ = some (.int .i64 ((zn l1 x5_1).f3)) ∧ w'.cell? ⟨(ad722.add ((x5_1).toNat * 5)).block, (ad722.add ((x5_1).toNat * 5)).off + 4, none⟩ = some (.int .i64 ((zn l1 x5_1).f4))) (ds := []) #[X,X,X,X,X,X,X,X,X,X,X,X,X,X,X,X,X,X,X,X,X,X,X,X,X,X,X,X,X,X,X,X,X,X,X,X,X,X,X,X,X,X,X,X,X,X,X,X,X,X,X,X,X,X,X,X,X,X,X,X,X,X,X,X] (by kernel_rfl) rfl rfl ⟨((HB.out.cell (Zj w _ hw721_0)).trans hw721_0), ((HB.out.cell (Zj w _ hw721_1)).trans hw721_1), ((HB.out.cell (Zj w _ hw721_2)).trans hw721_2), ((HB.out.cell (Zj w _ hw721_3)).trans hw721_3), ((HB.out.cell (Zj w _ hw721_4)).trans hw721_4), ((HB.out.cell (Zj w _ hw722_0)).trans hw722_0), ((HB.out.cell (Zj w _ hw722_1)).trans hw722_1), ((HB.out.cell (Zj w _ hw722_2)).trans hw722_2), ((HB.out.cell (Zj w _ hw722_3)).trans hw722_3), ((HB.out.cell (Zj w _ hw722_4)).trans hw722_4), ((HB.out.cell (Zj w _ hw723_0)).trans hw723_0), ((HB.out.cell (Zj w _ hw723_1)).trans hw723_1), ((HB.out.cell (Zj w _ hw723_2)).trans hw723_2), ((HB.out.cell (Zj w _ hw723_3)).trans hw723_3), ((HB.out.cell (Zj w _ hw723_4)).trans hw723_4), ((HB.out.cell (Zj w _ hw724_0)).trans hw724_0), ((HB.out.cell (Zj w _ hw724_1)).trans hw724_1), ((HB.out.cell (Zj w _ hw724_2)).trans hw724_2), ((HB.out.cell (Zj w _ hw724_3)).trans hw724_3), ((HB.out.cell (Zj w _ hw724_4)).trans hw724_4), ((HB.out.cell (Zj w _ hw725_0)).trans hw725_0), ((HB.out.cell (Zj w _ hw725_1)).trans hw725_1), ((HB.out.cell (Zj w _ hw725_2)).trans hw725_2), ((HB.out.cell (Zj w _ hw725_3)).trans hw725_3), ((HB.out.cell (Zj w _ hw725_4)).trans hw725_4), ((HB.out.cell (Zj w _ hw726_0)).trans hw726_0), ((HB.out.cell (Zj w _ hw726_1)).trans hw726_1), ((HB.out.cell (Zj w _ hw726_2)).trans hw726_2), ((HB.out.cell (Zj w _ hw726_3)).trans hw726_3), ((HB.out.cell (Zj w _ hw726_4)).trans hw726_4), ((HB.out.cell (Zj w _ hw727_0)).trans hw727_0), ((HB.out.cell (Zj w _ hw727_1)).trans hw727_1), ((HB.out.cell (Zj w _ hw727_2)).trans hw727_2), ((HB.out.cell (Zj w _ hw727_3)).trans hw727_3), ((HB.out.cell (Zj w _ hw727_4)).trans hw727_4), ((HB.out.cell (Zj w _ hw728_0)).trans hw728_0), ((HB.out.cell (Zj w _ hw728_1)).trans hw728_1), ((HB.out.cell (Zj w _ hw728_2)).trans hw728_2), ((HB.out.cell (Zj w _ hw728_3)).trans hw728_3), ((HB.out.cell (Zj w _ hw728_4)).trans hw728_4), ((HB.out.cell (Zj w _ hw729_0)).trans hw729_0), ((HB.out.cell (Zj w _ hw729_1)).trans hw729_1), ((HB.out.cell (Zj w _ hw729_2)).trans hw729_2), ((HB.out.cell (Zj w _ hw729_3)).trans hw729_3), ((HB.out.cell (Zj w _ hw729_4)).trans hw729_4), ((HB.out.cell (Zj w _ hw730_0)).trans hw730_0), ((HB.out.cell (Zj w _ hw730_1)).trans hw730_1), ((HB.out.cell (Zj w _ hw730_2)).trans hw730_2), ((HB.out.cell (Zj w _ hw730_3)).trans hw730_3), ((HB.out.cell (Zj w _ hw730_4)).trans hw730_4)⟩ (fun hHeld => ?_); refine ym zz.tab6 zz.bits6 (fun HT_ HW_ => ?_)
            generalize wr.drew = w13 at HB HR721_2 HR722_2 HR723_2 HR724_2 HR725_2 HR726_2 HR727_2 HR728_2 HR729_2 HR730_2 hx721_0 hx721_1 hx721_2 hx721_3 hx721_4 hx722_0 hx722_1 hx722_2 hx722_3 hx722_4 hx723_0 hx723_1 hx723_2 hx723_3 hx723_4 hx724_0 hx724_1 hx724_2 hx724_3 hx724_4 hx725_0 hx725_1 hx725_2 hx725_3 hx725_4 hx726_0 hx726_1 hx726_2 hx726_3 hx726_4 hx727_0 hx727_1 hx727_2 hx727_3 hx727_4 hx728_0 hx728_1 hx728_2 hx728_3 hx728_4 hx729_0 hx729_1 hx729_2 hx729_3 hx729_4 hx730_0 hx730_1 hx730_2 hx730_3 hx730_4 hHeld ⊢
            refine zq (i := 0) (N := some 17) (v := ?_) (a' := ?_) #[O,X,X,X,X,X,X,X,X,X,X,X,X,X,X,X,X,X,X,X,X,X,X,X,X,X,X,X,X,X,X,X,X,X,X,X,X,X,X,X,X,X,X,X,X,X,X,X,X,X,X,X,X,X,X,X,X,X,X,X,X,X,X,X] rfl rfl (zo HT_.out (by kernel_rfl)) (fun _ _ _ h => h) (Or.inl ⟨by rfl, ?_⟩) ?_ ?_
            rotate_left
            ·intro w'
             go_simp
             with_reducible rfl
            rotate_left
            ·simp only [Act.put, Ze, Zf, Zg, zl, zm]
             rfl
            refine zq (i := 1) (N := some 18) (v := ?_) (a' := ?_) #[O,O,X,X,X,X,X,X,X,X,X,X,X,X,X,X,X,X,X,X,X,X,X,X,X,X,X,X,X,X,X,X,X,X,X,X,X,X,X,X,X,X,X,X,X,X,X,X,X,X,X,X,X,X,X,X,X,X,X,X,X,X,X,X] rfl rfl (zo HT_.out (by kernel_rfl)) (fun _ _ _ h => h) (Or.inl ⟨by rfl, ?_⟩) ?_ ?_
            rotate_left
            ·intro w'
             go_simp
             with_reducible rfl
            rotate_left
            ·simp only [Act.put, Ze, Zf, Zg, zl, zm]
             rfl
            refine zq (i := 2) (N := some 19) (v := ?_) (a' := ?_) #[O,O,O,X,X,X,X,X,X,X,X,X,X,X,X,X,X,X,X,X,X,X,X,X,X,X,X,X,X,X,X,X,X,X,X,X,X,X,X,X,X,X,X,X,X,X,X,X,X,X,X,X,X,X,X,X,X,X,X,X,X,X,X,X] rfl rfl (zo HT_.out (by kernel_rfl)) (fun _ _ _ h => h) (Or.inl ⟨by rfl, ?_⟩) ?_ ?_
            rotate_left
            ·intro w'
             go_simp
             with_reducible rfl
            rotate_left
            ·simp only [Act.put, Ze, Zf, Zg, zl, zm]
             rfl
            refine zq (i := 3) (N := some 20) (v := ?_) (a' := ?_) #[O,O,O,O,X,X,X,X,X,X,X,X,X,X,X,X,X,X,X,X,X,X,X,X,X,X,X,X,X,X,X,X,X,X,X,X,X,X,X,X,X,X,X,X,X,X,X,X,X,X,X,X,X,X,X,X,X,X,X,X,X,X,X,X] rfl rfl (zo HT_.out (by kernel_rfl)) (fun _ _ _ h => h) (Or.inl ⟨by rfl, ?_⟩) ?_ ?_
            rotate_left
            ·intro w'
             go_simp
             with_reducible rfl
            rotate_left
            ·simp only [Act.put, Ze, Zf, Zg, zl, zm]
             rfl
            refine zq (i := 5) (N := some 22) (v := ?_) (a' := ?_) #[O,O,O,O,X,O,X,X,X,X,X,X,X,X,X,X,X,X,X,X,X,X,X,X,X,X,X,X,X,X,X,X,X,X,X,X,X,X,X,X,X,X,X,X,X,X,X,X,X,X,X,X,X,X,X,X,X,X,X,X,X,X,X,X] rfl rfl (zo HT_.out (by kernel_rfl)) (fun _ _ _ h => h) (Or.inl ⟨by rfl, ?_⟩) ?_ ?_
            rotate_left
            ·intro w'
             go_simp
             with_reducible rfl
            rotate_left
            ·simp only [Act.put, Ze, Zf, Zg, zl, zm]
             rfl
            refine zq (i := 6) (N := some 23) (v := ?_) (a' := ?_) #[O,O,O,O,X,O,O,X,X,X,X,X,X,X,X,X,X,X,X,X,X,X,X,X,X,X,X,X,X,X,X,X,X,X,X,X,X,X,X,X,X,X,X,X,X,X,X,X,X,X,X,X,X,X,X,X,X,X,X,X,X,X,X,X] rfl rfl (zo HT_.out (by kernel_rfl)) (fun _ _ _ h => h) (Or.inl ⟨by rfl, ?_⟩) ?_ ?_
            rotate_left
            ·intro w'
             go_simp
             with_reducible rfl
            rotate_left
            ·simp only [Act.put, Ze, Zf, Zg, zl, zm]
             rfl
            refine zq (i := 7) (N := some 24) (v := ?_) (a' := ?_) #[O,O,O,O,X,O,O,O,X,X,X,X,X,X,X,X,X,X,X,X,X,X,X,X,X,X,X,X,X,X,X,X,X,X,X,X,X,X,X,X,X,X,X,X,X,X,X,X,X,X,X,X,X,X,X,X,X,X,X,X,X,X,X,X] rfl rfl (zo HT_.out (by kernel_rfl)) (fun _ _ _ h => h) (Or.inl ⟨by rfl, ?_⟩) ?_ ?_
            rotate_left
            ·intro w'
             go_simp
             with_reducible rfl
            rotate_left
            ·simp only [Act.put, Ze, Zf, Zg, zl, zm]
             rfl
            refine zq (i := 8) (N := some 25) (v := ?_) (a' := ?_) #[O,O,O,O,X,O,O,O,O,X,X,X,X,X,X,X,X,X,X,X,X,X,X,X,X,X,X,X,X,X,X,X,X,X,X,X,X,X,X,X,X,X,X,X,X,X,X,X,X,X,X,X,X,X,X,X,X,X,X,X,X,X,X,X] rfl rfl (zo HT_.out (by kernel_rfl)) (fun _ _ _ h => h) (Or.inl ⟨by rfl, ?_⟩) ?_ ?_
            rotate_left
            ·intro w'
             go_simp
             with_reducible rfl
            rotate_left
            ·simp only [Act.put, Ze, Zf, Zg, zl, zm]
             rfl
            refine take_ (i := 4) (N := some 21) (v := ?_) (a' := ?_) #[O,O,O,O,O,O,O,O,O,X,X,X,X,X,X,X,X,X,X,X,X,X,X,X,X,X,X,X,X,X,X,X,X,X,X,X,X,X,X,X,X,X,X,X,X,X,X,X,X,X,X,X,X,X,X,X,X,X,X,X,X,X,X,X] rfl rfl (zQ HT_.out HW_.out (by kernel_rfl)) (fun _ _ _ h => h) (Or.inl ⟨by rfl, ?_⟩) hHeld ?_ ?_
            rotate_left
            ·rintro w' ⟨s0, s1, s2, s3, s4, s5, s6, s7, s8, s9, s10, s11, s12, s13, s14, s15, s16, s17, s18, s19, s20, s21, s22, s23, s24, s25, s26, s27, s28, s29, s30, s31, s32, s33, s34, s35, s36, s37, s38, s39, s40, s41, s42, s43, s44, s45, s46, s47, s48, s49⟩
             go_simp
             with_reducible rfl
            rotate_left
            ·simp only [Act.put, Ze, Zf, Zg, zl, zm]
             rfl
            refine take_ (i := 9) (N := some 26) (v := ?_) (a' := ?_) #[O,O,O,O,O,O,O,O,O,O,X,X,X,X,X,X,X,X,X,X,X,X,X,X,X,X,X,X,X,X,X,X,X,X,X,X,X,X,X,X,X,X,X,X,X,X,X,X,X,X,X,X,X,X,X,X,X,X,X,X,X,X,X,X] rfl rfl (zQ HT_.out HW_.out (by kernel_rfl)) (fun _ _ _ h => h) (Or.inl ⟨by rfl, ?_⟩) hHeld ?_ ?_
            rotate_left
            ·rintro w' ⟨s0, s1, s2, s3, s4, s5, s6, s7, s8, s9, s10, s11, s12, s13, s14, s15, s16, s17, s18, s19, s20, s21, s22, s23, s24, s25, s26, s27, s28, s29, s30, s31, s32, s33, s34, s35, s36, s37, s38, s39, s40, s41, s42, s43, s44, s45, s46, s47, s48, s49⟩
             go_simp
             with_reducible rfl
            rotate_left
            ·simp only [Act.put, Ze, Zf, Zg, zl, zm]
             rfl
            refine zq (i := 10) (N := some 27) (v := ?_) (a' := ?_) #[O,O,O,O,O,O,O,O,O,O,O,X,X,X,X,X,X,X,X,X,X,X,X,X,X,X,X,X,X,X,X,X,X,X,X,X,X,X,X,X,X,X,X,X,X,X,X,X,X,X,X,X,X,X,X,X,X,X,X,X,X,X,X,X] rfl rfl (zo HT_.out (by kernel_rfl)) (fun _ _ _ h => h) (Or.inl ⟨by rfl, ?_⟩) ?_ ?_
            rotate_left
            ·intro w'
             go_simp
             with_reducible rfl
            rotate_left
            ·simp only [Act.put, Ze, Zf, Zg, zl, zm]
             rfl
            refine zq (i := 11) (N := some 28) (v := ?_) (a' := ?_) #[O,O,O,O,O,O,O,O,O,O,O,O,X,X,X,X,X,X,X,X,X,X,X,X,X,X,X,X,X,X,X,X,X,X,X,X,X,X,X,X,X,X,X,X,X,X,X,X,X,X,X,X,X,X,X,X,X,X,X,X,X,X,X,X] rfl rfl (zo HT_.out (by kernel_rfl)) (fun _ _ _ h => h) (Or.inl ⟨by rfl, ?_⟩) ?_ ?_
            rotate_left
            ·intro w'
             go_simp
             with_reducible rfl
            rotate_left
            ·simp only [Act.put, Ze, Zf, Zg, zl, zm]
             rfl
            refine zq (i := 12) (N := some 29) (v := ?_) (a' := ?_) #[O,O,O,O,O,O,O,O,O,O,O,O,O,X,X,X,X,X,X,X,X,X,X,X,X,X,X,X,X,X,X,X,X,X,X,X,X,X,X,X,X,X,X,X,X,X,X,X,X,X,X,X,X,X,X,X,X,X,X,X,X,X,X,X] rfl rfl (zo HT_.out (by kernel_rfl)) (fun _ _ _ h => h) (Or.inl ⟨by rfl, ?_⟩) ?_ ?_
            rotate_left
            ·intro w'
             go_simp
             with_reducible rfl
            rotate_left
            ·simp only [Act.put, Ze, Zf, Zg, zl, zm]
             rfl
            refine zq (i := 13) (N := some 30) (v := ?_) (a' := ?_) #[O,O,O,O,O,O,O,O,O,O,O,O,O,O,X,X,X,X,X,X,X,X,X,X,X,X,X,X,X,X,X,X,X,X,X,X,X,X,X,X,X,X,X,X,X,X,X,X,X,X,X,X,X,X,X,X,X,X,X,X,X,X,X,X] rfl rfl (zo HT_.out (by kernel_rfl)) (fun _ _ _ h => h) (Or.inl ⟨by rfl, ?_⟩) ?_ ?_
            rotate_left
            ·intro w'
             go_simp
             with_reducible rfl
            rotate_left
            ·simp only [Act.put, Ze, Zf, Zg, zl, zm]
             rfl
            refine zq (i := 14) (N := some 31) (v := ?_) (a' := ?_) #[O,O,O,O,O,O,O,O,O,O,O,O,O,O,O,X,X,X,X,X,X,X,X,X,X,X,X,X,X,X,X,X,X,X,X,X,X,X,X,X,X,X,X,X,X,X,X,X,X,X,X,X,X,X,X,X,X,X,X,X,X,X,X,X] rfl rfl (zo HT_.out (by kernel_rfl)) (fun _ _ _ h => h) (Or.inl ⟨by rfl, ?_⟩) ?_ ?_
            rotate_left
            ·intro w'
             go_simp
             with_reducible rfl
            rotate_left
            ·simp only [Act.put, Ze, Zf, Zg, zl, zm]
             rfl
            refine zq (i := 15) (N := some 32) (v := ?_) (a' := ?_) #[O,O,O,O,O,O,O,O,O,O,O,O,O,O,O,O,X,X,X,X,X,X,X,X,X,X,X,X,X,X,X,X,X,X,X,X,X,X,X,X,X,X,X,X,X,X,X,X,X,X,X,X,X,X,X,X,X,X,X,X,X,X,X,X] rfl rfl (zo HT_.out (by kernel_rfl)) (fun _ _ _ h => h) (Or.inl ⟨by rfl, ?_⟩) ?_ ?_
            rotate_left
            ·intro w'
             go_simp
             with_reducible rfl
            rotate_left
            ·simp only [Act.put, Ze, Zf, Zg, zl, zm]
             rfl
            refine zq (i := 17) (N := some 34) (v := ?_) (a' := ?_) #[O,O,O,O,O,O,O,O,O,O,O,O,O,O,O,O,X,O,X,X,X,X,X,X,X,X,X,X,X,X,X,X,X,X,X,X,X,X,X,X,X,X,X,X,X,X,X,X,X,X,X,X,X,X,X,X,X,X,X,X,X,X,X,X] rfl rfl (zo HT_.out (by kernel_rfl)) (fun _ _ _ h => h) (Or.inl ⟨by rfl, ?_⟩) ?_ ?_
            rotate_left
            ·intro w'
             go_simp
             with_reducible rfl
            rotate_left
            ·simp only [Act.put, Ze, Zf, Zg, zl, zm]
             rfl
            refine zq (i := 18) (N := some 35) (v := ?_) (a' := ?_) #[O,O,O,O,O,O,O,O,O,O,O,O,O,O,O,O,X,O,O,X,X,X,X,X,X,X,X,X,X,X,X,X,X,X,X,X,X,X,X,X,X,X,X,X,X,X,X,X,X,X,X,X,X,X,X,X,X,X,X,X,X,X,X,X] rfl rfl (zo HT_.out (by kernel_rfl)) (fun _ _ _ h => h) (Or.inl ⟨by rfl, ?_⟩) ?_ ?_
            rotate_left
            ·intro w'
             go_simp
             with_reducible rfl
            rotate_left
            ·simp only [Act.put, Ze, Zf, Zg, zl, zm]
             rfl
            refine zq (i := 19) (N := some 36) (v := ?_) (a' := ?_) #[O,O,O,O,O,O,O,O,O,O,O,O,O,O,O,O,X,O,O,O,X,X,X,X,X,X,X,X,X,X,X,X,X,X,X,X,X,X,X,X,X,X,X,X,X,X,X,X,X,X,X,X,X,X,X,X,X,X,X,X,X,X,X,X] rfl rfl (zo HT_.out (by kernel_rfl)) (fun _ _ _ h => h) (Or.inl ⟨by rfl, ?_⟩) ?_ ?_
            rotate_left
            ·intro w'
             go_simp
             with_reducible rfl
            rotate_left
            ·simp only [Act.put, Ze, Zf, Zg, zl, zm]
             rfl
            refine zq (i := 20) (N := some 37) (v := ?_) (a' := ?_) #[O,O,O,O,O,O,O,O,O,O,O,O,O,O,O,O,X,O,O,O,O,X,X,X,X,X,X,X,X,X,X,X,X,X,X,X,X,X,X,X,X,X,X,X,X,X,X,X,X,X,X,X,X,X,X,X,X,X,X,X,X,X,X,X] rfl rfl (zo HT_.out (by kernel_rfl)) (fun _ _ _ h => h) (Or.inl ⟨by rfl, ?_⟩) ?_ ?_
            rotate_left
            ·intro w'
             go_simp
             with_reducible rfl
            rotate_left
            ·simp only [Act.put, Ze, Zf, Zg, zl, zm]
             rfl
            refine take_ (i := 16) (N := some 33) (v := ?_) (a' := ?_) #[O,O,O,O,O,O,O,O,O,O,O,O,O,O,O,O,O,O,O,O,O,X,X,X,X,X,X,X,X,X,X,X,X,X,X,X,X,X,X,X,X,X,X,X,X,X,X,X,X,X,X,X,X,X,X,X,X,X,X,X,X,X,X,X] rfl rfl (zQ HT_.out HW_.out (by kernel_rfl)) (fun _ _ _ h => h) (Or.inl ⟨by rfl, ?_⟩) hHeld ?_ ?_
            rotate_left
            ·rintro w' ⟨s0, s1, s2, s3, s4, s5, s6, s7, s8, s9, s10, s11, s12, s13, s14, s15, s16, s17, s18, s19, s20, s21, s22, s23, s24, s25, s26, s27, s28, s29, s30, s31, s32, s33, s34, s35, s36, s37, s38, s39, s40, s41, s42, s43, s44, s45, s46, s47, s48, s49⟩
             go_simp
             with_reducible rfl
            rotate_left
            ·simp only [Act.put, Ze, Zf, Zg, zl, zm]
             rfl
            refine take_ (i := 21) (N := some 38) (v := ?_) (a' := ?_) #[O,O,O,O,O,O,O,O,O,O,O,O,O,O,O,O,O,O,O,O,O,O,X,X,X,X,X,X,X,X,X,X,X,X,X,X,X,X,X,X,X,X,X,X,X,X,X,X,X,X,X,X,X,X,X,X,X,X,X,X,X,X,X,X] rfl rfl (zQ HT_.out HW_.out (by kernel_rfl)) (fun _ _ _ h => h) (Or.inl ⟨by rfl, ?_⟩) hHeld ?_ ?_
            rotate_left
            ·rintro w' ⟨s0, s1, s2, s3, s4, s5, s6, s7, s8, s9, s10, s11, s12, s13, s14, s15, s16, s17, s18, s19, s20, s21, s22, s23, s24, s25, s26, s27, s28, s29, s30, s31, s32, s33, s34, s35, s36, s37, s38, s39, s40, s41, s42, s43, s44, s45, s46, s47, s48, s49⟩
             go_simp
             with_reducible rfl
            rotate_left
            ·simp only [Act.put, Ze, Zf, Zg, zl, zm]
             rfl
            refine zq (i := 22) (N := some 39) (v := ?_) (a' := ?_) #[O,O,O,O,O,O,O,O,O,O,O,O,O,O,O,O,O,O,O,O,O,O,O,X,X,X,X,X,X,X,X,X,X,X,X,X,X,X,X,X,X,X,X,X,X,X,X,X,X,X,X,X,X,X,X,X,X,X,X,X,X,X,X,X] rfl rfl (zo HT_.out (by kernel_rfl)) (fun _ _ _ h => h) (Or.inl ⟨by rfl, ?_⟩) ?_ ?_
            rotate_left
            ·intro w'
             go_simp
             with_reducible rfl
            rotate_left
            ·simp only [Act.put, Ze, Zf, Zg, zl, zm]
             rfl
            refine zq (i := 23) (N := some 40) (v := ?_) (a' := ?_) #[O,O,O,O,O,O,O,O,O,O,O,O,O,O,O,O,O,O,O,O,O,O,O,O,X,X,X,X,X,X,X,X,X,X,X,X,X,X,X,X,X,X,X,X,X,X,X,X,X,X,X,X,X,X,X,X,X,X,X,X,X,X,X,X] rfl rfl (zo HT_.out (by kernel_rfl)) (fun _ _ _ h => h) (Or.inl ⟨by rfl, ?_⟩) ?_ ?_
            rotate_left
            ·intro w'
             go_simp
             with_reducible rfl
            rotate_left
            ·simp only [Act.put, Ze, Zf, Zg, zl, zm]
             rfl
            refine zq (i := 24) (N := some 41) (v := ?_) (a' := ?_) #[O,O,O,O,O,O,O,O,O,O,O,O,O,O,O,O,O,O,O,O,O,O,O,O,O,X,X,X,X,X,X,X,X,X,X,X,X,X,X,X,X,X,X,X,X,X,X,X,X,X,X,X,X,X,X,X,X,X,X,X,X,X,X,X] rfl rfl (zo HT_.out (by kernel_rfl)) (fun _ _ _ h => h) (Or.inl ⟨by rfl, ?_⟩) ?_ ?_
            rotate_left
            ·intro w'
             go_simp
             with_reducible rfl
            rotate_left
            ·simp only [Act.put, Ze, Zf, Zg, zl, zm]
             rfl
            refine zq (i := 25) (N := some 42) (v := ?_) (a' := ?_) #[O,O,O,O,O,O,O,O,O,O,O,O,O,O,O,O,O,O,O,O,O,O,O,O,O,O,X,X,X,X,X,X,X,X,X,X,X,X,X,X,X,X,X,X,X,X,X,X,X,X,X,X,X,X,X,X,X,X,X,X,X,X,X,X] rfl rfl (zo HT_.out (by kernel_rfl)) (fun _ _ _ h => h) (Or.inl ⟨by rfl, ?_⟩) ?_ ?_
            rotate_left
            ·intro w'
             go_simp
             with_reducible rfl
            rotate_left
            ·simp only [Act.put, Ze, Zf, Zg, zl, zm]
             rfl
            refine zq (i := 26) (N := some 43) (v := ?_) (a' := ?_) #[O,O,O,O,O,O,O,O,O,O,O,O,O,O,O,O,O,O,O,O,O,O,O,O,O,O,O,X,X,X,X,X,X,X,X,X,X,X,X,X,X,X,X,X,X,X,X,X,X,X,X,X,X,X,X,X,X,X,X,X,X,X,X,X] rfl rfl (zo HT_.out (by kernel_rfl)) (fun _ _ _ h => h) (Or.inl ⟨by rfl, ?_⟩) ?_ ?_
            rotate_left
            ·intro w'
             go_simp
             with_reducible rfl
            rotate_left
            ·simp only [Act.put, Ze, Zf, Zg, zl, zm]
             rfl
            refine zq (i := 27) (N := some 44) (v := ?_) (a' := ?_) #[O,O,O,O,O,O,O,O,O,O,O,O,O,O,O,O,O,O,O,O,O,O,O,O,O,O,O,O,X,X,X,X,X,X,X,X,X,X,X,X,X,X,X,X,X,X,X,X,X,X,X,X,X,X,X,X,X,X,X,X,X,X,X,X] rfl rfl (zo HT_.out (by kernel_rfl)) (fun _ _ _ h => h) (Or.inl ⟨by rfl, ?_⟩) ?_ ?_
            rotate_left
            ·intro w'
             go_simp
             with_reducible rfl
            rotate_left
            ·simp only [Act.put, Ze, Zf, Zg, zl, zm]
             rfl
            refine zq (i := 28) (N := some 45) (v := ?_) (a' := ?_) #[O,O,O,O,O,O,O,O,O,O,O,O,O,O,O,O,O,O,O,O,O,O,O,O,O,O,O,O,O,X,X,X,X,X,X,X,X,X,X,X,X,X,X,X,X,X,X,X,X,X,X,X,X,X,X,X,X,X,X,X,X,X,X,X] rfl rfl (zo HT_.out (by kernel_rfl)) (fun _ _ _ h => h) (Or.inl ⟨by rfl, ?_⟩) ?_ ?_
            rotate_left
            ·intro w'
             go_simp
             with_reducible rfl
            rotate_left
            ·simp only [Act.put, Ze, Zf, Zg, zl, zm]
             rfl
            refine zq (i := 30) (N := some 47) (v := ?_) (a' := ?_) #[O,O,O,O,O,O,O,O,O,O,O,O,O,O,O,O,O,O,O,O,O,O,O,O,O,O,O,O,O,X,O,X,X,X,X,X,X,X,X,X,X,X,X,X,X,X,X,X,X,X,X,X,X,X,X,X,X,X,X,X,X,X,X,X] rfl rfl (zo HT_.out (by kernel_rfl)) (fun _ _ _ h => h) (Or.inl ⟨by rfl, ?_⟩) ?_ ?_
            rotate_left
            ·intro w'
             go_simp
             with_reducible rfl
            rotate_left
            ·simp only [Act.put, Ze, Zf, Zg, zl, zm]
             rfl
            refine zq (i := 31) (N := some 48) (v := ?_) (a' := ?_) #[O,O,O,O,O,O,O,O,O,O,O,O,O,O,O,O,O,O,O,O,O,O,O,O,O,O,O,O,O,X,O,O,X,X,X,X,X,X,X,X,X,X,X,X,X,X,X,X,X,X,X,X,X,X,X,X,X,X,X,X,X,X,X,X] rfl rfl (zo HT_.out (by kernel_rfl)) (fun _ _ _ h => h) (Or.inl ⟨by rfl, ?_⟩) ?_ ?_
            rotate_left
            ·intro w'
             go_simp
             with_reducible rfl
            rotate_left
            ·simp only [Act.put, Ze, Zf, Zg, zl, zm]
             rfl
            refine zq (i := 32) (N := some 49) (v := ?_) (a' := ?_) #[O,O,O,O,O,O,O,O,O,O,O,O,O,O,O,O,O,O,O,O,O,O,O,O,O,O,O,O,O,X,O,O,O,X,X,X,X,X,X,X,X,X,X,X,X,X,X,X,X,X,X,X,X,X,X,X,X,X,X,X,X,X,X,X] rfl rfl (zo HT_.out (by kernel_rfl)) (fun _ _ _ h => h) (Or.inl ⟨by rfl, ?_⟩) ?_ ?_
            rotate_left
            ·intro w'
             go_simp
             with_reducible rfl
            rotate_left
            ·simp only [Act.put, Ze, Zf, Zg, zl, zm]
             rfl
            refine zq (i := 33) (N := some 50) (v := ?_) (a' := ?_) #[O,O,O,O,O,O,O,O,O,O,O,O,O,O,O,O,O,O,O,O,O,O,O,O,O,O,O,O,O,X,O,O,O,O,X,X,X,X,X,X,X,X,X,X,X,X,X,X,X,X,X,X,X,X,X,X,X,X,X,X,X,X,X,X] rfl rfl (zo HT_.out (by kernel_rfl)) (fun _ _ _ h => h) (Or.inl ⟨by rfl, ?_⟩) ?_ ?_
            rotate_left
            ·intro w'
             go_simp
             with_reducible rfl
            rotate_left
            ·simp only [Act.put, Ze, Zf, Zg, zl, zm]
             rfl
            refine take_ (i := 29) (N := some 46) (v := ?_) (a' := ?_) #[O,O,O,O,O,O,O,O,O,O,O,O,O,O,O,O,O,O,O,O,O,O,O,O,O,O,O,O,O,O,O,O,O,O,X,X,X,X,X,X,X,X,X,X,X,X,X,X,X,X,X,X,X,X,X,X,X,X,X,X,X,X,X,X] rfl rfl (zQ HT_.out HW_.out (by kernel_rfl)) (fun _ _ _ h => h) (Or.inl ⟨by rfl, ?_⟩) hHeld ?_ ?_
            rotate_left
            ·rintro w' ⟨s0, s1, s2, s3, s4, s5, s6, s7, s8, s9, s10, s11, s12, s13, s14, s15, s16, s17, s18, s19, s20, s21, s22, s23, s24, s25, s26, s27, s28, s29, s30, s31, s32, s33, s34, s35, s36, s37, s38, s39, s40, s41, s42, s43, s44, s45, s46, s47, s48, s49⟩
             go_simp
             with_reducible rfl
            rotate_left
            ·simp only [Act.put, Ze, Zf, Zg, zl, zm]
             rfl
            refine take_ (i := 34) (N := some 51) (v := ?_) (a' := ?_) #[O,O,O,O,O,O,O,O,O,O,O,O,O,O,O,O,O,O,O,O,O,O,O,O,O,O,O,O,O,O,O,O,O,O,O,X,X,X,X,X,X,X,X,X,X,X,X,X,X,X,X,X,X,X,X,X,X,X,X,X,X,X,X,X] rfl rfl (zQ HT_.out HW_.out (by kernel_rfl)) (fun _ _ _ h => h) (Or.inl ⟨by rfl, ?_⟩) hHeld ?_ ?_
            rotate_left
            ·rintro w' ⟨s0, s1, s2, s3, s4, s5, s6, s7, s8, s9, s10, s11, s12, s13, s14, s15, s16, s17, s18, s19, s20, s21, s22, s23, s24, s25, s26, s27, s28, s29, s30, s31, s32, s33, s34, s35, s36, s37, s38, s39, s40, s41, s42, s43, s44, s45, s46, s47, s48, s49⟩
             go_simp
             with_reducible rfl
            rotate_left
            ·simp only [Act.put, Ze, Zf, Zg, zl, zm]
             rfl
            refine zq (i := 35) (N := some 52) (v := ?_) (a' := ?_) #[O,O,O,O,O,O,O,O,O,O,O,O,O,O,O,O,O,O,O,O,O,O,O,O,O,O,O,O,O,O,O,O,O,O,O,O,X,X,X,X,X,X,X,X,X,X,X,X,X,X,X,X,X,X,X,X,X,X,X,X,X,X,X,X] rfl rfl (zo HT_.out (by kernel_rfl)) (fun _ _ _ h => h) (Or.inl ⟨by rfl, ?_⟩) ?_ ?_
            rotate_left
            ·intro w'
             go_simp
             with_reducible rfl
            rotate_left
            ·simp only [Act.put, Ze, Zf, Zg, zl, zm]
             rfl
            refine zq (i := 36) (N := some 53) (v := ?_) (a' := ?_) #[O,O,O,O,O,O,O,O,O,O,O,O,O,O,O,O,O,O,O,O,O,O,O,O,O,O,O,O,O,O,O,O,O,O,O,O,O,X,X,X,X,X,X,X,X,X,X,X,X,X,X,X,X,X,X,X,X,X,X,X,X,X,X,X] rfl rfl (zo HT_.out (by kernel_rfl)) (fun _ _ _ h => h) (Or.inl ⟨by rfl, ?_⟩) ?_ ?_
            rotate_left
            ·intro w'
             go_simp
             with_reducible rfl
            rotate_left
            ·simp only [Act.put, Ze, Zf, Zg, zl, zm]
             rfl
            refine zq (i := 37) (N := some 54) (v := ?_) (a' := ?_) #[O,O,O,O,O,O,O,O,O,O,O,O,O,O,O,O,O,O,O,O,O,O,O,O,O,O,O,O,O,O,O,O,O,O,O,O,O,O,X,X,X,X,X,X,X,X,X,X,X,X,X,X,X,X,X,X,X,X,X,X,X,X,X,X] rfl rfl (zo HT_.out (by kernel_rfl)) (fun _ _ _ h => h) (Or.inl ⟨by rfl, ?_⟩) ?_ ?_
            rotate_left
            ·intro w'
             go_simp
             with_reducible rfl
            rotate_left
            ·simp only [Act.put, Ze, Zf, Zg, zl, zm]
             rfl
            refine zq (i := 38) (N := some 55) (v := ?_) (a' := ?_) #[O,O,O,O,O,O,O,O,O,O,O,O,O,O,O,O,O,O,O,O,O,O,O,O,O,O,O,O,O,O,O,O,O,O,O,O,O,O,O,X,X,X,X,X,X,X,X,X,X,X,X,X,X,X,X,X,X,X,X,X,X,X,X,X] rfl rfl (zo HT_.out (by kernel_rfl)) (fun _ _ _ h => h) (Or.inl ⟨by rfl, ?_⟩) ?_ ?_
            rotate_left
            ·intro w'
             go_simp
             with_reducible rfl
            rotate_left
            ·simp only [Act.put, Ze, Zf, Zg, zl, zm]
             rfl
            refine zq (i := 39) (N := some 56) (v := ?_) (a' := ?_) #[O,O,O,O,O,O,O,O,O,O,O,O,O,O,O,O,O,O,O,O,O,O,O,O,O,O,O,O,O,O,O,O,O,O,O,O,O,O,O,O,X,X,X,X,X,X,X,X,X,X,X,X,X,X,X,X,X,X,X,X,X,X,X,X] rfl rfl (zo HT_.out (by kernel_rfl)) (fun _ _ _ h => h) (Or.inl ⟨by rfl, ?_⟩) ?_ ?_
            rotate_left
            ·intro w'
             go_simp
             with_reducible rfl
            rotate_left
            ·simp only [Act.put, Ze, Zf, Zg, zl, zm]
             rfl
            refine zq (i := 40) (N := some 57) (v := ?_) (a' := ?_) #[O,O,O,O,O,O,O,O,O,O,O,O,O,O,O,O,O,O,O,O,O,O,O,O,O,O,O,O,O,O,O,O,O,O,O,O,O,O,O,O,O,X,X,X,X,X,X,X,X,X,X,X,X,X,X,X,X,X,X,X,X,X,X,X] rfl rfl (zo HT_.out (by kernel_rfl)) (fun _ _ _ h => h) (Or.inl ⟨by rfl, ?_⟩) ?_ ?_
            rotate_left
            ·intro w'
             go_simp
             with_reducible rfl
            rotate_left
            ·simp only [Act.put, Ze, Zf, Zg, zl, zm]
             rfl
            refine zq (i := 41) (N := some 58) (v := ?_) (a' := ?_) #[O,O,O,O,O,O,O,O,O,O,O,O,O,O,O,O,O,O,O,O,O,O,O,O,O,O,O,O,O,O,O,O,O,O,O,O,O,O,O,O,O,O,X,X,X,X,X,X,X,X,X,X,X,X,X,X,X,X,X,X,X,X,X,X] rfl rfl (zo HT_.out (by kernel_rfl)) (fun _ _ _ h => h) (Or.inl ⟨by rfl, ?_⟩) ?_ ?_
            rotate_left
            ·intro w'
             go_simp
             with_reducible rfl
            rotate_left
            ·simp only [Act.put, Ze, Zf, Zg, zl, zm]
             rfl
            refine zq (i := 43) (N := some 60) (v := ?_) (a' := ?_) #[O,O,O,O,O,O,O,O,O,O,O,O,O,O,O,O,O,O,O,O,O,O,O,O,O,O,O,O,O,O,O,O,O,O,O,O,O,O,O,O,O,O,X,O,X,X,X,X,X,X,X,X,X,X,X,X,X,X,X,X,X,X,X,X] rfl rfl (zo HT_.out (by kernel_rfl)) (fun _ _ _ h => h) (Or.inl ⟨by rfl, ?_⟩) ?_ ?_
            rotate_left
            ·intro w'
             go_simp
             with_reducible rfl
            rotate_left
            ·simp only [Act.put, Ze, Zf, Zg, zl, zm]
             rfl
            refine zq (i := 44) (N := some 61) (v := ?_) (a' := ?_) #[O,O,O,O,O,O,O,O,O,O,O,O,O,O,O,O,O,O,O,O,O,O,O,O,O,O,O,O,O,O,O,O,O,O,O,O,O,O,O,O,O,O,X,O,O,X,X,X,X,X,X,X,X,X,X,X,X,X,X,X,X,X,X,X] rfl rfl (zo HT_.out (by kernel_rfl)) (fun _ _ _ h => h) (Or.inl ⟨by rfl, ?_⟩) ?_ ?_
            rotate_left
            ·intro w'
             go_simp
             with_reducible rfl
            rotate_left
            ·simp only [Act.put, Ze, Zf, Zg, zl, zm]
             rfl
            refine zq (i := 45) (N := some 62) (v := ?_) (a' := ?_) #[O,O,O,O,O,O,O,O,O,O,O,O,O,O,O,O,O,O,O,O,O,O,O,O,O,O,O,O,O,O,O,O,O,O,O,O,O,O,O,O,O,O,X,O,O,O,X,X,X,X,X,X,X,X,X,X,X,X,X,X,X,X,X,X] rfl rfl (zo HT_.out (by kernel_rfl)) (fun _ _ _ h => h) (Or.inl ⟨by rfl, ?_⟩) ?_ ?_
            rotate_left
            ·intro w'
             go_simp
             with_reducible rfl
            rotate_left
            ·simp only [Act.put, Ze, Zf, Zg, zl, zm]
             rfl
            refine zq (i := 46) (N := some 63) (v := ?_) (a' := ?_) #[O,O,O,O,O,O,O,O,O,O,O,O,O,O,O,O,O,O,O,O,O,O,O,O,O,O,O,O,O,O,O,O,O,O,O,O,O,O,O,O,O,O,X,O,O,O,O,X,X,X,X,X,X,X,X,X,X,X,X,X,X,X,X,X] rfl rfl (zo HT_.out (by kernel_rfl)) (fun _ _ _ h => h) (Or.inl ⟨by rfl, ?_⟩) ?_ ?_
            rotate_left
            ·intro w'
             go_simp
             with_reducible rfl
            rotate_left
            ·simp only [Act.put, Ze, Zf, Zg, zl, zm]
             rfl
            refine take_ (i := 42) (N := some 59) (v := ?_) (a' := ?_) #[O,O,O,O,O,O,O,O,O,O,O,O,O,O,O,O,O,O,O,O,O,O,O,O,O,O,O,O,O,O,O,O,O,O,O,O,O,O,O,O,O,O,O,O,O,O,O,X,X,X,X,X,X,X,X,X,X,X,X,X,X,X,X,X] rfl rfl (zQ HT_.out HW_.out (by kernel_rfl)) (fun _ _ _ h => h) (Or.inl ⟨by rfl, ?_⟩) hHeld ?_ ?_
            rotate_left
            ·rintro w' ⟨s0, s1, s2, s3, s4, s5, s6, s7, s8, s9, s10, s11, s12, s13, s14, s15, s16, s17, s18, s19, s20, s21, s22, s23, s24, s25, s26, s27, s28, s29, s30, s31, s32, s33, s34, s35, s36, s37, s38, s39, s40, s41, s42, s43, s44, s45, s46, s47, s48, s49⟩
             go_simp
             with_reducible rfl
            rotate_left
            ·simp only [Act.put, Ze, Zf, Zg, zl, zm]
             rfl
            refine take_ (i := 47) (N := some 64) (v := ?_) (a' := ?_) #[O,O,O,O,O,O,O,O,O,O,O,O,O,O,O,O,O,O,O,O,O,O,O,O,O,O,O,O,O,O,O,O,O,O,O,O,O,O,O,O,O,O,O,O,O,O,O,O,X,X,X,X,X,X,X,X,X,X,X,X,X,X,X,X] rfl rfl (zQ HT_.out HW_.out (by kernel_rfl)) (fun _ _ _ h => h) (Or.inl ⟨by rfl, ?_⟩) hHeld ?_ ?_
            rotate_left
            ·rintro w' ⟨s0, s1, s2, s3, s4, s5, s6, s7, s8, s9, s10, s11, s12, s13, s14, s15, s16, s17, s18, s19, s20, s21, s22, s23, s24, s25, s26, s27, s28, s29, s30, s31, s32, s33, s34, s35, s36, s37, s38, s39, s40, s41, s42, s43, s44, s45, s46, s47, s48, s49⟩
             go_simp
             with_reducible rfl
            rotate_left
            ·simp only [Act.put, Ze, Zf, Zg, zl, zm]
             rfl
            refine zq (i := 48) (N := some 65) (v := ?_) (a' := ?_) #[O,O,O,O,O,O,O,O,O,O,O,O,O,O,O,O,O,O,O,O,O,O,O,O,O,O,O,O,O,O,O,O,O,O,O,O,O,O,O,O,O,O,O,O,O,O,O,O,O,X,X,X,X,X,X,X,X,X,X,X,X,X,X,X] rfl rfl (zo HT_.out (by kernel_rfl)) (fun _ _ _ h => h) (Or.inl ⟨by rfl, ?_⟩) ?_ ?_
            rotate_left
            ·intro w'
             go_simp
             with_reducible rfl
            rotate_left
            ·simp only [Act.put, Ze, Zf, Zg, zl, zm]
             rfl
            refine zq (i := 49) (N := some 66) (v := ?_) (a' := ?_) #[O,O,O,O,O,O,O,O,O,O,O,O,O,O,O,O,O,O,O,O,O,O,O,O,O,O,O,O,O,O,O,O,O,O,O,O,O,O,O,O,O,O,O,O,O,O,O,O,O,O,X,X,X,X,X,X,X,X,X,X,X,X,X,X] rfl rfl (zo HT_.out (by kernel_rfl)) (fun _ _ _ h => h) (Or.inl ⟨by rfl, ?_⟩) ?_ ?_
            rotate_left
            ·intro w'
             go_simp
             with_reducible rfl
            rotate_left
            ·simp only [Act.put, Ze, Zf, Zg, zl, zm]
             rfl
            refine zq (i := 50) (N := some 67) (v := ?_) (a' := ?_) #[O,O,O,O,O,O,O,O,O,O,O,O,O,O,O,O,O,O,O,O,O,O,O,O,O,O,O,O,O,O,O,O,O,O,O,O,O,O,O,O,O,O,O,O,O,O,O,O,O,O,O,X,X,X,X,X,X,X,X,X,X,X,X,X] rfl rfl (zo HT_.out (by kernel_rfl)) (fun _ _ _ h => h) (Or.inl ⟨by rfl, ?_⟩) ?_ ?_
            rotate_left
            ·intro w'
             go_simp
             with_reducible rfl
            rotate_left
            ·simp only [Act.put, Ze, Zf, Zg, zl, zm]
             rfl
            refine zq (i := 51) (N := some 68) (v := ?_) (a' := ?_) #[O,O,O,O,O,O,O,O,O,O,O,O,O,O,O,O,O,O,O,O,O,O,O,O,O,O,O,O,O,O,O,O,O,O,O,O,O,O,O,O,O,O,O,O,O,O,O,O,O,O,O,O,X,X,X,X,X,X,X,X,X,X,X,X] rfl rfl (zo HT_.out (by kernel_rfl)) (fun _ _ _ h => h) (Or.inl ⟨by rfl, ?_⟩) ?_ ?_
            rotate_left
            ·intro w'
             go_simp
             with_reducible rfl
            rotate_left
            ·simp only [Act.put, Ze, Zf, Zg, zl, zm]
             rfl
            refine zq (i := 52) (N := some 69) (v := ?_) (a' := ?_) #[O,O,O,O,O,O,O,O,O,O,O,O,O,O,O,O,O,O,O,O,O,O,O,O,O,O,O,O,O,O,O,O,O,O,O,O,O,O,O,O,O,O,O,O,O,O,O,O,O,O,O,O,O,X,X,X,X,X,X,X,X,X,X,X] rfl rfl (zo HT_.out (by kernel_rfl)) (fun _ _ _ h => h) (Or.inl ⟨by rfl, ?_⟩) ?_ ?_
            rotate_left
            ·intro w'
             go_simp
             with_reducible rfl
            rotate_left
            ·simp only [Act.put, Ze, Zf, Zg, zl, zm]
             rfl
            refine zq (i := 53) (N := some 70) (v := ?_) (a' := ?_) #[O,O,O,O,O,O,O,O,O,O,O,O,O,O,O,O,O,O,O,O,O,O,O,O,O,O,O,O,O,O,O,O,O,O,O,O,O,O,O,O,O,O,O,O,O,O,O,O,O,O,O,O,O,O,X,X,X,X,X,X,X,X,X,X] rfl rfl (zo HT_.out (by kernel_rfl)) (fun _ _ _ h => h) (Or.inl ⟨by rfl, ?_⟩) ?_ ?_
            rotate_left
            ·intro w'
             go_simp
             with_reducible rfl
            rotate_left
            ·simp only [Act.put, Ze, Zf, Zg, zl, zm]
             rfl
            refine zq (i := 54) (N := some 71) (v := ?_) (a' := ?_) #[O,O,O,O,O,O,O,O,O,O,O,O,O,O,O,O,O,O,O,O,O,O,O,O,O,O,O,O,O,O,O,O,O,O,O,O,O,O,O,O,O,O,O,O,O,O,O,O,O,O,O,O,O,O,O,X,X,X,X,X,X,X,X,X] rfl rfl (zo HT_.out (by kernel_rfl)) (fun _ _ _ h => h) (Or.inl ⟨by rfl, ?_⟩) ?_ ?_
            rotate_left
            ·intro w'
             go_simp
             with_reducible rfl
            rotate_left
            ·simp only [Act.put, Ze, Zf, Zg, zl, zm]
             rfl
            refine zq (i := 56) (N := some 73) (v := ?_) (a' := ?_) #[O,O,O,O,O,O,O,O,O,O,O,O,O,O,O,O,O,O,O,O,O,O,O,O,O,O,O,O,O,O,O,O,O,O,O,O,O,O,O,O,O,O,O,O,O,O,O,O,O,O,O,O,O,O,O,X,O,X,X,X,X,X,X,X] rfl rfl (zo HT_.out (by kernel_rfl)) (fun _ _ _ h => h) (Or.inl ⟨by rfl, ?_⟩) ?_ ?_
            rotate_left
            ·intro w'
             go_simp
             with_reducible rfl
            rotate_left
            ·simp only [Act.put, Ze, Zf, Zg, zl, zm]
             rfl
            refine zq (i := 57) (N := some 74) (v := ?_) (a' := ?_) #[O,O,O,O,O,O,O,O,O,O,O,O,O,O,O,O,O,O,O,O,O,O,O,O,O,O,O,O,O,O,O,O,O,O,O,O,O,O,O,O,O,O,O,O,O,O,O,O,O,O,O,O,O,O,O,X,O,O,X,X,X,X,X,X] rfl rfl (zo HT_.out (by kernel_rfl)) (fun _ _ _ h => h) (Or.inl ⟨by rfl, ?_⟩) ?_ ?_
            rotate_left
            ·intro w'
             go_simp
             with_reducible rfl
            rotate_left
            ·simp only [Act.put, Ze, Zf, Zg, zl, zm]
             rfl
            refine zq (i := 58) (N := some 75) (v := ?_) (a' := ?_) #[O,O,O,O,O,O,O,O,O,O,O,O,O,O,O,O,O,O,O,O,O,O,O,O,O,O,O,O,O,O,O,O,O,O,O,O,O,O,O,O,O,O,O,O,O,O,O,O,O,O,O,O,O,O,O,X,O,O,O,X,X,X,X,X] rfl rfl (zo HT_.out (by kernel_rfl)) (fun _ _ _ h => h) (Or.inl ⟨by rfl, ?_⟩) ?_ ?_
            rotate_left
            ·intro w'
             go_simp
             with_reducible rfl
            rotate_left
            ·simp only [Act.put, Ze, Zf, Zg, zl, zm]
             rfl
            refine zq (i := 59) (N := some 76) (v := ?_) (a' := ?_) #[O,O,O,O,O,O,O,O,O,O,O,O,O,O,O,O,O,O,O,O,O,O,O,O,O,O,O,O,O,O,O,O,O,O,O,O,O,O,O,O,O,O,O,O,O,O,O,O,O,O,O,O,O,O,O,X,O,O,O,O,X,X,X,X] rfl rfl (zo HT_.out (by kernel_rfl)) (fun _ _ _ h => h) (Or.inl ⟨by rfl, ?_⟩) ?_ ?_
            rotate_left
            ·intro w'
             go_simp
             with_reducible rfl
            rotate_left
            ·simp only [Act.put, Ze, Zf, Zg, zl, zm]
             rfl
            refine take_ (i := 55) (N := some 72) (v := ?_) (a' := ?_) #[O,O,O,O,O,O,O,O,O,O,O,O,O,O,O,O,O,O,O,O,O,O,O,O,O,O,O,O,O,O,O,O,O,O,O,O,O,O,O,O,O,O,O,O,O,O,O,O,O,O,O,O,O,O,O,O,O,O,O,O,X,X,X,X] rfl rfl (zQ HT_.out HW_.out (by kernel_rfl)) (fun _ _ _ h => h) (Or.inl ⟨by rfl, ?_⟩) hHeld ?_ ?_
            rotate_left
            ·rintro w' ⟨s0, s1, s2, s3, s4, s5, s6, s7, s8, s9, s10, s11, s12, s13, s14, s15, s16, s17, s18, s19, s20, s21, s22, s23, s24, s25, s26, s27, s28, s29, s30, s31, s32, s33, s34, s35, s36, s37, s38, s39, s40, s41, s42, s43, s44, s45, s46, s47, s48, s49⟩
             go_simp
             with_reducible rfl
            rotate_left
            ·simp only [Act.put, Ze, Zf, Zg, zl, zm]
             rfl
            refine take_ (i := 60) (N := some 77) (v := ?_) (a' := ?_) #[O,O,O,O,O,O,O,O,O,O,O,O,O,O,O,O,O,O,O,O,O,O,O,O,O,O,O,O,O,O,O,O,O,O,O,O,O,O,O,O,O,O,O,O,O,O,O,O,O,O,O,O,O,O,O,O,O,O,O,O,O,X,X,X] rfl rfl (zQ HT_.out HW_.out (by kernel_rfl)) (fun _ _ _ h => h) (Or.inl ⟨by rfl, ?_⟩) hHeld ?_ ?_
            rotate_left
            ·rintro w' ⟨s0, s1, s2, s3, s4, s5, s6, s7, s8, s9, s10, s11, s12, s13, s14, s15, s16, s17, s18, s19, s20, s21, s22, s23, s24, s25, s26, s27, s28, s29, s30, s31, s32, s33, s34, s35, s36, s37, s38, s39, s40, s41, s42, s43, s44, s45, s46, s47, s48, s49⟩
             go_simp
             with_reducible rfl
            rotate_left
            ·simp only [Act.put, Ze, Zf, Zg, zl, zm]
             rfl
            refine yO (i := 61) (N := some 78) #[O,O,O,O,O,O,O,O,O,O,O,O,O,O,O,O,O,O,O,O,O,O,O,O,O,O,O,O,O,O,O,O,O,O,O,O,O,O,O,O,O,O,O,O,O,O,O,O,O,O,O,O,O,O,O,O,O,O,O,O,O,O,X,X] rfl rfl (yo HT_.out (by kernel_rfl)) (by decide) (fun K hK => ?_)
            refine yq Tryz.func82 (by kernel_rfl) rfl #[.slice A721_2 ((zn l0 x5_1).f2).length c721_2, .slice A722_2 ((zn l1 x5_1).f2).length c722_2] (by rfl) rfl rfl (by (try simp only [Zh, List.map_cons, List.map_nil]); first | done | rfl | (simp only [List.length_drop, List.length_take]; rfl)) ?_
            with_reducible refine (z3.calls k1 _ _ ((zn l0 x5_1).f2) _ _ ((zn l1 x5_1).f2) true _ ?side1 ?side2 ?side3 ?side4 A11.out).mono ?_
            (case side1 => repeat (first | exact (Kd.C_below HR729_2.out HB.out) | (with_reducible refine Kd.C_alloc ?_ _) | (with_reducible refine Kd.C_drewN ?_ _) | (with_reducible refine Kd.C_drew ?_)))
            (case side2 => exact HC729_2.out)
            (case side3 => repeat (first | exact (Kd.C_below HR730_2.out HB.out) | (with_reducible refine Kd.C_alloc ?_ _) | (with_reducible refine Kd.C_drewN ?_ _) | (with_reducible refine Kd.C_drew ?_)))
            (case side4 => exact HC730_2.out)
            rintro e w' ⟨rfl, ⟨nd, rfl⟩⟩
            refine ⟨_, rfl, ?_⟩
            refine hK.out _ _ ⟨((HB.out.cell (Zj w _ hw721_0)).trans hw721_0), ((HB.out.cell (Zj w _ hw721_1)).trans hw721_1), ((HB.out.cell (Zj w _ hw721_2)).trans hw721_2), ((HB.out.cell (Zj w _ hw721_3)).trans hw721_3), ((HB.out.cell (Zj w _ hw721_4)).trans hw721_4), ((HB.out.cell (Zj w _ hw722_0)).trans hw722_0), ((HB.out.cell (Zj w _ hw722_1)).trans hw722_1), ((HB.out.cell (Zj w _ hw722_2)).trans hw722_2), ((HB.out.cell (Zj w _ hw722_3)).trans hw722_3), ((HB.out.cell (Zj w _ hw722_4)).trans hw722_4), ((HB.out.cell (Zj w _ hw723_0)).trans hw723_0), ((HB.out.cell (Zj w _ hw723_1)).trans hw723_1), ((HB.out.cell (Zj w _ hw723_2)).trans hw723_2), ((HB.out.cell (Zj w _ hw723_3)).trans hw723_3), ((HB.out.cell (Zj w _ hw723_4)).trans hw723_4), ((HB.out.cell (Zj w _ hw724_0)).trans hw724_0), ((HB.out.cell (Zj w _ hw724_1)).trans hw724_1), ((HB.out.cell (Zj w _ hw724_2)).trans hw724_2), ((HB.out.cell (Zj w _ hw724_3)).trans hw724_3), ((HB.out.cell (Zj w _ hw724_4)).trans hw724_4), ((HB.out.cell (Zj w _ hw725_0)).trans hw725_0), ((HB.out.cell (Zj w _ hw725_1)).trans hw725_1), ((HB.out.cell (Zj w _ hw725_2)).trans hw725_2), ((HB.out.cell (Zj w _ hw725_3)).trans hw725_3), ((HB.out.cell (Zj w _ hw725_4)).trans hw725_4), ((HB.out.cell (Zj w _ hw726_0)).trans hw726_0), ((HB.out.cell (Zj w _ hw726_1)).trans hw726_1), ((HB.out.cell (Zj w _ hw726_2)).trans hw726_2), ((HB.out.cell (Zj w _ hw726_3)).trans hw726_3), ((HB.out.cell (Zj w _ hw726_4)).trans hw726_4), ((HB.out.cell (Zj w _ hw727_0)).trans hw727_0), ((HB.out.cell (Zj w _ hw727_1)).trans hw727_1), ((HB.out.cell (Zj w _ hw727_2)).trans hw727_2), ((HB.out.cell (Zj w _ hw727_3)).trans hw727_3), ((HB.out.cell (Zj w _ hw727_4)).trans hw727_4), ((HB.out.cell (Zj w _ hw728_0)).trans hw728_0), ((HB.out.cell (Zj w _ hw728_1)).trans hw728_1), ((HB.out.cell (Zj w _ hw728_2)).trans hw728_2), ((HB.out.cell (Zj w _ hw728_3)).trans hw728_3), ((HB.out.cell (Zj w _ hw728_4)).trans hw728_4), ((HB.out.cell (Zj w _ hw729_0)).trans hw729_0), ((HB.out.cell (Zj w _ hw729_1)).trans hw729_1), ((HB.out.cell (Zj w _ hw729_2)).trans hw729_2), ((HB.out.cell (Zj w _ hw729_3)).trans hw729_3), ((HB.out.cell (Zj w _ hw729_4)).trans hw729_4), ((HB.out.cell (Zj w _ hw730_0)).trans hw730_0), ((HB.out.cell (Zj w _ hw730_1)).trans hw730_1), ((HB.out.cell (Zj w _ hw730_2)).trans hw730_2), ((HB.out.cell (Zj w _ hw730_3)).trans hw730_3), ((HB.out.cell (Zj w _ hw730_4)).trans hw730_4)⟩ (fun hHeld => ?_)
            clear hK K
            refine yF (a' := ?_) ?_ ?_
            rotate_left
            ·show Act.put _ (some 78) _ = _
             simp only [Act.put, Ze, Zf, Zg, zl, zm]
             rfl
            refine zq (i := 62) (N := some 79) (v := ?_) (a' := ?_) #[O,O,O,O,O,O,O,O,O,O,O,O,O,O,O,O,O,O,O,O,O,O,O,O,O,O,O,O,O,O,O,O,O,O,O,O,O,O,O,O,O,O,O,O,O,O,O,O,O,O,O,O,O,O,O,O,O,O,O,O,O,O,O,X] rfl rfl (zo HT_.out (by kernel_rfl)) (fun _ _ _ h => h) (Or.inl ⟨by rfl, ?_⟩) ?_ ?_
            rotate_left
            ·intro w'
             go_simp
             with_reducible rfl
            rotate_left
            ·simp only [Act.put, Ze, Zf, Zg, zl, zm]
             rfl
            refine zq (i := 63) (N := some 80) (v := ?_) (a' := ?_) #[O,O,O,O,O,O,O,O,O,O,O,O,O,O,O,O,O,O,O,O,O,O,O,O,O,O,O,O,O,O,O,O,O,O,O,O,O,O,O,O,O,O,O,O,O,O,O,O,O,O,O,O,O,O,O,O,O,O,O,O,O,O,O,O] rfl rfl (zo HT_.out (by kernel_rfl)) (fun _ _ _ h => h) (Or.inl ⟨by rfl, ?_⟩) ?_ ?_
            rotate_left
            ·intro w'
             go_simp
             with_reducible rfl
            rotate_left
            ·simp only [Act.put, Ze, Zf, Zg, zl, zm]
             rfl
            refine yZ (yE HT_.out (by kernel_rfl)) ?_
            try go_wp2
            go_roundg k1
            case measure => have := HK1.out; omega
            case rel => exact ⟨(wrap64 (x5_1 + 1)), (by first | rfl | (simp; done) | (simp [*]; done)), H', ⟨by have := HK1.out; omega⟩, ⟨by repeat (first | (with_reducible first | exact HB.out | apply zf | apply zd | apply ze) | exact HB.out)⟩⟩
           ·replace c12 := Zk.mpr c12
            subst c12
            have H1 : (some false) = some r := by rw [if_neg (show ¬ (false = true) by decide)] at H; exact H
            clear H
            have H := H1
            clear H1
            obtain rfl := Option.some.inj H
            try go_wp2
            have n0_ := zc.mk (ze HB.out)
            clear HB
            have HB := n0_
            clear n0_
            have p721 : 0 ≤ (x5_1 : Int) := of_decide_eq_true (by first | (with_reducible assumption) | assumption)
            have q721 : x5_1 < (l0.length : Int) := of_decide_eq_true (by first | (with_reducible assumption) | assumption)
            obtain ⟨ad721, A721_2, c721_2, e721, hx721_0, hx721_1, hx721_2, hx721_3, hx721_4, hl721_2, hi721_2⟩ := yc HR0.out x5_1 p721 q721
            have hw721_4 := hx721_4
            have hw721_3 := hx721_3
            have hw721_2 := hx721_2
            have hw721_1 := hx721_1
            have hw721_0 := hx721_0
            cases e721
            replace hx721_0 := (HB.out.cell (Zj w _ hx721_0)).trans hx721_0
            replace hx721_1 := (HB.out.cell (Zj w _ hx721_1)).trans hx721_1
            replace hx721_2 := (HB.out.cell (Zj w _ hx721_2)).trans hx721_2
            replace hx721_3 := (HB.out.cell (Zj w _ hx721_3)).trans hx721_3
            replace hx721_4 := (HB.out.cell (Zj w _ hx721_4)).trans hx721_4
            have HR721_2 := zc.mk hi721_2
            have HC721_2 := zc.mk hl721_2
            clear hi721_2 hl721_2
            replace p721 := eq_true p721
            replace q721 := eq_true q721
            have p722 : 0 ≤ (x5_1 : Int) := of_decide_eq_true (by first | (with_reducible assumption) | assumption)
            have q722 : x5_1 < (l1.length : Int) := of_decide_eq_true (by first | (with_reducible assumption) | assumption)
            obtain ⟨ad722, A722_2, c722_2, e722, hx722_0, hx722_1, hx722_2, hx722_3, hx722_4, hl722_2, hi722_2⟩ := yc HR1.out x5_1 p722 q722
            have hw722_4 := hx722_4
            have hw722_3 := hx722_3
            have hw722_2 := hx722_2
            have hw722_1 := hx722_1
            have hw722_0 := hx722_0
            cases e722
            replace hx722_0 := (HB.out.cell (Zj w _ hx722_0)).trans hx722_0
            replace hx722_1 := (HB.out.cell (Zj w _ hx722_1)).trans hx722_1
            replace hx722_2 := (HB.out.cell (Zj w _ hx722_2)).trans hx722_2
            replace hx722_3 := (HB.out.cell (Zj w _ hx722_3)).trans hx722_3
            replace hx722_4 := (HB.out.cell (Zj w _ hx722_4)).trans hx722_4
            have HR722_2 := zc.mk hi722_2
            have HC722_2 := zc.mk hl722_2
            clear hi722_2 hl722_2
            replace p722 := eq_true p722
            replace q722 := eq_true q722
            have p723 : 0 ≤ (x5_1 : Int) := of_decide_eq_true (by first | (with_reducible assumption) | assumption)
            have q723 : x5_1 < (l0.length : Int) := of_decide_eq_true (by first | (with_reducible assumption) | assumption)
            obtain ⟨ad723, A723_2, c723_2, e723, hx723_0, hx723_1, hx723_2, hx723_3, hx723_4, hl723_2, hi723_2⟩ := yc HR0.out x5_1 p723 q723
            have hw723_4 := hx723_4
            have hw723_3 := hx723_3
            have hw723_2 := hx723_2
            have hw723_1 := hx723_1
            have hw723_0 := hx723_0
            obtain rfl : ad721 = ad723 := (by injection e723)
            replace hx723_0 := (HB.out.cell (Zj w _ hx723_0)).trans hx723_0
            replace hx723_1 := (HB.out.cell (Zj w _ hx723_1)).trans hx723_1
            replace hx723_2 := (HB.out.cell (Zj w _ hx723_2)).trans hx723_2
            replace hx723_3 := (HB.out.cell (Zj w _ hx723_3)).trans hx723_3
            replace hx723_4 := (HB.out.cell (Zj w _ hx723_4)).trans hx723_4
            have HR723_2 := zc.mk hi723_2
            have HC723_2 := zc.mk hl723_2
            clear hi723_2 hl723_2
            replace p723 := eq_true p723
            replace q723 := eq_true q723
            have ea_ := Option.some.inj (hx721_2.symm.trans hx723_2)
            injection ea_ with ea_ en_ ec_
            subst ea_
            subst ec_
            clear en_
            have p724 : 0 ≤ (x5_1 : Int) := of_decide_eq_true (by first | (with_reducible assumption) | assumption)
            have q724 : x5_1 < (l1.length : Int) := of_decide_eq_true (by first | (with_reducible assumption) | assumption)
            obtain ⟨ad724, A724_2, c724_2, e724, hx724_0, hx724_1, hx724_2, hx724_3, hx724_4, hl724_2, hi724_2⟩ := yc HR1.out x5_1 p724 q724
            have hw724_4 := hx724_4
            have hw724_3 := hx724_3
            have hw724_2 := hx724_2
            have hw724_1 := hx724_1
            have hw724_0 := hx724_0
            obtain rfl : ad722 = ad724 := (by injection e724)
            replace hx724_0 := (HB.out.cell (Zj w _ hx724_0)).trans hx724_0
            replace hx724_1 := (HB.out.cell (Zj w _ hx724_1)).trans hx724_1
            replace hx724_2 := (HB.out.cell (Zj w _ hx724_2)).trans hx724_2
            replace hx724_3 := (HB.out.cell (Zj w _ hx724_3)).trans hx724_3
            replace hx724_4 := (HB.out.cell (Zj w _ hx724_4)).trans hx724_4
            have HR724_2 := zc.mk hi724_2
            have HC724_2 := zc.mk hl724_2
            clear hi724_2 hl724_2
            replace p724 := eq_true p724
            replace q724 := eq_true q724
            have ea_ := Option.some.inj (hx722_2.symm.trans hx724_2)
            injection ea_ with ea_ en_ ec_
            subst ea_
            subst ec_
            clear en_
            have p725 : 0 ≤ (x5_1 : Int) := of_decide_eq_true (by first | (with_reducible assumption) | assumption)
            have q725 : x5_1 < (l0.length : Int) := of_decide_eq_true (by first | (with_reducible assumption) | assumption)
            obtain ⟨ad725, A725_2, c725_2, e725, hx725_0, hx725_1, hx725_2, hx725_3, hx725_4, hl725_2, hi725_2⟩ := yc HR0.out x5_1 p725 q725
            have hw725_4 := hx725_4
            have hw725_3 := hx725_3
            have hw725_2 := hx725_2
            have hw725_1 := hx725_1
            have hw725_0 := hx725_0
            obtain rfl : ad721 = ad725 := (by injection e725)
            replace hx725_0 := (HB.out.cell (Zj w _ hx725_0)).trans hx725_0
            replace hx725_1 := (HB.out.cell (Zj w _ hx725_1)).trans hx725_1
            replace hx725_2 := (HB.out.cell (Zj w _ hx725_2)).trans hx725_2
            replace hx725_3 := (HB.out.cell (Zj w _ hx725_3)).trans hx725_3
            replace hx725_4 := (HB.out.cell (Zj w _ hx725_4)).trans hx725_4
            have HR725_2 := zc.mk hi725_2
            have HC725_2 := zc.mk hl725_2
            clear hi725_2 hl725_2
            replace p725 := eq_true p725
            replace q725 := eq_true q725
            have ea_ := Option.some.inj (hx721_2.symm.trans hx725_2)
            injection ea_ with ea_ en_ ec_
            subst ea_
            subst ec_
            clear en_
            have p726 : 0 ≤ (x5_1 : Int) := of_decide_eq_true (by first | (with_reducible assumption) | assumption)
            have q726 : x5_1 < (l1.length : Int) := of_decide_eq_true (by first | (with_reducible assumption) | assumption)
            obtain ⟨ad726, A726_2, c726_2, e726, hx726_0, hx726_1, hx726_2, hx726_3, hx726_4, hl726_2, hi726_2⟩ := yc HR1.out x5_1 p726 q726
            have hw726_4 := hx726_4
            have hw726_3 := hx726_3
            have hw726_2 := hx726_2
            have hw726_1 := hx726_1
            have hw726_0 := hx726_0
            obtain rfl : ad722 = ad726 := (by injection e726)
            replace hx726_0 := (HB.out.cell (Zj w _ hx726_0)).trans hx726_0
            replace hx726_1 := (HB.out.cell (Zj w _ hx726_1)).trans hx726_1
            replace hx726_2 := (HB.out.cell (Zj w _ hx726_2)).trans hx726_2
            replace hx726_3 := (HB.out.cell (Zj w _ hx726_3)).trans hx726_3
            replace hx726_4 := (HB.out.cell (Zj w _ hx726_4)).trans hx726_4
            have HR726_2 := zc.mk hi726_2
            have HC726_2 := zc.mk hl726_2
            clear hi726_2 hl726_2
            replace p726 := eq_true p726
            replace q726 := eq_true q726
            have ea_ := Option.some.inj (hx722_2.symm.trans hx726_2)
            injection ea_ with ea_ en_ ec_
            subst ea_
            subst ec_
            clear en_
            have p727 : 0 ≤ (x5_1 : Int) := of_decide_eq_true (by first | (with_reducible assumption) | assumption)
            have q727 : x5_1 < (l0.length : Int) := of_decide_eq_true (by first | (with_reducible assumption) | assumption)
            obtain ⟨ad727, A727_2, c727_2, e727, hx727_0, hx727_1, hx727_2, hx727_3, hx727_4, hl727_2, hi727_2⟩ := yc HR0.out x5_1 p727 q727
            have hw727_4 := hx727_4
            have hw727_3 := hx727_3
            have hw727_2 := hx727_2
            have hw727_1 := hx727_1
            have hw727_0 := hx727_0
            obtain rfl : ad721 = ad727 := (by injection e727)
            replace hx727_0 := (HB.out.cell (Zj w _ hx727_0)).trans hx727_0
            replace hx727_1 := (HB.out.cell (Zj w _ hx727_1)).trans hx727_1
            replace hx727_2 := (HB.out.cell (Zj w _ hx727_2)).trans hx727_2
            replace hx727_3 := (HB.out.cell (Zj w _ hx727_3)).trans hx727_3
            replace hx727_4 := (HB.out.cell (Zj w _ hx727_4)).trans hx727_4
            have HR727_2 := zc.mk hi727_2
            have HC727_2 := zc.mk hl727_2
            clear hi727_2 hl727_2
            replace p727 := eq_true p727
            replace q727 := eq_true q727
            have ea_ := Option.some.inj (hx721_2.symm.trans hx727_2)
            injection ea_ with ea_ en_ ec_
            subst ea_
            subst ec_
            clear en_
            have p728 : 0 ≤ (x5_1 : Int) := of_decide_eq_true (by first | (with_reducible assumption) | assumption)
            have q728 : x5_1 < (l1.length : Int) := of_decide_eq_true (by first | (with_reducible assumption) | assumption)
            obtain ⟨ad728, A728_2, c728_2, e728, hx728_0, hx728_1, hx728_2, hx728_3, hx728_4, hl728_2, hi728_2⟩ := yc HR1.out x5_1 p728 q728
            have hw728_4 := hx728_4
            have hw728_3 := hx728_3
            have hw728_2 := hx728_2
            have hw728_1 := hx728_1
            have hw728_0 := hx728_0
            obtain rfl : ad722 = ad728 := (by injection e728)
            replace hx728_0 := (HB.out.cell (Zj w _ hx728_0)).trans hx728_0
            replace hx728_1 := (HB.out.cell (Zj w _ hx728_1)).trans hx728_1
            replace hx728_2 := (HB.out.cell (Zj w _ hx728_2)).trans hx728_2
            replace hx728_3 := (HB.out.cell (Zj w _ hx728_3)).trans hx728_3
            replace hx728_4 := (HB.out.cell (Zj w _ hx728_4)).trans hx728_4
            have HR728_2 := zc.mk hi728_2
            have HC728_2 := zc.mk hl728_2
            clear hi728_2 hl728_2
            replace p728 := eq_true p728
            replace q728 := eq_true q728
            have ea_ := Option.some.inj (hx722_2.symm.trans hx728_2)
            injection ea_ with ea_ en_ ec_
            subst ea_
            subst ec_
            clear en_
            have p729 : 0 ≤ (x5_1 : Int) := of_decide_eq_true (by first | (with_reducible assumption) | assumption)
            have q729 : x5_1 < (l0.length : Int) := of_decide_eq_true (by first | (with_reducible assumption) | assumption)
            obtain ⟨ad729, A729_2, c729_2, e729, hx729_0, hx729_1, hx729_2, hx729_3, hx729_4, hl729_2, hi729_2⟩ := yc HR0.out x5_1 p729 q729
            have hw729_4 := hx729_4
            have hw729_3 := hx729_3
            have hw729_2 := hx729_2
            have hw729_1 := hx729_1
            have hw729_0 := hx729_0
            obtain rfl : ad721 = ad729 := (by injection e729)
            replace hx729_0 := (HB.out.cell (Zj w _ hx729_0)).trans hx729_0
            replace hx729_1 := (HB.out.cell (Zj w _ hx729_1)).trans hx729_1
            replace hx729_2 := (HB.out.cell (Zj w _ hx729_2)).trans hx729_2
            replace hx729_3 := (HB.out.cell (Zj w _ hx729_3)).trans hx729_3
            replace hx729_4 := (HB.out.cell (Zj w _ hx729_4)).trans hx729_4
            have HR729_2 := zc.mk hi729_2
            have HC729_2 := zc.mk hl729_2
            clear hi729_2 hl729_2
            replace p729 := eq_true p729
            replace q729 := eq_true q729
            have ea_ := Option.some.inj (hx721_2.symm.trans hx729_2)
            injection ea_ with ea_ en_ ec_
            subst ea_
            subst ec_
            clear en_
            have p730 : 0 ≤ (x5_1 : Int) := of_decide_eq_true (by first | (with_reducible assumption) | assumption)
            have q730 : x5_1 < (l1.length : Int) := of_decide_eq_true (by first | (with_reducible assumption) | assumption)
            obtain ⟨ad730, A730_2, c730_2, e730, hx730_0, hx730_1, hx730_2, hx730_3, hx730_4, hl730_2, hi730_2⟩ := yc HR1.out x5_1 p730 q730
            have hw730_4 := hx730_4
            have hw730_3 := hx730_3
            have hw730_2 := hx730_2
            have hw730_1 := hx730_1
            have hw730_0 := hx730_0
            obtain rfl : ad722 = ad730 := (by injection e730)
            replace hx730_0 := (HB.out.cell (Zj w _ hx730_0)).trans hx730_0
            replace hx730_1 := (HB.out.cell (Zj w _ hx730_1)).trans hx730_1
            replace hx730_2 := (HB.out.cell (Zj w _ hx730_2)).trans hx730_2
            replace hx730_3 := (HB.out.cell (Zj w _ hx730_3)).trans hx730_3
            replace hx730_4 := (HB.out.cell (Zj w _ hx730_4)).trans hx730_4
            have HR730_2 := zc.mk hi730_2
            have HC730_2 := zc.mk hl730_2
            clear hi730_2 hl730_2
            replace p730 := eq_true p730
            replace q730 := eq_true q730
            have ea_ := Option.some.inj (hx722_2.symm.trans hx730_2)
            injection ea_ with ea_ en_ ec_
            subst ea_
            subst ec_
            clear en_
            refine yK (n := 64) (S := fun w' => w'.cell? (ad721.add ((x5_1).toNat * 5)) = some (.int .i64 ((zn l0 x5_1).f0)) ∧ w'.cell? ⟨(ad721.add ((x5_1).toNat * 5)).block, (ad721.add ((x5_1).toNat * 5)).off + 1, none⟩ = some (.string ((zn l0 x5_1).f1)) ∧ w'.cell? ⟨(ad721.add ((x5_1).toNat * 5)).block, (ad721.add ((x5_1).toNat * 5)).off + 2, none⟩ = some (.slice A721_2 ((zn l0 x5_1).f2).length c721_2) ∧ w'.cell? ⟨(ad721.add ((x5_1).toNat * 5)).block, (ad721.add ((x5_1).toNat * 5)).off + 3, none⟩ = some (.int .i64 ((zn l0 x5_1).f3)) ∧ w'.cell? ⟨(ad721.add ((x5_1).toNat * 5)).block, (ad721.add ((x5_1).toNat * 5)).off + 4, none⟩ = some (.int .i64 ((zn l0 x5_1).f4)) ∧ w'.cell? (ad722.add ((x5_1).toNat * 5)) = some (.int .i64 ((zn l1 x5_1).f0)) ∧ w'.cell? ⟨(ad722.add ((x5_1).toNat * 5)).block, (ad722.add ((x5_1).toNat * 5)).off + 1, none⟩ = some (.string ((zn l1 x5_1).f1)) ∧ w'.cell? ⟨(ad722.add ((x5_1).toNat * 5)).block, (ad722.add ((x5_1).toNat * 5)).off + 2, none⟩ = some (.slice A722_2 ((zn l1 x5_1).f2).length c722_2) ∧ w'.cell? ⟨(ad722.add ((x5_1).toNat * 5)).block, (ad722.add ((x5_1).toNat * 5)).off + 3, none⟩ = some (.int .i64 ((zn l1 x5_1).f3)) ∧ w'.cell? ⟨(ad722.add ((x5_1).toNat * 5)).block, (ad722.add ((x5_1).toNat * 5)).off + 4, none⟩ = some (.int .i64 ((zn l1 x5_1).f4)) ∧ w'.cell? (ad721.add ((x5_1).toNat * 5)) = some (.int .i64 ((zn l0 x5_1).f0)) ∧ w'.cell? ⟨(ad721.add ((x5_1).toNat * 5)).block, (ad721.add ((x5_1).toNat * 5)).off + 1, none⟩ = some (.string ((zn l0 x5_1).f1)) ∧ w'.cell? ⟨(ad721.add ((x5_1).toNat * 5)).block, (ad721.add ((x5_1).toNat * 5)).off + 2, none⟩ = some (.slice A721_2 ((zn l0 x5_1).f2).length c721_2) ∧ w'.cell? ⟨(ad721.add ((x5_1).toNat * 5)).block, (ad721.add ((x5_1).toNat * 5)).off + 3, none⟩ = some (.int .i64 ((zn l0 x5_1).f3)) ∧ w'.cell? ⟨(ad721.add ((x5_1).toNat * 5)).block, (ad721.add ((x5_1).toNat * 5)).off + 4, none⟩ = some (.int .i64 ((zn l0 x5_1).f4)) ∧ w'.cell? (ad722.add ((x5_1).toNat * 5)) = some (.int .i64 ((zn l1 x5_1).f0)) ∧ w'.cell? ⟨(ad722.add ((x5_1).toNat * 5)).block, (ad722.add ((x5_1).toNat * 5)).off + 1, none⟩ = some (.string ((zn l1 x5_1).f1)) ∧ w'.cell? ⟨(ad722.add ((x5_1).toNat * 5)).block, (ad722.add ((x5_1).toNat * 5)).off + 2, none⟩ = some (.slice A722_2 ((zn l1 x5_1).f2).length c722_2) ∧ w'.cell? ⟨(ad722.add ((x5_1).toNat * 5)).block, (ad722.add ((x5_1).toNat * 5)).off + 3, none⟩ = some (.int .i64 ((zn l1 x5_1).f3)) ∧ w'.cell? ⟨(ad722.add ((x5_1).toNat * 5)).block, (ad722.add ((x5_1).toNat * 5)).off + 4, none⟩ = some (.int .i64 ((zn l1 x5_1).f4)) ∧ w'.cell? (ad721.add ((x5_1).toNat * 5)) = some (.int .i64 ((zn l0 x5_1).f0)) ∧ w'.cell? ⟨(ad721.add ((x5_1).toNat * 5)).block, (ad721.add ((x5_1).toNat * 5)).off + 1, none⟩ = some (.string ((zn l0 x5_1).f1)) ∧ w'.cell? ⟨(ad721.add ((x5_1).toNat * 5)).block, (ad721.add ((x5_1).toNat * 5)).off + 2, none⟩ = some (.slice A721_2 ((zn l0 x5_1).f2).length c721_2) ∧ w'.cell? ⟨(ad721.add ((x5_1).toNat * 5)).block, (ad721.add ((x5_1).toNat * 5)).off + 3, none⟩ = some (.int .i64 ((zn l0 x5_1).f3)) ∧ w'.cell? ⟨(ad721.add ((x5_1).toNat * 5)).block, (ad721.add ((x5_1).toNat * 5)).off + 4, none⟩ = some (.int .i64 ((zn l0 x5_1).f4)) ∧ w'.cell? (ad722.add ((x5_1).toNat * 5)) = some (.int .i64 ((zn l1 x5_1).f0)) ∧ w'.cell? ⟨(ad722.add ((x5_1).toNat * 5)).block, (ad722.add ((x5_1).toNat * 5)).off + 1, none⟩ = some (.string ((zn l1 x5_1).f1)) ∧ w'.cell? ⟨(ad722.add ((x5_1).toNat * 5)).block, (ad722.add ((x5_1).toNat * 5)).off + 2, none⟩ = some (.slice A722_2 ((zn l1 x5_1).f2).length c722_2) ∧ w'.cell? ⟨(ad722.add ((x5_1).toNat * 5)).block, (ad722.add ((x5_1).toNat * 5)).off + 3, none⟩ = some (.int .i64 ((zn l1 x5_1).f3)) ∧ w'.cell? ⟨(ad722.add ((x5_1).toNat * 5)).block, (ad722.add ((x5_1).toNat * 5)).off + 4, none⟩ = some (.int .i64 ((zn l1 x5_1).f4)) ∧ w'.cell? (ad721.add ((x5_1).toNat * 5)) = some (.int .i64 ((zn l0 x5_1).f0)) ∧ w'.cell? ⟨(ad721.add ((x5_1).toNat * 5)).block, (ad721.add ((x5_1).toNat * 5)).off + 1, none⟩ = some (.string ((zn l0 x5_1).f1)) ∧ w'.cell? ⟨(ad721.add ((x5_1).toNat * 5)).block, (ad721.add ((x5_1).toNat * 5)).off + 2, none⟩ = some (.slice A721_2 ((zn l0 x5_1).f2).length c721_2) ∧ w'.cell? ⟨(ad721.add ((x5_1).toNat * 5)).block, (ad721.add ((x5_1).toNat * 5)).off + 3, none⟩ = some (.int .i64 ((zn l0 x5_1).f3)) ∧ w'.cell? ⟨(ad721.add ((x5_1).toNat * 5)).block, (ad721.add ((x5_1).toNat * 5)).off + 4, none⟩ = some (.int .i64 ((zn l0 x5_1).f4)) ∧ w'.cell? (ad722.add ((x5_1).toNat * 5)) = some (.int .i64 ((zn l1 x5_1).f0)) ∧ w'.cell? ⟨(ad722.add ((x5_1).toNat * 5)).block, (ad722.add ((x5_1).toNat * 5)).off + 1, none⟩ = some (.string ((zn l1 x5_1).f1)) ∧ w'.cell? ⟨(ad722.add ((x5_1).toNat * 5)).block, (ad722.add ((x5_1).toNat * 5)).off + 2, none⟩ = some (.slice A722_2 ((zn l1 x5_1).f2).length c722_2) ∧ w'.cell? ⟨(ad722.add ((x5_1).toNat * 5)).block, (ad722.add ((x5_1).toNat * 5)).off + 3, none⟩ = some (.int .i64 ((zn l1 x5_1).f3)) ∧ w'.cell? ⟨(ad722.add ((x5_1).toNat * 5)).block, (ad722.add ((x5_1).toNat * 5)).off + 4, none⟩ = some (.int .i64 ((zn l1 x5_1).f4)) ∧ w'.cell? (ad721.add ((x5_1).toNat * 5)) = some (.int .i64 ((zn l0 x5_1).f0)) ∧ w'.cell? ⟨(ad721.add ((x5_1).toNat * 5)).block, (ad721.add ((x5_1).toNat * 5)).off + 1, none⟩ = some (.string ((zn l0 x5_1).f1)) ∧ w'.cell? ⟨(ad721.add ((x5_1).toNat * 5)).block, (ad721.add ((x5_1).toNat * 5)).off + 2, none⟩ = some (.slice A721_2 ((zn l0 x5_1).f2).length c721_2) ∧ w'.cell? ⟨(ad721.add ((x5_1).toNat * 5)).block, (ad721.add ((x5_1).toNat * 5)).off + 3, none⟩ = some (.int .i64 ((zn l0 x5_1).f3)) ∧ w'.cell? ⟨(ad721.add ((x5_1).toNat * 5)).block, (ad721.add ((x5_1).toNat * 5)).off + 4, none⟩ = some (.int .i64 ((zn l0 x5_1).f4)) ∧ w'.cell? (ad722.add ((x5_1).toNat * 5)) = some (.int .i64 ((zn l1 x5_1).f0)) ∧ w'.cell? ⟨(ad722.add ((x5_1).toNat * 5)).block, (ad722.add ((x5_1).toNat * 5)).off + 1, none⟩ = some (.string ((zn l1 x5_1).f1)) ∧ w'.cell? ⟨(ad722.add ((x5_1).toNat * 5)).block, (ad722.add ((x5_1).toNat * 5)).off + 2, none⟩ = some (.slice A722_2 ((zn l1 x5_1).f2).length c722_2) ∧ w'.cell? ⟨(ad722.add ((x5_1).toNat * 5)).block, (ad722.add ((x5_1).toNat * 5)).off + 3, none⟩ = some (.int .i64 ((zn l1 x5_1).f3)) ∧ w'.cell? ⟨(ad722.add ((x5_1).toNat * 5)).block, (ad722.add ((x5_1).toNat * 5)).off + 4, none⟩ = some (.int .i64 ((zn l1 x5_1).f4))) (ds := []) #[X,X,X,X,X,X,X,X,X,X,X,X,X,X,X,X,X,X,X,X,X,X,X,X,X,X,X,X,X,X,X,X,X,X,X,X,X,X,X,X,X,X,X,X,X,X,X,X,X,X,X,X,X,X,X,X,X,X,X,X,X,X,X,X] (by kernel_rfl) rfl rfl ⟨((HB.out.cell (Zj w _ hw721_0)).trans hw721_0), ((HB.out.cell (Zj w _ hw721_1)).trans hw721_1), ((HB.out.cell (Zj w _ hw721_2)).trans hw721_2), ((HB.out.cell (Zj w _ hw721_3)).trans hw721_3), ((HB.out.cell (Zj w _ hw721_4)).trans hw721_4), ((HB.out.cell (Zj w _ hw722_0)).trans hw722_0), ((HB.out.cell (Zj w _ hw722_1)).trans hw722_1), ((HB.out.cell (Zj w _ hw722_2)).trans hw722_2), ((HB.out.cell (Zj w _ hw722_3)).trans hw722_3), ((HB.out.cell (Zj w _ hw722_4)).trans hw722_4), ((HB.out.cell (Zj w _ hw723_0)).trans hw723_0), ((HB.out.cell (Zj w _ hw723_1)).trans hw723_1), ((HB.out.cell (Zj w _ hw723_2)).trans hw723_2), ((HB.out.cell (Zj w _ hw723_3)).trans hw723_3), ((HB.out.cell (Zj w _ hw723_4)).trans hw723_4), ((HB.out.cell (Zj w _ hw724_0)).trans hw724_0), ((HB.out.cell (Zj w _ hw724_1)).trans hw724_1), ((HB.out.cell (Zj w _ hw724_2)).trans hw724_2), ((HB.out.cell (Zj w _ hw724_3)).trans hw724_3), ((HB.out.cell (Zj w _ hw724_4)).trans hw724_4), ((HB.out.cell (Zj w _ hw725_0)).trans hw725_0), ((HB.out.cell (Zj w _ hw725_1)).trans hw725_1), ((HB.out.cell (Zj w _ hw725_2)).trans hw725_2), ((HB.out.cell (Zj w _ hw725_3)).trans hw725_3), ((HB.out.cell (Zj w _ hw725_4)).trans hw725_4), ((HB.out.cell (Zj w _ hw726_0)).trans hw726_0), ((HB.out.cell (Zj w _ hw726_1)).trans hw726_1), ((HB.out.cell (Zj w _ hw726_2)).trans hw726_2), ((HB.out.cell (Zj w _ hw726_3)).trans hw726_3), ((HB.out.cell (Zj w _ hw726_4)).trans hw726_4), ((HB.out.cell (Zj w _ hw727_0)).trans hw727_0), ((HB.out.cell (Zj w _ hw727_1)).trans hw727_1), ((HB.out.cell (Zj w _ hw727_2)).trans hw727_2), ((HB.out.cell (Zj w _ hw727_3)).trans hw727_3), ((HB.out.cell (Zj w _ hw727_4)).trans hw727_4), ((HB.out.cell (Zj w _ hw728_0)).trans hw728_0), ((HB.out.cell (Zj w _ hw728_1)).trans hw728_1), ((HB.out.cell (Zj w _ hw728_2)).trans hw728_2), ((HB.out.cell (Zj w _ hw728_3)).trans hw728_3), ((HB.out.cell (Zj w _ hw728_4)).trans hw728_4), ((HB.out.cell (Zj w _ hw729_0)).trans hw729_0), ((HB.out.cell (Zj w _ hw729_1)).trans hw729_1), ((HB.out.cell (Zj w _ hw729_2)).trans hw729_2), ((HB.out.cell (Zj w _ hw729_3)).trans hw729_3), ((HB.out.cell (Zj w _ hw729_4)).trans hw729_4), ((HB.out.cell (Zj w _ hw730_0)).trans hw730_0), ((HB.out.cell (Zj w _ hw730_1)).trans hw730_1), ((HB.out.cell (Zj w _ hw730_2)).trans hw730_2), ((HB.out.cell (Zj w _ hw730_3)).trans hw730_3), ((HB.out.cell (Zj w _ hw730_4)).trans hw730_4)⟩ (fun hHeld => ?_); refine ym zz.tab6 zz.bits6 (fun HT_ HW_ => ?_)
            generalize wr.drew = w14 at HB HR721_2 HR722_2 HR723_2 HR724_2 HR725_2 HR726_2 HR727_2 HR728_2 HR729_2 HR730_2 hx721_0 hx721_1 hx721_2 hx721_3 hx721_4 hx722_0 hx722_1 hx722_2 hx722_3 hx722_4 hx723_0 hx723_1 hx723_2 hx723_3 hx723_4 hx724_0 hx724_1 hx724_2 hx724_3 hx724_4 hx725_0 hx725_1 hx725_2 hx725_3 hx725_4 hx726_0 hx726_1 hx726_2 hx726_3 hx726_4 hx727_0 hx727_1 hx727_2 hx727_3 hx727_4 hx728_0 hx728_1 hx728_2 hx728_3 hx728_4 hx729_0 hx729_1 hx729_2 hx729_3 hx729_4 hx730_0 hx730_1 hx730_2 hx730_3 hx730_4 hHeld ⊢
            refine zq (i := 0) (N := some 17) (v := ?_) (a' := ?_) #[O,X,X,X,X,X,X,X,X,X,X,X,X,X,X,X,X,X,X,X,X,X,X,X,X,X,X,X,X,X,X,X,X,X,X,X,X,X,X,X,X,X,X,X,X,X,X,X,X,X,X,X,X,X,X,X,X,X,X,X,X,X,X,X] rfl rfl (zo HT_.out (by kernel_rfl)) (fun _ _ _ h => h) (Or.inl ⟨by rfl, ?_⟩) ?_ ?_
            rotate_left
            ·intro w'
             go_simp
             with_reducible rfl
            rotate_left
            ·simp only [Act.put, Ze, Zf, Zg, zl, zm]
             rfl
            refine zq (i := 1) (N := some 18) (v := ?_) (a' := ?_) #[O,O,X,X,X,X,X,X,X,X,X,X,X,X,X,X,X,X,X,X,X,X,X,X,X,X,X,X,X,X,X,X,X,X,X,X,X,X,X,X,X,X,X,X,X,X,X,X,X,X,X,X,X,X,X,X,X,X,X,X,X,X,X,X] rfl rfl (zo HT_.out (by kernel_rfl)) (fun _ _ _ h => h) (Or.inl ⟨by rfl, ?_⟩) ?_ ?_
            rotate_left
            ·intro w'
             go_simp
             with_reducible rfl
            rotate_left
            ·simp only [Act.put, Ze, Zf, Zg, zl, zm]
             rfl
            refine zq (i := 2) (N := some 19) (v := ?_) (a' := ?_) #[O,O,O,X,X,X,X,X,X,X,X,X,X,X,X,X,X,X,X,X,X,X,X,X,X,X,X,X,X,X,X,X,X,X,X,X,X,X,X,X,X,X,X,X,X,X,X,X,X,X,X,X,X,X,X,X,X,X,X,X,X,X,X,X] rfl rfl (zo HT_.out (by kernel_rfl)) (fun _ _ _ h => h) (Or.inl ⟨by rfl, ?_⟩) ?_ ?_
            rotate_left
            ·intro w'
             go_simp
             with_reducible rfl
            rotate_left
            ·simp only [Act.put, Ze, Zf, Zg, zl, zm]
             rfl
            refine zq (i := 3) (N := some 20) (v := ?_) (a' := ?_) #[O,O,O,O,X,X,X,X,X,X,X,X,X,X,X,X,X,X,X,X,X,X,X,X,X,X,X,X,X,X,X,X,X,X,X,X,X,X,X,X,X,X,X,X,X,X,X,X,X,X,X,X,X,X,X,X,X,X,X,X,X,X,X,X] rfl rfl (zo HT_.out (by kernel_rfl)) (fun _ _ _ h => h) (Or.inl ⟨by rfl, ?_⟩) ?_ ?_
            rotate_left
            ·intro w'
             go_simp
             with_reducible rfl
            rotate_left
            ·simp only [Act.put, Ze, Zf, Zg, zl, zm]
             rfl
            refine zq (i := 5) (N := some 22) (v := ?_) (a' := ?_) #[O,O,O,O,X,O,X,X,X,X,X,X,X,X,X,X,X,X,X,X,X,X,X,X,X,X,X,X,X,X,X,X,X,X,X,X,X,X,X,X,X,X,X,X,X,X,X,X,X,X,X,X,X,X,X,X,X,X,X,X,X,X,X,X] rfl rfl (zo HT_.out (by kernel_rfl)) (fun _ _ _ h => h) (Or.inl ⟨by rfl, ?_⟩) ?_ ?_
            rotate_left
            ·intro w'
             go_simp
             with_reducible rfl
            rotate_left
            ·simp only [Act.put, Ze, Zf, Zg, zl, zm]
             rfl
            refine zq (i := 6) (N := some 23) (v := ?_) (a' := ?_) #[O,O,O,O,X,O,O,X,X,X,X,X,X,X,X,X,X,X,X,X,X,X,X,X,X,X,X,X,X,X,X,X,X,X,X,X,X,X,X,X,X,X,X,X,X,X,X,X,X,X,X,X,X,X,X,X,X,X,X,X,X,X,X,X] rfl rfl (zo HT_.out (by kernel_rfl)) (fun _ _ _ h => h) (Or.inl ⟨by rfl, ?_⟩) ?_ ?_
            rotate_left
            ·intro w'
             go_simp
             with_reducible rfl
            rotate_left
            ·simp only [Act.put, Ze, Zf, Zg, zl, zm]
             rfl
            refine zq (i := 7) (N := some 24) (v := ?_) (a' := ?_) #[O,O,O,O,X,O,O,O,X,X,X,X,X,X,X,X,X,X,X,X,X,X,X,X,X,X,X,X,X,X,X,X,X,X,X,X,X,X,X,X,X,X,X,X,X,X,X,X,X,X,X,X,X,X,X,X,X,X,X,X,X,X,X,X] rfl rfl (zo HT_.out (by kernel_rfl)) (fun _ _ _ h => h) (Or.inl ⟨by rfl, ?_⟩) ?_ ?_
            rotate_left
            ·intro w'
             go_simp
             with_reducible rfl
            rotate_left
            ·simp only [Act.put, Ze, Zf, Zg, zl, zm]
             rfl
            refine zq (i := 8) (N := some 25) (v := ?_) (a' := ?_) #[O,O,O,O,X,O,O,O,O,X,X,X,X,X,X,X,X,X,X,X,X,X,X,X,X,X,X,X,X,X,X,X,X,X,X,X,X,X,X,X,X,X,X,X,X,X,X,X,X,X,X,X,X,X,X,X,X,X,X,X,X,X,X,X] rfl rfl (zo HT_.out (by kernel_rfl)) (fun _ _ _ h => h) (Or.inl ⟨by rfl, ?_⟩) ?_ ?_
            rotate_left
            ·intro w'
             go_simp
             with_reducible rfl
            rotate_left
            ·simp only [Act.put, Ze, Zf, Zg, zl, zm]
             rfl
            refine take_ (i := 4) (N := some 21) (v := ?_) (a' := ?_) #[O,O,O,O,O,O,O,O,O,X,X,X,X,X,X,X,X,X,X,X,X,X,X,X,X,X,X,X,X,X,X,X,X,X,X,X,X,X,X,X,X,X,X,X,X,X,X,X,X,X,X,X,X,X,X,X,X,X,X,X,X,X,X,X] rfl rfl (zQ HT_.out HW_.out (by kernel_rfl)) (fun _ _ _ h => h) (Or.inl ⟨by rfl, ?_⟩) hHeld ?_ ?_
            rotate_left
            ·rintro w' ⟨s0, s1, s2, s3, s4, s5, s6, s7, s8, s9, s10, s11, s12, s13, s14, s15, s16, s17, s18, s19, s20, s21, s22, s23, s24, s25, s26, s27, s28, s29, s30, s31, s32, s33, s34, s35, s36, s37, s38, s39, s40, s41, s42, s43, s44, s45, s46, s47, s48, s49⟩
             go_simp
             with_reducible rfl
            rotate_left
            ·simp only [Act.put, Ze, Zf, Zg, zl, zm]
             rfl
            refine take_ (i := 9) (N := some 26) (v := ?_) (a' := ?_) #[O,O,O,O,O,O,O,O,O,O,X,X,X,X,X,X,X,X,X,X,X,X,X,X,X,X,X,X,X,X,X,X,X,X,X,X,X,X,X,X,X,X,X,X,X,X,X,X,X,X,X,X,X,X,X,X,X,X,X,X,X,X,X,X] rfl rfl (zQ HT_.out HW_.out (by kernel_rfl)) (fun _ _ _ h => h) (Or.inl ⟨by rfl, ?_⟩) hHeld ?_ ?_
            rotate_left
            ·rintro w' ⟨s0, s1, s2, s3, s4, s5, s6, s7, s8, s9, s10, s11, s12, s13, s14, s15, s16, s17, s18, s19, s20, s21, s22, s23, s24, s25, s26, s27, s28, s29, s30, s31, s32, s33, s34, s35, s36, s37, s38, s39, s40, s41, s42, s43, s44, s45, s46, s47, s48, s49⟩
             go_simp
             with_reducible rfl
            rotate_left
            ·simp only [Act.put, Ze, Zf, Zg, zl, zm]
             rfl
            refine zq (i := 10) (N := some 27) (v := ?_) (a' := ?_) #[O,O,O,O,O,O,O,O,O,O,O,X,X,X,X,X,X,X,X,X,X,X,X,X,X,X,X,X,X,X,X,X,X,X,X,X,X,X,X,X,X,X,X,X,X,X,X,X,X,X,X,X,X,X,X,X,X,X,X,X,X,X,X,X] rfl rfl (zo HT_.out (by kernel_rfl)) (fun _ _ _ h => h) (Or.inl ⟨by rfl, ?_⟩) ?_ ?_
            rotate_left
            ·intro w'
             go_simp
             with_reducible rfl
            rotate_left
            ·simp only [Act.put, Ze, Zf, Zg, zl, zm]
             rfl
            refine zq (i := 11) (N := some 28) (v := ?_) (a' := ?_) #[O,O,O,O,O,O,O,O,O,O,O,O,X,X,X,X,X,X,X,X,X,X,X,X,X,X,X,X,X,X,X,X,X,X,X,X,X,X,X,X,X,X,X,X,X,X,X,X,X,X,X,X,X,X,X,X,X,X,X,X,X,X,X,X] rfl rfl (zo HT_.out (by kernel_rfl)) (fun _ _ _ h => h) (Or.inl ⟨by rfl, ?_⟩) ?_ ?_
            rotate_left
            ·intro w'
             go_simp
             with_reducible rfl
            rotate_left
            ·simp only [Act.put, Ze, Zf, Zg, zl, zm]
             rfl
            refine zq (i := 12) (N := some 29) (v := ?_) (a' := ?_) #[O,O,O,O,O,O,O,O,O,O,O,O,O,X,X,X,X,X,X,X,X,X,X,X,X,X,X,X,X,X,X,X,X,X,X,X,X,X,X,X,X,X,X,X,X,X,X,X,X,X,X,X,X,X,X,X,X,X,X,X,X,X,X,X] rfl rfl (zo HT_.out (by kernel_rfl)) (fun _ _ _ h => h) (Or.inl ⟨by rfl, ?_⟩) ?_ ?_
            rotate_left
            ·intro w'
             go_simp
             with_reducible rfl
            rotate_left
            ·simp only [Act.put, Ze, Zf, Zg, zl, zm]
             rfl
            refine zq (i := 13) (N := some 30) (v := ?_) (a' := ?_) #[O,O,O,O,O,O,O,O,O,O,O,O,O,O,X,X,X,X,X,X,X,X,X,X,X,X,X,X,X,X,X,X,X,X,X,X,X,X,X,X,X,X,X,X,X,X,X,X,X,X,X,X,X,X,X,X,X,X,X,X,X,X,X,X] rfl rfl (zo HT_.out (by kernel_rfl)) (fun _ _ _ h => h) (Or.inl ⟨by rfl, ?_⟩) ?_ ?_
            rotate_left
            ·intro w'
             go_simp
             with_reducible rfl
            rotate_left
            ·simp only [Act.put, Ze, Zf, Zg, zl, zm]
             rfl
            refine zq (i := 14) (N := some 31) (v := ?_) (a' := ?_) #[O,O,O,O,O,O,O,O,O,O,O,O,O,O,O,X,X,X,X,X,X,X,X,X,X,X,X,X,X,X,X,X,X,X,X,X,X,X,X,X,X,X,X,X,X,X,X,X,X,X,X,X,X,X,X,X,X,X,X,X,X,X,X,X] rfl rfl (zo HT_.out (by kernel_rfl)) (fun _ _ _ h => h) (Or.inl ⟨by rfl, ?_⟩) ?_ ?_
            rotate_left
            ·intro w'
             go_simp
             with_reducible rfl
            rotate_left
            ·simp only [Act.put, Ze, Zf, Zg, zl, zm]
             rfl
            refine zq (i := 15) (N := some 32) (v := ?_) (a' := ?_) #[O,O,O,O,O,O,O,O,O,O,O,O,O,O,O,O,X,X,X,X,X,X,X,X,X,X,X,X,X,X,X,X,X,X,X,X,X,X,X,X,X,X,X,X,X,X,X,X,X,X,X,X,X,X,X,X,X,X,X,X,X,X,X,X] rfl rfl (zo HT_.out (by kernel_rfl)) (fun _ _ _ h => h) (Or.inl ⟨by rfl, ?_⟩) ?_ ?_
            rotate_left
            ·intro w'
             go_simp
             with_reducible rfl
            rotate_left
            ·simp only [Act.put, Ze, Zf, Zg, zl, zm]
             rfl
            refine zq (i := 17) (N := some 34) (v := ?_) (a' := ?_) #[O,O,O,O,O,O,O,O,O,O,O,O,O,O,O,O,X,O,X,X,X,X,X,X,X,X,X,X,X,X,X,X,X,X,X,X,X,X,X,X,X,X,X,X,X,X,X,X,X,X,X,X,X,X,X,X,X,X,X,X,X,X,X,X] rfl rfl (zo HT_.out (by kernel_rfl)) (fun _ _ _ h => h) (Or.inl ⟨by rfl, ?_⟩) ?_ ?_
            rotate_left
            ·intro w'
             go_simp
             with_reducible rfl
            rotate_left
            ·simp only [Act.put, Ze, Zf, Zg, zl, zm]
             rfl
            refine zq (i := 18) (N := some 35) (v := ?_) (a' := ?_) #[O,O,O,O,O,O,O,O,O,O,O,O,O,O,O,O,X,O,O,X,X,X,X,X,X,X,X,X,X,X,X,X,X,X,X,X,X,X,X,X,X,X,X,X,X,X,X,X,X,X,X,X,X,X,X,X,X,X,X,X,X,X,X,X] rfl rfl (zo HT_.out (by kernel_rfl)) (fun _ _ _ h => h) (Or.inl ⟨by rfl, ?_⟩) ?_ ?_
            rotate_left
            ·intro w'
             go_simp
             with_reducible rfl
            rotate_left
            ·simp only [Act.put, Ze, Zf, Zg, zl, zm]
             rfl
            refine zq (i := 19) (N := some 36) (v := ?_) (a' := ?_) #[O,O,O,O,O,O,O,O,O,O,O,O,O,O,O,O,X,O,O,O,X,X,X,X,X,X,X,X,X,X,X,X,X,X,X,X,X,X,X,X,X,X,X,X,X,X,X,X,X,X,X,X,X,X,X,X,X,X,X,X,X,X,X,X] rfl rfl (zo HT_.out (by kernel_rfl)) (fun _ _ _ h => h) (Or.inl ⟨by rfl, ?_⟩) ?_ ?_
            rotate_left
            ·intro w'
             go_simp
             with_reducible rfl
            rotate_left
            ·simp only [Act.put, Ze, Zf, Zg, zl, zm]
             rfl
            refine zq (i := 20) (N := some 37) (v := ?_) (a' := ?_) #[O,O,O,O,O,O,O,O,O,O,O,O,O,O,O,O,X,O,O,O,O,X,X,X,X,X,X,X,X,X,X,X,X,X,X,X,X,X,X,X,X,X,X,X,X,X,X,X,X,X,X,X,X,X,X,X,X,X,X,X,X,X,X,X] rfl rfl (zo HT_.out (by kernel_rfl)) (fun _ _ _ h => h) (Or.inl ⟨by rfl, ?_⟩) ?_ ?_
            rotate_left
            ·intro w'
             go_simp
             with_reducible rfl
            rotate_left
            ·simp only [Act.put, Ze, Zf, Zg, zl, zm]
             rfl
            refine take_ (i := 16) (N := some 33) (v := ?_) (a' := ?_) #[O,O,O,O,O,O,O,O,O,O,O,O,O,O,O,O,O,O,O,O,O,X,X,X,X,X,X,X,X,X,X,X,X,X,X,X,X,X,X,X,X,X,X,X,X,X,X,X,X,X,X,X,X,X,X,X,X,X,X,X,X,X,X,X] rfl rfl (zQ HT_.out HW_.out (by kernel_rfl)) (fun _ _ _ h => h) (Or.inl ⟨by rfl, ?_⟩) hHeld ?_ ?_
            rotate_left
            ·rintro w' ⟨s0, s1, s2, s3, s4, s5, s6, s7, s8, s9, s10, s11, s12, s13, s14, s15, s16, s17, s18, s19, s20, s21, s22, s23, s24, s25, s26, s27, s28, s29, s30, s31, s32, s33, s34, s35, s36, s37, s38, s39, s40, s41, s42, s43, s44, s45, s46, s47, s48, s49⟩
             go_simp
             with_reducible rfl
            rotate_left
            ·simp only [Act.put, Ze, Zf, Zg, zl, zm]
             rfl
            refine take_ (i := 21) (N := some 38) (v := ?_) (a' := ?_) #[O,O,O,O,O,O,O,O,O,O,O,O,O,O,O,O,O,O,O,O,O,O,X,X,X,X,X,X,X,X,X,X,X,X,X,X,X,X,X,X,X,X,X,X,X,X,X,X,X,X,X,X,X,X,X,X,X,X,X,X,X,X,X,X] rfl rfl (zQ HT_.out HW_.out (by kernel_rfl)) (fun _ _ _ h => h) (Or.inl ⟨by rfl, ?_⟩) hHeld ?_ ?_
            rotate_left
            ·rintro w' ⟨s0, s1, s2, s3, s4, s5, s6, s7, s8, s9, s10, s11, s12, s13, s14, s15, s16, s17, s18, s19, s20, s21, s22, s23, s24, s25, s26, s27, s28, s29, s30, s31, s32, s33, s34, s35, s36, s37, s38, s39, s40, s41, s42, s43, s44, s45, s46, s47, s48, s49⟩
             go_simp
             with_reducible rfl
            rotate_left
            ·simp only [Act.put, Ze, Zf, Zg, zl, zm]
             rfl
            refine zq (i := 22) (N := some 39) (v := ?_) (a' := ?_) #[O,O,O,O,O,O,O,O,O,O,O,O,O,O,O,O,O,O,O,O,O,O,O,X,X,X,X,X,X,X,X,X,X,X,X,X,X,X,X,X,X,X,X,X,X,X,X,X,X,X,X,X,X,X,X,X,X,X,X,X,X,X,X,X] rfl rfl (zo HT_.out (by kernel_rfl)) (fun _ _ _ h => h) (Or.inl ⟨by rfl, ?_⟩) ?_ ?_
            rotate_left
            ·intro w'
             go_simp
             with_reducible rfl
            rotate_left
            ·simp only [Act.put, Ze, Zf, Zg, zl, zm]
             rfl
            refine zq (i := 23) (N := some 40) (v := ?_) (a' := ?_) #[O,O,O,O,O,O,O,O,O,O,O,O,O,O,O,O,O,O,O,O,O,O,O,O,X,X,X,X,X,X,X,X,X,X,X,X,X,X,X,X,X,X,X,X,X,X,X,X,X,X,X,X,X,X,X,X,X,X,X,X,X,X,X,X] rfl rfl (zo HT_.out (by kernel_rfl)) (fun _ _ _ h => h) (Or.inl ⟨by rfl, ?_⟩) ?_ ?_
            rotate_left
            ·intro w'
             go_simp
             with_reducible rfl
            rotate_left
            ·simp only [Act.put, Ze, Zf, Zg, zl, zm]
             rfl
            refine zq (i := 24) (N := some 41) (v := ?_) (a' := ?_) #[O,O,O,O,O,O,O,O,O,O,O,O,O,O,O,O,O,O,O,O,O,O,O,O,O,X,X,X,X,X,X,X,X,X,X,X,X,X,X,X,X,X,X,X,X,X,X,X,X,X,X,X,X,X,X,X,X,X,X,X,X,X,X,X] rfl rfl (zo HT_.out (by kernel_rfl)) (fun _ _ _ h => h) (Or.inl ⟨by rfl, ?_⟩) ?_ ?_
            rotate_left
            ·intro w'
             go_simp
             with_reducible rfl
            rotate_left
            ·simp only [Act.put, Ze, Zf, Zg, zl, zm]
             rfl
            refine zq (i := 25) (N := some 42) (v := ?_) (a' := ?_) #[O,O,O,O,O,O,O,O,O,O,O,O,O,O,O,O,O,O,O,O,O,O,O,O,O,O,X,X,X,X,X,X,X,X,X,X,X,X,X,X,X,X,X,X,X,X,X,X,X,X,X,X,X,X,X,X,X,X,X,X,X,X,X,X] rfl rfl (zo HT_.out (by kernel_rfl)) (fun _ _ _ h => h) (Or.inl ⟨by rfl, ?_⟩) ?_ ?_
            rotate_left
            ·intro w'
             go_simp
             with_reducible rfl
            rotate_left
            ·simp only [Act.put, Ze, Zf, Zg, zl, zm]
             rfl
            refine zq (i := 26) (N := some 43) (v := ?_) (a' := ?_) #[O,O,O,O,O,O,O,O,O,O,O,O,O,O,O,O,O,O,O,O,O,O,O,O,O,O,O,X,X,X,X,X,X,X,X,X,X,X,X,X,X,X,X,X,X,X,X,X,X,X,X,X,X,X,X,X,X,X,X,X,X,X,X,X] rfl rfl (zo HT_.out (by kernel_rfl)) (fun _ _ _ h => h) (Or.inl ⟨by rfl, ?_⟩) ?_ ?_
            rotate_left
            ·intro w'
             go_simp
             with_reducible rfl
            rotate_left
            ·simp only [Act.put, Ze, Zf, Zg, zl, zm]
             rfl
            refine zq (i := 27) (N := some 44) (v := ?_) (a' := ?_) #[O,O,O,O,O,O,O,O,O,O,O,O,O,O,O,O,O,O,O,O,O,O,O,O,O,O,O,O,X,X,X,X,X,X,X,X,X,X,X,X,X,X,X,X,X,X,X,X,X,X,X,X,X,X,X,X,X,X,X,X,X,X,X,X] rfl rfl (zo HT_.out (by kernel_rfl)) (fun _ _ _ h => h) (Or.inl ⟨by rfl, ?_⟩) ?_ ?_
            rotate_left
            ·intro w'
             go_simp
             with_reducible rfl
            rotate_left
            ·simp only [Act.put, Ze, Zf, Zg, zl, zm]
             rfl
            refine zq (i := 28) (N := some 45) (v := ?_) (a' := ?_) #[O,O,O,O,O,O,O,O,O,O,O,O,O,O,O,O,O,O,O,O,O,O,O,O,O,O,O,O,O,X,X,X,X,X,X,X,X,X,X,X,X,X,X,X,X,X,X,X,X,X,X,X,X,X,X,X,X,X,X,X,X,X,X,X] rfl rfl (zo HT_.out (by kernel_rfl)) (fun _ _ _ h => h) (Or.inl ⟨by rfl, ?_⟩) ?_ ?_
            rotate_left
            ·intro w'
             go_simp
             with_reducible rfl
            rotate_left
            ·simp only [Act.put, Ze, Zf, Zg, zl, zm]
             rfl
            refine zq (i := 30) (N := some 47) (v := ?_) (a' := ?_) #[O,O,O,O,O,O,O,O,O,O,O,O,O,O,O,O,O,O,O,O,O,O,O,O,O,O,O,O,O,X,O,X,X,X,X,X,X,X,X,X,X,X,X,X,X,X,X,X,X,X,X,X,X,X,X,X,X,X,X,X,X,X,X,X] rfl rfl (zo HT_.out (by kernel_rfl)) (fun _ _ _ h => h) (Or.inl ⟨by rfl, ?_⟩) ?_ ?_
            rotate_left
            ·intro w'
             go_simp
             with_reducible rfl
            rotate_left
            ·simp only [Act.put, Ze, Zf, Zg, zl, zm]
             rfl
            refine zq (i := 31) (N := some 48) (v := ?_) (a' := ?_) #[O,O,O,O,O,O,O,O,O,O,O,O,O,O,O,O,O,O,O,O,O,O,O,O,O,O,O,O,O,X,O,O,X,X,X,X,X,X,X,X,X,X,X,X,X,X,X,X,X,X,X,X,X,X,X,X,X,X,X,X,X,X,X,X] rfl rfl (zo HT_.out (by kernel_rfl)) (fun _ _ _ h => h) (Or.inl ⟨by rfl, ?_⟩) ?_ ?_
            rotate_left
            ·intro w'
             go_simp
             with_reducible rfl
            rotate_left
            ·simp only [Act.put, Ze, Zf, Zg, zl, zm]
             rfl
            refine zq (i := 32) (N := some 49) (v := ?_) (a' := ?_) #[O,O,O,O,O,O,O,O,O,O,O,O,O,O,O,O,O,O,O,O,O,O,O,O,O,O,O,O,O,X,O,O,O,X,X,X,X,X,X,X,X,X,X,X,X,X,X,X,X,X,X,X,X,X,X,X,X,X,X,X,X,X,X,X] rfl rfl (zo HT_.out (by kernel_rfl)) (fun _ _ _ h => h) (Or.inl ⟨by rfl, ?_⟩) ?_ ?_
            rotate_left
            ·intro w'
             go_simp
             with_reducible rfl
            rotate_left
            ·simp only [Act.put, Ze, Zf, Zg, zl, zm]
             rfl
            refine zq (i := 33) (N := some 50) (v := ?_) (a' := ?_) #[O,O,O,O,O,O,O,O,O,O,O,O,O,O,O,O,O,O,O,O,O,O,O,O,O,O,O,O,O,X,O,O,O,O,X,X,X,X,X,X,X,X,X,X,X,X,X,X,X,X,X,X,X,X,X,X,X,X,X,X,X,X,X,X] rfl rfl (zo HT_.out (by kernel_rfl)) (fun _ _ _ h => h) (Or.inl ⟨by rfl, ?_⟩) ?_ ?_
            rotate_left
            ·intro w'
             go_simp
             with_reducible rfl
            rotate_left
            ·simp only [Act.put, Ze, Zf, Zg, zl, zm]
             rfl
            refine take_ (i := 29) (N := some 46) (v := ?_) (a' := ?_) #[O,O,O,O,O,O,O,O,O,O,O,O,O,O,O,O,O,O,O,O,O,O,O,O,O,O,O,O,O,O,O,O,O,O,X,X,X,X,X,X,X,X,X,X,X,X,X,X,X,X,X,X,X,X,X,X,X,X,X,X,X,X,X,X] rfl rfl (zQ HT_.out HW_.out (by kernel_rfl)) (fun _ _ _ h => h) (Or.inl ⟨by rfl, ?_⟩) hHeld ?_ ?_
            rotate_left
            ·rintro w' ⟨s0, s1, s2, s3, s4, s5, s6, s7, s8, s9, s10, s11, s12, s13, s14, s15, s16, s17, s18, s19, s20, s21, s22, s23, s24, s25, s26, s27, s28, s29, s30, s31, s32, s33, s34, s35, s36, s37, s38, s39, s40, s41, s42, s43, s44, s45, s46, s47, s48, s49⟩
             go_simp
             with_reducible rfl
            rotate_left
            ·simp only [Act.put, Ze, Zf, Zg, zl, zm]
             rfl
            refine take_ (i := 34) (N := some 51) (v := ?_) (a' := ?_) #[O,O,O,O,O,O,O,O,O,O,O,O,O,O,O,O,O,O,O,O,O,O,O,O,O,O,O,O,O,O,O,O,O,O,O,X,X,X,X,X,X,X,X,X,X,X,X,X,X,X,X,X,X,X,X,X,X,X,X,X,X,X,X,X] rfl rfl (zQ HT_.out HW_.out (by kernel_rfl)) (fun _ _ _ h => h) (Or.inl ⟨by rfl, ?_⟩) hHeld ?_ ?_
            rotate_left
            ·rintro w' ⟨s0, s1, s2, s3, s4, s5, s6, s7, s8, s9, s10, s11, s12, s13, s14, s15, s16, s17, s18, s19, s20, s21, s22, s23, s24, s25, s26, s27, s28, s29, s30, s31, s32, s33, s34, s35, s36, s37, s38, s39, s40, s41, s42, s43, s44, s45, s46, s47, s48, s49⟩
             go_simp
             with_reducible rfl
            rotate_left
            ·simp only [Act.put, Ze, Zf, Zg, zl, zm]
             rfl
            refine zq (i := 35) (N := some 52) (v := ?_) (a' := ?_) #[O,O,O,O,O,O,O,O,O,O,O,O,O,O,O,O,O,O,O,O,O,O,O,O,O,O,O,O,O,O,O,O,O,O,O,O,X,X,X,X,X,X,X,X,X,X,X,X,X,X,X,X,X,X,X,X,X,X,X,X,X,X,X,X] rfl rfl (zo HT_.out (by kernel_rfl)) (fun _ _ _ h => h) (Or.inl ⟨by rfl, ?_⟩) ?_ ?_
            rotate_left
            ·intro w'
             go_simp
             with_reducible rfl
            rotate_left
            ·simp only [Act.put, Ze, Zf, Zg, zl, zm]
             rfl
            refine zq (i := 36) (N := some 53) (v := ?_) (a' := ?_) #[O,O,O,O,O,O,O,O,O,O,O,O,O,O,O,O,O,O,O,O,O,O,O,O,O,O,O,O,O,O,O,O,O,O,O,O,O,X,X,X,X,X,X,X,X,X,X,X,X,X,X,X,X,X,X,X,X,X,X,X,X,X,X,X] rfl rfl (zo HT_.out (by kernel_rfl)) (fun _ _ _ h => h) (Or.inl ⟨by rfl, ?_⟩) ?_ ?_
            rotate_left
            ·intro w'
             go_simp
             with_reducible rfl
            rotate_left
            ·simp only [Act.put, Ze, Zf, Zg, zl, zm]
             rfl
            refine zq (i := 37) (N := some 54) (v := ?_) (a' := ?_) #[O,O,O,O,O,O,O,O,O,O,O,O,O,O,O,O,O,O,O,O,O,O,O,O,O,O,O,O,O,O,O,O,O,O,O,O,O,O,X,X,X,X,X,X,X,X,X,X,X,X,X,X,X,X,X,X,X,X,X,X,X,X,X,X] rfl rfl (zo HT_.out (by kernel_rfl)) (fun _ _ _ h => h) (Or.inl ⟨by rfl, ?_⟩) ?_ ?_
            rotate_left
            ·intro w'
             go_simp
             with_reducible rfl
            rotate_left
            ·simp only [Act.put, Ze, Zf, Zg, zl, zm]
             rfl
            refine zq (i := 38) (N := some 55) (v := ?_) (a' := ?_) #[O,O,O,O,O,O,O,O,O,O,O,O,O,O,O,O,O,O,O,O,O,O,O,O,O,O,O,O,O,O,O,O,O,O,O,O,O,O,O,X,X,X,X,X,X,X,X,X,X,X,X,X,X,X,X,X,X,X,X,X,X,X,X,X] rfl rfl (zo HT_.out (by kernel_rfl)) (fun _ _ _ h => h) (Or.inl ⟨by rfl, ?_⟩) ?_ ?_
            rotate_left
            ·intro w'
             go_simp
             with_reducible rfl
            rotate_left
            ·simp only [Act.put, Ze, Zf, Zg, zl, zm]
             rfl
            refine zq (i := 39) (N := some 56) (v := ?_) (a' := ?_) #[O,O,O,O,O,O,O,O,O,O,O,O,O,O,O,O,O,O,O,O,O,O,O,O,O,O,O,O,O,O,O,O,O,O,O,O,O,O,O,O,X,X,X,X,X,X,X,X,X,X,X,X,X,X,X,X,X,X,X,X,X,X,X,X] rfl rfl (zo HT_.out (by kernel_rfl)) (fun _ _ _ h => h) (Or.inl ⟨by rfl, ?_⟩) ?_ ?_
            rotate_left
            ·intro w'
             go_simp
             with_reducible rfl
            rotate_left
            ·simp only [Act.put, Ze, Zf, Zg, zl, zm]
             rfl
            refine zq (i := 40) (N := some 57) (v := ?_) (a' := ?_) #[O,O,O,O,O,O,O,O,O,O,O,O,O,O,O,O,O,O,O,O,O,O,O,O,O,O,O,O,O,O,O,O,O,O,O,O,O,O,O,O,O,X,X,X,X,X,X,X,X,X,X,X,X,X,X,X,X,X,X,X,X,X,X,X] rfl rfl (zo HT_.out (by kernel_rfl)) (fun _ _ _ h => h) (Or.inl ⟨by rfl, ?_⟩) ?_ ?_
            rotate_left
            ·intro w'
             go_simp
             with_reducible rfl
            rotate_left
            ·simp only [Act.put, Ze, Zf, Zg, zl, zm]
             rfl
            refine zq (i := 41) (N := some 58) (v := ?_) (a' := ?_) #[O,O,O,O,O,O,O,O,O,O,O,O,O,O,O,O,O,O,O,O,O,O,O,O,O,O,O,O,O,O,O,O,O,O,O,O,O,O,O,O,O,O,X,X,X,X,X,X,X,X,X,X,X,X,X,X,X,X,X,X,X,X,X,X] rfl rfl (zo HT_.out (by kernel_rfl)) (fun _ _ _ h => h) (Or.inl ⟨by rfl, ?_⟩) ?_ ?_
            rotate_left
            ·intro w'
             go_simp
             with_reducible rfl
            rotate_left
            ·simp only [Act.put, Ze, Zf, Zg, zl, zm]
             rfl
            refine zq (i := 43) (N := some 60) (v := ?_) (a' := ?_) #[O,O,O,O,O,O,O,O,O,O,O,O,O,O,O,O,O,O,O,O,O,O,O,O,O,O,O,O,O,O,O,O,O,O,O,O,O,O,O,O,O,O,X,O,X,X,X,X,X,X,X,X,X,X,X,X,X,X,X,X,X,X,X,X] rfl rfl (zo HT_.out (by kernel_rfl)) (fun _ _ _ h => h) (Or.inl ⟨by rfl, ?_⟩) ?_ ?_
            rotate_left
            ·intro w'
             go_simp
             with_reducible rfl
            rotate_left
            ·simp only [Act.put, Ze, Zf, Zg, zl, zm]
             rfl
            refine zq (i := 44) (N := some 61) (v := ?_) (a' := ?_) #[O,O,O,O,O,O,O,O,O,O,O,O,O,O,O,O,O,O,O,O,O,O,O,O,O,O,O,O,O,O,O,O,O,O,O,O,O,O,O,O,O,O,X,O,O,X,X,X,X,X,X,X,X,X,X,X,X,X,X,X,X,X,X,X] rfl rfl (zo HT_.out (by kernel_rfl)) (fun _ _ _ h => h) (Or.inl ⟨by rfl, ?_⟩) ?_ ?_
            rotate_left
            ·intro w'
             go_simp
             with_reducible rfl
            rotate_left
            ·simp only [Act.put, Ze, Zf, Zg, zl, zm]
             rfl
            refine zq (i := 45) (N := some 62) (v := ?_) (a' := ?_) #[O,O,O,O,O,O,O,O,O,O,O,O,O,O,O,O,O,O,O,O,O,O,O,O,O,O,O,O,O,O,O,O,O,O,O,O,O,O,O,O,O,O,X,O,O,O,X,X,X,X,X,X,X,X,X,X,X,X,X,X,X,X,X,X] rfl rfl (zo HT_.out (by kernel_rfl)) (fun _ _ _ h => h) (Or.inl ⟨by rfl, ?_⟩) ?_ ?_
            rotate_left
            ·intro w'
             go_simp
             with_reducible rfl
            rotate_left
            ·simp only [Act.put, Ze, Zf, Zg, zl, zm]
             rfl
            refine zq (i := 46) (N := some 63) (v := ?_) (a' := ?_) #[O,O,O,O,O,O,O,O,O,O,O,O,O,O,O,O,O,O,O,O,O,O,O,O,O,O,O,O,O,O,O,O,O,O,O,O,O,O,O,O,O,O,X,O,O,O,O,X,X,X,X,X,X,X,X,X,X,X,X,X,X,X,X,X] rfl rfl (zo HT_.out (by kernel_rfl)) (fun _ _ _ h => h) (Or.inl ⟨by rfl, ?_⟩) ?_ ?_
            rotate_left
            ·intro w'
             go_simp
             with_reducible rfl
            rotate_left
            ·simp only [Act.put, Ze, Zf, Zg, zl, zm]
             rfl
            refine take_ (i := 42) (N := some 59) (v := ?_) (a' := ?_) #[O,O,O,O,O,O,O,O,O,O,O,O,O,O,O,O,O,O,O,O,O,O,O,O,O,O,O,O,O,O,O,O,O,O,O,O,O,O,O,O,O,O,O,O,O,O,O,X,X,X,X,X,X,X,X,X,X,X,X,X,X,X,X,X] rfl rfl (zQ HT_.out HW_.out (by kernel_rfl)) (fun _ _ _ h => h) (Or.inl ⟨by rfl, ?_⟩) hHeld ?_ ?_
            rotate_left
            ·rintro w' ⟨s0, s1, s2, s3, s4, s5, s6, s7, s8, s9, s10, s11, s12, s13, s14, s15, s16, s17, s18, s19, s20, s21, s22, s23, s24, s25, s26, s27, s28, s29, s30, s31, s32, s33, s34, s35, s36, s37, s38, s39, s40, s41, s42, s43, s44, s45, s46, s47, s48, s49⟩
             go_simp
             with_reducible rfl
            rotate_left
            ·simp only [Act.put, Ze, Zf, Zg, zl, zm]
             rfl
            refine take_ (i := 47) (N := some 64) (v := ?_) (a' := ?_) #[O,O,O,O,O,O,O,O,O,O,O,O,O,O,O,O,O,O,O,O,O,O,O,O,O,O,O,O,O,O,O,O,O,O,O,O,O,O,O,O,O,O,O,O,O,O,O,O,X,X,X,X,X,X,X,X,X,X,X,X,X,X,X,X] rfl rfl (zQ HT_.out HW_.out (by kernel_rfl)) (fun _ _ _ h => h) (Or.inl ⟨by rfl, ?_⟩) hHeld ?_ ?_
            rotate_left
            ·rintro w' ⟨s0, s1, s2, s3, s4, s5, s6, s7, s8, s9, s10, s11, s12, s13, s14, s15, s16, s17, s18, s19, s20, s21, s22, s23, s24, s25, s26, s27, s28, s29, s30, s31, s32, s33, s34, s35, s36, s37, s38, s39, s40, s41, s42, s43, s44, s45, s46, s47, s48, s49⟩
             go_simp
             with_reducible rfl
            rotate_left
            ·simp only [Act.put, Ze, Zf, Zg, zl, zm]
             rfl
            refine zq (i := 48) (N := some 65) (v := ?_) (a' := ?_) #[O,O,O,O,O,O,O,O,O,O,O,O,O,O,O,O,O,O,O,O,O,O,O,O,O,O,O,O,O,O,O,O,O,O,O,O,O,O,O,O,O,O,O,O,O,O,O,O,O,X,X,X,X,X,X,X,X,X,X,X,X,X,X,X] rfl rfl (zo HT_.out (by kernel_rfl)) (fun _ _ _ h => h) (Or.inl ⟨by rfl, ?_⟩) ?_ ?_
            rotate_left
            ·intro w'
             go_simp
             with_reducible rfl
            rotate_left
            ·simp only [Act.put, Ze, Zf, Zg, zl, zm]
             rfl
            refine zq (i := 49) (N := some 66) (v := ?_) (a' := ?_) #[O,O,O,O,O,O,O,O,O,O,O,O,O,O,O,O,O,O,O,O,O,O,O,O,O,O,O,O,O,O,O,O,O,O,O,O,O,O,O,O,O,O,O,O,O,O,O,O,O,O,X,X,X,X,X,X,X,X,X,X,X,X,X,X] rfl rfl (zo HT_.out (by kernel_rfl)) (fun _ _ _ h => h) (Or.inl ⟨by rfl, ?_⟩) ?_ ?_
            rotate_left
            ·intro w'
             go_simp
             with_reducible rfl
            rotate_left
            ·simp only [Act.put, Ze, Zf, Zg, zl, zm]
             rfl
            refine zq (i := 50) (N := some 67) (v := ?_) (a' := ?_) #[O,O,O,O,O,O,O,O,O,O,O,O,O,O,O,O,O,O,O,O,O,O,O,O,O,O,O,O,O,O,O,O,O,O,O,O,O,O,O,O,O,O,O,O,O,O,O,O,O,O,O,X,X,X,X,X,X,X,X,X,X,X,X,X] rfl rfl (zo HT_.out (by kernel_rfl)) (fun _ _ _ h => h) (Or.inl ⟨by rfl, ?_⟩) ?_ ?_
            rotate_left
            ·intro w'
             go_simp
             with_reducible rfl
            rotate_left
            ·simp only [Act.put, Ze, Zf, Zg, zl, zm]
             rfl
            refine zq (i := 51) (N := some 68) (v := ?_) (a' := ?_) #[O,O,O,O,O,O,O,O,O,O,O,O,O,O,O,O,O,O,O,O,O,O,O,O,O,O,O,O,O,O,O,O,O,O,O,O,O,O,O,O,O,O,O,O,O,O,O,O,O,O,O,O,X,X,X,X,X,X,X,X,X,X,X,X] rfl rfl (zo HT_.out (by kernel_rfl)) (fun _ _ _ h => h) (Or.inl ⟨by rfl, ?_⟩) ?_ ?_
            rotate_left
            ·intro w'
             go_simp
             with_reducible rfl
            rotate_left
            ·simp only [Act.put, Ze, Zf, Zg, zl, zm]
             rfl
            refine zq (i := 52) (N := some 69) (v := ?_) (a' := ?_) #[O,O,O,O,O,O,O,O,O,O,O,O,O,O,O,O,O,O,O,O,O,O,O,O,O,O,O,O,O,O,O,O,O,O,O,O,O,O,O,O,O,O,O,O,O,O,O,O,O,O,O,O,O,X,X,X,X,X,X,X,X,X,X,X] rfl rfl (zo HT_.out (by kernel_rfl)) (fun _ _ _ h => h) (Or.inl ⟨by rfl, ?_⟩) ?_ ?_
            rotate_left
            ·intro w'
             go_simp
             with_reducible rfl
            rotate_left
            ·simp only [Act.put, Ze, Zf, Zg, zl, zm]
             rfl
            refine zq (i := 53) (N := some 70) (v := ?_) (a' := ?_) #[O,O,O,O,O,O,O,O,O,O,O,O,O,O,O,O,O,O,O,O,O,O,O,O,O,O,O,O,O,O,O,O,O,O,O,O,O,O,O,O,O,O,O,O,O,O,O,O,O,O,O,O,O,O,X,X,X,X,X,X,X,X,X,X] rfl rfl (zo HT_.out (by kernel_rfl)) (fun _ _ _ h => h) (Or.inl ⟨by rfl, ?_⟩) ?_ ?_
            rotate_left
            ·intro w'
             go_simp
             with_reducible rfl
            rotate_left
            ·simp only [Act.put, Ze, Zf, Zg, zl, zm]
             rfl
            refine zq (i := 54) (N := some 71) (v := ?_) (a' := ?_) #[O,O,O,O,O,O,O,O,O,O,O,O,O,O,O,O,O,O,O,O,O,O,O,O,O,O,O,O,O,O,O,O,O,O,O,O,O,O,O,O,O,O,O,O,O,O,O,O,O,O,O,O,O,O,O,X,X,X,X,X,X,X,X,X] rfl rfl (zo HT_.out (by kernel_rfl)) (fun _ _ _ h => h) (Or.inl ⟨by rfl, ?_⟩) ?_ ?_
            rotate_left
            ·intro w'
             go_simp
             with_reducible rfl
            rotate_left
            ·simp only [Act.put, Ze, Zf, Zg, zl, zm]
             rfl
            refine zq (i := 56) (N := some 73) (v := ?_) (a' := ?_) #[O,O,O,O,O,O,O,O,O,O,O,O,O,O,O,O,O,O,O,O,O,O,O,O,O,O,O,O,O,O,O,O,O,O,O,O,O,O,O,O,O,O,O,O,O,O,O,O,O,O,O,O,O,O,O,X,O,X,X,X,X,X,X,X] rfl rfl (zo HT_.out (by kernel_rfl)) (fun _ _ _ h => h) (Or.inl ⟨by rfl, ?_⟩) ?_ ?_
            rotate_left
            ·intro w'
             go_simp
             with_reducible rfl
            rotate_left
            ·simp only [Act.put, Ze, Zf, Zg, zl, zm]
             rfl
            refine zq (i := 57) (N := some 74) (v := ?_) (a' := ?_) #[O,O,O,O,O,O,O,O,O,O,O,O,O,O,O,O,O,O,O,O,O,O,O,O,O,O,O,O,O,O,O,O,O,O,O,O,O,O,O,O,O,O,O,O,O,O,O,O,O,O,O,O,O,O,O,X,O,O,X,X,X,X,X,X] rfl rfl (zo HT_.out (by kernel_rfl)) (fun _ _ _ h => h) (Or.inl ⟨by rfl, ?_⟩) ?_ ?_
            rotate_left
            ·intro w'
             go_simp
             with_reducible rfl
            rotate_left
            ·simp only [Act.put, Ze, Zf, Zg, zl, zm]
             rfl
            refine zq (i := 58) (N := some 75) (v := ?_) (a' := ?_) #[O,O,O,O,O,O,O,O,O,O,O,O,O,O,O,O,O,O,O,O,O,O,O,O,O,O,O,O,O,O,O,O,O,O,O,O,O,O,O,O,O,O,O,O,O,O,O,O,O,O,O,O,O,O,O,X,O,O,O,X,X,X,X,X] rfl rfl (zo HT_.out (by kernel_rfl)) (fun _ _ _ h => h) (Or.inl ⟨by rfl, ?_⟩) ?_ ?_
            rotate_left
            ·intro w'
             go_simp
             with_reducible rfl
            rotate_left
            ·simp only [Act.put, Ze, Zf, Zg, zl, zm]
             rfl
            refine zq (i := 59) (N := some 76) (v := ?_) (a' := ?_) #[O,O,O,O,O,O,O,O,O,O,O,O,O,O,O,O,O,O,O,O,O,O,O,O,O,O,O,O,O,O,O,O,O,O,O,O,O,O,O,O,O,O,O,O,O,O,O,O,O,O,O,O,O,O,O,X,O,O,O,O,X,X,X,X] rfl rfl (zo HT_.out (by kernel_rfl)) (fun _ _ _ h => h) (Or.inl ⟨by rfl, ?_⟩) ?_ ?_
            rotate_left
            ·intro w'
             go_simp
             with_reducible rfl
            rotate_left
            ·simp only [Act.put, Ze, Zf, Zg, zl, zm]
             rfl
            refine take_ (i := 55) (N := some 72) (v := ?_) (a' := ?_) #[O,O,O,O,O,O,O,O,O,O,O,O,O,O,O,O,O,O,O,O,O,O,O,O,O,O,O,O,O,O,O,O,O,O,O,O,O,O,O,O,O,O,O,O,O,O,O,O,O,O,O,O,O,O,O,O,O,O,O,O,X,X,X,X] rfl rfl (zQ HT_.out HW_.out (by kernel_rfl)) (fun _ _ _ h => h) (Or.inl ⟨by rfl, ?_⟩) hHeld ?_ ?_
            rotate_left
            ·rintro w' ⟨s0, s1, s2, s3, s4, s5, s6, s7, s8, s9, s10, s11, s12, s13, s14, s15, s16, s17, s18, s19, s20, s21, s22, s23, s24, s25, s26, s27, s28, s29, s30, s31, s32, s33, s34, s35, s36, s37, s38, s39, s40, s41, s42, s43, s44, s45, s46, s47, s48, s49⟩
             go_simp
             with_reducible rfl
            rotate_left
            ·simp only [Act.put, Ze, Zf, Zg, zl, zm]
             rfl
            refine take_ (i := 60) (N := some 77) (v := ?_) (a' := ?_) #[O,O,O,O,O,O,O,O,O,O,O,O,O,O,O,O,O,O,O,O,O,O,O,O,O,O,O,O,O,O,O,O,O,O,O,O,O,O,O,O,O,O,O,O,O,O,O,O,O,O,O,O,O,O,O,O,O,O,O,O,O,X,X,X] rfl rfl (zQ HT_.out HW_.out (by kernel_rfl)) (fun _ _ _ h => h) (Or.inl ⟨by rfl, ?_⟩) hHeld ?_ ?_
            rotate_left
            ·rintro w' ⟨s0, s1, s2, s3, s4, s5, s6, s7, s8, s9, s10, s11, s12, s13, s14, s15, s16, s17, s18, s19, s20, s21, s22, s23, s24, s25, s26, s27, s28, s29, s30, s31, s32, s33, s34, s35, s36, s37, s38, s39, s40, s41, s42, s43, s44, s45, s46, s47, s48, s49⟩
             go_simp
             with_reducible rfl
            rotate_left
            ·simp only [Act.put, Ze, Zf, Zg, zl, zm]
             rfl
            refine yO (i := 61) (N := some 78) #[O,O,O,O,O,O,O,O,O,O,O,O,O,O,O,O,O,O,O,O,O,O,O,O,O,O,O,O,O,O,O,O,O,O,O,O,O,O,O,O,O,O,O,O,O,O,O,O,O,O,O,O,O,O,O,O,O,O,O,O,O,O,X,X] rfl rfl (yo HT_.out (by kernel_rfl)) (by decide) (fun K hK => ?_)
            refine yq Tryz.func82 (by kernel_rfl) rfl #[.slice A721_2 ((zn l0 x5_1).f2).length c721_2, .slice A722_2 ((zn l1 x5_1).f2).length c722_2] (by rfl) rfl rfl (by (try simp only [Zh, List.map_cons, List.map_nil]); first | done | rfl | (simp only [List.length_drop, List.length_take]; rfl)) ?_
            with_reducible refine (z3.calls k1 _ _ ((zn l0 x5_1).f2) _ _ ((zn l1 x5_1).f2) false _ ?side1 ?side2 ?side3 ?side4 A11.out).mono ?_
            (case side1 => repeat (first | exact (Kd.C_below HR729_2.out HB.out) | (with_reducible refine Kd.C_alloc ?_ _) | (with_reducible refine Kd.C_drewN ?_ _) | (with_reducible refine Kd.C_drew ?_)))
            (case side2 => exact HC729_2.out)
            (case side3 => repeat (first | exact (Kd.C_below HR730_2.out HB.out) | (with_reducible refine Kd.C_alloc ?_ _) | (with_reducible refine Kd.C_drewN ?_ _) | (with_reducible refine Kd.C_drew ?_)))
            (case side4 => exact HC730_2.out)
            rintro e w' ⟨rfl, ⟨nd, rfl⟩⟩
            refine ⟨_, rfl, ?_⟩
            refine hK.out _ _ ⟨((HB.out.cell (Zj w _ hw721_0)).trans hw721_0), ((HB.out.cell (Zj w _ hw721_1)).trans hw721_1), ((HB.out.cell (Zj w _ hw721_2)).trans hw721_2), ((HB.out.cell (Zj w _ hw721_3)).trans hw721_3), ((HB.out.cell (Zj w _ hw721_4)).trans hw721_4), ((HB.out.cell (Zj w _ hw722_0)).trans hw722_0), ((HB.out.cell (Zj w _ hw722_1)).trans hw722_1), ((HB.out.cell (Zj w _ hw722_2)).trans hw722_2), ((HB.out.cell (Zj w _ hw722_3)).trans hw722_3), ((HB.out.cell (Zj w _ hw722_4)).trans hw722_4), ((HB.out.cell (Zj w _ hw723_0)).trans hw723_0), ((HB.out.cell (Zj w _ hw723_1)).trans hw723_1), ((HB.out.cell (Zj w _ hw723_2)).trans hw723_2), ((HB.out.cell (Zj w _ hw723_3)).trans hw723_3), ((HB.out.cell (Zj w _ hw723_4)).trans hw723_4), ((HB.out.cell (Zj w _ hw724_0)).trans hw724_0), ((HB.out.cell (Zj w _ hw724_1)).trans hw724_1), ((HB.out.cell (Zj w _ hw724_2)).trans hw724_2), ((HB.out.cell (Zj w _ hw724_3)).trans hw724_3), ((HB.out.cell (Zj w _ hw724_4)).trans hw724_4), ((HB.out.cell (Zj w _ hw725_0)).trans hw725_0), ((HB.out.cell (Zj w _ hw725_1)).trans hw725_1), ((HB.out.cell (Zj w _ hw725_2)).trans hw725_2), ((HB.out.cell (Zj w _ hw725_3)).trans hw725_3), ((HB.out.cell (Zj w _ hw725_4)).trans hw725_4), ((HB.out.cell (Zj w _ hw726_0)).trans hw726_0), ((HB.out.cell (Zj w _ hw726_1)).trans hw726_1), ((HB.out.cell (Zj w _ hw726_2)).trans hw726_2), ((HB.out.cell (Zj w _ hw726_3)).trans hw726_3), ((HB.out.cell (Zj w _ hw726_4)).trans hw726_4), ((HB.out.cell (Zj w _ hw727_0)).trans hw727_0), ((HB.out.cell (Zj w _ hw727_1)).trans hw727_1), ((HB.out.cell (Zj w _ hw727_2)).trans hw727_2), ((HB.out.cell (Zj w _ hw727_3)).trans hw727_3), ((HB.out.cell (Zj w _ hw727_4)).trans hw727_4), ((HB.out.cell (Zj w _ hw728_0)).trans hw728_0), ((HB.out.cell (Zj w _ hw728_1)).trans hw728_1), ((HB.out.cell (Zj w _ hw728_2)).trans hw728_2), ((HB.out.cell (Zj w _ hw728_3)).trans hw728_3), ((HB.out.cell (Zj w _ hw728_4)).trans hw728_4), ((HB.out.cell (Zj w _ hw729_0)).trans hw729_0), ((HB.out.cell (Zj w _ hw729_1)).trans hw729_1), ((HB.out.cell (Zj w _ hw729_2)).trans hw729_2), ((HB.out.cell (Zj w _ hw729_3)).trans hw729_3), ((HB.out.cell (Zj w _ hw729_4)).trans hw729_4), ((HB.out.cell (Zj w _ hw730_0)).trans hw730_0), ((HB.out.cell (Zj w _ hw730_1)).trans hw730_1), ((HB.out.cell (Zj w _ hw730_2)).trans hw730_2), ((HB.out.cell (Zj w _ hw730_3)).trans hw730_3), ((HB.out.cell (Zj w _ hw730_4)).trans hw730_4)⟩ (fun hHeld => ?_)
            clear hK K
            refine yF (a' := ?_) ?_ ?_
            rotate_left
            ·show Act.put _ (some 78) _ = _
             simp only [Act.put, Ze, Zf, Zg, zl, zm]
             rfl
            refine zq (i := 62) (N := some 79) (v := ?_) (a' := ?_) #[O,O,O,O,O,O,O,O,O,O,O,O,O,O,O,O,O,O,O,O,O,O,O,O,O,O,O,O,O,O,O,O,O,O,O,O,O,O,O,O,O,O,O,O,O,O,O,O,O,O,O,O,O,O,O,O,O,O,O,O,O,O,O,X] rfl rfl (zo HT_.out (by kernel_rfl)) (fun _ _ _ h => h) (Or.inl ⟨by rfl, ?_⟩) ?_ ?_
            rotate_left
            ·intro w'
             go_simp
             with_reducible rfl
            rotate_left
            ·simp only [Act.put, Ze, Zf, Zg, zl, zm]
             rfl
            refine zq (i := 63) (N := some 80) (v := ?_) (a' := ?_) #[O,O,O,O,O,O,O,O,O,O,O,O,O,O,O,O,O,O,O,O,O,O,O,O,O,O,O,O,O,O,O,O,O,O,O,O,O,O,O,O,O,O,O,O,O,O,O,O,O,O,O,O,O,O,O,O,O,O,O,O,O,O,O,O] rfl rfl (zo HT_.out (by kernel_rfl)) (fun _ _ _ h => h) (Or.inl ⟨by rfl, ?_⟩) ?_ ?_
            rotate_left
            ·intro w'
             go_simp
             with_reducible rfl
            rotate_left
            ·simp only [Act.put, Ze, Zf, Zg, zl, zm]
             rfl
            refine yZ (yE HT_.out (by kernel_rfl)) ?_
            try go_wp2
            go_ret
            exact ⟨by first | rfl | (simp [zu, zv] <;> rfl) | (simp [*, zu, zv] <;> rfl), by repeat (first | (with_reducible first | exact HB.out | apply zf | apply zd | apply ze) | exact HB.out)⟩
          ·rw [if_neg c10] at H
           have c10b0 : (((zn l0 x5_1).f4) == ((zn l1 x5_1).f4)) = false := beq_eq_false_iff_ne.mpr c10
           have c10b1 : (((zn l0 x5_1).f4) != ((zn l1 x5_1).f4)) = true := bne_iff_ne.mpr c10
           obtain rfl := Option.some.inj H
           try go_wp2
           have n0_ := zc.mk (ze HB.out)
           clear HB
           have HB := n0_
           clear n0_
           have p721 : 0 ≤ (x5_1 : Int) := of_decide_eq_true (by first | (with_reducible assumption) | assumption)
           have q721 : x5_1 < (l0.length : Int) := of_decide_eq_true (by first | (with_reducible assumption) | assumption)
           obtain ⟨ad721, A721_2, c721_2, e721, hx721_0, hx721_1, hx721_2, hx721_3, hx721_4, hl721_2, hi721_2⟩ := yc HR0.out x5_1 p721 q721
           have hw721_4 := hx721_4
           have hw721_3 := hx721_3
           have hw721_2 := hx721_2
           have hw721_1 := hx721_1
           have hw721_0 := hx721_0
           cases e721
           replace hx721_0 := (HB.out.cell (Zj w _ hx721_0)).trans hx721_0
           replace hx721_1 := (HB.out.cell (Zj w _ hx721_1)).trans hx721_1
           replace hx721_2 := (HB.out.cell (Zj w _ hx721_2)).trans hx721_2
           replace hx721_3 := (HB.out.cell (Zj w _ hx721_3)).trans hx721_3
           replace hx721_4 := (HB.out.cell (Zj w _ hx721_4)).trans hx721_4
           have HR721_2 := zc.mk hi721_2
           have HC721_2 := zc.mk hl721_2
           clear hi721_2 hl721_2
           replace p721 := eq_true p721
           replace q721 := eq_true q721
           have p722 : 0 ≤ (x5_1 : Int) := of_decide_eq_true (by first | (with_reducible assumption) | assumption)
           have q722 : x5_1 < (l1.length : Int) := of_decide_eq_true (by first | (with_reducible assumption) | assumption)
           obtain ⟨ad722, A722_2, c722_2, e722, hx722_0, hx722_1, hx722_2, hx722_3, hx722_4, hl722_2, hi722_2⟩ := yc HR1.out x5_1 p722 q722
           have hw722_4 := hx722_4
           have hw722_3 := hx722_3
           have hw722_2 := hx722_2
           have hw722_1 := hx722_1
           have hw722_0 := hx722_0
           cases e722
           replace hx722_0 := (HB.out.cell (Zj w _ hx722_0)).trans hx722_0
           replace hx722_1 := (HB.out.cell (Zj w _ hx722_1)).trans hx722_1
           replace hx722_2 := (HB.out.cell (Zj w _ hx722_2)).trans hx722_2
           replace hx722_3 := (HB.out.cell (Zj w _ hx722_3)).trans hx722_3
           replace hx722_4 := (HB.out.cell (Zj w _ hx722_4)).trans hx722_4
           have HR722_2 := zc.mk hi722_2
           have HC722_2 := zc.mk hl722_2
           clear hi722_2 hl722_2
           replace p722 := eq_true p722
           replace q722 := eq_true q722
           have p723 : 0 ≤ (x5_1 : Int) := of_decide_eq_true (by first | (with_reducible assumption) | assumption)
           have q723 : x5_1 < (l0.length : Int) := of_decide_eq_true (by first | (with_reducible assumption) | assumption)
           obtain ⟨ad723, A723_2, c723_2, e723, hx723_0, hx723_1, hx723_2, hx723_3, hx723_4, hl723_2, hi723_2⟩ := yc HR0.out x5_1 p723 q723
           have hw723_4 := hx723_4
           have hw723_3 := hx723_3
           have hw723_2 := hx723_2
           have hw723_1 := hx723_1
           have hw723_0 := hx723_0
           obtain rfl : ad721 = ad723 := (by injection e723)
           replace hx723_0 := (HB.out.cell (Zj w _ hx723_0)).trans hx723_0
           replace hx723_1 := (HB.out.cell (Zj w _ hx723_1)).trans hx723_1
           replace hx723_2 := (HB.out.cell (Zj w _ hx723_2)).trans hx723_2
           replace hx723_3 := (HB.out.cell (Zj w _ hx723_3)).trans hx723_3
           replace hx723_4 := (HB.out.cell (Zj w _ hx723_4)).trans hx723_4
           have HR723_2 := zc.mk hi723_2
           have HC723_2 := zc.mk hl723_2
           clear hi723_2 hl723_2
           replace p723 := eq_true p723
           replace q723 := eq_true q723
           have ea_ := Option.some.inj (hx721_2.symm.trans hx723_2)
           injection ea_ with ea_ en_ ec_
           subst ea_
           subst ec_
           clear en_
           have p724 : 0 ≤ (x5_1 : Int) := of_decide_eq_true (by first | (with_reducible assumption) | assumption)
           have q724 : x5_1 < (l1.length : Int) := of_decide_eq_true (by first | (with_reducible assumption) | assumption)
           obtain ⟨ad724, A724_2, c724_2, e724, hx724_0, hx724_1, hx724_2, hx724_3, hx724_4, hl724_2, hi724_2⟩ := yc HR1.out x5_1 p724 q724
           have hw724_4 := hx724_4
           have hw724_3 := hx724_3
           have hw724_2 := hx724_2
           have hw724_1 := hx724_1
           have hw724_0 := hx724_0
           obtain rfl : ad722 = ad724 := (by injection e724)
           replace hx724_0 := (HB.out.cell (Zj w _ hx724_0)).trans hx724_0
           replace hx724_1 := (HB.out.cell (Zj w _ hx724_1)).trans hx724_1
           replace hx724_2 := (HB.out.cell (Zj w _ hx724_2)).trans hx724_2
           replace hx724_3 := (HB.out.cell (Zj w _ hx724_3)).trans hx724_3
           replace hx724_4 := (HB.out.cell (Zj w _ hx724_4)).trans hx724_4
           have HR724_2 := zc.mk hi724_2
           have HC724_2 := zc.mk hl724_2
           clear hi724_2 hl724_2
           replace p724 := eq_true p724
           replace q724 := eq_true q724
           have ea_ := Option.some.inj (hx722_2.symm.trans hx724_2)
           injection ea_ with ea_ en_ ec_
           subst ea_
           subst ec_
           clear en_
           have p725 : 0 ≤ (x5_1 : Int) := of_decide_eq_true (by first | (with_reducible assumption) | assumption)
           have q725 : x5_1 < (l0.length : Int) := of_decide_eq_true (by first | (with_reducible assumption) | assumption)
           obtain ⟨ad725, A725_2, c725_2, e725, hx725_0, hx725_1, hx725_2, hx725_3, hx725_4, hl725_2, hi725_2⟩ := yc HR0.out x5_1 p725 q725
           have hw725_4 := hx725_4
           have hw725_3 := hx725_3
           have hw725_2 := hx725_2
           have hw725_1 := hx725_1
           have hw725_0 := hx725_0
           obtain rfl : ad721 = ad725 := (by injection e725)
           replace hx725_0 := (HB.out.cell (Zj w _ hx725_0)).trans hx725_0
           replace hx725_1 := (HB.out.cell (Zj w _ hx725_1)).trans hx725_1
           replace hx725_2 := (HB.out.cell (Zj w _ hx725_2)).trans hx725_2
           replace hx725_3 := (HB.out.cell (Zj w _ hx725_3)).trans hx725_3
           replace hx725_4 := (HB.out.cell (Zj w _ hx725_4)).trans hx725_4
           have HR725_2 := zc.mk hi725_2
           have HC725_2 := zc.mk hl725_2
           clear hi725_2 hl725_2
           replace p725 := eq_true p725
           replace q725 := eq_true q725
           have ea_ := Option.some.inj (hx721_2.symm.trans hx725_2)
           injection ea_ with ea_ en_ ec_
           subst ea_
           subst ec_
           clear en_
           have p726 : 0 ≤ (x5_1 : Int) := of_decide_eq_true (by first | (with_reducible assumption) | assumption)
           have q726 : x5_1 < (l1.length : Int) := of_decide_eq_true (by first | (with_reducible assumption) | assumption)
           obtain ⟨ad726, A726_2, c726_2, e726, hx726_0, hx726_1, hx726_2, hx726_3, hx726_4, hl726_2, hi726_2⟩ := yc HR1.out x5_1 p726 q726
           have hw726_4 := hx726_4
           have hw726_3 := hx726_3
           have hw726_2 := hx726_2
           have hw726_1 := hx726_1
           have hw726_0 := hx726_0
           obtain rfl : ad722 = ad726 := (by injection e726)
           replace hx726_0 := (HB.out.cell (Zj w _ hx726_0)).trans hx726_0
           replace hx726_1 := (HB.out.cell (Zj w _ hx726_1)).trans hx726_1
           replace hx726_2 := (HB.out.cell (Zj w _ hx726_2)).trans hx726_2
           replace hx726_3 := (HB.out.cell (Zj w _ hx726_3)).trans hx726_3
           replace hx726_4 := (HB.out.cell (Zj w _ hx726_4)).trans hx726_4
           have HR726_2 := zc.mk hi726_2
           have HC726_2 := zc.mk hl726_2
           clear hi726_2 hl726_2
           replace p726 := eq_true p726
           replace q726 := eq_true q726
           have ea_ := Option.some.inj (hx722_2.symm.trans hx726_2)
           injection ea_ with ea_ en_ ec_
           subst ea_
           subst ec_
           clear en_
           have p727 : 0 ≤ (x5_1 : Int) := of_decide_eq_true (by first | (with_reducible assumption) | assumption)
           have q727 : x5_1 < (l0.length : Int) := of_decide_eq_true (by first | (with_reducible assumption) | assumption)
           obtain ⟨ad727, A727_2, c727_2, e727, hx727_0, hx727_1, hx727_2, hx727_3, hx727_4, hl727_2, hi727_2⟩ := yc HR0.out x5_1 p727 q727
           have hw727_4 := hx727_4
           have hw727_3 := hx727_3
           have hw727_2 := hx727_2
           have hw727_1 := hx727_1
           have hw727_0 := hx727_0
           obtain rfl : ad721 = ad727 := (by injection e727)
           replace hx727_0 := (HB.out.cell (Zj w _ hx727_0)).trans hx727_0
           replace hx727_1 := (HB.out.cell (Zj w _ hx727_1)).trans hx727_1
           replace hx727_2 := (HB.out.cell (Zj w _ hx727_2)).trans hx727_2
           replace hx727_3 := (HB.out.cell (Zj w _ hx727_3)).trans hx727_3
           replace hx727_4 := (HB.out.cell (Zj w _ hx727_4)).trans hx727_4
           have HR727_2 := zc.mk hi727_2
           have HC727_2 := zc.mk hl727_2
           clear hi727_2 hl727_2
           replace p727 := eq_true p727
           replace q727 := eq_true q727
           have ea_ := Option.some.inj (hx721_2.symm.trans hx727_2)
           injection ea_ with ea_ en_ ec_
           subst ea_
           subst ec_
           clear en_
           have p728 : 0 ≤ (x5_1 : Int) := of_decide_eq_true (by first | (with_reducible assumption) | assumption)
           have q728 : x5_1 < (l1.length : Int) := of_decide_eq_true (by first | (with_reducible assumption) | assumption)
           obtain ⟨ad728, A728_2, c728_2, e728, hx728_0, hx728_1, hx728_2, hx728_3, hx728_4, hl728_2, hi728_2⟩ := yc HR1.out x5_1 p728 q728
           have hw728_4 := hx728_4
           have hw728_3 := hx728_3
           have hw728_2 := hx728_2
           have hw728_1 := hx728_1
           have hw728_0 := hx728_0
           obtain rfl : ad722 = ad728 := (by injection e728)
           replace hx728_0 := (HB.out.cell (Zj w _ hx728_0)).trans hx728_0
           replace hx728_1 := (HB.out.cell (Zj w _ hx728_1)).trans hx728_1
           replace hx728_2 := (HB.out.cell (Zj w _ hx728_2)).trans hx728_2
           replace hx728_3 := (HB.out.cell (Zj w _ hx728_3)).trans hx728_3
           replace hx728_4 := (HB.out.cell (Zj w _ hx728_4)).trans hx728_4
           have HR728_2 := zc.mk hi728_2
           have HC728_2 := zc.mk hl728_2
           clear hi728_2 hl728_2
           replace p728 := eq_true p728
           replace q728 := eq_true q728
           have ea_ := Option.some.inj (hx722_2.symm.trans hx728_2)
           injection ea_ with ea_ en_ ec_
           subst ea_
           subst ec_
           clear en_
           refine yK (n := 64) (S := fun w' => w'.cell? (ad721.add ((x5_1).toNat * 5)) = some (.int .i64 ((zn l0 x5_1).f0)) ∧ w'.cell? ⟨(ad721.add ((x5_1).toNat * 5)).block, (ad721.add ((x5_1).toNat * 5)).off + 1, none⟩ = some (.string ((zn l0 x5_1).f1)) ∧ w'.cell? ⟨(ad721.add ((x5_1).toNat * 5)).block, (ad721.add ((x5_1).toNat * 5)).off + 2, none⟩ = some (.slice A721_2 ((zn l0 x5_1).f2).length c721_2) ∧ w'.cell? ⟨(ad721.add ((x5_1).toNat * 5)).block, (ad721.add ((x5_1).toNat * 5)).off + 3, none⟩ = some (.int .i64 ((zn l0 x5_1).f3)) ∧ w'.cell? ⟨(ad721.add ((x5_1).toNat * 5)).block, (ad721.add ((x5_1).toNat * 5)).off + 4, none⟩ = some (.int .i64 ((zn l0 x5_1).f4)) ∧ w'.cell? (ad722.add ((x5_1).toNat * 5)) = some (.int .i64 ((zn l1 x5_1).f0)) ∧ w'.cell? ⟨(ad722.add ((x5_1).toNat * 5)).block, (ad722.add ((x5_1).toNat * 5)).off + 1, none⟩ = some (.string ((zn l1 x5_1).f1)) ∧ w'.cell? ⟨(ad722.add ((x5_1).toNat * 5)).block, (ad722.add ((x5_1).toNat * 5)).off + 2, none⟩ = some (.slice A722_2 ((zn l1 x5_1).f2).length c722_2) ∧ w'.cell? ⟨(ad722.add ((x5_1).toNat * 5)).block, (ad722.add ((x5_1).toNat * 5)).off + 3, none⟩ = some (.int .i64 ((zn l1 x5_1).f3)) ∧ w'.cell? ⟨(ad722.add ((x5_1).toNat * 5)).block, (ad722.add ((x5_1).toNat * 5)).off + 4, none⟩ = some (.int .i64 ((zn l1 x5_1).f4)) ∧ w'.cell? (ad721.add ((x5_1).toNat * 5)) = some (.int .i64 ((zn l0 x5_1).f0)) ∧ w'.cell? ⟨(ad721.add ((x5_1).toNat * 5)).block, (ad721.add ((x5_1).toNat * 5)).off + 1, none⟩ = some (.string ((zn l0 x5_1).f1)) ∧ w'.cell? ⟨(ad721.add ((x5_1).toNat * 5)).block, (ad721.add ((x5_1).toNat * 5)).off + 2, none⟩ = some (.slice A721_2 ((zn l0 x5_1).f2).length c721_2) ∧ w'.cell? ⟨(ad721.add ((x5_1).toNat * 5)).block, (ad721.add ((x5_1).toNat * 5)).off + 3, none⟩ = some (.int .i64 ((zn l0 x5_1).f3)) ∧ w'.cell? ⟨(ad721.add ((x5_1).toNat * 5)).block, (ad721.add ((x5_1).toNat * 5)).off + 4, none⟩ = some (.int .i64 ((zn l0 x5_1).f4)) ∧ w'.cell? (ad722.add ((x5_1).toNat * 5)) = some (.int .i64 ((zn l1 x5_1).f0)) ∧ w'.cell? ⟨(ad722.add ((x5_1).toNat * 5)).block, (ad722.add ((x5_1).toNat * 5)).off + 1, none⟩ = some (.string ((zn l1 x5_1).f1)) ∧ w'.cell? ⟨(ad722.add ((x5_1).toNat * 5)).block, (ad722.add ((x5_1).toNat * 5)).off + 2, none⟩ = some (.slice A722_2 ((zn l1 x5_1).f2).length c722_2) ∧ w'.cell? ⟨(ad722.add ((x5_1).toNat * 5)).block, (ad722.add ((x5_1).toNat * 5)).off + 3, none⟩ = some (.int .i64 ((zn l1 x5_1).f3)) ∧ w'.cell? ⟨(ad722.add ((x5_1).toNat * 5)).block, (ad722.add ((x5_1).toNat * 5)).off + 4, none⟩ = some (.int .i64 ((zn l1 x5_1).f4)) ∧ w'.cell? (ad721.add ((x5_1).toNat * 5)) = some (.int .i64 ((zn l0 x5_1).f0)) ∧ w'.cell? ⟨(ad721.add ((x5_1).toNat * 5)).block, (ad721.add ((x5_1).toNat * 5)).off + 1, none⟩ = some (.string ((zn l0 x5_1).f1)) ∧ w'.cell? ⟨(ad721.add ((x5_1).toNat * 5)).block, (ad721.add ((x5_1).toNat * 5)).off + 2, none⟩ = some (.slice A721_2 ((zn l0 x5_1).f2).length c721_2) ∧ w'.cell? ⟨(ad721.add ((x5_1).toNat * 5)).block, (ad721.add ((x5_1).toNat * 5)).off + 3, none⟩ = some (.int .i64 ((zn l0 x5_1).f3)) ∧ w'.cell? ⟨(ad721.add ((x5_1).toNat * 5)).block, (ad721.add ((x5_1).toNat * 5)).off + 4, none⟩ = some (.int .i64 ((zn l0 x5_1).f4)) ∧ w'.cell? (ad722.add ((x5_1).toNat * 5)) = some (.int .i64 ((zn l1 x5_1).f0)) ∧ w'.cell? ⟨(ad722.add ((x5_1).toNat * 5)).block, (ad722.add ((x5_1).toNat * 5)).off + 1, none⟩ = some (.string ((zn l1 x5_1).f1)) ∧ w'.cell? ⟨(ad722.add ((x5_1).toNat * 5)).block, (ad722.add ((x5_1).toNat * 5)).off + 2, none⟩ = some (.slice A722_2 ((zn l1 x5_1).f2).length c722_2) ∧ w'.cell? ⟨(ad722.add ((x5_1).toNat * 5)).block, (ad722.add ((x5_1).toNat * 5)).off + 3, none⟩ = some (.int .i64 ((zn l1 x5_1).f3)) ∧ w'.cell? ⟨(ad722.add ((x5_1).toNat * 5)).block, (ad722.add ((x5_1).toNat * 5)).off + 4, none⟩ = some (.int .i64 ((zn l1 x5_1).f4)) ∧ w'.cell? (ad721.add ((x5_1).toNat * 5)) = some (.int .i64 ((zn l0 x5_1).f0)) ∧ w'.cell? ⟨(ad721.add ((x5_1).toNat * 5)).block, (ad721.add ((x5_1).toNat * 5)).off + 1, none⟩ = some (.string ((zn l0 x5_1).f1)) ∧ w'.cell? ⟨(ad721.add ((x5_1).toNat * 5)).block, (ad721.add ((x5_1).toNat * 5)).off + 2, none⟩ = some (.slice A721_2 ((zn l0 x5_1).f2).length c721_2) ∧ w'.cell? ⟨(ad721.add ((x5_1).toNat * 5)).block, (ad721.add ((x5_1).toNat * 5)).off + 3, none⟩ = some (.int .i64 ((zn l0 x5_1).f3)) ∧ w'.cell? ⟨(ad721.add ((x5_1).toNat * 5)).block, (ad721.add ((x5_1).toNat * 5)).off + 4, none⟩ = some (.int .i64 ((zn l0 x5_1).f4)) ∧ w'.cell? (ad722.add ((x5_1).toNat * 5)) = some (.int .i64 ((zn l1 x5_1).f0)) ∧ w'.cell? ⟨(ad722.add ((x5_1).toNat * 5)).block, (ad722.add ((x5_1).toNat * 5)).off + 1, none⟩ = some (.string ((zn l1 x5_1).f1)) ∧ w'.cell? ⟨(ad722.add ((x5_1).toNat * 5)).block, (ad722.add ((x5_1).toNat * 5)).off + 2, none⟩ = some (.slice A722_2 ((zn l1 x5_1).f2).length c722_2) ∧ w'.cell? ⟨(ad722.add ((x5_1).toNat * 5)).block, (ad722.add ((x5_1).toNat * 5)).off + 3, none⟩ = some (.int .i64 ((zn l1 x5_1).f3)) ∧ w'.cell? ⟨(ad722.add ((x5_1).toNat * 5)).block, (ad722.add ((x5_1).toNat * 5)).off + 4, none⟩ = some (.int .i64 ((zn l1 x5_1).f4))) (ds := []) #[X,X,X,X,X,X,X,X,X,X,X,X,X,X,X,X,X,X,X,X,X,X,X,X,X,X,X,X,X,X,X,X,X,X,X,X,X,X,X,X,X,X,X,X,X,X,X,X,X,X,X,X,X,X,X,X,X,X,X,X,X,X,X,X] (by kernel_rfl) rfl rfl ⟨((HB.out.cell (Zj w _ hw721_0)).trans hw721_0), ((HB.out.cell (Zj w _ hw721_1)).trans hw721_1), ((HB.out.cell (Zj w _ hw721_2)).trans hw721_2), ((HB.out.cell (Zj w _ hw721_3)).trans hw721_3), ((HB.out.cell (Zj w _ hw721_4)).trans hw721_4), ((HB.out.cell (Zj w _ hw722_0)).trans hw722_0), ((HB.out.cell (Zj w _ hw722_1)).trans hw722_1), ((HB.out.cell (Zj w _ hw722_2)).trans hw722_2), ((HB.out.cell (Zj w _ hw722_3)).trans hw722_3), ((HB.out.cell (Zj w _ hw722_4)).trans hw722_4), ((HB.out.cell (Zj w _ hw723_0)).trans hw723_0), ((HB.out.cell (Zj w _ hw723_1)).trans hw723_1), ((HB.out.cell (Zj w _ hw723_2)).trans hw723_2), ((HB.out.cell (Zj w _ hw723_3)).trans hw723_3), ((HB.out.cell (Zj w _ hw723_4)).trans hw723_4), ((HB.out.cell (Zj w _ hw724_0)).trans hw724_0), ((HB.out.cell (Zj w _ hw724_1)).trans hw724_1), ((HB.out.cell (Zj w _ hw724_2)).trans hw724_2), ((HB.out.cell (Zj w _ hw724_3)).trans hw724_3), ((HB.out.cell (Zj w _ hw724_4)).trans hw724_4), ((HB.out.cell (Zj w _ hw725_0)).trans hw725_0), ((HB.out.cell (Zj w _ hw725_1)).trans hw725_1), ((HB.out.cell (Zj w _ hw725_2)).trans hw725_2), ((HB.out.cell (Zj w _ hw725_3)).trans hw725_3), ((HB.out.cell (Zj w _ hw725_4)).trans hw725_4), ((HB.out.cell (Zj w _ hw726_0)).trans hw726_0), ((HB.out.cell (Zj w _ hw726_1)).trans hw726_1), ((HB.out.cell (Zj w _ hw726_2)).trans hw726_2), ((HB.out.cell (Zj w _ hw726_3)).trans hw726_3), ((HB.out.cell (Zj w _ hw726_4)).trans hw726_4), ((HB.out.cell (Zj w _ hw727_0)).trans hw727_0), ((HB.out.cell (Zj w _ hw727_1)).trans hw727_1), ((HB.out.cell (Zj w _ hw727_2)).trans hw727_2), ((HB.out.cell (Zj w _ hw727_3)).trans hw727_3), ((HB.out.cell (Zj w _ hw727_4)).trans hw727_4), ((HB.out.cell (Zj w _ hw728_0)).trans hw728_0), ((HB.out.cell (Zj w _ hw728_1)).trans hw728_1), ((HB.out.cell (Zj w _ hw728_2)).trans hw728_2), ((HB.out.cell (Zj w _ hw728_3)).trans hw728_3), ((HB.out.cell (Zj w _ hw728_4)).trans hw728_4)⟩ (fun hHeld => ?_); refine ym zz.tab6 zz.bits6 (fun HT_ HW_ => ?_)
           generalize wr.drew = w15 at HB HR721_2 HR722_2 HR723_2 HR724_2 HR725_2 HR726_2 HR727_2 HR728_2 hx721_0 hx721_1 hx721_2 hx721_3 hx721_4 hx722_0 hx722_1 hx722_2 hx722_3 hx722_4 hx723_0 hx723_1 hx723_2 hx723_3 hx723_4 hx724_0 hx724_1 hx724_2 hx724_3 hx724_4 hx725_0 hx725_1 hx725_2 hx725_3 hx725_4 hx726_0 hx726_1 hx726_2 hx726_3 hx726_4 hx727_0 hx727_1 hx727_2 hx727_3 hx727_4 hx728_0 hx728_1 hx728_2 hx728_3 hx728_4 hHeld ⊢
           refine zq (i := 0) (N := some 17) (v := ?_) (a' := ?_) #[O,X,X,X,X,X,X,X,X,X,X,X,X,X,X,X,X,X,X,X,X,X,X,X,X,X,X,X,X,X,X,X,X,X,X,X,X,X,X,X,X,X,X,X,X,X,X,X,X,X,X,X,X,X,X,X,X,X,X,X,X,X,X,X] rfl rfl (zo HT_.out (by kernel_rfl)) (fun _ _ _ h => h) (Or.inl ⟨by rfl, ?_⟩) ?_ ?_
           rotate_left
           ·intro w'
            go_simp
            with_reducible rfl
           rotate_left
           ·simp only [Act.put, Ze, Zf, Zg, zl, zm]
            rfl
           refine zq (i := 1) (N := some 18) (v := ?_) (a' := ?_) #[O,O,X,X,X,X,X,X,X,X,X,X,X,X,X,X,X,X,X,X,X,X,X,X,X,X,X,X,X,X,X,X,X,X,X,X,X,X,X,X,X,X,X,X,X,X,X,X,X,X,X,X,X,X,X,X,X,X,X,X,X,X,X,X] rfl rfl (zo HT_.out (by kernel_rfl)) (fun _ _ _ h => h) (Or.inl ⟨by rfl, ?_⟩) ?_ ?_
           rotate_left
           ·intro w'
            go_simp
            with_reducible rfl
           rotate_left
           ·simp only [Act.put, Ze, Zf, Zg, zl, zm]
            rfl
           refine zq (i := 2) (N := some 19) (v := ?_) (a' := ?_) #[O,O,O,X,X,X,X,X,X,X,X,X,X,X,X,X,X,X,X,X,X,X,X,X,X,X,X,X,X,X,X,X,X,X,X,X,X,X,X,X,X,X,X,X,X,X,X,X,X,X,X,X,X,X,X,X,X,X,X,X,X,X,X,X] rfl rfl (zo HT_.out (by kernel_rfl)) (fun _ _ _ h => h) (Or.inl ⟨by rfl, ?_⟩) ?_ ?_
           rotate_left
           ·intro w'
            go_simp
            with_reducible rfl
           rotate_left
           ·simp only [Act.put, Ze, Zf, Zg, zl, zm]
            rfl
           refine zq (i := 3) (N := some 20) (v := ?_) (a' := ?_) #[O,O,O,O,X,X,X,X,X,X,X,X,X,X,X,X,X,X,X,X,X,X,X,X,X,X,X,X,X,X,X,X,X,X,X,X,X,X,X,X,X,X,X,X,X,X,X,X,X,X,X,X,X,X,X,X,X,X,X,X,X,X,X,X] rfl rfl (zo HT_.out (by kernel_rfl)) (fun _ _ _ h => h) (Or.inl ⟨by rfl, ?_⟩) ?_ ?_
           rotate_left
           ·intro w'
            go_simp
            with_reducible rfl
           rotate_left
           ·simp only [Act.put, Ze, Zf, Zg, zl, zm]
            rfl
           refine zq (i := 5) (N := some 22) (v := ?_) (a' := ?_) #[O,O,O,O,X,O,X,X,X,X,X,X,X,X,X,X,X,X,X,X,X,X,X,X,X,X,X,X,X,X,X,X,X,X,X,X,X,X,X,X,X,X,X,X,X,X,X,X,X,X,X,X,X,X,X,X,X,X,X,X,X,X,X,X] rfl rfl (zo HT_.out (by kernel_rfl)) (fun _ _ _ h => h) (Or.inl ⟨by rfl, ?_⟩) ?_ ?_
           rotate_left
           ·intro w'
            go_simp
            with_reducible rfl
           rotate_left
           ·simp only [Act.put, Ze, Zf, Zg, zl, zm]
            rfl
           refine zq (i := 6) (N := some 23) (v := ?_) (a' := ?_) #[O,O,O,O,X,O,O,X,X,X,X,X,X,X,X,X,X,X,X,X,X,X,X,X,X,X,X,X,X,X,X,X,X,X,X,X,X,X,X,X,X,X,X,X,X,X,X,X,X,X,X,X,X,X,X,X,X,X,X,X,X,X,X,X] rfl rfl (zo HT_.out (by kernel_rfl)) (fun _ _ _ h => h) (Or.inl ⟨by rfl, ?_⟩) ?_ ?_
           rotate_left
           ·intro w'
            go_simp
            with_reducible rfl
           rotate_left
           ·simp only [Act.put, Ze, Zf, Zg, zl, zm]
            rfl
           refine zq (i := 7) (N := some 24) (v := ?_) (a' := ?_) #[O,O,O,O,X,O,O,O,X,X,X,X,X,X,X,X,X,X,X,X,X,X,X,X,X,X,X,X,X,X,X,X,X,X,X,X,X,X,X,X,X,X,X,X,X,X,X,X,X,X,X,X,X,X,X,X,X,X,X,X,X,X,X,X] rfl rfl (zo HT_.out (by kernel_rfl)) (fun _ _ _ h => h) (Or.inl ⟨by rfl, ?_⟩) ?_ ?_
           rotate_left
           ·intro w'
            go_simp
            with_reducible rfl
           rotate_left
           ·simp only [Act.put, Ze, Zf, Zg, zl, zm]
            rfl
           refine zq (i := 8) (N := some 25) (v := ?_) (a' := ?_) #[O,O,O,O,X,O,O,O,O,X,X,X,X,X,X,X,X,X,X,X,X,X,X,X,X,X,X,X,X,X,X,X,X,X,X,X,X,X,X,X,X,X,X,X,X,X,X,X,X,X,X,X,X,X,X,X,X,X,X,X,X,X,X,X] rfl rfl (zo HT_.out (by kernel_rfl)) (fun _ _ _ h => h) (Or.inl ⟨by rfl, ?_⟩) ?_ ?_
           rotate_left
           ·intro w'
            go_simp
            with_reducible rfl
           rotate_left
           ·simp only [Act.put, Ze, Zf, Zg, zl, zm]
            rfl
           refine take_ (i := 4) (N := some 21) (v := ?_) (a' := ?_) #[O,O,O,O,O,O,O,O,O,X,X,X,X,X,X,X,X,X,X,X,X,X,X,X,X,X,X,X,X,X,X,X,X,X,X,X,X,X,X,X,X,X,X,X,X,X,X,X,X,X,X,X,X,X,X,X,X,X,X,X,X,X,X,X] rfl rfl (zQ HT_.out HW_.out (by kernel_rfl)) (fun _ _ _ h => h) (Or.inl ⟨by rfl, ?_⟩) hHeld ?_ ?_
           rotate_left
           ·rintro w' ⟨s0, s1, s2, s3, s4, s5, s6, s7, s8, s9, s10, s11, s12, s13, s14, s15, s16, s17, s18, s19, s20, s21, s22, s23, s24, s25, s26, s27, s28, s29, s30, s31, s32, s33, s34, s35, s36, s37, s38, s39⟩
            go_simp
            with_reducible rfl
           rotate_left
           ·simp only [Act.put, Ze, Zf, Zg, zl, zm]
            rfl
           refine take_ (i := 9) (N := some 26) (v := ?_) (a' := ?_) #[O,O,O,O,O,O,O,O,O,O,X,X,X,X,X,X,X,X,X,X,X,X,X,X,X,X,X,X,X,X,X,X,X,X,X,X,X,X,X,X,X,X,X,X,X,X,X,X,X,X,X,X,X,X,X,X,X,X,X,X,X,X,X,X] rfl rfl (zQ HT_.out HW_.out (by kernel_rfl)) (fun _ _ _ h => h) (Or.inl ⟨by rfl, ?_⟩) hHeld ?_ ?_
           rotate_left
           ·rintro w' ⟨s0, s1, s2, s3, s4, s5, s6, s7, s8, s9, s10, s11, s12, s13, s14, s15, s16, s17, s18, s19, s20, s21, s22, s23, s24, s25, s26, s27, s28, s29, s30, s31, s32, s33, s34, s35, s36, s37, s38, s39⟩
            go_simp
            with_reducible rfl
           rotate_left
           ·simp only [Act.put, Ze, Zf, Zg, zl, zm]
            rfl
           refine zq (i := 10) (N := some 27) (v := ?_) (a' := ?_) #[O,O,O,O,O,O,O,O,O,O,O,X,X,X,X,X,X,X,X,X,X,X,X,X,X,X,X,X,X,X,X,X,X,X,X,X,X,X,X,X,X,X,X,X,X,X,X,X,X,X,X,X,X,X,X,X,X,X,X,X,X,X,X,X] rfl rfl (zo HT_.out (by kernel_rfl)) (fun _ _ _ h => h) (Or.inl ⟨by rfl, ?_⟩) ?_ ?_
           rotate_left
           ·intro w'
            go_simp
            with_reducible rfl
           rotate_left
           ·simp only [Act.put, Ze, Zf, Zg, zl, zm]
            rfl
           refine zq (i := 11) (N := some 28) (v := ?_) (a' := ?_) #[O,O,O,O,O,O,O,O,O,O,O,O,X,X,X,X,X,X,X,X,X,X,X,X,X,X,X,X,X,X,X,X,X,X,X,X,X,X,X,X,X,X,X,X,X,X,X,X,X,X,X,X,X,X,X,X,X,X,X,X,X,X,X,X] rfl rfl (zo HT_.out (by kernel_rfl)) (fun _ _ _ h => h) (Or.inl ⟨by rfl, ?_⟩) ?_ ?_
           rotate_left
           ·intro w'
            go_simp
            with_reducible rfl
           rotate_left
           ·simp only [Act.put, Ze, Zf, Zg, zl, zm]
            rfl
           refine zq (i := 12) (N := some 29) (v := ?_) (a' := ?_) #[O,O,O,O,O,O,O,O,O,O,O,O,O,X,X,X,X,X,X,X,X,X,X,X,X,X,X,X,X,X,X,X,X,X,X,X,X,X,X,X,X,X,X,X,X,X,X,X,X,X,X,X,X,X,X,X,X,X,X,X,X,X,X,X] rfl rfl (zo HT_.out (by kernel_rfl)) (fun _ _ _ h => h) (Or.inl ⟨by rfl, ?_⟩) ?_ ?_
           rotate_left
           ·intro w'
            go_simp
            with_reducible rfl
           rotate_left
           ·simp only [Act.put, Ze, Zf, Zg, zl, zm]
            rfl
           refine zq (i := 13) (N := some 30) (v := ?_) (a' := ?_) #[O,O,O,O,O,O,O,O,O,O,O,O,O,O,X,X,X,X,X,X,X,X,X,X,X,X,X,X,X,X,X,X,X,X,X,X,X,X,X,X,X,X,X,X,X,X,X,X,X,X,X,X,X,X,X,X,X,X,X,X,X,X,X,X] rfl rfl (zo HT_.out (by kernel_rfl)) (fun _ _ _ h => h) (Or.inl ⟨by rfl, ?_⟩) ?_ ?_
           rotate_left
           ·intro w'
            go_simp
            with_reducible rfl
           rotate_left
           ·simp only [Act.put, Ze, Zf, Zg, zl, zm]
            rfl
           refine zq (i := 14) (N := some 31) (v := ?_) (a' := ?_) #[O,O,O,O,O,O,O,O,O,O,O,O,O,O,O,X,X,X,X,X,X,X,X,X,X,X,X,X,X,X,X,X,X,X,X,X,X,X,X,X,X,X,X,X,X,X,X,X,X,X,X,X,X,X,X,X,X,X,X,X,X,X,X,X] rfl rfl (zo HT_.out (by kernel_rfl)) (fun _ _ _ h => h) (Or.inl ⟨by rfl, ?_⟩) ?_ ?_
           rotate_left
           ·intro w'
            go_simp
            with_reducible rfl
           rotate_left
           ·simp only [Act.put, Ze, Zf, Zg, zl, zm]
            rfl
           refine zq (i := 15) (N := some 32) (v := ?_) (a' := ?_) #[O,O,O,O,O,O,O,O,O,O,O,O,O,O,O,O,X,X,X,X,X,X,X,X,X,X,X,X,X,X,X,X,X,X,X,X,X,X,X,X,X,X,X,X,X,X,X,X,X,X,X,X,X,X,X,X,X,X,X,X,X,X,X,X] rfl rfl (zo HT_.out (by kernel_rfl)) (fun _ _ _ h => h) (Or.inl ⟨by rfl, ?_⟩) ?_ ?_
           rotate_left
           ·intro w'
            go_simp
            with_reducible rfl
           rotate_left
           ·simp only [Act.put, Ze, Zf, Zg, zl, zm]
            rfl
           refine zq (i := 17) (N := some 34) (v := ?_) (a' := ?_) #[O,O,O,O,O,O,O,O,O,O,O,O,O,O,O,O,X,O,X,X,X,X,X,X,X,X,X,X,X,X,X,X,X,X,X,X,X,X,X,X,X,X,X,X,X,X,X,X,X,X,X,X,X,X,X,X,X,X,X,X,X,X,X,X] rfl rfl (zo HT_.out (by kernel_rfl)) (fun _ _ _ h => h) (Or.inl ⟨by rfl, ?_⟩) ?_ ?_
           rotate_left
           ·intro w'
            go_simp
            with_reducible rfl
           rotate_left
           ·simp only [Act.put, Ze, Zf, Zg, zl, zm]
            rfl
           refine zq (i := 18) (N := some 35) (v := ?_) (a' := ?_) #[O,O,O,O,O,O,O,O,O,O,O,O,O,O,O,O,X,O,O,X,X,X,X,X,X,X,X,X,X,X,X,X,X,X,X,X,X,X,X,X,X,X,X,X,X,X,X,X,X,X,X,X,X,X,X,X,X,X,X,X,X,X,X,X] rfl rfl (zo HT_.out (by kernel_rfl)) (fun _ _ _ h => h) (Or.inl ⟨by rfl, ?_⟩) ?_ ?_
           rotate_left
           ·intro w'
            go_simp
            with_reducible rfl
           rotate_left
           ·simp only [Act.put, Ze, Zf, Zg, zl, zm]
            rfl
           refine zq (i := 19) (N := some 36) (v := ?_) (a' := ?_) #[O,O,O,O,O,O,O,O,O,O,O,O,O,O,O,O,X,O,O,O,X,X,X,X,X,X,X,X,X,X,X,X,X,X,X,X,X,X,X,X,X,X,X,X,X,X,X,X,X,X,X,X,X,X,X,X,X,X,X,X,X,X,X,X] rfl rfl (zo HT_.out (by kernel_rfl)) (fun _ _ _ h => h) (Or.inl ⟨by rfl, ?_⟩) ?_ ?_
           rotate_left
           ·intro w'
            go_simp
            with_reducible rfl
           rotate_left
           ·simp only [Act.put, Ze, Zf, Zg, zl, zm]
            rfl
           refine zq (i := 20) (N := some 37) (v := ?_) (a' := ?_) #[O,O,O,O,O,O,O,O,O,O,O,O,O,O,O,O,X,O,O,O,O,X,X,X,X,X,X,X,X,X,X,X,X,X,X,X,X,X,X,X,X,X,X,X,X,X,X,X,X,X,X,X,X,X,X,X,X,X,X,X,X,X,X,X] rfl rfl (zo HT_.out (by kernel_rfl)) (fun _ _ _ h => h) (Or.inl ⟨by rfl, ?_⟩) ?_ ?_
           rotate_left
           ·intro w'
            go_simp
            with_reducible rfl
           rotate_left
           ·simp only [Act.put, Ze, Zf, Zg, zl, zm]
            rfl
           refine take_ (i := 16) (N := some 33) (v := ?_) (a' := ?_) #[O,O,O,O,O,O,O,O,O,O,O,O,O,O,O,O,O,O,O,O,O,X,X,X,X,X,X,X,X,X,X,X,X,X,X,X,X,X,X,X,X,X,X,X,X,X,X,X,X,X,X,X,X,X,X,X,X,X,X,X,X,X,X,X] rfl rfl (zQ HT_.out HW_.out (by kernel_rfl)) (fun _ _ _ h => h) (Or.inl ⟨by rfl, ?_⟩) hHeld ?_ ?_
           rotate_left
           ·rintro w' ⟨s0, s1, s2, s3, s4, s5, s6, s7, s8, s9, s10, s11, s12, s13, s14, s15, s16, s17, s18, s19, s20, s21, s22, s23, s24, s25, s26, s27, s28, s29, s30, s31, s32, s33, s34, s35, s36, s37, s38, s39⟩
            go_simp
            with_reducible rfl
           rotate_left
           ·simp only [Act.put, Ze, Zf, Zg, zl, zm]
            rfl
           refine take_ (i := 21) (N := some 38) (v := ?_) (a' := ?_) #[O,O,O,O,O,O,O,O,O,O,O,O,O,O,O,O,O,O,O,O,O,O,X,X,X,X,X,X,X,X,X,X,X,X,X,X,X,X,X,X,X,X,X,X,X,X,X,X,X,X,X,X,X,X,X,X,X,X,X,X,X,X,X,X] rfl rfl (zQ HT_.out HW_.out (by kernel_rfl)) (fun _ _ _ h => h) (Or.inl ⟨by rfl, ?_⟩) hHeld ?_ ?_
           rotate_left
           ·rintro w' ⟨s0, s1, s2, s3, s4, s5, s6, s7, s8, s9, s10, s11, s12, s13, s14, s15, s16, s17, s18, s19, s20, s21, s22, s23, s24, s25, s26, s27, s28, s29, s30, s31, s32, s33, s34, s35, s36, s37, s38, s39⟩
            go_simp
            with_reducible rfl
           rotate_left
           ·simp only [Act.put, Ze, Zf, Zg, zl, zm]
            rfl
           refine zq (i := 22) (N := some 39) (v := ?_) (a' := ?_) #[O,O,O,O,O,O,O,O,O,O,O,O,O,O,O,O,O,O,O,O,O,O,O,X,X,X,X,X,X,X,X,X,X,X,X,X,X,X,X,X,X,X,X,X,X,X,X,X,X,X,X,X,X,X,X,X,X,X,X,X,X,X,X,X] rfl rfl (zo HT_.out (by kernel_rfl)) (fun _ _ _ h => h) (Or.inl ⟨by rfl, ?_⟩) ?_ ?_
           rotate_left
           ·intro w'
            go_simp
            with_reducible rfl
           rotate_left
           ·simp only [Act.put, Ze, Zf, Zg, zl, zm]
            rfl
           refine zq (i := 23) (N := some 40) (v := ?_) (a' := ?_) #[O,O,O,O,O,O,O,O,O,O,O,O,O,O,O,O,O,O,O,O,O,O,O,O,X,X,X,X,X,X,X,X,X,X,X,X,X,X,X,X,X,X,X,X,X,X,X,X,X,X,X,X,X,X,X,X,X,X,X,X,X,X,X,X] rfl rfl (zo HT_.out (by kernel_rfl)) (fun _ _ _ h => h) (Or.inl ⟨by rfl, ?_⟩) ?_ ?_
           rotate_left
           ·intro w'
            go_simp
            with_reducible rfl
           rotate_left
           ·simp only [Act.put, Ze, Zf, Zg, zl, zm]
            rfl
           refine zq (i := 24) (N := some 41) (v := ?_) (a' := ?_) #[O,O,O,O,O,O,O,O,O,O,O,O,O,O,O,O,O,O,O,O,O,O,O,O,O,X,X,X,X,X,X,X,X,X,X,X,X,X,X,X,X,X,X,X,X,X,X,X,X,X,X,X,X,X,X,X,X,X,X,X,X,X,X,X] rfl rfl (zo HT_.out (by kernel_rfl)) (fun _ _ _ h => h) (Or.inl ⟨by rfl, ?_⟩) ?_ ?_
           rotate_left
           ·intro w'
            go_simp
            with_reducible rfl
           rotate_left
           ·simp only [Act.put, Ze, Zf, Zg, zl, zm]
            rfl
           refine zq (i := 25) (N := some 42) (v := ?_) (a' := ?_) #[O,O,O,O,O,O,O,O,O,O,O,O,O,O,O,O,O,O,O,O,O,O,O,O,O,O,X,X,X,X,X,X,X,X,X,X,X,X,X,X,X,X,X,X,X,X,X,X,X,X,X,X,X,X,X,X,X,X,X,X,X,X,X,X] rfl rfl (zo HT_.out (by kernel_rfl)) (fun _ _ _ h => h) (Or.inl ⟨by rfl, ?_⟩) ?_ ?_
           rotate_left
           ·intro w'
            go_simp
            with_reducible rfl
           rotate_left
           ·simp only [Act.put, Ze, Zf, Zg, zl, zm]
            rfl
           refine zq (i := 26) (N := some 43) (v := ?_) (a' := ?_) #[O,O,O,O,O,O,O,O,O,O,O,O,O,O,O,O,O,O,O,O,O,O,O,O,O,O,O,X,X,X,X,X,X,X,X,X,X,X,X,X,X,X,X,X,X,X,X,X,X,X,X,X,X,X,X,X,X,X,X,X,X,X,X,X] rfl rfl (zo HT_.out (by kernel_rfl)) (fun _ _ _ h => h) (Or.inl ⟨by rfl, ?_⟩) ?_ ?_
           rotate_left
           ·intro w'
            go_simp
            with_reducible rfl
           rotate_left
           ·simp only [Act.put, Ze, Zf, Zg, zl, zm]
            rfl
           refine zq (i := 27) (N := some 44) (v := ?_) (a' := ?_) #[O,O,O,O,O,O,O,O,O,O,O,O,O,O,O,O,O,O,O,O,O,O,O,O,O,O,O,O,X,X,X,X,X,X,X,X,X,X,X,X,X,X,X,X,X,X,X,X,X,X,X,X,X,X,X,X,X,X,X,X,X,X,X,X] rfl rfl (zo HT_.out (by kernel_rfl)) (fun _ _ _ h => h) (Or.inl ⟨by rfl, ?_⟩) ?_ ?_
           rotate_left
           ·intro w'
            go_simp
            with_reducible rfl
           rotate_left
           ·simp only [Act.put, Ze, Zf, Zg, zl, zm]
            rfl
           refine zq (i := 28) (N := some 45) (v := ?_) (a' := ?_) #[O,O,O,O,O,O,O,O,O,O,O,O,O,O,O,O,O,O,O,O,O,O,O,O,O,O,O,O,O,X,X,X,X,X,X,X,X,X,X,X,X,X,X,X,X,X,X,X,X,X,X,X,X,X,X,X,X,X,X,X,X,X,X,X] rfl rfl (zo HT_.out (by kernel_rfl)) (fun _ _ _ h => h) (Or.inl ⟨by rfl, ?_⟩) ?_ ?_
           rotate_left
           ·intro w'
            go_simp
            with_reducible rfl
           rotate_left
           ·simp only [Act.put, Ze, Zf, Zg, zl, zm]
            rfl
           refine zq (i := 30) (N := some 47) (v := ?_) (a' := ?_) #[O,O,O,O,O,O,O,O,O,O,O,O,O,O,O,O,O,O,O,O,O,O,O,O,O,O,O,O,O,X,O,X,X,X,X,X,X,X,X,X,X,X,X,X,X,X,X,X,X,X,X,X,X,X,X,X,X,X,X,X,X,X,X,X] rfl rfl (zo HT_.out (by kernel_rfl)) (fun _ _ _ h => h) (Or.inl ⟨by rfl, ?_⟩) ?_ ?_
           rotate_left
           ·intro w'
            go_simp
            with_reducible rfl
           rotate_left
           ·simp only [Act.put, Ze, Zf, Zg, zl, zm]
            rfl
           refine zq (i := 31) (N := some 48) (v := ?_) (a' := ?_) #[O,O,O,O,O,O,O,O,O,O,O,O,O,O,O,O,O,O,O,O,O,O,O,O,O,O,O,O,O,X,O,O,X,X,X,X,X,X,X,X,X,X,X,X,X,X,X,X,X,X,X,X,X,X,X,X,X,X,X,X,X,X,X,X] rfl rfl (zo HT_.out (by kernel_rfl)) (fun _ _ _ h => h) (Or.inl ⟨by rfl, ?_⟩) ?_ ?_
           rotate_left
           ·intro w'
            go_simp
            with_reducible rfl
           rotate_left
           ·simp only [Act.put, Ze, Zf, Zg, zl, zm]
            rfl
           refine zq (i := 32) (N := some 49) (v := ?_) (a' := ?_) #[O,O,O,O,O,O,O,O,O,O,O,O,O,O,O,O,O,O,O,O,O,O,O,O,O,O,O,O,O,X,O,O,O,X,X,X,X,X,X,X,X,X,X,X,X,X,X,X,X,X,X,X,X,X,X,X,X,X,X,X,X,X,X,X] rfl rfl (zo HT_.out (by kernel_rfl)) (fun _ _ _ h => h) (Or.inl ⟨by rfl, ?_⟩) ?_ ?_
           rotate_left
           ·intro w'
            go_simp
            with_reducible rfl
           rotate_left
           ·simp only [Act.put, Ze, Zf, Zg, zl, zm]
            rfl
           refine zq (i := 33) (N := some 50) (v := ?_) (a' := ?_) #[O,O,O,O,O,O,O,O,O,O,O,O,O,O,O,O,O,O,O,O,O,O,O,O,O,O,O,O,O,X,O,O,O,O,X,X,X,X,X,X,X,X,X,X,X,X,X,X,X,X,X,X,X,X,X,X,X,X,X,X,X,X,X,X] rfl rfl (zo HT_.out (by kernel_rfl)) (fun _ _ _ h => h) (Or.inl ⟨by rfl, ?_⟩) ?_ ?_
           rotate_left
           ·intro w'
            go_simp
            with_reducible rfl
           rotate_left
           ·simp only [Act.put, Ze, Zf, Zg, zl, zm]
            rfl
           refine take_ (i := 29) (N := some 46) (v := ?_) (a' := ?_) #[O,O,O,O,O,O,O,O,O,O,O,O,O,O,O,O,O,O,O,O,O,O,O,O,O,O,O,O,O,O,O,O,O,O,X,X,X,X,X,X,X,X,X,X,X,X,X,X,X,X,X,X,X,X,X,X,X,X,X,X,X,X,X,X] rfl rfl (zQ HT_.out HW_.out (by kernel_rfl)) (fun _ _ _ h => h) (Or.inl ⟨by rfl, ?_⟩) hHeld ?_ ?_
           rotate_left
           ·rintro w' ⟨s0, s1, s2, s3, s4, s5, s6, s7, s8, s9, s10, s11, s12, s13, s14, s15, s16, s17, s18, s19, s20, s21, s22, s23, s24, s25, s26, s27, s28, s29, s30, s31, s32, s33, s34, s35, s36, s37, s38, s39⟩
            go_simp
            with_reducible rfl
           rotate_left
           ·simp only [Act.put, Ze, Zf, Zg, zl, zm]
            rfl
           refine take_ (i := 34) (N := some 51) (v := ?_) (a' := ?_) #[O,O,O,O,O,O,O,O,O,O,O,O,O,O,O,O,O,O,O,O,O,O,O,O,O,O,O,O,O,O,O,O,O,O,O,X,X,X,X,X,X,X,X,X,X,X,X,X,X,X,X,X,X,X,X,X,X,X,X,X,X,X,X,X] rfl rfl (zQ HT_.out HW_.out (by kernel_rfl)) (fun _ _ _ h => h) (Or.inl ⟨by rfl, ?_⟩) hHeld ?_ ?_
           rotate_left
           ·rintro w' ⟨s0, s1, s2, s3, s4, s5, s6, s7, s8, s9, s10, s11, s12, s13, s14, s15, s16, s17, s18, s19, s20, s21, s22, s23, s24, s25, s26, s27, s28, s29, s30, s31, s32, s33, s34, s35, s36, s37, s38, s39⟩
            go_simp
            with_reducible rfl
           rotate_left
           ·simp only [Act.put, Ze, Zf, Zg, zl, zm]
            rfl
           refine zq (i := 35) (N := some 52) (v := ?_) (a' := ?_) #[O,O,O,O,O,O,O,O,O,O,O,O,O,O,O,O,O,O,O,O,O,O,O,O,O,O,O,O,O,O,O,O,O,O,O,O,X,X,X,X,X,X,X,X,X,X,X,X,X,X,X,X,X,X,X,X,X,X,X,X,X,X,X,X] rfl rfl (zo HT_.out (by kernel_rfl)) (fun _ _ _ h => h) (Or.inl ⟨by rfl, ?_⟩) ?_ ?_
           rotate_left
           ·intro w'
            go_simp
            with_reducible rfl
           rotate_left
           ·simp only [Act.put, Ze, Zf, Zg, zl, zm]
            rfl
           refine zq (i := 36) (N := some 53) (v := ?_) (a' := ?_) #[O,O,O,O,O,O,O,O,O,O,O,O,O,O,O,O,O,O,O,O,O,O,O,O,O,O,O,O,O,O,O,O,O,O,O,O,O,X,X,X,X,X,X,X,X,X,X,X,X,X,X,X,X,X,X,X,X,X,X,X,X,X,X,X] rfl rfl (zo HT_.out (by kernel_rfl)) (fun _ _ _ h => h) (Or.inl ⟨by rfl, ?_⟩) ?_ ?_
           rotate_left
           ·intro w'
            go_simp
            with_reducible rfl
           rotate_left
           ·simp only [Act.put, Ze, Zf, Zg, zl, zm]
            rfl
           refine zq (i := 37) (N := some 54) (v := ?_) (a' := ?_) #[O,O,O,O,O,O,O,O,O,O,O,O,O,O,O,O,O,O,O,O,O,O,O,O,O,O,O,O,O,O,O,O,O,O,O,O,O,O,X,X,X,X,X,X,X,X,X,X,X,X,X,X,X,X,X,X,X,X,X,X,X,X,X,X] rfl rfl (zo HT_.out (by kernel_rfl)) (fun _ _ _ h => h) (Or.inl ⟨by rfl, ?_⟩) ?_ ?_
           rotate_left
           ·intro w'
            go_simp
            with_reducible rfl
           rotate_left
           ·simp only [Act.put, Ze, Zf, Zg, zl, zm]
            rfl
           refine zq (i := 38) (N := some 55) (v := ?_) (a' := ?_) #[O,O,O,O,O,O,O,O,O,O,O,O,O,O,O,O,O,O,O,O,O,O,O,O,O,O,O,O,O,O,O,O,O,O,O,O,O,O,O,X,X,X,X,X,X,X,X,X,X,X,X,X,X,X,X,X,X,X,X,X,X,X,X,X] rfl rfl (zo HT_.out (by kernel_rfl)) (fun _ _ _ h => h) (Or.inl ⟨by rfl, ?_⟩) ?_ ?_
           rotate_left
           ·intro w'
            go_simp
            with_reducible rfl
           rotate_left
           ·simp only [Act.put, Ze, Zf, Zg, zl, zm]
            rfl
           refine zq (i := 39) (N := some 56) (v := ?_) (a' := ?_) #[O,O,O,O,O,O,O,O,O,O,O,O,O,O,O,O,O,O,O,O,O,O,O,O,O,O,O,O,O,O,O,O,O,O,O,O,O,O,O,O,X,X,X,X,X,X,X,X,X,X,X,X,X,X,X,X,X,X,X,X,X,X,X,X] rfl rfl (zo HT_.out (by kernel_rfl)) (fun _ _ _ h => h) (Or.inl ⟨by rfl, ?_⟩) ?_ ?_
           rotate_left
           ·intro w'
            go_simp
            with_reducible rfl
           rotate_left
           ·simp only [Act.put, Ze, Zf, Zg, zl, zm]
            rfl
           refine zq (i := 40) (N := some 57) (v := ?_) (a' := ?_) #[O,O,O,O,O,O,O,O,O,O,O,O,O,O,O,O,O,O,O,O,O,O,O,O,O,O,O,O,O,O,O,O,O,O,O,O,O,O,O,O,O,X,X,X,X,X,X,X,X,X,X,X,X,X,X,X,X,X,X,X,X,X,X,X] rfl rfl (zo HT_.out (by kernel_rfl)) (fun _ _ _ h => h) (Or.inl ⟨by rfl, ?_⟩) ?_ ?_
           rotate_left
           ·intro w'
            go_simp
            with_reducible rfl
           rotate_left
           ·simp only [Act.put, Ze, Zf, Zg, zl, zm]
            rfl
           refine zq (i := 41) (N := some 58) (v := ?_) (a' := ?_) #[O,O,O,O,O,O,O,O,O,O,O,O,O,O,O,O,O,O,O,O,O,O,O,O,O,O,O,O,O,O,O,O,O,O,O,O,O,O,O,O,O,O,X,X,X,X,X,X,X,X,X,X,X,X,X,X,X,X,X,X,X,X,X,X] rfl rfl (zo HT_.out (by kernel_rfl)) (fun _ _ _ h => h) (Or.inl ⟨by rfl, ?_⟩) ?_ ?_
           rotate_left
           ·intro w'
            go_simp
            with_reducible rfl
           rotate_left
           ·simp only [Act.put, Ze, Zf, Zg, zl, zm]
            rfl
           refine zq (i := 43) (N := some 60) (v := ?_) (a' := ?_) #[O,O,O,O,O,O,O,O,O,O,O,O,O,O,O,O,O,O,O,O,O,O,O,O,O,O,O,O,O,O,O,O,O,O,O,O,O,O,O,O,O,O,X,O,X,X,X,X,X,X,X,X,X,X,X,X,X,X,X,X,X,X,X,X] rfl rfl (zo HT_.out (by kernel_rfl)) (fun _ _ _ h => h) (Or.inl ⟨by rfl, ?_⟩) ?_ ?_
           rotate_left
           ·intro w'
            go_simp
            with_reducible rfl
           rotate_left
           ·simp only [Act.put, Ze, Zf, Zg, zl, zm]
            rfl
           refine zq (i := 44) (N := some 61) (v := ?_) (a' := ?_) #[O,O,O,O,O,O,O,O,O,O,O,O,O,O,O,O,O,O,O,O,O,O,O,O,O,O,O,O,O,O,O,O,O,O,O,O,O,O,O,O,O,O,X,O,O,X,X,X,X,X,X,X,X,X,X,X,X,X,X,X,X,X,X,X] rfl rfl (zo HT_.out (by kernel_rfl)) (fun _ _ _ h => h) (Or.inl ⟨by rfl, ?_⟩) ?_ ?_
           rotate_left
           ·intro w'
            go_simp
            with_reducible rfl
           rotate_left
           ·simp only [Act.put, Ze, Zf, Zg, zl, zm]
            rfl
           refine zq (i := 45) (N := some 62) (v := ?_) (a' := ?_) #[O,O,O,O,O,O,O,O,O,O,O,O,O,O,O,O,O,O,O,O,O,O,O,O,O,O,O,O,O,O,O,O,O,O,O,O,O,O,O,O,O,O,X,O,O,O,X,X,X,X,X,X,X,X,X,X,X,X,X,X,X,X,X,X] rfl rfl (zo HT_.out (by kernel_rfl)) (fun _ _ _ h => h) (Or.inl ⟨by rfl, ?_⟩) ?_ ?_
           rotate_left
           ·intro w'
            go_simp
            with_reducible rfl
           rotate_left
           ·simp only [Act.put, Ze, Zf, Zg, zl, zm]
            rfl
           refine zq (i := 46) (N := some 63) (v := ?_) (a' := ?_) #[O,O,O,O,O,O,O,O,O,O,O,O,O,O,O,O,O,O,O,O,O,O,O,O,O,O,O,O,O,O,O,O,O,O,O,O,O,O,O,O,O,O,X,O,O,O,O,X,X,X,X,X,X,X,X,X,X,X,X,X,X,X,X,X] rfl rfl (zo HT_.out (by kernel_rfl)) (fun _ _ _ h => h) (Or.inl ⟨by rfl, ?_⟩) ?_ ?_
           rotate_left
           ·intro w'
            go_simp
            with_reducible rfl
           rotate_left
           ·simp only [Act.put, Ze, Zf, Zg, zl, zm]
            rfl
           refine take_ (i := 42) (N := some 59) (v := ?_) (a' := ?_) #[O,O,O,O,O,O,O,O,O,O,O,O,O,O,O,O,O,O,O,O,O,O,O,O,O,O,O,O,O,O,O,O,O,O,O,O,O,O,O,O,O,O,O,O,O,O,O,X,X,X,X,X,X,X,X,X,X,X,X,X,X,X,X,X] rfl rfl (zQ HT_.out HW_.out (by kernel_rfl)) (fun _ _ _ h => h) (Or.inl ⟨by rfl, ?_⟩) hHeld ?_ ?_
           rotate_left
           ·rintro w' ⟨s0, s1, s2, s3, s4, s5, s6, s7, s8, s9, s10, s11, s12, s13, s14, s15, s16, s17, s18, s19, s20, s21, s22, s23, s24, s25, s26, s27, s28, s29, s30, s31, s32, s33, s34, s35, s36, s37, s38, s39⟩
            go_simp
            with_reducible rfl
           rotate_left
           ·simp only [Act.put, Ze, Zf, Zg, zl, zm]
            rfl
           refine take_ (i := 47) (N := some 64) (v := ?_) (a' := ?_) #[O,O,O,O,O,O,O,O,O,O,O,O,O,O,O,O,O,O,O,O,O,O,O,O,O,O,O,O,O,O,O,O,O,O,O,O,O,O,O,O,O,O,O,O,O,O,O,O,X,X,X,X,X,X,X,X,X,X,X,X,X,X,X,X] rfl rfl (zQ HT_.out HW_.out (by kernel_rfl)) (fun _ _ _ h => h) (Or.inl ⟨by rfl, ?_⟩) hHeld ?_ ?_
           rotate_left
           ·rintro w' ⟨s0, s1, s2, s3, s4, s5, s6, s7, s8, s9, s10, s11, s12, s13, s14, s15, s16, s17, s18, s19, s20, s21, s22, s23, s24, s25, s26, s27, s28, s29, s30, s31, s32, s33, s34, s35, s36, s37, s38, s39⟩
            go_simp
            with_reducible rfl
           rotate_left
           ·simp only [Act.put, Ze, Zf, Zg, zl, zm]
            rfl
           refine zq (i := 48) (N := some 65) (v := ?_) (a' := ?_) #[O,O,O,O,O,O,O,O,O,O,O,O,O,O,O,O,O,O,O,O,O,O,O,O,O,O,O,O,O,O,O,O,O,O,O,O,O,O,O,O,O,O,O,O,O,O,O,O,O,X,X,X,X,X,X,X,X,X,X,X,X,X,X,X] rfl rfl (zo HT_.out (by kernel_rfl)) (fun _ _ _ h => h) (Or.inl ⟨by rfl, ?_⟩) ?_ ?_
           rotate_left
           ·intro w'
            go_simp
            with_reducible rfl
           rotate_left
           ·simp only [Act.put, Ze, Zf, Zg, zl, zm]
            rfl
           refine zq (i := 49) (N := some 66) (v := ?_) (a' := ?_) #[O,O,O,O,O,O,O,O,O,O,O,O,O,O,O,O,O,O,O,O,O,O,O,O,O,O,O,O,O,O,O,O,O,O,O,O,O,O,O,O,O,O,O,O,O,O,O,O,O,O,X,X,X,X,X,X,X,X,X,X,X,X,X,X] rfl rfl (zo HT_.out (by kernel_rfl)) (fun _ _ _ h => h) (Or.inl ⟨by rfl, ?_⟩) ?_ ?_
           rotate_left
           ·intro w'
            go_simp
            with_reducible rfl
           rotate_left
           ·simp only [Act.put, Ze, Zf, Zg, zl, zm]
            rfl
           refine zq (i := 50) (N := some 67) (v := ?_) (a' := ?_) #[O,O,O,O,O,O,O,O,O,O,O,O,O,O,O,O,O,O,O,O,O,O,O,O,O,O,O,O,O,O,O,O,O,O,O,O,O,O,O,O,O,O,O,O,O,O,O,O,O,O,O,X,X,X,X,X,X,X,X,X,X,X,X,X] rfl rfl (zo HT_.out (by kernel_rfl)) (fun _ _ _ h => h) (Or.inl ⟨by rfl, ?_⟩) ?_ ?_
           rotate_left
           ·intro w'
            go_simp
            with_reducible rfl
           rotate_left
           ·simp only [Act.put, Ze, Zf, Zg, zl, zm]
            rfl
           refine zq (i := 51) (N := some 68) (v := undef) (a' := ?_) #[O,O,O,O,O,O,O,O,O,O,O,O,O,O,O,O,O,O,O,O,O,O,O,O,O,O,O,O,O,O,O,O,O,O,O,O,O,O,O,O,O,O,O,O,O,O,O,O,O,O,O,O,X,X,X,X,X,X,X,X,X,X,X,X] rfl rfl (zo HT_.out (by kernel_rfl)) (fun _ _ _ h => h) (Or.inr ⟨by rfl, rfl⟩) ?_ ?_
           rotate_left
           ·simp only [Act.put, Ze, Zf, Zg, zl, zm]
            rfl
           refine zq (i := 52) (N := some 69) (v := undef) (a' := ?_) #[O,O,O,O,O,O,O,O,O,O,O,O,O,O,O,O,O,O,O,O,O,O,O,O,O,O,O,O,O,O,O,O,O,O,O,O,O,O,O,O,O,O,O,O,O,O,O,O,O,O,O,O,O,X,X,X,X,X,X,X,X,X,X,X] rfl rfl (zo HT_.out (by kernel_rfl)) (fun _ _ _ h => h) (Or.inr ⟨by rfl, rfl⟩) ?_ ?_
           rotate_left
           ·simp only [Act.put, Ze, Zf, Zg, zl, zm]
            rfl
           refine zq (i := 53) (N := some 70) (v := undef) (a' := ?_) #[O,O,O,O,O,O,O,O,O,O,O,O,O,O,O,O,O,O,O,O,O,O,O,O,O,O,O,O,O,O,O,O,O,O,O,O,O,O,O,O,O,O,O,O,O,O,O,O,O,O,O,O,O,O,X,X,X,X,X,X,X,X,X,X] rfl rfl (zo HT_.out (by kernel_rfl)) (fun _ _ _ h => h) (Or.inr ⟨by rfl, rfl⟩) ?_ ?_
           rotate_left
           ·simp only [Act.put, Ze, Zf, Zg, zl, zm]
            rfl
           refine zq (i := 54) (N := some 71) (v := undef) (a' := ?_) #[O,O,O,O,O,O,O,O,O,O,O,O,O,O,O,O,O,O,O,O,O,O,O,O,O,O,O,O,O,O,O,O,O,O,O,O,O,O,O,O,O,O,O,O,O,O,O,O,O,O,O,O,O,O,O,X,X,X,X,X,X,X,X,X] rfl rfl (zo HT_.out (by kernel_rfl)) (fun _ _ _ h => h) (Or.inr ⟨by rfl, rfl⟩) ?_ ?_
           rotate_left
           ·simp only [Act.put, Ze, Zf, Zg, zl, zm]
            rfl
           refine zq (i := 55) (N := some 72) (v := undef) (a' := ?_) #[O,O,O,O,O,O,O,O,O,O,O,O,O,O,O,O,O,O,O,O,O,O,O,O,O,O,O,O,O,O,O,O,O,O,O,O,O,O,O,O,O,O,O,O,O,O,O,O,O,O,O,O,O,O,O,O,X,X,X,X,X,X,X,X] rfl rfl (zo HT_.out (by kernel_rfl)) (fun _ _ _ h => h) (Or.inr ⟨by rfl, rfl⟩) ?_ ?_
           rotate_left
           ·simp only [Act.put, Ze, Zf, Zg, zl, zm]
            rfl
           refine zq (i := 56) (N := some 73) (v := undef) (a' := ?_) #[O,O,O,O,O,O,O,O,O,O,O,O,O,O,O,O,O,O,O,O,O,O,O,O,O,O,O,O,O,O,O,O,O,O,O,O,O,O,O,O,O,O,O,O,O,O,O,O,O,O,O,O,O,O,O,O,O,X,X,X,X,X,X,X] rfl rfl (zo HT_.out (by kernel_rfl)) (fun _ _ _ h => h) (Or.inr ⟨by rfl, rfl⟩) ?_ ?_
           rotate_left
           ·simp only [Act.put, Ze, Zf, Zg, zl, zm]
            rfl
           refine zq (i := 57) (N := some 74) (v := undef) (a' := ?_) #[O,O,O,O,O,O,O,O,O,O,O,O,O,O,O,O,O,O,O,O,O,O,O,O,O,O,O,O,O,O,O,O,O,O,O,O,O,O,O,O,O,O,O,O,O,O,O,O,O,O,O,O,O,O,O,O,O,O,X,X,X,X,X,X] rfl rfl (zo HT_.out (by kernel_rfl)) (fun _ _ _ h => h) (Or.inr ⟨by rfl, rfl⟩) ?_ ?_
           rotate_left
           ·simp only [Act.put, Ze, Zf, Zg, zl, zm]
            rfl
           refine zq (i := 58) (N := some 75) (v := undef) (a' := ?_) #[O,O,O,O,O,O,O,O,O,O,O,O,O,O,O,O,O,O,O,O,O,O,O,O,O,O,O,O,O,O,O,O,O,O,O,O,O,O,O,O,O,O,O,O,O,O,O,O,O,O,O,O,O,O,O,O,O,O,O,X,X,X,X,X] rfl rfl (zo HT_.out (by kernel_rfl)) (fun _ _ _ h => h) (Or.inr ⟨by rfl, rfl⟩) ?_ ?_
           rotate_left
           ·simp only [Act.put, Ze, Zf, Zg, zl, zm]
            rfl
           refine zq (i := 59) (N := some 76) (v := undef) (a' := ?_) #[O,O,O,O,O,O,O,O,O,O,O,O,O,O,O,O,O,O,O,O,O,O,O,O,O,O,O,O,O,O,O,O,O,O,O,O,O,O,O,O,O,O,O,O,O,O,O,O,O,O,O,O,O,O,O,O,O,O,O,O,X,X,X,X] rfl rfl (zo HT_.out (by kernel_rfl)) (fun _ _ _ h => h) (Or.inr ⟨by rfl, rfl⟩) ?_ ?_
           rotate_left
           ·simp only [Act.put, Ze, Zf, Zg, zl, zm]
            rfl
           refine zq (i := 60) (N := some 77) (v := undef) (a' := ?_) #[O,O,O,O,O,O,O,O,O,O,O,O,O,O,O,O,O,O,O,O,O,O,O,O,O,O,O,O,O,O,O,O,O,O,O,O,O,O,O,O,O,O,O,O,O,O,O,O,O,O,O,O,O,O,O,O,O,O,O,O,O,X,X,X] rfl rfl (zo HT_.out (by kernel_rfl)) (fun _ _ _ h => h) (Or.inr ⟨by rfl, rfl⟩) ?_ ?_
           rotate_left
           ·simp only [Act.put, Ze, Zf, Zg, zl, zm]
            rfl
           refine zq (i := 61) (N := some 78) (v := undef) (a' := ?_) #[O,O,O,O,O,O,O,O,O,O,O,O,O,O,O,O,O,O,O,O,O,O,O,O,O,O,O,O,O,O,O,O,O,O,O,O,O,O,O,O,O,O,O,O,O,O,O,O,O,O,O,O,O,O,O,O,O,O,O,O,O,O,X,X] rfl rfl (zo HT_.out (by kernel_rfl)) (fun _ _ _ h => h) (Or.inr ⟨by rfl, rfl⟩) ?_ ?_
           rotate_left
           ·simp only [Act.put, Ze, Zf, Zg, zl, zm]
            rfl
           refine zq (i := 62) (N := some 79) (v := undef) (a' := ?_) #[O,O,O,O,O,O,O,O,O,O,O,O,O,O,O,O,O,O,O,O,O,O,O,O,O,O,O,O,O,O,O,O,O,O,O,O,O,O,O,O,O,O,O,O,O,O,O,O,O,O,O,O,O,O,O,O,O,O,O,O,O,O,O,X] rfl rfl (zo HT_.out (by kernel_rfl)) (fun _ _ _ h => h) (Or.inr ⟨by rfl, rfl⟩) ?_ ?_
           rotate_left
           ·simp only [Act.put, Ze, Zf, Zg, zl, zm]
            rfl
           refine zq (i := 63) (N := some 80) (v := ?_) (a' := ?_) #[O,O,O,O,O,O,O,O,O,O,O,O,O,O,O,O,O,O,O,O,O,O,O,O,O,O,O,O,O,O,O,O,O,O,O,O,O,O,O,O,O,O,O,O,O,O,O,O,O,O,O,O,O,O,O,O,O,O,O,O,O,O,O,O] rfl rfl (zo HT_.out (by kernel_rfl)) (fun _ _ _ h => h) (Or.inl ⟨by rfl, ?_⟩) ?_ ?_
           rotate_left
           ·intro w'
            go_simp
            with_reducible rfl
           rotate_left
           ·simp only [Act.put, Ze, Zf, Zg, zl, zm]
            rfl
           refine yZ (yE HT_.out (by kernel_rfl)) ?_
           try go_wp2
           go_ret
           exact ⟨by first | rfl | (simp [zu, zv] <;> rfl) | (simp [*, zu, zv] <;> rfl), by repeat (first | (with_reducible first | exact HB.out | apply zf | apply zd | apply ze) | exact HB.out)⟩
         ·rw [if_neg c9] at H
          have c9b0 : (((zn l0 x5_1).f3) == ((zn l1 x5_1).f3)) = false := beq_eq_false_iff_ne.mpr c9
          have c9b1 : (((zn l0 x5_1).f3) != ((zn l1 x5_1).f3)) = true := bne_iff_ne.mpr c9
          obtain rfl := Option.some.inj H
          try go_wp2
          have n0_ := zc.mk (ze HB.out)
          clear HB
          have HB := n0_
          clear n0_
          have p721 : 0 ≤ (x5_1 : Int) := of_decide_eq_true (by first | (with_reducible assumption) | assumption)
          have q721 : x5_1 < (l0.length : Int) := of_decide_eq_true (by first | (with_reducible assumption) | assumption)
          obtain ⟨ad721, A721_2, c721_2, e721, hx721_0, hx721_1, hx721_2, hx721_3, hx721_4, hl721_2, hi721_2⟩ := yc HR0.out x5_1 p721 q721
          have hw721_4 := hx721_4
          have hw721_3 := hx721_3
          have hw721_2 := hx721_2
          have hw721_1 := hx721_1
          have hw721_0 := hx721_0
          cases e721
          replace hx721_0 := (HB.out.cell (Zj w _ hx721_0)).trans hx721_0
          replace hx721_1 := (HB.out.cell (Zj w _ hx721_1)).trans hx721_1
          replace hx721_2 := (HB.out.cell (Zj w _ hx721_2)).trans hx721_2
          replace hx721_3 := (HB.out.cell (Zj w _ hx721_3)).trans hx721_3
          replace hx721_4 := (HB.out.cell (Zj w _ hx721_4)).trans hx721_4
          have HR721_2 := zc.mk hi721_2
          have HC721_2 := zc.mk hl721_2
          clear hi721_2 hl721_2
          replace p721 := eq_true p721
          replace q721 := eq_true q721
          have p722 : 0 ≤ (x5_1 : Int) := of_decide_eq_true (by first | (with_reducible assumption) | assumption)
          have q722 : x5_1 < (l1.length : Int) := of_decide_eq_true (by first | (with_reducible assumption) | assumption)
          obtain ⟨ad722, A722_2, c722_2, e722, hx722_0, hx722_1, hx722_2, hx722_3, hx722_4, hl722_2, hi722_2⟩ := yc HR1.out x5_1 p722 q722
          have hw722_4 := hx722_4
          have hw722_3 := hx722_3
          have hw722_2 := hx722_2
          have hw722_1 := hx722_1
          have hw722_0 := hx722_0
          cases e722
          replace hx722_0 := (HB.out.cell (Zj w _ hx722_0)).trans hx722_0
          replace hx722_1 := (HB.out.cell (Zj w _ hx722_1)).trans hx722_1
          replace hx722_2 := (HB.out.cell (Zj w _ hx722_2)).trans hx722_2
          replace hx722_3 := (HB.out.cell (Zj w _ hx722_3)).trans hx722_3
          replace hx722_4 := (HB.out.cell (Zj w _ hx722_4)).trans hx722_4
          have HR722_2 := zc.mk hi722_2
          have HC722_2 := zc.mk hl722_2
          clear hi722_2 hl722_2
          replace p722 := eq_true p722
          replace q722 := eq_true q722
          have p723 : 0 ≤ (x5_1 : Int) := of_decide_eq_true (by first | (with_reducible assumption) | assumption)
          have q723 : x5_1 < (l0.length : Int) := of_decide_eq_true (by first | (with_reducible assumption) | assumption)
          obtain ⟨ad723, A723_2, c723_2, e723, hx723_0, hx723_1, hx723_2, hx723_3, hx723_4, hl723_2, hi723_2⟩ := yc HR0.out x5_1 p723 q723
          have hw723_4 := hx723_4
          have hw723_3 := hx723_3
          have hw723_2 := hx723_2
          have hw723_1 := hx723_1
          have hw723_0 := hx723_0
          obtain rfl : ad721 = ad723 := (by injection e723)
          replace hx723_0 := (HB.out.cell (Zj w _ hx723_0)).trans hx723_0
          replace hx723_1 := (HB.out.cell (Zj w _ hx723_1)).trans hx723_1
          replace hx723_2 := (HB.out.cell (Zj w _ hx723_2)).trans hx723_2
          replace hx723_3 := (HB.out.cell (Zj w _ hx723_3)).trans hx723_3
          replace hx723_4 := (HB.out.cell (Zj w _ hx723_4)).trans hx723_4
          have HR723_2 := zc.mk hi723_2
          have HC723_2 := zc.mk hl723_2
          clear hi723_2 hl723_2
          replace p723 := eq_true p723
          replace q723 := eq_true q723
          have ea_ := Option.some.inj (hx721_2.symm.trans hx723_2)
          injection ea_ with ea_ en_ ec_
          subst ea_
          subst ec_
          clear en_
          have p724 : 0 ≤ (x5_1 : Int) := of_decide_eq_true (by first | (with_reducible assumption) | assumption)
          have q724 : x5_1 < (l1.length : Int) := of_decide_eq_true (by first | (with_reducible assumption) | assumption)
          obtain ⟨ad724, A724_2, c724_2, e724, hx724_0, hx724_1, hx724_2, hx724_3, hx724_4, hl724_2, hi724_2⟩ := yc HR1.out x5_1 p724 q724
          have hw724_4 := hx724_4
          have hw724_3 := hx724_3
          have hw724_2 := hx724_2
          have hw724_1 := hx724_1
          have hw724_0 := hx724_0
          obtain rfl : ad722 = ad724 := (by injection e724)
          replace hx724_0 := (HB.out.cell (Zj w _ hx724_0)).trans hx724_0
          replace hx724_1 := (HB.out.cell (Zj w _ hx724_1)).trans hx724_1
          replace hx724_2 := (HB.out.cell (Zj w _ hx724_2)).trans hx724_2
          replace hx724_3 := (HB.out.cell (Zj w _ hx724_3)).trans hx724_3
          replace hx724_4 := (HB.out.cell (Zj w _ hx724_4)).trans hx724_4
          have HR724_2 := zc.mk hi724_2
          have HC724_2 := zc.mk hl724_2
          clear hi724_2 hl724_2
          replace p724 := eq_true p724
          replace q724 := eq_true q724
          have ea_ := Option.some.inj (hx722_2.symm.trans hx724_2)
          injection ea_ with ea_ en_ ec_
          subst ea_
          subst ec_
          clear en_
          have p725 : 0 ≤ (x5_1 : Int) := of_decide_eq_true (by first | (with_reducible assumption) | assumption)
          have q725 : x5_1 < (l0.length : Int) := of_decide_eq_true (by first | (with_reducible assumption) | assumption)
          obtain ⟨ad725, A725_2, c725_2, e725, hx725_0, hx725_1, hx725_2, hx725_3, hx725_4, hl725_2, hi725_2⟩ := yc HR0.out x5_1 p725 q725
          have hw725_4 := hx725_4
          have hw725_3 := hx725_3
          have hw725_2 := hx725_2
          have hw725_1 := hx725_1
          have hw725_0 := hx725_0
          obtain rfl : ad721 = ad725 := (by injection e725)
          replace hx725_0 := (HB.out.cell (Zj w _ hx725_0)).trans hx725_0
          replace hx725_1 := (HB.out.cell (Zj w _ hx725_1)).trans hx725_1
          replace hx725_2 := (HB.out.cell (Zj w _ hx725_2)).trans hx725_2
          replace hx725_3 := (HB.out.cell (Zj w _ hx725_3)).trans hx725_3
          replace hx725_4 := (HB.out.cell (Zj w _ hx725_4)).trans hx725_4
          have HR725_2 := zc.mk hi725_2
          have HC725_2 := zc.mk hl725_2
          clear hi725_2 hl725_2
          replace p725 := eq_true p725
          replace q725 := eq_true q725
          have ea_ := Option.some.inj (hx721_2.symm.trans hx725_2)
          injection ea_ with ea_ en_ ec_
          subst ea_
          subst ec_
          clear en_
          have p726 : 0 ≤ (x5_1 : Int) := of_decide_eq_true (by first | (with_reducible assumption) | assumption)
          have q726 : x5_1 < (l1.length : Int) := of_decide_eq_true (by first | (with_reducible assumption) | assumption)
          obtain ⟨ad726, A726_2, c726_2, e726, hx726_0, hx726_1, hx726_2, hx726_3, hx726_4, hl726_2, hi726_2⟩ := yc HR1.out x5_1 p726 q726
          have hw726_4 := hx726_4
          have hw726_3 := hx726_3
          have hw726_2 := hx726_2
          have hw726_1 := hx726_1
          have hw726_0 := hx726_0
          obtain rfl : ad722 = ad726 := (by injection e726)
          replace hx726_0 := (HB.out.cell (Zj w _ hx726_0)).trans hx726_0
          replace hx726_1 := (HB.out.cell (Zj w _ hx726_1)).trans hx726_1
          replace hx726_2 := (HB.out.cell (Zj w _ hx726_2)).trans hx726_2
          replace hx726_3 := (HB.out.cell (Zj w _ hx726_3)).trans hx726_3
          replace hx726_4 := (HB.out.cell (Zj w _ hx726_4)).trans hx726_4
          have HR726_2 := zc.mk hi726_2
          have HC726_2 := zc.mk hl726_2
          clear hi726_2 hl726_2
          replace p726 := eq_true p726
          replace q726 := eq_true q726
          have ea_ := Option.some.inj (hx722_2.symm.trans hx726_2)
          injection ea_ with ea_ en_ ec_
          subst ea_
          subst ec_
          clear en_
          refine yK (n := 64) (S := fun w' => w'.cell? (ad721.add ((x5_1).toNat * 5)) = some (.int .i64 ((zn l0 x5_1).f0)) ∧ w'.cell? ⟨(ad721.add ((x5_1).toNat * 5)).block, (ad721.add ((x5_1).toNat * 5)).off + 1, none⟩ = some (.string ((zn l0 x5_1).f1)) ∧ w'.cell? ⟨(ad721.add ((x5_1).toNat * 5)).block, (ad721.add ((x5_1).toNat * 5)).off + 2, none⟩ = some (.slice A721_2 ((zn l0 x5_1).f2).length c721_2) ∧ w'.cell? ⟨(ad721.add ((x5_1).toNat * 5)).block, (ad721.add ((x5_1).toNat * 5)).off + 3, none⟩ = some (.int .i64 ((zn l0 x5_1).f3)) ∧ w'.cell? ⟨(ad721.add ((x5_1).toNat * 5)).block, (ad721.add ((x5_1).toNat * 5)).off + 4, none⟩ = some (.int .i64 ((zn l0 x5_1).f4)) ∧ w'.cell? (ad722.add ((x5_1).toNat * 5)) = some (.int .i64 ((zn l1 x5_1).f0)) ∧ w'.cell? ⟨(ad722.add ((x5_1).toNat * 5)).block, (ad722.add ((x5_1).toNat * 5)).off + 1, none⟩ = some (.string ((zn l1 x5_1).f1)) ∧ w'.cell? ⟨(ad722.add ((x5_1).toNat * 5)).block, (ad722.add ((x5_1).toNat * 5)).off + 2, none⟩ = some (.slice A722_2 ((zn l1 x5_1).f2).length c722_2) ∧ w'.cell? ⟨(ad722.add ((x5_1).toNat * 5)).block, (ad722.add ((x5_1).toNat * 5)).off + 3, none⟩ = some (.int .i64 ((zn l1 x5_1).f3)) ∧ w'.cell? ⟨(ad722.add ((x5_1).toNat * 5)).block, (ad722.add ((x5_1).toNat * 5)).off + 4, none⟩ = some (.int .i64 ((zn l1 x5_1).f4)) ∧ w'.cell? (ad721.add ((x5_1).toNat * 5)) = some (.int .i64 ((zn l0 x5_1).f0)) ∧ w'.cell? ⟨(ad721.add ((x5_1).toNat * 5)).block, (ad721.add ((x5_1).toNat * 5)).off + 1, none⟩ = some (.string ((zn l0 x5_1).f1)) ∧ w'.cell? ⟨(ad721.add ((x5_1).toNat * 5)).block, (ad721.add ((x5_1).toNat * 5)).off + 2, none⟩ = some (.slice A721_2 ((zn l0 x5_1).f2).length c721_2) ∧ w'.cell? ⟨(ad721.add ((x5_1).toNat * 5)).block, (ad721.add ((x5_1).toNat * 5)).off + 3, none⟩ = some (.int .i64 ((zn l0 x5_1).f3)) ∧ w'.cell? ⟨(ad721.add ((x5_1).toNat * 5)).block, (ad721.add ((x5_1).toNat * 5)).off + 4, none⟩ = some (.int .i64 ((zn l0 x5_1).f4)) ∧ w'.cell? (ad722.add ((x5_1).toNat * 5)) = some (.int .i64 ((zn l1 x5_1).f0)) ∧ w'.cell? ⟨(ad722.add ((x5_1).toNat * 5)).block, (ad722.add ((x5_1).toNat * 5)).off + 1, none⟩ = some (.string ((zn l1 x5_1).f1)) ∧ w'.cell? ⟨(ad722.add ((x5_1).toNat * 5)).block, (ad722.add ((x5_1).toNat * 5)).off + 2, none⟩ = some (.slice A722_2 ((zn l1 x5_1).f2).length c722_2) ∧ w'.cell? ⟨(ad722.add ((x5_1).toNat * 5)).block, (ad722.add ((x5_1).toNat * 5)).off + 3, none⟩ = some (.int .i64 ((zn l1 x5_1).f3)) ∧ w'.cell? ⟨(ad722.add ((x5_1).toNat * 5)).block, (ad722.add ((x5_1).toNat * 5)).off + 4, none⟩ = some (.int .i64 ((zn l1 x5_1).f4)) ∧ w'.cell? (ad721.add ((x5_1).toNat * 5)) = some (.int .i64 ((zn l0 x5_1).f0)) ∧ w'.cell? ⟨(ad721.add ((x5_1).toNat * 5)).block, (ad721.add ((x5_1).toNat * 5)).off + 1, none⟩ = some (.string ((zn l0 x5_1).f1)) ∧ w'.cell? ⟨(ad721.add ((x5_1).toNat * 5)).block, (ad721.add ((x5_1).toNat * 5)).off + 2, none⟩ = some (.slice A721_2 ((zn l0 x5_1).f2).length c721_2) ∧ w'.cell? ⟨(ad721.add ((x5_1).toNat * 5)).block, (ad721.add ((x5_1).toNat * 5)).off + 3, none⟩ = some (.int .i64 ((zn l0 x5_1).f3)) ∧ w'.cell? ⟨(ad721.add ((x5_1).toNat * 5)).block, (ad721.add ((x5_1).toNat * 5)).off + 4, none⟩ = some (.int .i64 ((zn l0 x5_1).f4)) ∧ w'.cell? (ad722.add ((x5_1).toNat * 5)) = some (.int .i64 ((zn l1 x5_1).f0)) ∧ w'.cell? ⟨(ad722.add ((x5_1).toNat * 5)).block, (ad722.add ((x5_1).toNat * 5)).off + 1, none⟩ = some (.string ((zn l1 x5_1).f1)) ∧ w'.cell? ⟨(ad722.add ((x5_1).toNat * 5)).block, (ad722.add ((x5_1).toNat * 5)).off + 2, none⟩ = some (.slice A722_2 ((zn l1 x5_1).f2).length c722_2) ∧ w'.cell? ⟨(ad722.add ((x5_1).toNat * 5)).block, (ad722.add ((x5_1).toNat * 5)).off + 3, none⟩ = some (.int .i64 ((zn l1 x5_1).f3)) ∧ w'.cell? ⟨(ad722.add ((x5_1).toNat * 5)).block, (ad722.add ((x5_1).toNat * 5)).off + 4, none⟩ = some (.int .i64 ((zn l1 x5_1).f4))) (ds := []) #[X,X,X,X,X,X,X,X,X,X,X,X,X,X,X,X,X,X,X,X,X,X,X,X,X,X,X,X,X,X,X,X,X,X,X,X,X,X,X,X,X,X,X,X,X,X,X,X,X,X,X,X,X,X,X,X,X,X,X,X,X,X,X,X] (by kernel_rfl) rfl rfl ⟨((HB.out.cell (Zj w _ hw721_0)).trans hw721_0), ((HB.out.cell (Zj w _ hw721_1)).trans hw721_1), ((HB.out.cell (Zj w _ hw721_2)).trans hw721_2), ((HB.out.cell (Zj w _ hw721_3)).trans hw721_3), ((HB.out.cell (Zj w _ hw721_4)).trans hw721_4), ((HB.out.cell (Zj w _ hw722_0)).trans hw722_0), ((HB.out.cell (Zj w _ hw722_1)).trans hw722_1), ((HB.out.cell (Zj w _ hw722_2)).trans hw722_2), ((HB.out.cell (Zj w _ hw722_3)).trans hw722_3), ((HB.out.cell (Zj w _ hw722_4)).trans hw722_4), ((HB.out.cell (Zj w _ hw723_0)).trans hw723_0), ((HB.out.cell (Zj w _ hw723_1)).trans hw723_1), ((HB.out.cell (Zj w _ hw723_2)).trans hw723_2), ((HB.out.cell (Zj w _ hw723_3)).trans hw723_3), ((HB.out.cell (Zj w _ hw723_4)).trans hw723_4), ((HB.out.cell (Zj w _ hw724_0)).trans hw724_0), ((HB.out.cell (Zj w _ hw724_1)).trans hw724_1), ((HB.out.cell (Zj w _ hw724_2)).trans hw724_2), ((HB.out.cell (Zj w _ hw724_3)).trans hw724_3), ((HB.out.cell (Zj w _ hw724_4)).trans hw724_4), ((HB.out.cell (Zj w _ hw725_0)).trans hw725_0), ((HB.out.cell (Zj w _ hw725_1)).trans hw725_1), ((HB.out.cell (Zj w _ hw725_2)).trans hw725_2), ((HB.out.cell (Zj w _ hw725_3)).trans hw725_3), ((HB.out.cell (Zj w _ hw725_4)).trans hw725_4), ((HB.out.cell (Zj w _ hw726_0)).trans hw726_0), ((HB.out.cell (Zj w _ hw726_1)).trans hw726_1), ((HB.out.cell (Zj w _ hw726_2)).trans hw726_2), ((HB.out.cell (Zj w _ hw726_3)).trans hw726_3), ((HB.out.cell (Zj w _ hw726_4)).trans hw726_4)⟩ (fun hHeld => ?_); refine ym zz.tab6 zz.bits6 (fun HT_ HW_ => ?_)
          generalize wr.drew = w16 at HB HR721_2 HR722_2 HR723_2 HR724_2 HR725_2 HR726_2 hx721_0 hx721_1 hx721_2 hx721_3 hx721_4 hx722_0 hx722_1 hx722_2 hx722_3 hx722_4 hx723_0 hx723_1 hx723_2 hx723_3 hx723_4 hx724_0 hx724_1 hx724_2 hx724_3 hx724_4 hx725_0 hx725_1 hx725_2 hx725_3 hx725_4 hx726_0 hx726_1 hx726_2 hx726_3 hx726_4 hHeld ⊢
          refine zq (i := 0) (N := some 17) (v := ?_) (a' := ?_) #[O,X,X,X,X,X,X,X,X,X,X,X,X,X,X,X,X,X,X,X,X,X,X,X,X,X,X,X,X,X,X,X,X,X,X,X,X,X,X,X,X,X,X,X,X,X,X,X,X,X,X,X,X,X,X,X,X,X,X,X,X,X,X,X] rfl rfl (zo HT_.out (by kernel_rfl)) (fun _ _ _ h => h) (Or.inl ⟨by rfl, ?_⟩) ?_ ?_
          rotate_left
          ·intro w'
           go_simp
           with_reducible rfl
          rotate_left
          ·simp only [Act.put, Ze, Zf, Zg, zl, zm]
           rfl
          refine zq (i := 1) (N := some 18) (v := ?_) (a' := ?_) #[O,O,X,X,X,X,X,X,X,X,X,X,X,X,X,X,X,X,X,X,X,X,X,X,X,X,X,X,X,X,X,X,X,X,X,X,X,X,X,X,X,X,X,X,X,X,X,X,X,X,X,X,X,X,X,X,X,X,X,X,X,X,X,X] rfl rfl (zo HT_.out (by kernel_rfl)) (fun _ _ _ h => h) (Or.inl ⟨by rfl, ?_⟩) ?_ ?_
          rotate_left
          ·intro w'
           go_simp
           with_reducible rfl
          rotate_left
          ·simp only [Act.put, Ze, Zf, Zg, zl, zm]
           rfl
          refine zq (i := 2) (N := some 19) (v := ?_) (a' := ?_) #[O,O,O,X,X,X,X,X,X,X,X,X,X,X,X,X,X,X,X,X,X,X,X,X,X,X,X,X,X,X,X,X,X,X,X,X,X,X,X,X,X,X,X,X,X,X,X,X,X,X,X,X,X,X,X,X,X,X,X,X,X,X,X,X] rfl rfl (zo HT_.out (by kernel_rfl)) (fun _ _ _ h => h) (Or.inl ⟨by rfl, ?_⟩) ?_ ?_
          rotate_left
          ·intro w'
           go_simp
           with_reducible rfl
          rotate_left
          ·simp only [Act.put, Ze, Zf, Zg, zl, zm]
           rfl
          refine zq (i := 3) (N := some 20) (v := ?_) (a' := ?_) #[O,O,O,O,X,X,X,X,X,X,X,X,X,X,X,X,X,X,X,X,X,X,X,X,X,X,X,X,X,X,X,X,X,X,X,X,X,X,X,X,X,X,X,X,X,X,X,X,X,X,X,X,X,X,X,X,X,X,X,X,X,X,X,X] rfl rfl (zo HT_.out (by kernel_rfl)) (fun _ _ _ h => h) (Or.inl ⟨by rfl, ?_⟩) ?_ ?_
          rotate_left
          ·intro w'
           go_simp
           with_reducible rfl
          rotate_left
          ·simp only [Act.put, Ze, Zf, Zg, zl, zm]
           rfl
          refine zq (i := 5) (N := some 22) (v := ?_) (a' := ?_) #[O,O,O,O,X,O,X,X,X,X,X,X,X,X,X,X,X,X,X,X,X,X,X,X,X,X,X,X,X,X,X,X,X,X,X,X,X,X,X,X,X,X,X,X,X,X,X,X,X,X,X,X,X,X,X,X,X,X,X,X,X,X,X,X] rfl rfl (zo HT_.out (by kernel_rfl)) (fun _ _ _ h => h) (Or.inl ⟨by rfl, ?_⟩) ?_ ?_
          rotate_left
          ·intro w'
           go_simp
           with_reducible rfl
          rotate_left
          ·simp only [Act.put, Ze, Zf, Zg, zl, zm]
           rfl
          refine zq (i := 6) (N := some 23) (v := ?_) (a' := ?_) #[O,O,O,O,X,O,O,X,X,X,X,X,X,X,X,X,X,X,X,X,X,X,X,X,X,X,X,X,X,X,X,X,X,X,X,X,X,X,X,X,X,X,X,X,X,X,X,X,X,X,X,X,X,X,X,X,X,X,X,X,X,X,X,X] rfl rfl (zo HT_.out (by kernel_rfl)) (fun _ _ _ h => h) (Or.inl ⟨by rfl, ?_⟩) ?_ ?_
          rotate_left
          ·intro w'
           go_simp
           with_reducible rfl
          rotate_left
          ·simp only [Act.put, Ze, Zf, Zg, zl, zm]
           rfl
          refine zq (i := 7) (N := some 24) (v := ?_) (a' := ?_) #[O,O,O,O,X,O,O,O,X,X,X,X,X,X,X,X,X,X,X,X,X,X,X,X,X,X,X,X,X,X,X,X,X,X,X,X,X,X,X,X,X,X,X,X,X,X,X,X,X,X,X,X,X,X,X,X,X,X,X,X,X,X,X,X] rfl rfl (zo HT_.out (by kernel_rfl)) (fun _ _ _ h => h) (Or.inl ⟨by rfl, ?_⟩) ?_ ?_
          rotate_left
          ·intro w'
           go_simp
           with_reducible rfl
          rotate_left
          ·simp only [Act.put, Ze, Zf, Zg, zl, zm]
           rfl
          refine zq (i := 8) (N := some 25) (v := ?_) (a' := ?_) #[O,O,O,O,X,O,O,O,O,X,X,X,X,X,X,X,X,X,X,X,X,X,X,X,X,X,X,X,X,X,X,X,X,X,X,X,X,X,X,X,X,X,X,X,X,X,X,X,X,X,X,X,X,X,X,X,X,X,X,X,X,X,X,X] rfl rfl (zo HT_.out (by kernel_rfl)) (fun _ _ _ h => h) (Or.inl ⟨by rfl, ?_⟩) ?_ ?_
          rotate_left
          ·intro w'
           go_simp
           with_reducible rfl
          rotate_left
          ·simp only [Act.put, Ze, Zf, Zg, zl, zm]
           rfl
          refine take_ (i := 4) (N := some 21) (v := ?_) (a' := ?_) #[O,O,O,O,O,O,O,O,O,X,X,X,X,X,X,X,X,X,X,X,X,X,X,X,X,X,X,X,X,X,X,X,X,X,X,X,X,X,X,X,X,X,X,X,X,X,X,X,X,X,X,X,X,X,X,X,X,X,X,X,X,X,X,X] rfl rfl (zQ HT_.out HW_.out (by kernel_rfl)) (fun _ _ _ h => h) (Or.inl ⟨by rfl, ?_⟩) hHeld ?_ ?_
          rotate_left
          ·rintro w' ⟨s0, s1, s2, s3, s4, s5, s6, s7, s8, s9, s10, s11, s12, s13, s14, s15, s16, s17, s18, s19, s20, s21, s22, s23, s24, s25, s26, s27, s28, s29⟩
           go_simp
           with_reducible rfl
          rotate_left
          ·simp only [Act.put, Ze, Zf, Zg, zl, zm]
           rfl
          refine take_ (i := 9) (N := some 26) (v := ?_) (a' := ?_) #[O,O,O,O,O,O,O,O,O,O,X,X,X,X,X,X,X,X,X,X,X,X,X,X,X,X,X,X,X,X,X,X,X,X,X,X,X,X,X,X,X,X,X,X,X,X,X,X,X,X,X,X,X,X,X,X,X,X,X,X,X,X,X,X] rfl rfl (zQ HT_.out HW_.out (by kernel_rfl)) (fun _ _ _ h => h) (Or.inl ⟨by rfl, ?_⟩) hHeld ?_ ?_
          rotate_left
          ·rintro w' ⟨s0, s1, s2, s3, s4, s5, s6, s7, s8, s9, s10, s11, s12, s13, s14, s15, s16, s17, s18, s19, s20, s21, s22, s23, s24, s25, s26, s27, s28, s29⟩
           go_simp
           with_reducible rfl
          rotate_left
          ·simp only [Act.put, Ze, Zf, Zg, zl, zm]
           rfl
          refine zq (i := 10) (N := some 27) (v := ?_) (a' := ?_) #[O,O,O,O,O,O,O,O,O,O,O,X,X,X,X,X,X,X,X,X,X,X,X,X,X,X,X,X,X,X,X,X,X,X,X,X,X,X,X,X,X,X,X,X,X,X,X,X,X,X,X,X,X,X,X,X,X,X,X,X,X,X,X,X] rfl rfl (zo HT_.out (by kernel_rfl)) (fun _ _ _ h => h) (Or.inl ⟨by rfl, ?_⟩) ?_ ?_
          rotate_left
          ·intro w'
           go_simp
           with_reducible rfl
          rotate_left
          ·simp only [Act.put, Ze, Zf, Zg, zl, zm]
           rfl
          refine zq (i := 11) (N := some 28) (v := ?_) (a' := ?_) #[O,O,O,O,O,O,O,O,O,O,O,O,X,X,X,X,X,X,X,X,X,X,X,X,X,X,X,X,X,X,X,X,X,X,X,X,X,X,X,X,X,X,X,X,X,X,X,X,X,X,X,X,X,X,X,X,X,X,X,X,X,X,X,X] rfl rfl (zo HT_.out (by kernel_rfl)) (fun _ _ _ h => h) (Or.inl ⟨by rfl, ?_⟩) ?_ ?_
          rotate_left
          ·intro w'
           go_simp
           with_reducible rfl
          rotate_left
          ·simp only [Act.put, Ze, Zf, Zg, zl, zm]
           rfl
          refine zq (i := 12) (N := some 29) (v := ?_) (a' := ?_) #[O,O,O,O,O,O,O,O,O,O,O,O,O,X,X,X,X,X,X,X,X,X,X,X,X,X,X,X,X,X,X,X,X,X,X,X,X,X,X,X,X,X,X,X,X,X,X,X,X,X,X,X,X,X,X,X,X,X,X,X,X,X,X,X] rfl rfl (zo HT_.out (by kernel_rfl)) (fun _ _ _ h => h) (Or.inl ⟨by rfl, ?_⟩) ?_ ?_
          rotate_left
          ·intro w'
           go_simp
           with_reducible rfl
          rotate_left
          ·simp only [Act.put, Ze, Zf, Zg, zl, zm]
           rfl
          refine zq (i := 13) (N := some 30) (v := ?_) (a' := ?_) #[O,O,O,O,O,O,O,O,O,O,O,O,O,O,X,X,X,X,X,X,X,X,X,X,X,X,X,X,X,X,X,X,X,X,X,X,X,X,X,X,X,X,X,X,X,X,X,X,X,X,X,X,X,X,X,X,X,X,X,X,X,X,X,X] rfl rfl (zo HT_.out (by kernel_rfl)) (fun _ _ _ h => h) (Or.inl ⟨by rfl, ?_⟩) ?_ ?_
          rotate_left
          ·intro w'
           go_simp
           with_reducible rfl
          rotate_left
          ·simp only [Act.put, Ze, Zf, Zg, zl, zm]
           rfl
          refine zq (i := 14) (N := some 31) (v := ?_) (a' := ?_) #[O,O,O,O,O,O,O,O,O,O,O,O,O,O,O,X,X,X,X,X,X,X,X,X,X,X,X,X,X,X,X,X,X,X,X,X,X,X,X,X,X,X,X,X,X,X,X,X,X,X,X,X,X,X,X,X,X,X,X,X,X,X,X,X] rfl rfl (zo HT_.out (by kernel_rfl)) (fun _ _ _ h => h) (Or.inl ⟨by rfl, ?_⟩) ?_ ?_
          rotate_left
          ·intro w'
           go_simp
           with_reducible rfl
          rotate_left
          ·simp only [Act.put, Ze, Zf, Zg, zl, zm]
           rfl
          refine zq (i := 15) (N := some 32) (v := ?_) (a' := ?_) #[O,O,O,O,O,O,O,O,O,O,O,O,O,O,O,O,X,X,X,X,X,X,X,X,X,X,X,X,X,X,X,X,X,X,X,X,X,X,X,X,X,X,X,X,X,X,X,X,X,X,X,X,X,X,X,X,X,X,X,X,X,X,X,X] rfl rfl (zo HT_.out (by kernel_rfl)) (fun _ _ _ h => h) (Or.inl ⟨by rfl, ?_⟩) ?_ ?_
          rotate_left
          ·intro w'
           go_simp
           with_reducible rfl
          rotate_left
          ·simp only [Act.put, Ze, Zf, Zg, zl, zm]
           rfl
          refine zq (i := 17) (N := some 34) (v := ?_) (a' := ?_) #[O,O,O,O,O,O,O,O,O,O,O,O,O,O,O,O,X,O,X,X,X,X,X,X,X,X,X,X,X,X,X,X,X,X,X,X,X,X,X,X,X,X,X,X,X,X,X,X,X,X,X,X,X,X,X,X,X,X,X,X,X,X,X,X] rfl rfl (zo HT_.out (by kernel_rfl)) (fun _ _ _ h => h) (Or.inl ⟨by rfl, ?_⟩) ?_ ?_
          rotate_left
          ·intro w'
           go_simp
           with_reducible rfl
          rotate_left
          ·simp only [Act.put, Ze, Zf, Zg, zl, zm]
           rfl
          refine zq (i := 18) (N := some 35) (v := ?_) (a' := ?_) #[O,O,O,O,O,O,O,O,O,O,O,O,O,O,O,O,X,O,O,X,X,X,X,X,X,X,X,X,X,X,X,X,X,X,X,X,X,X,X,X,X,X,X,X,X,X,X,X,X,X,X,X,X,X,X,X,X,X,X,X,X,X,X,X] rfl rfl (zo HT_.out (by kernel_rfl)) (fun _ _ _ h => h) (Or.inl ⟨by rfl, ?_⟩) ?_ ?_
          rotate_left
          ·intro w'
           go_simp
           with_reducible rfl
          rotate_left
          ·simp only [Act.put, Ze, Zf, Zg, zl, zm]
           rfl
          refine zq (i := 19) (N := some 36) (v := ?_) (a' := ?_) #[O,O,O,O,O,O,O,O,O,O,O,O,O,O,O,O,X,O,O,O,X,X,X,X,X,X,X,X,X,X,X,X,X,X,X,X,X,X,X,X,X,X,X,X,X,X,X,X,X,X,X,X,X,X,X,X,X,X,X,X,X,X,X,X] rfl rfl (zo HT_.out (by kernel_rfl)) (fun _ _ _ h => h) (Or.inl ⟨by rfl, ?_⟩) ?_ ?_
          rotate_left
          ·intro w'
           go_simp
           with_reducible rfl
          rotate_left
          ·simp only [Act.put, Ze, Zf, Zg, zl, zm]
           rfl
          refine zq (i := 20) (N := some 37) (v := ?_) (a' := ?_) #[O,O,O,O,O,O,O,O,O,O,O,O,O,O,O,O,X,O,O,O,O,X,X,X,X,X,X,X,X,X,X,X,X,X,X,X,X,X,X,X,X,X,X,X,X,X,X,X,X,X,X,X,X,X,X,X,X,X,X,X,X,X,X,X] rfl rfl (zo HT_.out (by kernel_rfl)) (fun _ _ _ h => h) (Or.inl ⟨by rfl, ?_⟩) ?_ ?_
          rotate_left
          ·intro w'
           go_simp
           with_reducible rfl
          rotate_left
          ·simp only [Act.put, Ze, Zf, Zg, zl, zm]
           rfl
          refine take_ (i := 16) (N := some 33) (v := ?_) (a' := ?_) #[O,O,O,O,O,O,O,O,O,O,O,O,O,O,O,O,O,O,O,O,O,X,X,X,X,X,X,X,X,X,X,X,X,X,X,X,X,X,X,X,X,X,X,X,X,X,X,X,X,X,X,X,X,X,X,X,X,X,X,X,X,X,X,X] rfl rfl (zQ HT_.out HW_.out (by kernel_rfl)) (fun _ _ _ h => h) (Or.inl ⟨by rfl, ?_⟩) hHeld ?_ ?_
          rotate_left
          ·rintro w' ⟨s0, s1, s2, s3, s4, s5, s6, s7, s8, s9, s10, s11, s12, s13, s14, s15, s16, s17, s18, s19, s20, s21, s22, s23, s24, s25, s26, s27, s28, s29⟩
           go_simp
           with_reducible rfl
          rotate_left
          ·simp only [Act.put, Ze, Zf, Zg, zl, zm]
           rfl
          refine take_ (i := 21) (N := some 38) (v := ?_) (a' := ?_) #[O,O,O,O,O,O,O,O,O,O,O,O,O,O,O,O,O,O,O,O,O,O,X,X,X,X,X,X,X,X,X,X,X,X,X,X,X,X,X,X,X,X,X,X,X,X,X,X,X,X,X,X,X,X,X,X,X,X,X,X,X,X,X,X] rfl rfl (zQ HT_.out HW_.out (by kernel_rfl)) (fun _ _ _ h => h) (Or.inl ⟨by rfl, ?_⟩) hHeld ?_ ?_
          rotate_left
          ·rintro w' ⟨s0, s1, s2, s3, s4, s5, s6, s7, s8, s9, s10, s11, s12, s13, s14, s15, s16, s17, s18, s19, s20, s21, s22, s23, s24, s25, s26, s27, s28, s29⟩
           go_simp
           with_reducible rfl
          rotate_left
          ·simp only [Act.put, Ze, Zf, Zg, zl, zm]
           rfl
          refine zq (i := 22) (N := some 39) (v := ?_) (a' := ?_) #[O,O,O,O,O,O,O,O,O,O,O,O,O,O,O,O,O,O,O,O,O,O,O,X,X,X,X,X,X,X,X,X,X,X,X,X,X,X,X,X,X,X,X,X,X,X,X,X,X,X,X,X,X,X,X,X,X,X,X,X,X,X,X,X] rfl rfl (zo HT_.out (by kernel_rfl)) (fun _ _ _ h => h) (Or.inl ⟨by rfl, ?_⟩) ?_ ?_
          rotate_left
          ·intro w'
           go_simp
           with_reducible rfl
          rotate_left
          ·simp only [Act.put, Ze, Zf, Zg, zl, zm]
           rfl
          refine zq (i := 23) (N := some 40) (v := ?_) (a' := ?_) #[O,O,O,O,O,O,O,O,O,O,O,O,O,O,O,O,O,O,O,O,O,O,O,O,X,X,X,X,X,X,X,X,X,X,X,X,X,X,X,X,X,X,X,X,X,X,X,X,X,X,X,X,X,X,X,X,X,X,X,X,X,X,X,X] rfl rfl (zo HT_.out (by kernel_rfl)) (fun _ _ _ h => h) (Or.inl ⟨by rfl, ?_⟩) ?_ ?_
          rotate_left
          ·intro w'
           go_simp
           with_reducible rfl
          rotate_left
          ·simp only [Act.put, Ze, Zf, Zg, zl, zm]
           rfl
          refine zq (i := 24) (N := some 41) (v := ?_) (a' := ?_) #[O,O,O,O,O,O,O,O,O,O,O,O,O,O,O,O,O,O,O,O,O,O,O,O,O,X,X,X,X,X,X,X,X,X,X,X,X,X,X,X,X,X,X,X,X,X,X,X,X,X,X,X,X,X,X,X,X,X,X,X,X,X,X,X] rfl rfl (zo HT_.out (by kernel_rfl)) (fun _ _ _ h => h) (Or.inl ⟨by rfl, ?_⟩) ?_ ?_
          rotate_left
          ·intro w'
           go_simp
           with_reducible rfl
          rotate_left
          ·simp only [Act.put, Ze, Zf, Zg, zl, zm]
           rfl
          refine zq (i := 25) (N := some 42) (v := ?_) (a' := ?_) #[O,O,O,O,O,O,O,O,O,O,O,O,O,O,O,O,O,O,O,O,O,O,O,O,O,O,X,X,X,X,X,X,X,X,X,X,X,X,X,X,X,X,X,X,X,X,X,X,X,X,X,X,X,X,X,X,X,X,X,X,X,X,X,X] rfl rfl (zo HT_.out (by kernel_rfl)) (fun _ _ _ h => h) (Or.inl ⟨by rfl, ?_⟩) ?_ ?_
          rotate_left
          ·intro w'
           go_simp
           with_reducible rfl
          rotate_left
          ·simp only [Act.put, Ze, Zf, Zg, zl, zm]
           rfl
          refine zq (i := 26) (N := some 43) (v := ?_) (a' := ?_) #[O,O,O,O,O,O,O,O,O,O,O,O,O,O,O,O,O,O,O,O,O,O,O,O,O,O,O,X,X,X,X,X,X,X,X,X,X,X,X,X,X,X,X,X,X,X,X,X,X,X,X,X,X,X,X,X,X,X,X,X,X,X,X,X] rfl rfl (zo HT_.out (by kernel_rfl)) (fun _ _ _ h => h) (Or.inl ⟨by rfl, ?_⟩) ?_ ?_
          rotate_left
          ·intro w'
           go_simp
           with_reducible rfl
          rotate_left
          ·simp only [Act.put, Ze, Zf, Zg, zl, zm]
           rfl
          refine zq (i := 27) (N := some 44) (v := ?_) (a' := ?_) #[O,O,O,O,O,O,O,O,O,O,O,O,O,O,O,O,O,O,O,O,O,O,O,O,O,O,O,O,X,X,X,X,X,X,X,X,X,X,X,X,X,X,X,X,X,X,X,X,X,X,X,X,X,X,X,X,X,X,X,X,X,X,X,X] rfl rfl (zo HT_.out (by kernel_rfl)) (fun _ _ _ h => h) (Or.inl ⟨by rfl, ?_⟩) ?_ ?_
          rotate_left
          ·intro w'
           go_simp
           with_reducible rfl
          rotate_left
          ·simp only [Act.put, Ze, Zf, Zg, zl, zm]
           rfl
          refine zq (i := 28) (N := some 45) (v := ?_) (a' := ?_) #[O,O,O,O,O,O,O,O,O,O,O,O,O,O,O,O,O,O,O,O,O,O,O,O,O,O,O,O,O,X,X,X,X,X,X,X,X,X,X,X,X,X,X,X,X,X,X,X,X,X,X,X,X,X,X,X,X,X,X,X,X,X,X,X] rfl rfl (zo HT_.out (by kernel_rfl)) (fun _ _ _ h => h) (Or.inl ⟨by rfl, ?_⟩) ?_ ?_
          rotate_left
          ·intro w'
           go_simp
           with_reducible rfl
          rotate_left
          ·simp only [Act.put, Ze, Zf, Zg, zl, zm]
           rfl
          refine zq (i := 30) (N := some 47) (v := ?_) (a' := ?_) #[O,O,O,O,O,O,O,O,O,O,O,O,O,O,O,O,O,O,O,O,O,O,O,O,O,O,O,O,O,X,O,X,X,X,X,X,X,X,X,X,X,X,X,X,X,X,X,X,X,X,X,X,X,X,X,X,X,X,X,X,X,X,X,X] rfl rfl (zo HT_.out (by kernel_rfl)) (fun _ _ _ h => h) (Or.inl ⟨by rfl, ?_⟩) ?_ ?_
          rotate_left
          ·intro w'
           go_simp
           with_reducible rfl
          rotate_left
          ·simp only [Act.put, Ze, Zf, Zg, zl, zm]
           rfl
          refine zq (i := 31) (N := some 48) (v := ?_) (a' := ?_) #[O,O,O,O,O,O,O,O,O,O,O,O,O,O,O,O,O,O,O,O,O,O,O,O,O,O,O,O,O,X,O,O,X,X,X,X,X,X,X,X,X,X,X,X,X,X,X,X,X,X,X,X,X,X,X,X,X,X,X,X,X,X,X,X] rfl rfl (zo HT_.out (by kernel_rfl)) (fun _ _ _ h => h) (Or.inl ⟨by rfl, ?_⟩) ?_ ?_
          rotate_left
          ·intro w'
           go_simp
           with_reducible rfl
          rotate_left
          ·simp only [Act.put, Ze, Zf, Zg, zl, zm]
           rfl
          refine zq (i := 32) (N := some 49) (v := ?_) (a' := ?_) #[O,O,O,O,O,O,O,O,O,O,O,O,O,O,O,O,O,O,O,O,O,O,O,O,O,O,O,O,O,X,O,O,O,X,X,X,X,X,X,X,X,X,X,X,X,X,X,X,X,X,X,X,X,X,X,X,X,X,X,X,X,X,X,X] rfl rfl (zo HT_.out (by kernel_rfl)) (fun _ _ _ h => h) (Or.inl ⟨by rfl, ?_⟩) ?_ ?_
          rotate_left
          ·intro w'
           go_simp
           with_reducible rfl
          rotate_left
          ·simp only [Act.put, Ze, Zf, Zg, zl, zm]
           rfl
          refine zq (i := 33) (N := some 50) (v := ?_) (a' := ?_) #[O,O,O,O,O,O,O,O,O,O,O,O,O,O,O,O,O,O,O,O,O,O,O,O,O,O,O,O,O,X,O,O,O,O,X,X,X,X,X,X,X,X,X,X,X,X,X,X,X,X,X,X,X,X,X,X,X,X,X,X,X,X,X,X] rfl rfl (zo HT_.out (by kernel_rfl)) (fun _ _ _ h => h) (Or.inl ⟨by rfl, ?_⟩) ?_ ?_
          rotate_left
          ·intro w'
           go_simp
           with_reducible rfl
          rotate_left
          ·simp only [Act.put, Ze, Zf, Zg, zl, zm]
           rfl
          refine take_ (i := 29) (N := some 46) (v := ?_) (a' := ?_) #[O,O,O,O,O,O,O,O,O,O,O,O,O,O,O,O,O,O,O,O,O,O,O,O,O,O,O,O,O,O,O,O,O,O,X,X,X,X,X,X,X,X,X,X,X,X,X,X,X,X,X,X,X,X,X,X,X,X,X,X,X,X,X,X] rfl rfl (zQ HT_.out HW_.out (by kernel_rfl)) (fun _ _ _ h => h) (Or.inl ⟨by rfl, ?_⟩) hHeld ?_ ?_
          rotate_left
          ·rintro w' ⟨s0, s1, s2, s3, s4, s5, s6, s7, s8, s9, s10, s11, s12, s13, s14, s15, s16, s17, s18, s19, s20, s21, s22, s23, s24, s25, s26, s27, s28, s29⟩
           go_simp
           with_reducible rfl
          rotate_left
          ·simp only [Act.put, Ze, Zf, Zg, zl, zm]
           rfl
          refine take_ (i := 34) (N := some 51) (v := ?_) (a' := ?_) #[O,O,O,O,O,O,O,O,O,O,O,O,O,O,O,O,O,O,O,O,O,O,O,O,O,O,O,O,O,O,O,O,O,O,O,X,X,X,X,X,X,X,X,X,X,X,X,X,X,X,X,X,X,X,X,X,X,X,X,X,X,X,X,X] rfl rfl (zQ HT_.out HW_.out (by kernel_rfl)) (fun _ _ _ h => h) (Or.inl ⟨by rfl, ?_⟩) hHeld ?_ ?_
          rotate_left
          ·rintro w' ⟨s0, s1, s2, s3, s4, s5, s6, s7, s8, s9, s10, s11, s12, s13, s14, s15, s16, s17, s18, s19, s20, s21, s22, s23, s24, s25, s26, s27, s28, s29⟩
           go_simp
           with_reducible rfl
          rotate_left
          ·simp only [Act.put, Ze, Zf, Zg, zl, zm]
           rfl
          refine zq (i := 35) (N := some 52) (v := ?_) (a' := ?_) #[O,O,O,O,O,O,O,O,O,O,O,O,O,O,O,O,O,O,O,O,O,O,O,O,O,O,O,O,O,O,O,O,O,O,O,O,X,X,X,X,X,X,X,X,X,X,X,X,X,X,X,X,X,X,X,X,X,X,X,X,X,X,X,X] rfl rfl (zo HT_.out (by kernel_rfl)) (fun _ _ _ h => h) (Or.inl ⟨by rfl, ?_⟩) ?_ ?_
          rotate_left
          ·intro w'
           go_simp
           with_reducible rfl
          rotate_left
          ·simp only [Act.put, Ze, Zf, Zg, zl, zm]
           rfl
          refine zq (i := 36) (N := some 53) (v := ?_) (a' := ?_) #[O,O,O,O,O,O,O,O,O,O,O,O,O,O,O,O,O,O,O,O,O,O,O,O,O,O,O,O,O,O,O,O,O,O,O,O,O,X,X,X,X,X,X,X,X,X,X,X,X,X,X,X,X,X,X,X,X,X,X,X,X,X,X,X] rfl rfl (zo HT_.out (by kernel_rfl)) (fun _ _ _ h => h) (Or.inl ⟨by rfl, ?_⟩) ?_ ?_
          rotate_left
          ·intro w'
           go_simp
           with_reducible rfl
          rotate_left
          ·simp only [Act.put, Ze, Zf, Zg, zl, zm]
           rfl
          refine zq (i := 37) (N := some 54) (v := ?_) (a' := ?_) #[O,O,O,O,O,O,O,O,O,O,O,O,O,O,O,O,O,O,O,O,O,O,O,O,O,O,O,O,O,O,O,O,O,O,O,O,O,O,X,X,X,X,X,X,X,X,X,X,X,X,X,X,X,X,X,X,X,X,X,X,X,X,X,X] rfl rfl (zo HT_.out (by kernel_rfl)) (fun _ _ _ h => h) (Or.inl ⟨by rfl, ?_⟩) ?_ ?_
          rotate_left
          ·intro w'
           go_simp
           with_reducible rfl
          rotate_left
          ·simp only [Act.put, Ze, Zf, Zg, zl, zm]
           rfl
          refine zq (i := 38) (N := some 55) (v := undef) (a' := ?_) #[O,O,O,O,O,O,O,O,O,O,O,O,O,O,O,O,O,O,O,O,O,O,O,O,O,O,O,O,O,O,O,O,O,O,O,O,O,O,O,X,X,X,X,X,X,X,X,X,X,X,X,X,X,X,X,X,X,X,X,X,X,X,X,X] rfl rfl (zo HT_.out (by kernel_rfl)) (fun _ _ _ h => h) (Or.inr ⟨by rfl, rfl⟩) ?_ ?_
          rotate_left
          ·simp only [Act.put, Ze, Zf, Zg, zl, zm]
           rfl
          refine zq (i := 39) (N := some 56) (v := undef) (a' := ?_) #[O,O,O,O,O,O,O,O,O,O,O,O,O,O,O,O,O,O,O,O,O,O,O,O,O,O,O,O,O,O,O,O,O,O,O,O,O,O,O,O,X,X,X,X,X,X,X,X,X,X,X,X,X,X,X,X,X,X,X,X,X,X,X,X] rfl rfl (zo HT_.out (by kernel_rfl)) (fun _ _ _ h => h) (Or.inr ⟨by rfl, rfl⟩) ?_ ?_
          rotate_left
          ·simp only [Act.put, Ze, Zf, Zg, zl, zm]
           rfl
          refine zq (i := 40) (N := some 57) (v := undef) (a' := ?_) #[O,O,O,O,O,O,O,O,O,O,O,O,O,O,O,O,O,O,O,O,O,O,O,O,O,O,O,O,O,O,O,O,O,O,O,O,O,O,O,O,O,X,X,X,X,X,X,X,X,X,X,X,X,X,X,X,X,X,X,X,X,X,X,X] rfl rfl (zo HT_.out (by kernel_rfl)) (fun _ _ _ h => h) (Or.inr ⟨by rfl, rfl⟩) ?_ ?_
          rotate_left
          ·simp only [Act.put, Ze, Zf, Zg, zl, zm]
           rfl
          refine zq (i := 41) (N := some 58) (v := undef) (a' := ?_) #[O,O,O,O,O,O,O,O,O,O,O,O,O,O,O,O,O,O,O,O,O,O,O,O,O,O,O,O,O,O,O,O,O,O,O,O,O,O,O,O,O,O,X,X,X,X,X,X,X,X,X,X,X,X,X,X,X,X,X,X,X,X,X,X] rfl rfl (zo HT_.out (by kernel_rfl)) (fun _ _ _ h => h) (Or.inr ⟨by rfl, rfl⟩) ?_ ?_
          rotate_left
          ·simp only [Act.put, Ze, Zf, Zg, zl, zm]
           rfl
          refine zq (i := 42) (N := some 59) (v := undef) (a' := ?_) #[O,O,O,O,O,O,O,O,O,O,O,O,O,O,O,O,O,O,O,O,O,O,O,O,O,O,O,O,O,O,O,O,O,O,O,O,O,O,O,O,O,O,O,X,X,X,X,X,X,X,X,X,X,X,X,X,X,X,X,X,X,X,X,X] rfl rfl (zo HT_.out (by kernel_rfl)) (fun _ _ _ h => h) (Or.inr ⟨by rfl, rfl⟩) ?_ ?_
          rotate_left
          ·simp only [Act.put, Ze, Zf, Zg, zl, zm]
           rfl
          refine zq (i := 43) (N := some 60) (v := undef) (a' := ?_) #[O,O,O,O,O,O,O,O,O,O,O,O,O,O,O,O,O,O,O,O,O,O,O,O,O,O,O,O,O,O,O,O,O,O,O,O,O,O,O,O,O,O,O,O,X,X,X,X,X,X,X,X,X,X,X,X,X,X,X,X,X,X,X,X] rfl rfl (zo HT_.out (by kernel_rfl)) (fun _ _ _ h => h) (Or.inr ⟨by rfl, rfl⟩) ?_ ?_
          rotate_left
          ·simp only [Act.put, Ze, Zf, Zg, zl, zm]
           rfl
          refine zq (i := 44) (N := some 61) (v := undef) (a' := ?_) #[O,O,O,O,O,O,O,O,O,O,O,O,O,O,O,O,O,O,O,O,O,O,O,O,O,O,O,O,O,O,O,O,O,O,O,O,O,O,O,O,O,O,O,O,O,X,X,X,X,X,X,X,X,X,X,X,X,X,X,X,X,X,X,X] rfl rfl (zo HT_.out (by kernel_rfl)) (fun _ _ _ h => h) (Or.inr ⟨by rfl, rfl⟩) ?_ ?_
          rotate_left
          ·simp only [Act.put, Ze, Zf, Zg, zl, zm]
           rfl
          refine zq (i := 45) (N := some 62) (v := undef) (a' := ?_) #[O,O,O,O,O,O,O,O,O,O,O,O,O,O,O,O,O,O,O,O,O,O,O,O,O,O,O,O,O,O,O,O,O,O,O,O,O,O,O,O,O,O,O,O,O,O,X,X,X,X,X,X,X,X,X,X,X,X,X,X,X,X,X,X] rfl rfl (zo HT_.out (by kernel_rfl)) (fun _ _ _ h => h) (Or.inr ⟨by rfl, rfl⟩) ?_ ?_
          rotate_left
          ·simp only [Act.put, Ze, Zf, Zg, zl, zm]
           rfl
          refine zq (i := 46) (N := some 63) (v := undef) (a' := ?_) #[O,O,O,O,O,O,O,O,O,O,O,O,O,O,O,O,O,O,O,O,O,O,O,O,O,O,O,O,O,O,O,O,O,O,O,O,O,O,O,O,O,O,O,O,O,O,O,X,X,X,X,X,X,X,X,X,X,X,X,X,X,X,X,X] rfl rfl (zo HT_.out (by kernel_rfl)) (fun _ _ _ h => h) (Or.inr ⟨by rfl, rfl⟩) ?_ ?_
          rotate_left
          ·simp only [Act.put, Ze, Zf, Zg, zl, zm]
           rfl
          refine zq (i := 47) (N := some 64) (v := undef) (a' := ?_) #[O,O,O,O,O,O,O,O,O,O,O,O,O,O,O,O,O,O,O,O,O,O,O,O,O,O,O,O,O,O,O,O,O,O,O,O,O,O,O,O,O,O,O,O,O,O,O,O,X,X,X,X,X,X,X,X,X,X,X,X,X,X,X,X] rfl rfl (zo HT_.out (by kernel_rfl)) (fun _ _ _ h => h) (Or.inr ⟨by rfl, rfl⟩) ?_ ?_
          rotate_left
          ·simp only [Act.put, Ze, Zf, Zg, zl, zm]
           rfl
          refine zq (i := 48) (N := some 65) (v := undef) (a' := ?_) #[O,O,O,O,O,O,O,O,O,O,O,O,O,O,O,O,O,O,O,O,O,O,O,O,O,O,O,O,O,O,O,O,O,O,O,O,O,O,O,O,O,O,O,O,O,O,O,O,O,X,X,X,X,X,X,X,X,X,X,X,X,X,X,X] rfl rfl (zo HT_.out (by kernel_rfl)) (fun _ _ _ h => h) (Or.inr ⟨by rfl, rfl⟩) ?_ ?_
          rotate_left
          ·simp only [Act.put, Ze, Zf, Zg, zl, zm]
           rfl
          refine zq (i := 49) (N := some 66) (v := ?_) (a' := ?_) #[O,O,O,O,O,O,O,O,O,O,O,O,O,O,O,O,O,O,O,O,O,O,O,O,O,O,O,O,O,O,O,O,O,O,O,O,O,O,O,O,O,O,O,O,O,O,O,O,O,O,X,X,X,X,X,X,X,X,X,X,X,X,X,X] rfl rfl (zo HT_.out (by kernel_rfl)) (fun _ _ _ h => h) (Or.inl ⟨by rfl, ?_⟩) ?_ ?_
          rotate_left
          ·intro w'
           go_simp
           with_reducible rfl
          rotate_left
          ·simp only [Act.put, Ze, Zf, Zg, zl, zm]
           rfl
          refine zq (i := 50) (N := some 67) (v := ?_) (a' := ?_) #[O,O,O,O,O,O,O,O,O,O,O,O,O,O,O,O,O,O,O,O,O,O,O,O,O,O,O,O,O,O,O,O,O,O,O,O,O,O,O,O,O,O,O,O,O,O,O,O,O,O,O,X,X,X,X,X,X,X,X,X,X,X,X,X] rfl rfl (zo HT_.out (by kernel_rfl)) (fun _ _ _ h => h) (Or.inl ⟨by rfl, ?_⟩) ?_ ?_
          rotate_left
          ·intro w'
           go_simp
           with_reducible rfl
          rotate_left
          ·simp only [Act.put, Ze, Zf, Zg, zl, zm]
           rfl
          refine zq (i := 51) (N := some 68) (v := undef) (a' := ?_) #[O,O,O,O,O,O,O,O,O,O,O,O,O,O,O,O,O,O,O,O,O,O,O,O,O,O,O,O,O,O,O,O,O,O,O,O,O,O,O,O,O,O,O,O,O,O,O,O,O,O,O,O,X,X,X,X,X,X,X,X,X,X,X,X] rfl rfl (zo HT_.out (by kernel_rfl)) (fun _ _ _ h => h) (Or.inr ⟨by rfl, rfl⟩) ?_ ?_
          rotate_left
          ·simp only [Act.put, Ze, Zf, Zg, zl, zm]
           rfl
          refine zq (i := 52) (N := some 69) (v := undef) (a' := ?_) #[O,O,O,O,O,O,O,O,O,O,O,O,O,O,O,O,O,O,O,O,O,O,O,O,O,O,O,O,O,O,O,O,O,O,O,O,O,O,O,O,O,O,O,O,O,O,O,O,O,O,O,O,O,X,X,X,X,X,X,X,X,X,X,X] rfl rfl (zo HT_.out (by kernel_rfl)) (fun _ _ _ h => h) (Or.inr ⟨by rfl, rfl⟩) ?_ ?_
          rotate_left
          ·simp only [Act.put, Ze, Zf, Zg, zl, zm]
           rfl
          refine zq (i := 53) (N := some 70) (v := undef) (a' := ?_) #[O,O,O,O,O,O,O,O,O,O,O,O,O,O,O,O,O,O,O,O,O,O,O,O,O,O,O,O,O,O,O,O,O,O,O,O,O,O,O,O,O,O,O,O,O,O,O,O,O,O,O,O,O,O,X,X,X,X,X,X,X,X,X,X] rfl rfl (zo HT_.out (by kernel_rfl)) (fun _ _ _ h => h) (Or.inr ⟨by rfl, rfl⟩) ?_ ?_
          rotate_left
          ·simp only [Act.put, Ze, Zf, Zg, zl, zm]
           rfl
          refine zq (i := 54) (N := some 71) (v := undef) (a' := ?_) #[O,O,O,O,O,O,O,O,O,O,O,O,O,O,O,O,O,O,O,O,O,O,O,O,O,O,O,O,O,O,O,O,O,O,O,O,O,O,O,O,O,O,O,O,O,O,O,O,O,O,O,O,O,O,O,X,X,X,X,X,X,X,X,X] rfl rfl (zo HT_.out (by kernel_rfl)) (fun _ _ _ h => h) (Or.inr ⟨by rfl, rfl⟩) ?_ ?_
          rotate_left
          ·simp only [Act.put, Ze, Zf, Zg, zl, zm]
           rfl
          refine zq (i := 55) (N := some 72) (v := undef) (a' := ?_) #[O,O,O,O,O,O,O,O,O,O,O,O,O,O,O,O,O,O,O,O,O,O,O,O,O,O,O,O,O,O,O,O,O,O,O,O,O,O,O,O,O,O,O,O,O,O,O,O,O,O,O,O,O,O,O,O,X,X,X,X,X,X,X,X] rfl rfl (zo HT_.out (by kernel_rfl)) (fun _ _ _ h => h) (Or.inr ⟨by rfl, rfl⟩) ?_ ?_
          rotate_left
          ·simp only [Act.put, Ze, Zf, Zg, zl, zm]
           rfl
          refine zq (i := 56) (N := some 73) (v := undef) (a' := ?_) #[O,O,O,O,O,O,O,O,O,O,O,O,O,O,O,O,O,O,O,O,O,O,O,O,O,O,O,O,O,O,O,O,O,O,O,O,O,O,O,O,O,O,O,O,O,O,O,O,O,O,O,O,O,O,O,O,O,X,X,X,X,X,X,X] rfl rfl (zo HT_.out (by kernel_rfl)) (fun _ _ _ h => h) (Or.inr ⟨by rfl, rfl⟩) ?_ ?_
          rotate_left
          ·simp only [Act.put, Ze, Zf, Zg, zl, zm]
           rfl
          refine zq (i := 57) (N := some 74) (v := undef) (a' := ?_) #[O,O,O,O,O,O,O,O,O,O,O,O,O,O,O,O,O,O,O,O,O,O,O,O,O,O,O,O,O,O,O,O,O,O,O,O,O,O,O,O,O,O,O,O,O,O,O,O,O,O,O,O,O,O,O,O,O,O,X,X,X,X,X,X] rfl rfl (zo HT_.out (by kernel_rfl)) (fun _ _ _ h => h) (Or.inr ⟨by rfl, rfl⟩) ?_ ?_
          rotate_left
          ·simp only [Act.put, Ze, Zf, Zg, zl, zm]
           rfl
          refine zq (i := 58) (N := some 75) (v := undef) (a' := ?_) #[O,O,O,O,O,O,O,O,O,O,O,O,O,O,O,O,O,O,O,O,O,O,O,O,O,O,O,O,O,O,O,O,O,O,O,O,O,O,O,O,O,O,O,O,O,O,O,O,O,O,O,O,O,O,O,O,O,O,O,X,X,X,X,X] rfl rfl (zo HT_.out (by kernel_rfl)) (fun _ _ _ h => h) (Or.inr ⟨by rfl, rfl⟩) ?_ ?_
          rotate_left
          ·simp only [Act.put, Ze, Zf, Zg, zl, zm]
           rfl
          refine zq (i := 59) (N := some 76) (v := undef) (a' := ?_) #[O,O,O,O,O,O,O,O,O,O,O,O,O,O,O,O,O,O,O,O,O,O,O,O,O,O,O,O,O,O,O,O,O,O,O,O,O,O,O,O,O,O,O,O,O,O,O,O,O,O,O,O,O,O,O,O,O,O,O,O,X,X,X,X] rfl rfl (zo HT_.out (by kernel_rfl)) (fun _ _ _ h => h) (Or.inr ⟨by rfl, rfl⟩) ?_ ?_
          rotate_left
          ·simp only [Act.put, Ze, Zf, Zg, zl, zm]
           rfl
          refine zq (i := 60) (N := some 77) (v := undef) (a' := ?_) #[O,O,O,O,O,O,O,O,O,O,O,O,O,O,O,O,O,O,O,O,O,O,O,O,O,O,O,O,O,O,O,O,O,O,O,O,O,O,O,O,O,O,O,O,O,O,O,O,O,O,O,O,O,O,O,O,O,O,O,O,O,X,X,X] rfl rfl (zo HT_.out (by kernel_rfl)) (fun _ _ _ h => h) (Or.inr ⟨by rfl, rfl⟩) ?_ ?_
          rotate_left
          ·simp only [Act.put, Ze, Zf, Zg, zl, zm]
           rfl
          refine zq (i := 61) (N := some 78) (v := undef) (a' := ?_) #[O,O,O,O,O,O,O,O,O,O,O,O,O,O,O,O,O,O,O,O,O,O,O,O,O,O,O,O,O,O,O,O,O,O,O,O,O,O,O,O,O,O,O,O,O,O,O,O,O,O,O,O,O,O,O,O,O,O,O,O,O,O,X,X] rfl rfl (zo HT_.out (by kernel_rfl)) (fun _ _ _ h => h) (Or.inr ⟨by rfl, rfl⟩) ?_ ?_
          rotate_left
          ·simp only [Act.put, Ze, Zf, Zg, zl, zm]
           rfl
          refine zq (i := 62) (N := some 79) (v := undef) (a' := ?_) #[O,O,O,O,O,O,O,O,O,O,O,O,O,O,O,O,O,O,O,O,O,O,O,O,O,O,O,O,O,O,O,O,O,O,O,O,O,O,O,O,O,O,O,O,O,O,O,O,O,O,O,O,O,O,O,O,O,O,O,O,O,O,O,X] rfl rfl (zo HT_.out (by kernel_rfl)) (fun _ _ _ h => h) (Or.inr ⟨by rfl, rfl⟩) ?_ ?_
          rotate_left
          ·simp only [Act.put, Ze, Zf, Zg, zl, zm]
           rfl
          refine zq (i := 63) (N := some 80) (v := ?_) (a' := ?_) #[O,O,O,O,O,O,O,O,O,O,O,O,O,O,O,O,O,O,O,O,O,O,O,O,O,O,O,O,O,O,O,O,O,O,O,O,O,O,O,O,O,O,O,O,O,O,O,O,O,O,O,O,O,O,O,O,O,O,O,O,O,O,O,O] rfl rfl (zo HT_.out (by kernel_rfl)) (fun _ _ _ h => h) (Or.inl ⟨by rfl, ?_⟩) ?_ ?_
          rotate_left
          ·intro w'
           go_simp
           with_reducible rfl
          rotate_left
          ·simp only [Act.put, Ze, Zf, Zg, zl, zm]
           rfl
          refine yZ (yE HT_.out (by kernel_rfl)) ?_
          try go_wp2
          go_ret
          exact ⟨by first | rfl | (simp [zu, zv] <;> rfl) | (simp [*, zu, zv] <;> rfl), by repeat (first | (with_reducible first | exact HB.out | apply zf | apply zd | apply ze) | exact HB.out)⟩
        ·rw [if_neg c8] at H
         have c8b0 : (((zn l0 x5_1).f1).toList == ((zn l1 x5_1).f1).toList) = false := beq_eq_false_iff_ne.mpr c8
         have c8b1 : (((zn l0 x5_1).f1).toList != ((zn l1 x5_1).f1).toList) = true := bne_iff_ne.mpr c8
         obtain rfl := Option.some.inj H
         try go_wp2
         have n0_ := zc.mk (ze HB.out)
         clear HB
         have HB := n0_
         clear n0_
         have p721 : 0 ≤ (x5_1 : Int) := of_decide_eq_true (by first | (with_reducible assumption) | assumption)
         have q721 : x5_1 < (l0.length : Int) := of_decide_eq_true (by first | (with_reducible assumption) | assumption)
         obtain ⟨ad721, A721_2, c721_2, e721, hx721_0, hx721_1, hx721_2, hx721_3, hx721_4, hl721_2, hi721_2⟩ := yc HR0.out x5_1 p721 q721
         have hw721_4 := hx721_4
         have hw721_3 := hx721_3
         have hw721_2 := hx721_2
         have hw721_1 := hx721_1
         have hw721_0 := hx721_0
         cases e721
         replace hx721_0 := (HB.out.cell (Zj w _ hx721_0)).trans hx721_0
         replace hx721_1 := (HB.out.cell (Zj w _ hx721_1)).trans hx721_1
         replace hx721_2 := (HB.out.cell (Zj w _ hx721_2)).trans hx721_2
         replace hx721_3 := (HB.out.cell (Zj w _ hx721_3)).trans hx721_3
         replace hx721_4 := (HB.out.cell (Zj w _ hx721_4)).trans hx721_4
         have HR721_2 := zc.mk hi721_2
         have HC721_2 := zc.mk hl721_2
         clear hi721_2 hl721_2
         replace p721 := eq_true p721
         replace q721 := eq_true q721
         have p722 : 0 ≤ (x5_1 : Int) := of_decide_eq_true (by first | (with_reducible assumption) | assumption)
         have q722 : x5_1 < (l1.length : Int) := of_decide_eq_true (by first | (with_reducible assumption) | assumption)
         obtain ⟨ad722, A722_2, c722_2, e722, hx722_0, hx722_1, hx722_2, hx722_3, hx722_4, hl722_2, hi722_2⟩ := yc HR1.out x5_1 p722 q722
         have hw722_4 := hx722_4
         have hw722_3 := hx722_3
         have hw722_2 := hx722_2
         have hw722_1 := hx722_1
         have hw722_0 := hx722_0
         cases e722
         replace hx722_0 := (HB.out.cell (Zj w _ hx722_0)).trans hx722_0
         replace hx722_1 := (HB.out.cell (Zj w _ hx722_1)).trans hx722_1
         replace hx722_2 := (HB.out.cell (Zj w _ hx722_2)).trans hx722_2
         replace hx722_3 := (HB.out.cell (Zj w _ hx722_3)).trans hx722_3
         replace hx722_4 := (HB.out.cell (Zj w _ hx722_4)).trans hx722_4
         have HR722_2 := zc.mk hi722_2
         have HC722_2 := zc.mk hl722_2
         clear hi722_2 hl722_2
         replace p722 := eq_true p722
         replace q722 := eq_true q722
         have p723 : 0 ≤ (x5_1 : Int) := of_decide_eq_true (by first | (with_reducible assumption) | assumption)
         have q723 : x5_1 < (l0.length : Int) := of_decide_eq_true (by first | (with_reducible assumption) | assumption)
         obtain ⟨ad723, A723_2, c723_2, e723, hx723_0, hx723_1, hx723_2, hx723_3, hx723_4, hl723_2, hi723_2⟩ := yc HR0.out x5_1 p723 q723
         have hw723_4 := hx723_4
         have hw723_3 := hx723_3
         have hw723_2 := hx723_2
         have hw723_1 := hx723_1
         have hw723_0 := hx723_0
         obtain rfl : ad721 = ad723 := (by injection e723)
         replace hx723_0 := (HB.out.cell (Zj w _ hx723_0)).trans hx723_0
         replace hx723_1 := (HB.out.cell (Zj w _ hx723_1)).trans hx723_1
         replace hx723_2 := (HB.out.cell (Zj w _ hx723_2)).trans hx723_2
         replace hx723_3 := (HB.out.cell (Zj w _ hx723_3)).trans hx723_3
         replace hx723_4 := (HB.out.cell (Zj w _ hx723_4)).trans hx723_4
         have HR723_2 := zc.mk hi723_2
         have HC723_2 := zc.mk hl723_2
         clear hi723_2 hl723_2
         replace p723 := eq_true p723
         replace q723 := eq_true q723
         have ea_ := Option.some.inj (hx721_2.symm.trans hx723_2)
         injection ea_ with ea_ en_ ec_
         subst ea_
         subst ec_
         clear en_
         have p724 : 0 ≤ (x5_1 : Int) := of_decide_eq_true (by first | (with_reducible assumption) | assumption)
         have q724 : x5_1 < (l1.length : Int) := of_decide_eq_true (by first | (with_reducible assumption) | assumption)
         obtain ⟨ad724, A724_2, c724_2, e724, hx724_0, hx724_1, hx724_2, hx724_3, hx724_4, hl724_2, hi724_2⟩ := yc HR1.out x5_1 p724 q724
         have hw724_4 := hx724_4
         have hw724_3 := hx724_3
         have hw724_2 := hx724_2
         have hw724_1 := hx724_1
         have hw724_0 := hx724_0
         obtain rfl : ad722 = ad724 := (by injection e724)
         replace hx724_0 := (HB.out.cell (Zj w _ hx724_0)).trans hx724_0
         replace hx724_1 := (HB.out.cell (Zj w _ hx724_1)).trans hx724_1
         replace hx724_2 := (HB.out.cell (Zj w _ hx724_2)).trans hx724_2
         replace hx724_3 := (HB.out.cell (Zj w _ hx724_3)).trans hx724_3
         replace hx724_4 := (HB.out.cell (Zj w _ hx724_4)).trans hx724_4
         have HR724_2 := zc.mk hi724_2
         have HC724_2 := zc.mk hl724_2
         clear hi724_2 hl724_2
         replace p724 := eq_true p724
         replace q724 := eq_true q724
         have ea_ := Option.some.inj (hx722_2.symm.trans hx724_2)
         injection ea_ with ea_ en_ ec_
         subst ea_
         subst ec_
         clear en_
         refine yK (n := 64) (S := fun w' => w'.cell? (ad721.add ((x5_1).toNat * 5)) = some (.int .i64 ((zn l0 x5_1).f0)) ∧ w'.cell? ⟨(ad721.add ((x5_1).toNat * 5)).block, (ad721.add ((x5_1).toNat * 5)).off + 1, none⟩ = some (.string ((zn l0 x5_1).f1)) ∧ w'.cell? ⟨(ad721.add ((x5_1).toNat * 5)).block, (ad721.add ((x5_1).toNat * 5)).off + 2, none⟩ = some (.slice A721_2 ((zn l0 x5_1).f2).length c721_2) ∧ w'.cell? ⟨(ad721.add ((x5_1).toNat * 5)).block, (ad721.add ((x5_1).toNat * 5)).off + 3, none⟩ = some (.int .i64 ((zn l0 x5_1).f3)) ∧ w'.cell? ⟨(ad721.add ((x5_1).toNat * 5)).block, (ad721.add ((x5_1).toNat * 5)).off + 4, none⟩ = some (.int .i64 ((zn l0 x5_1).f4)) ∧ w'.cell? (ad722.add ((x5_1).toNat * 5)) = some (.int .i64 ((zn l1 x5_1).f0)) ∧ w'.cell? ⟨(ad722.add ((x5_1).toNat * 5)).block, (ad722.add ((x5_1).toNat * 5)).off + 1, none⟩ = some (.string ((zn l1 x5_1).f1)) ∧ w'.cell? ⟨(ad722.add ((x5_1).toNat * 5)).block, (ad722.add ((x5_1).toNat * 5)).off + 2, none⟩ = some (.slice A722_2 ((zn l1 x5_1).f2).length c722_2) ∧ w'.cell? ⟨(ad722.add ((x5_1).toNat * 5)).block, (ad722.add ((x5_1).toNat * 5)).off + 3, none⟩ = some (.int .i64 ((zn l1 x5_1).f3)) ∧ w'.cell? ⟨(ad722.add ((x5_1).toNat * 5)).block, (ad722.add ((x5_1).toNat * 5)).off + 4, none⟩ = some (.int .i64 ((zn l1 x5_1).f4)) ∧ w'.cell? (ad721.add ((x5_1).toNat * 5)) = some (.int .i64 ((zn l0 x5_1).f0)) ∧ w'.cell? ⟨(ad721.add ((x5_1).toNat * 5)).block, (ad721.add ((x5_1).toNat * 5)).off + 1, none⟩ = some (.string ((zn l0 x5_1).f1)) ∧ w'.cell? ⟨(ad721.add ((x5_1).toNat * 5)).block, (ad721.add ((x5_1).toNat * 5)).off + 2, none⟩ = some (.slice A721_2 ((zn l0 x5_1).f2).length c721_2) ∧ w'.cell? ⟨(ad721.add ((x5_1).toNat * 5)).block, (ad721.add ((x5_1).toNat * 5)).off + 3, none⟩ = some (.int .i64 ((zn l0 x5_1).f3)) ∧ w'.cell? ⟨(ad721.add ((x5_1).toNat * 5)).block, (ad721.add ((x5_1).toNat * 5)).off + 4, none⟩ = some (.int .i64 ((zn l0 x5_1).f4)) ∧ w'.cell? (ad722.add ((x5_1).toNat * 5)) = some (.int .i64 ((zn l1 x5_1).f0)) ∧ w'.cell? ⟨(ad722.add ((x5_1).toNat * 5)).block, (ad722.add ((x5_1).toNat * 5)).off + 1, none⟩ = some (.string ((zn l1 x5_1).f1)) ∧ w'.cell? ⟨(ad722.add ((x5_1).toNat * 5)).block, (ad722.add ((x5_1).toNat * 5)).off + 2, none⟩ = some (.slice A722_2 ((zn l1 x5_1).f2).length c722_2) ∧ w'.cell? ⟨(ad722.add ((x5_1).toNat * 5)).block, (ad722.add ((x5_1).toNat * 5)).off + 3, none⟩ = some (.int .i64 ((zn l1 x5_1).f3)) ∧ w'.cell? ⟨(ad722.add ((x5_1).toNat * 5)).block, (ad722.add ((x5_1).toNat * 5)).off + 4, none⟩ = some (.int .i64 ((zn l1 x5_1).f4))) (ds := []) #[X,X,X,X,X,X,X,X,X,X,X,X,X,X,X,X,X,X,X,X,X,X,X,X,X,X,X,X,X,X,X,X,X,X,X,X,X,X,X,X,X,X,X,X,X,X,X,X,X,X,X,X,X,X,X,X,X,X,X,X,X,X,X,X] (by kernel_rfl) rfl rfl ⟨((HB.out.cell (Zj w _ hw721_0)).trans hw721_0), ((HB.out.cell (Zj w _ hw721_1)).trans hw721_1), ((HB.out.cell (Zj w _ hw721_2)).trans hw721_2), ((HB.out.cell (Zj w _ hw721_3)).trans hw721_3), ((HB.out.cell (Zj w _ hw721_4)).trans hw721_4), ((HB.out.cell (Zj w _ hw722_0)).trans hw722_0), ((HB.out.cell (Zj w _ hw722_1)).trans hw722_1), ((HB.out.cell (Zj w _ hw722_2)).trans hw722_2), ((HB.out.cell (Zj w _ hw722_3)).trans hw722_3), ((HB.out.cell (Zj w _ hw722_4)).trans hw722_4), ((HB.out.cell (Zj w _ hw723_0)).trans hw723_0), ((HB.out.cell (Zj w _ hw723_1)).trans hw723_1), ((HB.out.cell (Zj w _ hw723_2)).trans hw723_2), ((HB.out.cell (Zj w _ hw723_3)).trans hw723_3), ((HB.out.cell (Zj w _ hw723_4)).trans hw723_4), ((HB.out.cell (Zj w _ hw724_0)).trans hw724_0), ((HB.out.cell (Zj w _ hw724_1)).trans hw724_1), ((HB.out.cell (Zj w _ hw724_2)).trans hw724_2), ((HB.out.cell (Zj w _ hw724_3)).trans hw724_3), ((HB.out.cell (Zj w _ hw724_4)).trans hw724_4)⟩ (fun hHeld => ?_); refine ym zz.tab6 zz.bits6 (fun HT_ HW_ => ?_)
         generalize wr.drew = w17 at HB HR721_2 HR722_2 HR723_2 HR724_2 hx721_0 hx721_1 hx721_2 hx721_3 hx721_4 hx722_0 hx722_1 hx722_2 hx722_3 hx722_4 hx723_0 hx723_1 hx723_2 hx723_3 hx723_4 hx724_0 hx724_1 hx724_2 hx724_3 hx724_4 hHeld ⊢
         refine zq (i := 0) (N := some 17) (v := ?_) (a' := ?_) #[O,X,X,X,X,X,X,X,X,X,X,X,X,X,X,X,X,X,X,X,X,X,X,X,X,X,X,X,X,X,X,X,X,X,X,X,X,X,X,X,X,X,X,X,X,X,X,X,X,X,X,X,X,X,X,X,X,X,X,X,X,X,X,X] rfl rfl (zo HT_.out (by kernel_rfl)) (fun _ _ _ h => h) (Or.inl ⟨by rfl, ?_⟩) ?_ ?_
         rotate_left
         ·intro w'
          go_simp
          with_reducible rfl
         rotate_left
         ·simp only [Act.put, Ze, Zf, Zg, zl, zm]
          rfl
         refine zq (i := 1) (N := some 18) (v := ?_) (a' := ?_) #[O,O,X,X,X,X,X,X,X,X,X,X,X,X,X,X,X,X,X,X,X,X,X,X,X,X,X,X,X,X,X,X,X,X,X,X,X,X,X,X,X,X,X,X,X,X,X,X,X,X,X,X,X,X,X,X,X,X,X,X,X,X,X,X] rfl rfl (zo HT_.out (by kernel_rfl)) (fun _ _ _ h => h) (Or.inl ⟨by rfl, ?_⟩) ?_ ?_
         rotate_left
         ·intro w'
          go_simp
          with_reducible rfl
         rotate_left
         ·simp only [Act.put, Ze, Zf, Zg, zl, zm]
          rfl
         refine zq (i := 2) (N := some 19) (v := ?_) (a' := ?_) #[O,O,O,X,X,X,X,X,X,X,X,X,X,X,X,X,X,X,X,X,X,X,X,X,X,X,X,X,X,X,X,X,X,X,X,X,X,X,X,X,X,X,X,X,X,X,X,X,X,X,X,X,X,X,X,X,X,X,X,X,X,X,X,X] rfl rfl (zo HT_.out (by kernel_rfl)) (fun _ _ _ h => h) (Or.inl ⟨by rfl, ?_⟩) ?_ ?_
         rotate_left
         ·intro w'
          go_simp
          with_reducible rfl
         rotate_left
         ·simp only [Act.put, Ze, Zf, Zg, zl, zm]
          rfl
         refine zq (i := 3) (N := some 20) (v := ?_) (a' := ?_) #[O,O,O,O,X,X,X,X,X,X,X,X,X,X,X,X,X,X,X,X,X,X,X,X,X,X,X,X,X,X,X,X,X,X,X,X,X,X,X,X,X,X,X,X,X,X,X,X,X,X,X,X,X,X,X,X,X,X,X,X,X,X,X,X] rfl rfl (zo HT_.out (by kernel_rfl)) (fun _ _ _ h => h) (Or.inl ⟨by rfl, ?_⟩) ?_ ?_
         rotate_left
         ·intro w'
          go_simp
          with_reducible rfl
         rotate_left
         ·simp only [Act.put, Ze, Zf, Zg, zl, zm]
          rfl
         refine zq (i := 5) (N := some 22) (v := ?_) (a' := ?_) #[O,O,O,O,X,O,X,X,X,X,X,X,X,X,X,X,X,X,X,X,X,X,X,X,X,X,X,X,X,X,X,X,X,X,X,X,X,X,X,X,X,X,X,X,X,X,X,X,X,X,X,X,X,X,X,X,X,X,X,X,X,X,X,X] rfl rfl (zo HT_.out (by kernel_rfl)) (fun _ _ _ h => h) (Or.inl ⟨by rfl, ?_⟩) ?_ ?_
         rotate_left
         ·intro w'
          go_simp
          with_reducible rfl
         rotate_left
         ·simp only [Act.put, Ze, Zf, Zg, zl, zm]
          rfl
         refine zq (i := 6) (N := some 23) (v := ?_) (a' := ?_) #[O,O,O,O,X,O,O,X,X,X,X,X,X,X,X,X,X,X,X,X,X,X,X,X,X,X,X,X,X,X,X,X,X,X,X,X,X,X,X,X,X,X,X,X,X,X,X,X,X,X,X,X,X,X,X,X,X,X,X,X,X,X,X,X] rfl rfl (zo HT_.out (by kernel_rfl)) (fun _ _ _ h => h) (Or.inl ⟨by rfl, ?_⟩) ?_ ?_
         rotate_left
         ·intro w'
          go_simp
          with_reducible rfl
         rotate_left
         ·simp only [Act.put, Ze, Zf, Zg, zl, zm]
          rfl
         refine zq (i := 7) (N := some 24) (v := ?_) (a' := ?_) #[O,O,O,O,X,O,O,O,X,X,X,X,X,X,X,X,X,X,X,X,X,X,X,X,X,X,X,X,X,X,X,X,X,X,X,X,X,X,X,X,X,X,X,X,X,X,X,X,X,X,X,X,X,X,X,X,X,X,X,X,X,X,X,X] rfl rfl (zo HT_.out (by kernel_rfl)) (fun _ _ _ h => h) (Or.inl ⟨by rfl, ?_⟩) ?_ ?_
         rotate_left
         ·intro w'
          go_simp
          with_reducible rfl
         rotate_left
         ·simp only [Act.put, Ze, Zf, Zg, zl, zm]
          rfl
         refine zq (i := 8) (N := some 25) (v := ?_) (a' := ?_) #[O,O,O,O,X,O,O,O,O,X,X,X,X,X,X,X,X,X,X,X,X,X,X,X,X,X,X,X,X,X,X,X,X,X,X,X,X,X,X,X,X,X,X,X,X,X,X,X,X,X,X,X,X,X,X,X,X,X,X,X,X,X,X,X] rfl rfl (zo HT_.out (by kernel_rfl)) (fun _ _ _ h => h) (Or.inl ⟨by rfl, ?_⟩) ?_ ?_
         rotate_left
         ·intro w'
          go_simp
          with_reducible rfl
         rotate_left
         ·simp only [Act.put, Ze, Zf, Zg, zl, zm]
          rfl
         refine take_ (i := 4) (N := some 21) (v := ?_) (a' := ?_) #[O,O,O,O,O,O,O,O,O,X,X,X,X,X,X,X,X,X,X,X,X,X,X,X,X,X,X,X,X,X,X,X,X,X,X,X,X,X,X,X,X,X,X,X,X,X,X,X,X,X,X,X,X,X,X,X,X,X,X,X,X,X,X,X] rfl rfl (zQ HT_.out HW_.out (by kernel_rfl)) (fun _ _ _ h => h) (Or.inl ⟨by rfl, ?_⟩) hHeld ?_ ?_
         rotate_left
         ·rintro w' ⟨s0, s1, s2, s3, s4, s5, s6, s7, s8, s9, s10, s11, s12, s13, s14, s15, s16, s17, s18, s19⟩
          go_simp
          with_reducible rfl
         rotate_left
         ·simp only [Act.put, Ze, Zf, Zg, zl, zm]
          rfl
         refine take_ (i := 9) (N := some 26) (v := ?_) (a' := ?_) #[O,O,O,O,O,O,O,O,O,O,X,X,X,X,X,X,X,X,X,X,X,X,X,X,X,X,X,X,X,X,X,X,X,X,X,X,X,X,X,X,X,X,X,X,X,X,X,X,X,X,X,X,X,X,X,X,X,X,X,X,X,X,X,X] rfl rfl (zQ HT_.out HW_.out (by kernel_rfl)) (fun _ _ _ h => h) (Or.inl ⟨by rfl, ?_⟩) hHeld ?_ ?_
         rotate_left
         ·rintro w' ⟨s0, s1, s2, s3, s4, s5, s6, s7, s8, s9, s10, s11, s12, s13, s14, s15, s16, s17, s18, s19⟩
          go_simp
          with_reducible rfl
         rotate_left
         ·simp only [Act.put, Ze, Zf, Zg, zl, zm]
          rfl
         refine zq (i := 10) (N := some 27) (v := ?_) (a' := ?_) #[O,O,O,O,O,O,O,O,O,O,O,X,X,X,X,X,X,X,X,X,X,X,X,X,X,X,X,X,X,X,X,X,X,X,X,X,X,X,X,X,X,X,X,X,X,X,X,X,X,X,X,X,X,X,X,X,X,X,X,X,X,X,X,X] rfl rfl (zo HT_.out (by kernel_rfl)) (fun _ _ _ h => h) (Or.inl ⟨by rfl, ?_⟩) ?_ ?_
         rotate_left
         ·intro w'
          go_simp
          with_reducible rfl
         rotate_left
         ·simp only [Act.put, Ze, Zf, Zg, zl, zm]
          rfl
         refine zq (i := 11) (N := some 28) (v := ?_) (a' := ?_) #[O,O,O,O,O,O,O,O,O,O,O,O,X,X,X,X,X,X,X,X,X,X,X,X,X,X,X,X,X,X,X,X,X,X,X,X,X,X,X,X,X,X,X,X,X,X,X,X,X,X,X,X,X,X,X,X,X,X,X,X,X,X,X,X] rfl rfl (zo HT_.out (by kernel_rfl)) (fun _ _ _ h => h) (Or.inl ⟨by rfl, ?_⟩) ?_ ?_
         rotate_left
         ·intro w'
          go_simp
          with_reducible rfl
         rotate_left
         ·simp only [Act.put, Ze, Zf, Zg, zl, zm]
          rfl
         refine zq (i := 12) (N := some 29) (v := ?_) (a' := ?_) #[O,O,O,O,O,O,O,O,O,O,O,O,O,X,X,X,X,X,X,X,X,X,X,X,X,X,X,X,X,X,X,X,X,X,X,X,X,X,X,X,X,X,X,X,X,X,X,X,X,X,X,X,X,X,X,X,X,X,X,X,X,X,X,X] rfl rfl (zo HT_.out (by kernel_rfl)) (fun _ _ _ h => h) (Or.inl ⟨by rfl, ?_⟩) ?_ ?_
         rotate_left
         ·intro w'
          go_simp
          with_reducible rfl
         rotate_left
         ·simp only [Act.put, Ze, Zf, Zg, zl, zm]
          rfl
         refine zq (i := 13) (N := some 30) (v := ?_) (a' := ?_) #[O,O,O,O,O,O,O,O,O,O,O,O,O,O,X,X,X,X,X,X,X,X,X,X,X,X,X,X,X,X,X,X,X,X,X,X,X,X,X,X,X,X,X,X,X,X,X,X,X,X,X,X,X,X,X,X,X,X,X,X,X,X,X,X] rfl rfl (zo HT_.out (by kernel_rfl)) (fun _ _ _ h => h) (Or.inl ⟨by rfl, ?_⟩) ?_ ?_
         rotate_left
         ·intro w'
          go_simp
          with_reducible rfl
         rotate_left
         ·simp only [Act.put, Ze, Zf, Zg, zl, zm]
          rfl
         refine zq (i := 14) (N := some 31) (v := ?_) (a' := ?_) #[O,O,O,O,O,O,O,O,O,O,O,O,O,O,O,X,X,X,X,X,X,X,X,X,X,X,X,X,X,X,X,X,X,X,X,X,X,X,X,X,X,X,X,X,X,X,X,X,X,X,X,X,X,X,X,X,X,X,X,X,X,X,X,X] rfl rfl (zo HT_.out (by kernel_rfl)) (fun _ _ _ h => h) (Or.inl ⟨by rfl, ?_⟩) ?_ ?_
         rotate_left
         ·intro w'
          go_simp
          with_reducible rfl
         rotate_left
         ·simp only [Act.put, Ze, Zf, Zg, zl, zm]
          rfl
         refine zq (i := 15) (N := some 32) (v := ?_) (a' := ?_) #[O,O,O,O,O,O,O,O,O,O,O,O,O,O,O,O,X,X,X,X,X,X,X,X,X,X,X,X,X,X,X,X,X,X,X,X,X,X,X,X,X,X,X,X,X,X,X,X,X,X,X,X,X,X,X,X,X,X,X,X,X,X,X,X] rfl rfl (zo HT_.out (by kernel_rfl)) (fun _ _ _ h => h) (Or.inl ⟨by rfl, ?_⟩) ?_ ?_
         rotate_left
         ·intro w'
          go_simp
          with_reducible rfl
         rotate_left
         ·simp only [Act.put, Ze, Zf, Zg, zl, zm]
          rfl
         refine zq (i := 17) (N := some 34) (v := ?_) (a' := ?_) #[O,O,O,O,O,O,O,O,O,O,O,O,O,O,O,O,X,O,X,X,X,X,X,X,X,X,X,X,X,X,X,X,X,X,X,X,X,X,X,X,X,X,X,X,X,X,X,X,X,X,X,X,X,X,X,X,X,X,X,X,X,X,X,X] rfl rfl (zo HT_.out (by kernel_rfl)) (fun _ _ _ h => h) (Or.inl ⟨by rfl, ?_⟩) ?_ ?_
         rotate_left
         ·intro w'
          go_simp
          with_reducible rfl
         rotate_left
         ·simp only [Act.put, Ze, Zf, Zg, zl, zm]
          rfl
         refine zq (i := 18) (N := some 35) (v := ?_) (a' := ?_) #[O,O,O,O,O,O,O,O,O,O,O,O,O,O,O,O,X,O,O,X,X,X,X,X,X,X,X,X,X,X,X,X,X,X,X,X,X,X,X,X,X,X,X,X,X,X,X,X,X,X,X,X,X,X,X,X,X,X,X,X,X,X,X,X] rfl rfl (zo HT_.out (by kernel_rfl)) (fun _ _ _ h => h) (Or.inl ⟨by rfl, ?_⟩) ?_ ?_
         rotate_left
         ·intro w'
          go_simp
          with_reducible rfl
         rotate_left
         ·simp only [Act.put, Ze, Zf, Zg, zl, zm]
          rfl
         refine zq (i := 19) (N := some 36) (v := ?_) (a' := ?_) #[O,O,O,O,O,O,O,O,O,O,O,O,O,O,O,O,X,O,O,O,X,X,X,X,X,X,X,X,X,X,X,X,X,X,X,X,X,X,X,X,X,X,X,X,X,X,X,X,X,X,X,X,X,X,X,X,X,X,X,X,X,X,X,X] rfl rfl (zo HT_.out (by kernel_rfl)) (fun _ _ _ h => h) (Or.inl ⟨by rfl, ?_⟩) ?_ ?_
         rotate_left
         ·intro w'
          go_simp
          with_reducible rfl
         rotate_left
         ·simp only [Act.put, Ze, Zf, Zg, zl, zm]
          rfl
         refine zq (i := 20) (N := some 37) (v := ?_) (a' := ?_) #[O,O,O,O,O,O,O,O,O,O,O,O,O,O,O,O,X,O,O,O,O,X,X,X,X,X,X,X,X,X,X,X,X,X,X,X,X,X,X,X,X,X,X,X,X,X,X,X,X,X,X,X,X,X,X,X,X,X,X,X,X,X,X,X] rfl rfl (zo HT_.out (by kernel_rfl)) (fun _ _ _ h => h) (Or.inl ⟨by rfl, ?_⟩) ?_ ?_
         rotate_left
         ·intro w'
          go_simp
          with_reducible rfl
         rotate_left
         ·simp only [Act.put, Ze, Zf, Zg, zl, zm]
          rfl
         refine take_ (i := 16) (N := some 33) (v := ?_) (a' := ?_) #[O,O,O,O,O,O,O,O,O,O,O,O,O,O,O,O,O,O,O,O,O,X,X,X,X,X,X,X,X,X,X,X,X,X,X,X,X,X,X,X,X,X,X,X,X,X,X,X,X,X,X,X,X,X,X,X,X,X,X,X,X,X,X,X] rfl rfl (zQ HT_.out HW_.out (by kernel_rfl)) (fun _ _ _ h => h) (Or.inl ⟨by rfl, ?_⟩) hHeld ?_ ?_
         rotate_left
         ·rintro w' ⟨s0, s1, s2, s3, s4, s5, s6, s7, s8, s9, s10, s11, s12, s13, s14, s15, s16, s17, s18, s19⟩
          go_simp
          with_reducible rfl
         rotate_left
         ·simp only [Act.put, Ze, Zf, Zg, zl, zm]
          rfl
         refine take_ (i := 21) (N := some 38) (v := ?_) (a' := ?_) #[O,O,O,O,O,O,O,O,O,O,O,O,O,O,O,O,O,O,O,O,O,O,X,X,X,X,X,X,X,X,X,X,X,X,X,X,X,X,X,X,X,X,X,X,X,X,X,X,X,X,X,X,X,X,X,X,X,X,X,X,X,X,X,X] rfl rfl (zQ HT_.out HW_.out (by kernel_rfl)) (fun _ _ _ h => h) (Or.inl ⟨by rfl, ?_⟩) hHeld ?_ ?_
         rotate_left
         ·rintro w' ⟨s0, s1, s2, s3, s4, s5, s6, s7, s8, s9, s10, s11, s12, s13, s14, s15, s16, s17, s18, s19⟩
          go_simp
          with_reducible rfl
         rotate_left
         ·simp only [Act.put, Ze, Zf, Zg, zl, zm]
          rfl
         refine zq (i := 22) (N := some 39) (v := ?_) (a' := ?_) #[O,O,O,O,O,O,O,O,O,O,O,O,O,O,O,O,O,O,O,O,O,O,O,X,X,X,X,X,X,X,X,X,X,X,X,X,X,X,X,X,X,X,X,X,X,X,X,X,X,X,X,X,X,X,X,X,X,X,X,X,X,X,X,X] rfl rfl (zo HT_.out (by kernel_rfl)) (fun _ _ _ h => h) (Or.inl ⟨by rfl, ?_⟩) ?_ ?_
         rotate_left
         ·intro w'
          go_simp
          with_reducible rfl
         rotate_left
         ·simp only [Act.put, Ze, Zf, Zg, zl, zm]
          rfl
         refine zq (i := 23) (N := some 40) (v := ?_) (a' := ?_) #[O,O,O,O,O,O,O,O,O,O,O,O,O,O,O,O,O,O,O,O,O,O,O,O,X,X,X,X,X,X,X,X,X,X,X,X,X,X,X,X,X,X,X,X,X,X,X,X,X,X,X,X,X,X,X,X,X,X,X,X,X,X,X,X] rfl rfl (zo HT_.out (by kernel_rfl)) (fun _ _ _ h => h) (Or.inl ⟨by rfl, ?_⟩) ?_ ?_
         rotate_left
         ·intro w'
          go_simp
          with_reducible rfl
         rotate_left
         ·simp only [Act.put, Ze, Zf, Zg, zl, zm]
          rfl
         refine zq (i := 24) (N := some 41) (v := ?_) (a' := ?_) #[O,O,O,O,O,O,O,O,O,O,O,O,O,O,O,O,O,O,O,O,O,O,O,O,O,X,X,X,X,X,X,X,X,X,X,X,X,X,X,X,X,X,X,X,X,X,X,X,X,X,X,X,X,X,X,X,X,X,X,X,X,X,X,X] rfl rfl (zo HT_.out (by kernel_rfl)) (fun _ _ _ h => h) (Or.inl ⟨by rfl, ?_⟩) ?_ ?_
         rotate_left
         ·intro w'
          go_simp
          with_reducible rfl
         rotate_left
         ·simp only [Act.put, Ze, Zf, Zg, zl, zm]
          rfl
         refine zq (i := 25) (N := some 42) (v := undef) (a' := ?_) #[O,O,O,O,O,O,O,O,O,O,O,O,O,O,O,O,O,O,O,O,O,O,O,O,O,O,X,X,X,X,X,X,X,X,X,X,X,X,X,X,X,X,X,X,X,X,X,X,X,X,X,X,X,X,X,X,X,X,X,X,X,X,X,X] rfl rfl (zo HT_.out (by kernel_rfl)) (fun _ _ _ h => h) (Or.inr ⟨by rfl, rfl⟩) ?_ ?_
         rotate_left
         ·simp only [Act.put, Ze, Zf, Zg, zl, zm]
          rfl
         refine zq (i := 26) (N := some 43) (v := undef) (a' := ?_) #[O,O,O,O,O,O,O,O,O,O,O,O,O,O,O,O,O,O,O,O,O,O,O,O,O,O,O,X,X,X,X,X,X,X,X,X,X,X,X,X,X,X,X,X,X,X,X,X,X,X,X,X,X,X,X,X,X,X,X,X,X,X,X,X] rfl rfl (zo HT_.out (by kernel_rfl)) (fun _ _ _ h => h) (Or.inr ⟨by rfl, rfl⟩) ?_ ?_
         rotate_left
         ·simp only [Act.put, Ze, Zf, Zg, zl, zm]
          rfl
         refine zq (i := 27) (N := some 44) (v := undef) (a' := ?_) #[O,O,O,O,O,O,O,O,O,O,O,O,O,O,O,O,O,O,O,O,O,O,O,O,O,O,O,O,X,X,X,X,X,X,X,X,X,X,X,X,X,X,X,X,X,X,X,X,X,X,X,X,X,X,X,X,X,X,X,X,X,X,X,X] rfl rfl (zo HT_.out (by kernel_rfl)) (fun _ _ _ h => h) (Or.inr ⟨by rfl, rfl⟩) ?_ ?_
         rotate_left
         ·simp only [Act.put, Ze, Zf, Zg, zl, zm]
          rfl
         refine zq (i := 28) (N := some 45) (v := undef) (a' := ?_) #[O,O,O,O,O,O,O,O,O,O,O,O,O,O,O,O,O,O,O,O,O,O,O,O,O,O,O,O,O,X,X,X,X,X,X,X,X,X,X,X,X,X,X,X,X,X,X,X,X,X,X,X,X,X,X,X,X,X,X,X,X,X,X,X] rfl rfl (zo HT_.out (by kernel_rfl)) (fun _ _ _ h => h) (Or.inr ⟨by rfl, rfl⟩) ?_ ?_
         rotate_left
         ·simp only [Act.put, Ze, Zf, Zg, zl, zm]
          rfl
         refine zq (i := 29) (N := some 46) (v := undef) (a' := ?_) #[O,O,O,O,O,O,O,O,O,O,O,O,O,O,O,O,O,O,O,O,O,O,O,O,O,O,O,O,O,O,X,X,X,X,X,X,X,X,X,X,X,X,X,X,X,X,X,X,X,X,X,X,X,X,X,X,X,X,X,X,X,X,X,X] rfl rfl (zo HT_.out (by kernel_rfl)) (fun _ _ _ h => h) (Or.inr ⟨by rfl, rfl⟩) ?_ ?_
         rotate_left
         ·simp only [Act.put, Ze, Zf, Zg, zl, zm]
          rfl
         refine zq (i := 30) (N := some 47) (v := undef) (a' := ?_) #[O,O,O,O,O,O,O,O,O,O,O,O,O,O,O,O,O,O,O,O,O,O,O,O,O,O,O,O,O,O,O,X,X,X,X,X,X,X,X,X,X,X,X,X,X,X,X,X,X,X,X,X,X,X,X,X,X,X,X,X,X,X,X,X] rfl rfl (zo HT_.out (by kernel_rfl)) (fun _ _ _ h => h) (Or.inr ⟨by rfl, rfl⟩) ?_ ?_
         rotate_left
         ·simp only [Act.put, Ze, Zf, Zg, zl, zm]
          rfl
         refine zq (i := 31) (N := some 48) (v := undef) (a' := ?_) #[O,O,O,O,O,O,O,O,O,O,O,O,O,O,O,O,O,O,O,O,O,O,O,O,O,O,O,O,O,O,O,O,X,X,X,X,X,X,X,X,X,X,X,X,X,X,X,X,X,X,X,X,X,X,X,X,X,X,X,X,X,X,X,X] rfl rfl (zo HT_.out (by kernel_rfl)) (fun _ _ _ h => h) (Or.inr ⟨by rfl, rfl⟩) ?_ ?_
         rotate_left
         ·simp only [Act.put, Ze, Zf, Zg, zl, zm]
          rfl
         refine zq (i := 32) (N := some 49) (v := undef) (a' := ?_) #[O,O,O,O,O,O,O,O,O,O,O,O,O,O,O,O,O,O,O,O,O,O,O,O,O,O,O,O,O,O,O,O,O,X,X,X,X,X,X,X,X,X,X,X,X,X,X,X,X,X,X,X,X,X,X,X,X,X,X,X,X,X,X,X] rfl rfl (zo HT_.out (by kernel_rfl)) (fun _ _ _ h => h) (Or.inr ⟨by rfl, rfl⟩) ?_ ?_
         rotate_left
         ·simp only [Act.put, Ze, Zf, Zg, zl, zm]
          rfl
         refine zq (i := 33) (N := some 50) (v := undef) (a' := ?_) #[O,O,O,O,O,O,O,O,O,O,O,O,O,O,O,O,O,O,O,O,O,O,O,O,O,O,O,O,O,O,O,O,O,O,X,X,X,X,X,X,X,X,X,X,X,X,X,X,X,X,X,X,X,X,X,X,X,X,X,X,X,X,X,X] rfl rfl (zo HT_.out (by kernel_rfl)) (fun _ _ _ h => h) (Or.inr ⟨by rfl, rfl⟩) ?_ ?_
         rotate_left
         ·simp only [Act.put, Ze, Zf, Zg, zl, zm]
          rfl
         refine zq (i := 34) (N := some 51) (v := undef) (a' := ?_) #[O,O,O,O,O,O,O,O,O,O,O,O,O,O,O,O,O,O,O,O,O,O,O,O,O,O,O,O,O,O,O,O,O,O,O,X,X,X,X,X,X,X,X,X,X,X,X,X,X,X,X,X,X,X,X,X,X,X,X,X,X,X,X,X] rfl rfl (zo HT_.out (by kernel_rfl)) (fun _ _ _ h => h) (Or.inr ⟨by rfl, rfl⟩) ?_ ?_
         rotate_left
         ·simp only [Act.put, Ze, Zf, Zg, zl, zm]
          rfl
         refine zq (i := 35) (N := some 52) (v := undef) (a' := ?_) #[O,O,O,O,O,O,O,O,O,O,O,O,O,O,O,O,O,O,O,O,O,O,O,O,O,O,O,O,O,O,O,O,O,O,O,O,X,X,X,X,X,X,X,X,X,X,X,X,X,X,X,X,X,X,X,X,X,X,X,X,X,X,X,X] rfl rfl (zo HT_.out (by kernel_rfl)) (fun _ _ _ h => h) (Or.inr ⟨by rfl, rfl⟩) ?_ ?_
         rotate_left
         ·simp only [Act.put, Ze, Zf, Zg, zl, zm]
          rfl
         refine zq (i := 36) (N := some 53) (v := ?_) (a' := ?_) #[O,O,O,O,O,O,O,O,O,O,O,O,O,O,O,O,O,O,O,O,O,O,O,O,O,O,O,O,O,O,O,O,O,O,O,O,O,X,X,X,X,X,X,X,X,X,X,X,X,X,X,X,X,X,X,X,X,X,X,X,X,X,X,X] rfl rfl (zo HT_.out (by kernel_rfl)) (fun _ _ _ h => h) (Or.inl ⟨by rfl, ?_⟩) ?_ ?_
         rotate_left
         ·intro w'
          go_simp
          with_reducible rfl
         rotate_left
         ·simp only [Act.put, Ze, Zf, Zg, zl, zm]
          rfl
         refine zq (i := 37) (N := some 54) (v := ?_) (a' := ?_) #[O,O,O,O,O,O,O,O,O,O,O,O,O,O,O,O,O,O,O,O,O,O,O,O,O,O,O,O,O,O,O,O,O,O,O,O,O,O,X,X,X,X,X,X,X,X,X,X,X,X,X,X,X,X,X,X,X,X,X,X,X,X,X,X] rfl rfl (zo HT_.out (by kernel_rfl)) (fun _ _ _ h => h) (Or.inl ⟨by rfl, ?_⟩) ?_ ?_
         rotate_left
         ·intro w'
          go_simp
          with_reducible rfl
         rotate_left
         ·simp only [Act.put, Ze, Zf, Zg, zl, zm]
          rfl
         refine zq (i := 38) (N := some 55) (v := undef) (a' := ?_) #[O,O,O,O,O,O,O,O,O,O,O,O,O,O,O,O,O,O,O,O,O,O,O,O,O,O,O,O,O,O,O,O,O,O,O,O,O,O,O,X,X,X,X,X,X,X,X,X,X,X,X,X,X,X,X,X,X,X,X,X,X,X,X,X] rfl rfl (zo HT_.out (by kernel_rfl)) (fun _ _ _ h => h) (Or.inr ⟨by rfl, rfl⟩) ?_ ?_
         rotate_left
         ·simp only [Act.put, Ze, Zf, Zg, zl, zm]
          rfl
         refine zq (i := 39) (N := some 56) (v := undef) (a' := ?_) #[O,O,O,O,O,O,O,O,O,O,O,O,O,O,O,O,O,O,O,O,O,O,O,O,O,O,O,O,O,O,O,O,O,O,O,O,O,O,O,O,X,X,X,X,X,X,X,X,X,X,X,X,X,X,X,X,X,X,X,X,X,X,X,X] rfl rfl (zo HT_.out (by kernel_rfl)) (fun _ _ _ h => h) (Or.inr ⟨by rfl, rfl⟩) ?_ ?_
         rotate_left
         ·simp only [Act.put, Ze, Zf, Zg, zl, zm]
          rfl
         refine zq (i := 40) (N := some 57) (v := undef) (a' := ?_) #[O,O,O,O,O,O,O,O,O,O,O,O,O,O,O,O,O,O,O,O,O,O,O,O,O,O,O,O,O,O,O,O,O,O,O,O,O,O,O,O,O,X,X,X,X,X,X,X,X,X,X,X,X,X,X,X,X,X,X,X,X,X,X,X] rfl rfl (zo HT_.out (by kernel_rfl)) (fun _ _ _ h => h) (Or.inr ⟨by rfl, rfl⟩) ?_ ?_
         rotate_left
         ·simp only [Act.put, Ze, Zf, Zg, zl, zm]
          rfl
         refine zq (i := 41) (N := some 58) (v := undef) (a' := ?_) #[O,O,O,O,O,O,O,O,O,O,O,O,O,O,O,O,O,O,O,O,O,O,O,O,O,O,O,O,O,O,O,O,O,O,O,O,O,O,O,O,O,O,X,X,X,X,X,X,X,X,X,X,X,X,X,X,X,X,X,X,X,X,X,X] rfl rfl (zo HT_.out (by kernel_rfl)) (fun _ _ _ h => h) (Or.inr ⟨by rfl, rfl⟩) ?_ ?_
         rotate_left
         ·simp only [Act.put, Ze, Zf, Zg, zl, zm]
          rfl
         refine zq (i := 42) (N := some 59) (v := undef) (a' := ?_) #[O,O,O,O,O,O,O,O,O,O,O,O,O,O,O,O,O,O,O,O,O,O,O,O,O,O,O,O,O,O,O,O,O,O,O,O,O,O,O,O,O,O,O,X,X,X,X,X,X,X,X,X,X,X,X,X,X,X,X,X,X,X,X,X] rfl rfl (zo HT_.out (by kernel_rfl)) (fun _ _ _ h => h) (Or.inr ⟨by rfl, rfl⟩) ?_ ?_
         rotate_left
         ·simp only [Act.put, Ze, Zf, Zg, zl, zm]
          rfl
         refine zq (i := 43) (N := some 60) (v := undef) (a' := ?_) #[O,O,O,O,O,O,O,O,O,O,O,O,O,O,O,O,O,O,O,O,O,O,O,O,O,O,O,O,O,O,O,O,O,O,O,O,O,O,O,O,O,O,O,O,X,X,X,X,X,X,X,X,X,X,X,X,X,X,X,X,X,X,X,X] rfl rfl (zo HT_.out (by kernel_rfl)) (fun _ _ _ h => h) (Or.inr ⟨by rfl, rfl⟩) ?_ ?_
         rotate_left
         ·simp only [Act.put, Ze, Zf, Zg, zl, zm]
          rfl
         refine zq (i := 44) (N := some 61) (v := undef) (a' := ?_) #[O,O,O,O,O,O,O,O,O,O,O,O,O,O,O,O,O,O,O,O,O,O,O,O,O,O,O,O,O,O,O,O,O,O,O,O,O,O,O,O,O,O,O,O,O,X,X,X,X,X,X,X,X,X,X,X,X,X,X,X,X,X,X,X] rfl rfl (zo HT_.out (by kernel_rfl)) (fun _ _ _ h => h) (Or.inr ⟨by rfl, rfl⟩) ?_ ?_
         rotate_left
         ·simp only [Act.put, Ze, Zf, Zg, zl, zm]
          rfl
         refine zq (i := 45) (N := some 62) (v := undef) (a' := ?_) #[O,O,O,O,O,O,O,O,O,O,O,O,O,O,O,O,O,O,O,O,O,O,O,O,O,O,O,O,O,O,O,O,O,O,O,O,O,O,O,O,O,O,O,O,O,O,X,X,X,X,X,X,X,X,X,X,X,X,X,X,X,X,X,X] rfl rfl (zo HT_.out (by kernel_rfl)) (fun _ _ _ h => h) (Or.inr ⟨by rfl, rfl⟩) ?_ ?_
         rotate_left
         ·simp only [Act.put, Ze, Zf, Zg, zl, zm]
          rfl
         refine zq (i := 46) (N := some 63) (v := undef) (a' := ?_) #[O,O,O,O,O,O,O,O,O,O,O,O,O,O,O,O,O,O,O,O,O,O,O,O,O,O,O,O,O,O,O,O,O,O,O,O,O,O,O,O,O,O,O,O,O,O,O,X,X,X,X,X,X,X,X,X,X,X,X,X,X,X,X,X] rfl rfl (zo HT_.out (by kernel_rfl)) (fun _ _ _ h => h) (Or.inr ⟨by rfl, rfl⟩) ?_ ?_
         rotate_left
         ·simp only [Act.put, Ze, Zf, Zg, zl, zm]
          rfl
         refine zq (i := 47) (N := some 64) (v := undef) (a' := ?_) #[O,O,O,O,O,O,O,O,O,O,O,O,O,O,O,O,O,O,O,O,O,O,O,O,O,O,O,O,O,O,O,O,O,O,O,O,O,O,O,O,O,O,O,O,O,O,O,O,X,X,X,X,X,X,X,X,X,X,X,X,X,X,X,X] rfl rfl (zo HT_.out (by kernel_rfl)) (fun _ _ _ h => h) (Or.inr ⟨by rfl, rfl⟩) ?_ ?_
         rotate_left
         ·simp only [Act.put, Ze, Zf, Zg, zl, zm]
          rfl
         refine zq (i := 48) (N := some 65) (v := undef) (a' := ?_) #[O,O,O,O,O,O,O,O,O,O,O,O,O,O,O,O,O,O,O,O,O,O,O,O,O,O,O,O,O,O,O,O,O,O,O,O,O,O,O,O,O,O,O,O,O,O,O,O,O,X,X,X,X,X,X,X,X,X,X,X,X,X,X,X] rfl rfl (zo HT_.out (by kernel_rfl)) (fun _ _ _ h => h) (Or.inr ⟨by rfl, rfl⟩) ?_ ?_
         rotate_left
         ·simp only [Act.put, Ze, Zf, Zg, zl, zm]
          rfl
         refine zq (i := 49) (N := some 66) (v := ?_) (a' := ?_) #[O,O,O,O,O,O,O,O,O,O,O,O,O,O,O,O,O,O,O,O,O,O,O,O,O,O,O,O,O,O,O,O,O,O,O,O,O,O,O,O,O,O,O,O,O,O,O,O,O,O,X,X,X,X,X,X,X,X,X,X,X,X,X,X] rfl rfl (zo HT_.out (by kernel_rfl)) (fun _ _ _ h => h) (Or.inl ⟨by rfl, ?_⟩) ?_ ?_
         rotate_left
         ·intro w'
          go_simp
          with_reducible rfl
         rotate_left
         ·simp only [Act.put, Ze, Zf, Zg, zl, zm]
          rfl
         refine zq (i := 50) (N := some 67) (v := ?_) (a' := ?_) #[O,O,O,O,O,O,O,O,O,O,O,O,O,O,O,O,O,O,O,O,O,O,O,O,O,O,O,O,O,O,O,O,O,O,O,O,O,O,O,O,O,O,O,O,O,O,O,O,O,O,O,X,X,X,X,X,X,X,X,X,X,X,X,X] rfl rfl (zo HT_.out (by kernel_rfl)) (fun _ _ _ h => h) (Or.inl ⟨by rfl, ?_⟩) ?_ ?_
         rotate_left
         ·intro w'
          go_simp
          with_reducible rfl
         rotate_left
         ·simp only [Act.put, Ze, Zf, Zg, zl, zm]
          rfl
         refine zq (i := 51) (N := some 68) (v := undef) (a' := ?_) #[O,O,O,O,O,O,O,O,O,O,O,O,O,O,O,O,O,O,O,O,O,O,O,O,O,O,O,O,O,O,O,O,O,O,O,O,O,O,O,O,O,O,O,O,O,O,O,O,O,O,O,O,X,X,X,X,X,X,X,X,X,X,X,X] rfl rfl (zo HT_.out (by kernel_rfl)) (fun _ _ _ h => h) (Or.inr ⟨by rfl, rfl⟩) ?_ ?_
         rotate_left
         ·simp only [Act.put, Ze, Zf, Zg, zl, zm]
          rfl
         refine zq (i := 52) (N := some 69) (v := undef) (a' := ?_) #[O,O,O,O,O,O,O,O,O,O,O,O,O,O,O,O,O,O,O,O,O,O,O,O,O,O,O,O,O,O,O,O,O,O,O,O,O,O,O,O,O,O,O,O,O,O,O,O,O,O,O,O,O,X,X,X,X,X,X,X,X,X,X,X] rfl rfl (zo HT_.out (by kernel_rfl)) (fun _ _ _ h => h) (Or.inr ⟨by rfl, rfl⟩) ?_ ?_
         rotate_left
         ·simp only [Act.put, Ze, Zf, Zg, zl, zm]
          rfl
         refine zq (i := 53) (N := some 70) (v := undef) (a' := ?_) #[O,O,O,O,O,O,O,O,O,O,O,O,O,O,O,O,O,O,O,O,O,O,O,O,O,O,O,O,O,O,O,O,O,O,O,O,O,O,O,O,O,O,O,O,O,O,O,O,O,O,O,O,O,O,X,X,X,X,X,X,X,X,X,X] rfl rfl (zo HT_.out (by kernel_rfl)) (fun _ _ _ h => h) (Or.inr ⟨by rfl, rfl⟩) ?_ ?_
         rotate_left
         ·simp only [Act.put, Ze, Zf, Zg, zl, zm]
          rfl
         refine zq (i := 54) (N := some 71) (v := undef) (a' := ?_) #[O,O,O,O,O,O,O,O,O,O,O,O,O,O,O,O,O,O,O,O,O,O,O,O,O,O,O,O,O,O,O,O,O,O,O,O,O,O,O,O,O,O,O,O,O,O,O,O,O,O,O,O,O,O,O,X,X,X,X,X,X,X,X,X] rfl rfl (zo HT_.out (by kernel_rfl)) (fun _ _ _ h => h) (Or.inr ⟨by rfl, rfl⟩) ?_ ?_
         rotate_left
         ·simp only [Act.put, Ze, Zf, Zg, zl, zm]
          rfl
         refine zq (i := 55) (N := some 72) (v := undef) (a' := ?_) #[O,O,O,O,O,O,O,O,O,O,O,O,O,O,O,O,O,O,O,O,O,O,O,O,O,O,O,O,O,O,O,O,O,O,O,O,O,O,O,O,O,O,O,O,O,O,O,O,O,O,O,O,O,O,O,O,X,X,X,X,X,X,X,X] rfl rfl (zo HT_.out (by kernel_rfl)) (fun _ _ _ h => h) (Or.inr ⟨by rfl, rfl⟩) ?_ ?_
         rotate_left
         ·simp only [Act.put, Ze, Zf, Zg, zl, zm]
          rfl
         refine zq (i := 56) (N := some 73) (v := undef) (a' := ?_) #[O,O,O,O,O,O,O,O,O,O,O,O,O,O,O,O,O,O,O,O,O,O,O,O,O,O,O,O,O,O,O,O,O,O,O,O,O,O,O,O,O,O,O,O,O,O,O,O,O,O,O,O,O,O,O,O,O,X,X,X,X,X,X,X] rfl rfl (zo HT_.out (by kernel_rfl)) (fun _ _ _ h => h) (Or.inr ⟨by rfl, rfl⟩) ?_ ?_
         rotate_left
         ·simp only [Act.put, Ze, Zf, Zg, zl, zm]
          rfl
         refine zq (i := 57) (N := some 74) (v := undef) (a' := ?_) #[O,O,O,O,O,O,O,O,O,O,O,O,O,O,O,O,O,O,O,O,O,O,O,O,O,O,O,O,O,O,O,O,O,O,O,O,O,O,O,O,O,O,O,O,O,O,O,O,O,O,O,O,O,O,O,O,O,O,X,X,X,X,X,X] rfl rfl (zo HT_.out (by kernel_rfl)) (fun _ _ _ h => h) (Or.inr ⟨by rfl, rfl⟩) ?_ ?_
         rotate_left
         ·simp only [Act.put, Ze, Zf, Zg, zl, zm]
          rfl
         refine zq (i := 58) (N := some 75) (v := undef) (a' := ?_) #[O,O,O,O,O,O,O,O,O,O,O,O,O,O,O,O,O,O,O,O,O,O,O,O,O,O,O,O,O,O,O,O,O,O,O,O,O,O,O,O,O,O,O,O,O,O,O,O,O,O,O,O,O,O,O,O,O,O,O,X,X,X,X,X] rfl rfl (zo HT_.out (by kernel_rfl)) (fun _ _ _ h => h) (Or.inr ⟨by rfl, rfl⟩) ?_ ?_
         rotate_left
         ·simp only [Act.put, Ze, Zf, Zg, zl, zm]
          rfl
         refine zq (i := 59) (N := some 76) (v := undef) (a' := ?_) #[O,O,O,O,O,O,O,O,O,O,O,O,O,O,O,O,O,O,O,O,O,O,O,O,O,O,O,O,O,O,O,O,O,O,O,O,O,O,O,O,O,O,O,O,O,O,O,O,O,O,O,O,O,O,O,O,O,O,O,O,X,X,X,X] rfl rfl (zo HT_.out (by kernel_rfl)) (fun _ _ _ h => h) (Or.inr ⟨by rfl, rfl⟩) ?_ ?_
         rotate_left
         ·simp only [Act.put, Ze, Zf, Zg, zl, zm]
          rfl
         refine zq (i := 60) (N := some 77) (v := undef) (a' := ?_) #[O,O,O,O,O,O,O,O,O,O,O,O,O,O,O,O,O,O,O,O,O,O,O,O,O,O,O,O,O,O,O,O,O,O,O,O,O,O,O,O,O,O,O,O,O,O,O,O,O,O,O,O,O,O,O,O,O,O,O,O,O,X,X,X] rfl rfl (zo HT_.out (by kernel_rfl)) (fun _ _ _ h => h) (Or.inr ⟨by rfl, rfl⟩) ?_ ?_
         rotate_left
         ·simp only [Act.put, Ze, Zf, Zg, zl, zm]
          rfl
         refine zq (i := 61) (N := some 78) (v := undef) (a' := ?_) #[O,O,O,O,O,O,O,O,O,O,O,O,O,O,O,O,O,O,O,O,O,O,O,O,O,O,O,O,O,O,O,O,O,O,O,O,O,O,O,O,O,O,O,O,O,O,O,O,O,O,O,O,O,O,O,O,O,O,O,O,O,O,X,X] rfl rfl (zo HT_.out (by kernel_rfl)) (fun _ _ _ h => h) (Or.inr ⟨by rfl, rfl⟩) ?_ ?_
         rotate_left
         ·simp only [Act.put, Ze, Zf, Zg, zl, zm]
          rfl
         refine zq (i := 62) (N := some 79) (v := undef) (a' := ?_) #[O,O,O,O,O,O,O,O,O,O,O,O,O,O,O,O,O,O,O,O,O,O,O,O,O,O,O,O,O,O,O,O,O,O,O,O,O,O,O,O,O,O,O,O,O,O,O,O,O,O,O,O,O,O,O,O,O,O,O,O,O,O,O,X] rfl rfl (zo HT_.out (by kernel_rfl)) (fun _ _ _ h => h) (Or.inr ⟨by rfl, rfl⟩) ?_ ?_
         rotate_left
         ·simp only [Act.put, Ze, Zf, Zg, zl, zm]
          rfl
         refine zq (i := 63) (N := some 80) (v := ?_) (a' := ?_) #[O,O,O,O,O,O,O,O,O,O,O,O,O,O,O,O,O,O,O,O,O,O,O,O,O,O,O,O,O,O,O,O,O,O,O,O,O,O,O,O,O,O,O,O,O,O,O,O,O,O,O,O,O,O,O,O,O,O,O,O,O,O,O,O] rfl rfl (zo HT_.out (by kernel_rfl)) (fun _ _ _ h => h) (Or.inl ⟨by rfl, ?_⟩) ?_ ?_
         rotate_left
         ·intro w'
          go_simp
          with_reducible rfl
         rotate_left
         ·simp only [Act.put, Ze, Zf, Zg, zl, zm]
          rfl
         refine yZ (yE HT_.out (by kernel_rfl)) ?_
         try go_wp2
         go_ret
         exact ⟨by first | rfl | (simp [zu, zv] <;> rfl) | (simp [*, zu, zv] <;> rfl), by repeat (first | (with_reducible first | exact HB.out | apply zf | apply zd | apply ze) | exact HB.out)⟩
       ·rw [if_neg c7] at H
        have c7b0 : (((zn l0 x5_1).f0) == ((zn l1 x5_1).f0)) = false := beq_eq_false_iff_ne.mpr c7
        have c7b1 : (((zn l0 x5_1).f0) != ((zn l1 x5_1).f0)) = true := bne_iff_ne.mpr c7
        obtain rfl := Option.some.inj H
        try go_wp2
        have n0_ := zc.mk (ze HB.out)
        clear HB
        have HB := n0_
        clear n0_
        have p721 : 0 ≤ (x5_1 : Int) := of_decide_eq_true (by first | (with_reducible assumption) | assumption)
        have q721 : x5_1 < (l0.length : Int) := of_decide_eq_true (by first | (with_reducible assumption) | assumption)
        obtain ⟨ad721, A721_2, c721_2, e721, hx721_0, hx721_1, hx721_2, hx721_3, hx721_4, hl721_2, hi721_2⟩ := yc HR0.out x5_1 p721 q721
        have hw721_4 := hx721_4
        have hw721_3 := hx721_3
        have hw721_2 := hx721_2
        have hw721_1 := hx721_1
        have hw721_0 := hx721_0
        cases e721
        replace hx721_0 := (HB.out.cell (Zj w _ hx721_0)).trans hx721_0
        replace hx721_1 := (HB.out.cell (Zj w _ hx721_1)).trans hx721_1
        replace hx721_2 := (HB.out.cell (Zj w _ hx721_2)).trans hx721_2
        replace hx721_3 := (HB.out.cell (Zj w _ hx721_3)).trans hx721_3
        replace hx721_4 := (HB.out.cell (Zj w _ hx721_4)).trans hx721_4
        have HR721_2 := zc.mk hi721_2
        have HC721_2 := zc.mk hl721_2
        clear hi721_2 hl721_2
        replace p721 := eq_true p721
        replace q721 := eq_true q721
        have p722 : 0 ≤ (x5_1 : Int) := of_decide_eq_true (by first | (with_reducible assumption) | assumption)
        have q722 : x5_1 < (l1.length : Int) := of_decide_eq_true (by first | (with_reducible assumption) | assumption)
        obtain ⟨ad722, A722_2, c722_2, e722, hx722_0, hx722_1, hx722_2, hx722_3, hx722_4, hl722_2, hi722_2⟩ := yc HR1.out x5_1 p722 q722
        have hw722_4 := hx722_4
        have hw722_3 := hx722_3
        have hw722_2 := hx722_2
        have hw722_1 := hx722_1
        have hw722_0 := hx722_0
        cases e722
        replace hx722_0 := (HB.out.cell (Zj w _ hx722_0)).trans hx722_0
        replace hx722_1 := (HB.out.cell (Zj w _ hx722_1)).trans hx722_1
        replace hx722_2 := (HB.out.cell (Zj w _ hx722_2)).trans hx722_2
        replace hx722_3 := (HB.out.cell (Zj w _ hx722_3)).trans hx722_3
        replace hx722_4 := (HB.out.cell (Zj w _ hx722_4)).trans hx722_4
        have HR722_2 := zc.mk hi722_2
        have HC722_2 := zc.mk hl722_2
        clear hi722_2 hl722_2
        replace p722 := eq_true p722
        replace q722 := eq_true q722
        refine yK (n := 64) (S := fun w' => w'.cell? (ad721.add ((x5_1).toNat * 5)) = some (.int .i64 ((zn l0 x5_1).f0)) ∧ w'.cell? ⟨(ad721.add ((x5_1).toNat * 5)).block, (ad721.add ((x5_1).toNat * 5)).off + 1, none⟩ = some (.string ((zn l0 x5_1).f1)) ∧ w'.cell? ⟨(ad721.add ((x5_1).toNat * 5)).block, (ad721.add ((x5_1).toNat * 5)).off + 2, none⟩ = some (.slice A721_2 ((zn l0 x5_1).f2).length c721_2) ∧ w'.cell? ⟨(ad721.add ((x5_1).toNat * 5)).block, (ad721.add ((x5_1).toNat * 5)).off + 3, none⟩ = some (.int .i64 ((zn l0 x5_1).f3)) ∧ w'.cell? ⟨(ad721.add ((x5_1).toNat * 5)).block, (ad721.add ((x5_1).toNat * 5)).off + 4, none⟩ = some (.int .i64 ((zn l0 x5_1).f4)) ∧ w'.cell? (ad722.add ((x5_1).toNat * 5)) = some (.int .i64 ((zn l1 x5_1).f0)) ∧ w'.cell? ⟨(ad722.add ((x5_1).toNat * 5)).block, (ad722.add ((x5_1).toNat * 5)).off + 1, none⟩ = some (.string ((zn l1 x5_1).f1)) ∧ w'.cell? ⟨(ad722.add ((x5_1).toNat * 5)).block, (ad722.add ((x5_1).toNat * 5)).off + 2, none⟩ = some (.slice A722_2 ((zn l1 x5_1).f2).length c722_2) ∧ w'.cell? ⟨(ad722.add ((x5_1).toNat * 5)).block, (ad722.add ((x5_1).toNat * 5)).off + 3, none⟩ = some (.int .i64 ((zn l1 x5_1).f3)) ∧ w'.cell? ⟨(ad722.add ((x5_1).toNat * 5)).block, (ad722.add ((x5_1).toNat * 5)).off + 4, none⟩ = some (.int .i64 ((zn l1 x5_1).f4))) (ds := []) #[X,X,X,X,X,X,X,X,X,X,X,X,X,X,X,X,X,X,X,X,X,X,X,X,X,X,X,X,X,X,X,X,X,X,X,X,X,X,X,X,X,X,X,X,X,X,X,X,X,X,X,X,X,X,X,X,X,X,X,X,X,X,X,X] (by kernel_rfl) rfl rfl ⟨((HB.out.cell (Zj w _ hw721_0)).trans hw721_0), ((HB.out.cell (Zj w _ hw721_1)).trans hw721_1), ((HB.out.cell (Zj w _ hw721_2)).trans hw721_2), ((HB.out.cell (Zj w _ hw721_3)).trans hw721_3), ((HB.out.cell (Zj w _ hw721_4)).trans hw721_4), ((HB.out.cell (Zj w _ hw722_0)).trans hw722_0), ((HB.out.cell (Zj w _ hw722_1)).trans hw722_1), ((HB.out.cell (Zj w _ hw722_2)).trans hw722_2), ((HB.out.cell (Zj w _ hw722_3)).trans hw722_3), ((HB.out.cell (Zj w _ hw722_4)).trans hw722_4)⟩ (fun hHeld => ?_); refine ym zz.tab6 zz.bits6 (fun HT_ HW_ => ?_)
        generalize wr.drew = w18 at HB HR721_2 HR722_2 hx721_0 hx721_1 hx721_2 hx721_3 hx721_4 hx722_0 hx722_1 hx722_2 hx722_3 hx722_4 hHeld ⊢
        refine zq (i := 0) (N := some 17) (v := ?_) (a' := ?_) #[O,X,X,X,X,X,X,X,X,X,X,X,X,X,X,X,X,X,X,X,X,X,X,X,X,X,X,X,X,X,X,X,X,X,X,X,X,X,X,X,X,X,X,X,X,X,X,X,X,X,X,X,X,X,X,X,X,X,X,X,X,X,X,X] rfl rfl (zo HT_.out (by kernel_rfl)) (fun _ _ _ h => h) (Or.inl ⟨by rfl, ?_⟩) ?_ ?_
        rotate_left
        ·intro w'
         go_simp
         with_reducible rfl
        rotate_left
        ·simp only [Act.put, Ze, Zf, Zg, zl, zm]
         rfl
        refine zq (i := 1) (N := some 18) (v := ?_) (a' := ?_) #[O,O,X,X,X,X,X,X,X,X,X,X,X,X,X,X,X,X,X,X,X,X,X,X,X,X,X,X,X,X,X,X,X,X,X,X,X,X,X,X,X,X,X,X,X,X,X,X,X,X,X,X,X,X,X,X,X,X,X,X,X,X,X,X] rfl rfl (zo HT_.out (by kernel_rfl)) (fun _ _ _ h => h) (Or.inl ⟨by rfl, ?_⟩) ?_ ?_
        rotate_left
        ·intro w'
         go_simp
         with_reducible rfl
        rotate_left
        ·simp only [Act.put, Ze, Zf, Zg, zl, zm]
         rfl
        refine zq (i := 2) (N := some 19) (v := ?_) (a' := ?_) #[O,O,O,X,X,X,X,X,X,X,X,X,X,X,X,X,X,X,X,X,X,X,X,X,X,X,X,X,X,X,X,X,X,X,X,X,X,X,X,X,X,X,X,X,X,X,X,X,X,X,X,X,X,X,X,X,X,X,X,X,X,X,X,X] rfl rfl (zo HT_.out (by kernel_rfl)) (fun _ _ _ h => h) (Or.inl ⟨by rfl, ?_⟩) ?_ ?_
        rotate_left
        ·intro w'
         go_simp
         with_reducible rfl
        rotate_left
        ·simp only [Act.put, Ze, Zf, Zg, zl, zm]
         rfl
        refine zq (i := 3) (N := some 20) (v := ?_) (a' := ?_) #[O,O,O,O,X,X,X,X,X,X,X,X,X,X,X,X,X,X,X,X,X,X,X,X,X,X,X,X,X,X,X,X,X,X,X,X,X,X,X,X,X,X,X,X,X,X,X,X,X,X,X,X,X,X,X,X,X,X,X,X,X,X,X,X] rfl rfl (zo HT_.out (by kernel_rfl)) (fun _ _ _ h => h) (Or.inl ⟨by rfl, ?_⟩) ?_ ?_
        rotate_left
        ·intro w'
         go_simp
         with_reducible rfl
        rotate_left
        ·simp only [Act.put, Ze, Zf, Zg, zl, zm]
         rfl
        refine zq (i := 5) (N := some 22) (v := ?_) (a' := ?_) #[O,O,O,O,X,O,X,X,X,X,X,X,X,X,X,X,X,X,X,X,X,X,X,X,X,X,X,X,X,X,X,X,X,X,X,X,X,X,X,X,X,X,X,X,X,X,X,X,X,X,X,X,X,X,X,X,X,X,X,X,X,X,X,X] rfl rfl (zo HT_.out (by kernel_rfl)) (fun _ _ _ h => h) (Or.inl ⟨by rfl, ?_⟩) ?_ ?_
        rotate_left
        ·intro w'
         go_simp
         with_reducible rfl
        rotate_left
        ·simp only [Act.put, Ze, Zf, Zg, zl, zm]
         rfl
        refine zq (i := 6) (N := some 23) (v := ?_) (a' := ?_) #[O,O,O,O,X,O,O,X,X,X,X,X,X,X,X,X,X,X,X,X,X,X,X,X,X,X,X,X,X,X,X,X,X,X,X,X,X,X,X,X,X,X,X,X,X,X,X,X,X,X,X,X,X,X,X,X,X,X,X,X,X,X,X,X] rfl rfl (zo HT_.out (by kernel_rfl)) (fun _ _ _ h => h) (Or.inl ⟨by rfl, ?_⟩) ?_ ?_
        rotate_left
        ·intro w'
         go_simp
         with_reducible rfl
        rotate_left
        ·simp only [Act.put, Ze, Zf, Zg, zl, zm]
         rfl
        refine zq (i := 7) (N := some 24) (v := ?_) (a' := ?_) #[O,O,O,O,X,O,O,O,X,X,X,X,X,X,X,X,X,X,X,X,X,X,X,X,X,X,X,X,X,X,X,X,X,X,X,X,X,X,X,X,X,X,X,X,X,X,X,X,X,X,X,X,X,X,X,X,X,X,X,X,X,X,X,X] rfl rfl (zo HT_.out (by kernel_rfl)) (fun _ _ _ h => h) (Or.inl ⟨by rfl, ?_⟩) ?_ ?_
        rotate_left
        ·intro w'
         go_simp
         with_reducible rfl
        rotate_left
        ·simp only [Act.put, Ze, Zf, Zg, zl, zm]
         rfl
        refine zq (i := 8) (N := some 25) (v := ?_) (a' := ?_) #[O,O,O,O,X,O,O,O,O,X,X,X,X,X,X,X,X,X,X,X,X,X,X,X,X,X,X,X,X,X,X,X,X,X,X,X,X,X,X,X,X,X,X,X,X,X,X,X,X,X,X,X,X,X,X,X,X,X,X,X,X,X,X,X] rfl rfl (zo HT_.out (by kernel_rfl)) (fun _ _ _ h => h) (Or.inl ⟨by rfl, ?_⟩) ?_ ?_
        rotate_left
        ·intro w'
         go_simp
         with_reducible rfl
        rotate_left
        ·simp only [Act.put, Ze, Zf, Zg, zl, zm]
         rfl
        refine take_ (i := 4) (N := some 21) (v := ?_) (a' := ?_) #[O,O,O,O,O,O,O,O,O,X,X,X,X,X,X,X,X,X,X,X,X,X,X,X,X,X,X,X,X,X,X,X,X,X,X,X,X,X,X,X,X,X,X,X,X,X,X,X,X,X,X,X,X,X,X,X,X,X,X,X,X,X,X,X] rfl rfl (zQ HT_.out HW_.out (by kernel_rfl)) (fun _ _ _ h => h) (Or.inl ⟨by rfl, ?_⟩) hHeld ?_ ?_
        rotate_left
        ·rintro w' ⟨s0, s1, s2, s3, s4, s5, s6, s7, s8, s9⟩
         go_simp
         with_reducible rfl
        rotate_left
        ·simp only [Act.put, Ze, Zf, Zg, zl, zm]
         rfl
        refine take_ (i := 9) (N := some 26) (v := ?_) (a' := ?_) #[O,O,O,O,O,O,O,O,O,O,X,X,X,X,X,X,X,X,X,X,X,X,X,X,X,X,X,X,X,X,X,X,X,X,X,X,X,X,X,X,X,X,X,X,X,X,X,X,X,X,X,X,X,X,X,X,X,X,X,X,X,X,X,X] rfl rfl (zQ HT_.out HW_.out (by kernel_rfl)) (fun _ _ _ h => h) (Or.inl ⟨by rfl, ?_⟩) hHeld ?_ ?_
        rotate_left
        ·rintro w' ⟨s0, s1, s2, s3, s4, s5, s6, s7, s8, s9⟩
         go_simp
         with_reducible rfl
        rotate_left
        ·simp only [Act.put, Ze, Zf, Zg, zl, zm]
         rfl
        refine zq (i := 10) (N := some 27) (v := ?_) (a' := ?_) #[O,O,O,O,O,O,O,O,O,O,O,X,X,X,X,X,X,X,X,X,X,X,X,X,X,X,X,X,X,X,X,X,X,X,X,X,X,X,X,X,X,X,X,X,X,X,X,X,X,X,X,X,X,X,X,X,X,X,X,X,X,X,X,X] rfl rfl (zo HT_.out (by kernel_rfl)) (fun _ _ _ h => h) (Or.inl ⟨by rfl, ?_⟩) ?_ ?_
        rotate_left
        ·intro w'
         go_simp
         with_reducible rfl
        rotate_left
        ·simp only [Act.put, Ze, Zf, Zg, zl, zm]
         rfl
        refine zq (i := 11) (N := some 28) (v := ?_) (a' := ?_) #[O,O,O,O,O,O,O,O,O,O,O,O,X,X,X,X,X,X,X,X,X,X,X,X,X,X,X,X,X,X,X,X,X,X,X,X,X,X,X,X,X,X,X,X,X,X,X,X,X,X,X,X,X,X,X,X,X,X,X,X,X,X,X,X] rfl rfl (zo HT_.out (by kernel_rfl)) (fun _ _ _ h => h) (Or.inl ⟨by rfl, ?_⟩) ?_ ?_
        rotate_left
        ·intro w'
         go_simp
         with_reducible rfl
        rotate_left
        ·simp only [Act.put, Ze, Zf, Zg, zl, zm]
         rfl
        refine zq (i := 12) (N := some 29) (v := undef) (a' := ?_) #[O,O,O,O,O,O,O,O,O,O,O,O,O,X,X,X,X,X,X,X,X,X,X,X,X,X,X,X,X,X,X,X,X,X,X,X,X,X,X,X,X,X,X,X,X,X,X,X,X,X,X,X,X,X,X,X,X,X,X,X,X,X,X,X] rfl rfl (zo HT_.out (by kernel_rfl)) (fun _ _ _ h => h) (Or.inr ⟨by rfl, rfl⟩) ?_ ?_
        rotate_left
        ·simp only [Act.put, Ze, Zf, Zg, zl, zm]
         rfl
        refine zq (i := 13) (N := some 30) (v := undef) (a' := ?_) #[O,O,O,O,O,O,O,O,O,O,O,O,O,O,X,X,X,X,X,X,X,X,X,X,X,X,X,X,X,X,X,X,X,X,X,X,X,X,X,X,X,X,X,X,X,X,X,X,X,X,X,X,X,X,X,X,X,X,X,X,X,X,X,X] rfl rfl (zo HT_.out (by kernel_rfl)) (fun _ _ _ h => h) (Or.inr ⟨by rfl, rfl⟩) ?_ ?_
        rotate_left
        ·simp only [Act.put, Ze, Zf, Zg, zl, zm]
         rfl
        refine zq (i := 14) (N := some 31) (v := undef) (a' := ?_) #[O,O,O,O,O,O,O,O,O,O,O,O,O,O,O,X,X,X,X,X,X,X,X,X,X,X,X,X,X,X,X,X,X,X,X,X,X,X,X,X,X,X,X,X,X,X,X,X,X,X,X,X,X,X,X,X,X,X,X,X,X,X,X,X] rfl rfl (zo HT_.out (by kernel_rfl)) (fun _ _ _ h => h) (Or.inr ⟨by rfl, rfl⟩) ?_ ?_
        rotate_left
        ·simp only [Act.put, Ze, Zf, Zg, zl, zm]
         rfl
        refine zq (i := 15) (N := some 32) (v := undef) (a' := ?_) #[O,O,O,O,O,O,O,O,O,O,O,O,O,O,O,O,X,X,X,X,X,X,X,X,X,X,X,X,X,X,X,X,X,X,X,X,X,X,X,X,X,X,X,X,X,X,X,X,X,X,X,X,X,X,X,X,X,X,X,X,X,X,X,X] rfl rfl (zo HT_.out (by kernel_rfl)) (fun _ _ _ h => h) (Or.inr ⟨by rfl, rfl⟩) ?_ ?_
        rotate_left
        ·simp only [Act.put, Ze, Zf, Zg, zl, zm]
         rfl
        refine zq (i := 16) (N := some 33) (v := undef) (a' := ?_) #[O,O,O,O,O,O,O,O,O,O,O,O,O,O,O,O,O,X,X,X,X,X,X,X,X,X,X,X,X,X,X,X,X,X,X,X,X,X,X,X,X,X,X,X,X,X,X,X,X,X,X,X,X,X,X,X,X,X,X,X,X,X,X,X] rfl rfl (zo HT_.out (by kernel_rfl)) (fun _ _ _ h => h) (Or.inr ⟨by rfl, rfl⟩) ?_ ?_
        rotate_left
        ·simp only [Act.put, Ze, Zf, Zg, zl, zm]
         rfl
        refine zq (i := 17) (N := some 34) (v := undef) (a' := ?_) #[O,O,O,O,O,O,O,O,O,O,O,O,O,O,O,O,O,O,X,X,X,X,X,X,X,X,X,X,X,X,X,X,X,X,X,X,X,X,X,X,X,X,X,X,X,X,X,X,X,X,X,X,X,X,X,X,X,X,X,X,X,X,X,X] rfl rfl (zo HT_.out (by kernel_rfl)) (fun _ _ _ h => h) (Or.inr ⟨by rfl, rfl⟩) ?_ ?_
        rotate_left
        ·simp only [Act.put, Ze, Zf, Zg, zl, zm]
         rfl
        refine zq (i := 18) (N := some 35) (v := undef) (a' := ?_) #[O,O,O,O,O,O,O,O,O,O,O,O,O,O,O,O,O,O,O,X,X,X,X,X,X,X,X,X,X,X,X,X,X,X,X,X,X,X,X,X,X,X,X,X,X,X,X,X,X,X,X,X,X,X,X,X,X,X,X,X,X,X,X,X] rfl rfl (zo HT_.out (by kernel_rfl)) (fun _ _ _ h => h) (Or.inr ⟨by rfl, rfl⟩) ?_ ?_
        rotate_left
        ·simp only [Act.put, Ze, Zf, Zg, zl, zm]
         rfl
        refine zq (i := 19) (N := some 36) (v := undef) (a' := ?_) #[O,O,O,O,O,O,O,O,O,O,O,O,O,O,O,O,O,O,O,O,X,X,X,X,X,X,X,X,X,X,X,X,X,X,X,X,X,X,X,X,X,X,X,X,X,X,X,X,X,X,X,X,X,X,X,X,X,X,X,X,X,X,X,X] rfl rfl (zo HT_.out (by kernel_rfl)) (fun _ _ _ h => h) (Or.inr ⟨by rfl, rfl⟩) ?_ ?_
        rotate_left
        ·simp only [Act.put, Ze, Zf, Zg, zl, zm]
         rfl
        refine zq (i := 20) (N := some 37) (v := undef) (a' := ?_) #[O,O,O,O,O,O,O,O,O,O,O,O,O,O,O,O,O,O,O,O,O,X,X,X,X,X,X,X,X,X,X,X,X,X,X,X,X,X,X,X,X,X,X,X,X,X,X,X,X,X,X,X,X,X,X,X,X,X,X,X,X,X,X,X] rfl rfl (zo HT_.out (by kernel_rfl)) (fun _ _ _ h => h) (Or.inr ⟨by rfl, rfl⟩) ?_ ?_
        rotate_left
        ·simp only [Act.put, Ze, Zf, Zg, zl, zm]
         rfl
        refine zq (i := 21) (N := some 38) (v := undef) (a' := ?_) #[O,O,O,O,O,O,O,O,O,O,O,O,O,O,O,O,O,O,O,O,O,O,X,X,X,X,X,X,X,X,X,X,X,X,X,X,X,X,X,X,X,X,X,X,X,X,X,X,X,X,X,X,X,X,X,X,X,X,X,X,X,X,X,X] rfl rfl (zo HT_.out (by kernel_rfl)) (fun _ _ _ h => h) (Or.inr ⟨by rfl, rfl⟩) ?_ ?_
        rotate_left
        ·simp only [Act.put, Ze, Zf, Zg, zl, zm]
         rfl
        refine zq (i := 22) (N := some 39) (v := undef) (a' := ?_) #[O,O,O,O,O,O,O,O,O,O,O,O,O,O,O,O,O,O,O,O,O,O,O,X,X,X,X,X,X,X,X,X,X,X,X,X,X,X,X,X,X,X,X,X,X,X,X,X,X,X,X,X,X,X,X,X,X,X,X,X,X,X,X,X] rfl rfl (zo HT_.out (by kernel_rfl)) (fun _ _ _ h => h) (Or.inr ⟨by rfl, rfl⟩) ?_ ?_
        rotate_left
        ·simp only [Act.put, Ze, Zf, Zg, zl, zm]
         rfl
        refine zq (i := 23) (N := some 40) (v := ?_) (a' := ?_) #[O,O,O,O,O,O,O,O,O,O,O,O,O,O,O,O,O,O,O,O,O,O,O,O,X,X,X,X,X,X,X,X,X,X,X,X,X,X,X,X,X,X,X,X,X,X,X,X,X,X,X,X,X,X,X,X,X,X,X,X,X,X,X,X] rfl rfl (zo HT_.out (by kernel_rfl)) (fun _ _ _ h => h) (Or.inl ⟨by rfl, ?_⟩) ?_ ?_
        rotate_left
        ·intro w'
         go_simp
         with_reducible rfl
        rotate_left
        ·simp only [Act.put, Ze, Zf, Zg, zl, zm]
         rfl
        refine zq (i := 24) (N := some 41) (v := ?_) (a' := ?_) #[O,O,O,O,O,O,O,O,O,O,O,O,O,O,O,O,O,O,O,O,O,O,O,O,O,X,X,X,X,X,X,X,X,X,X,X,X,X,X,X,X,X,X,X,X,X,X,X,X,X,X,X,X,X,X,X,X,X,X,X,X,X,X,X] rfl rfl (zo HT_.out (by kernel_rfl)) (fun _ _ _ h => h) (Or.inl ⟨by rfl, ?_⟩) ?_ ?_
        rotate_left
        ·intro w'
         go_simp
         with_reducible rfl
        rotate_left
        ·simp only [Act.put, Ze, Zf, Zg, zl, zm]
         rfl
        refine zq (i := 25) (N := some 42) (v := undef) (a' := ?_) #[O,O,O,O,O,O,O,O,O,O,O,O,O,O,O,O,O,O,O,O,O,O,O,O,O,O,X,X,X,X,X,X,X,X,X,X,X,X,X,X,X,X,X,X,X,X,X,X,X,X,X,X,X,X,X,X,X,X,X,X,X,X,X,X] rfl rfl (zo HT_.out (by kernel_rfl)) (fun _ _ _ h => h) (Or.inr ⟨by rfl, rfl⟩) ?_ ?_
        rotate_left
        ·simp only [Act.put, Ze, Zf, Zg, zl, zm]
         rfl
        refine zq (i := 26) (N := some 43) (v := undef) (a' := ?_) #[O,O,O,O,O,O,O,O,O,O,O,O,O,O,O,O,O,O,O,O,O,O,O,O,O,O,O,X,X,X,X,X,X,X,X,X,X,X,X,X,X,X,X,X,X,X,X,X,X,X,X,X,X,X,X,X,X,X,X,X,X,X,X,X] rfl rfl (zo HT_.out (by kernel_rfl)) (fun _ _ _ h => h) (Or.inr ⟨by rfl, rfl⟩) ?_ ?_
        rotate_left
        ·simp only [Act.put, Ze, Zf, Zg, zl, zm]
         rfl
        refine zq (i := 27) (N := some 44) (v := undef) (a' := ?_) #[O,O,O,O,O,O,O,O,O,O,O,O,O,O,O,O,O,O,O,O,O,O,O,O,O,O,O,O,X,X,X,X,X,X,X,X,X,X,X,X,X,X,X,X,X,X,X,X,X,X,X,X,X,X,X,X,X,X,X,X,X,X,X,X] rfl rfl (zo HT_.out (by kernel_rfl)) (fun _ _ _ h => h) (Or.inr ⟨by rfl, rfl⟩) ?_ ?_
        rotate_left
        ·simp only [Act.put, Ze, Zf, Zg, zl, zm]
         rfl
        refine zq (i := 28) (N := some 45) (v := undef) (a' := ?_) #[O,O,O,O,O,O,O,O,O,O,O,O,O,O,O,O,O,O,O,O,O,O,O,O,O,O,O,O,O,X,X,X,X,X,X,X,X,X,X,X,X,X,X,X,X,X,X,X,X,X,X,X,X,X,X,X,X,X,X,X,X,X,X,X] rfl rfl (zo HT_.out (by kernel_rfl)) (fun _ _ _ h => h) (Or.inr ⟨by rfl, rfl⟩) ?_ ?_
        rotate_left
        ·simp only [Act.put, Ze, Zf, Zg, zl, zm]
         rfl
        refine zq (i := 29) (N := some 46) (v := undef) (a' := ?_) #[O,O,O,O,O,O,O,O,O,O,O,O,O,O,O,O,O,O,O,O,O,O,O,O,O,O,O,O,O,O,X,X,X,X,X,X,X,X,X,X,X,X,X,X,X,X,X,X,X,X,X,X,X,X,X,X,X,X,X,X,X,X,X,X] rfl rfl (zo HT_.out (by kernel_rfl)) (fun _ _ _ h => h) (Or.inr ⟨by rfl, rfl⟩) ?_ ?_
        rotate_left
        ·simp only [Act.put, Ze, Zf, Zg, zl, zm]
         rfl
        refine zq (i := 30) (N := some 47) (v := undef) (a' := ?_) #[O,O,O,O,O,O,O,O,O,O,O,O,O,O,O,O,O,O,O,O,O,O,O,O,O,O,O,O,O,O,O,X,X,X,X,X,X,X,X,X,X,X,X,X,X,X,X,X,X,X,X,X,X,X,X,X,X,X,X,X,X,X,X,X] rfl rfl (zo HT_.out (by kernel_rfl)) (fun _ _ _ h => h) (Or.inr ⟨by rfl, rfl⟩) ?_ ?_
        rotate_left
        ·simp only [Act.put, Ze, Zf, Zg, zl, zm]
         rfl
        refine zq (i := 31) (N := some 48) (v := undef) (a' := ?_) #[O,O,O,O,O,O,O,O,O,O,O,O,O,O,O,O,O,O,O,O,O,O,O,O,O,O,O,O,O,O,O,O,X,X,X,X,X,X,X,X,X,X,X,X,X,X,X,X,X,X,X,X,X,X,X,X,X,X,X,X,X,X,X,X] rfl rfl (zo HT_.out (by kernel_rfl)) (fun _ _ _ h => h) (Or.inr ⟨by rfl, rfl⟩) ?_ ?_
        rotate_left
        ·simp only [Act.put, Ze, Zf, Zg, zl, zm]
         rfl
        refine zq (i := 32) (N := some 49) (v := undef) (a' := ?_) #[O,O,O,O,O,O,O,O,O,O,O,O,O,O,O,O,O,O,O,O,O,O,O,O,O,O,O,O,O,O,O,O,O,X,X,X,X,X,X,X,X,X,X,X,X,X,X,X,X,X,X,X,X,X,X,X,X,X,X,X,X,X,X,X] rfl rfl (zo HT_.out (by kernel_rfl)) (fun _ _ _ h => h) (Or.inr ⟨by rfl, rfl⟩) ?_ ?_
        rotate_left
        ·simp only [Act.put, Ze, Zf, Zg, zl, zm]
         rfl
        refine zq (i := 33) (N := some 50) (v := undef) (a' := ?_) #[O,O,O,O,O,O,O,O,O,O,O,O,O,O,O,O,O,O,O,O,O,O,O,O,O,O,O,O,O,O,O,O,O,O,X,X,X,X,X,X,X,X,X,X,X,X,X,X,X,X,X,X,X,X,X,X,X,X,X,X,X,X,X,X] rfl rfl (zo HT_.out (by kernel_rfl)) (fun _ _ _ h => h) (Or.inr ⟨by rfl, rfl⟩) ?_ ?_
        rotate_left
        ·simp only [Act.put, Ze, Zf, Zg, zl, zm]
         rfl
        refine zq (i := 34) (N := some 51) (v := undef) (a' := ?_) #[O,O,O,O,O,O,O,O,O,O,O,O,O,O,O,O,O,O,O,O,O,O,O,O,O,O,O,O,O,O,O,O,O,O,O,X,X,X,X,X,X,X,X,X,X,X,X,X,X,X,X,X,X,X,X,X,X,X,X,X,X,X,X,X] rfl rfl (zo HT_.out (by kernel_rfl)) (fun _ _ _ h => h) (Or.inr ⟨by rfl, rfl⟩) ?_ ?_
        rotate_left
        ·simp only [Act.put, Ze, Zf, Zg, zl, zm]
         rfl
        refine zq (i := 35) (N := some 52) (v := undef) (a' := ?_) #[O,O,O,O,O,O,O,O,O,O,O,O,O,O,O,O,O,O,O,O,O,O,O,O,O,O,O,O,O,O,O,O,O,O,O,O,X,X,X,X,X,X,X,X,X,X,X,X,X,X,X,X,X,X,X,X,X,X,X,X,X,X,X,X] rfl rfl (zo HT_.out (by kernel_rfl)) (fun _ _ _ h => h) (Or.inr ⟨by rfl, rfl⟩) ?_ ?_
        rotate_left
        ·simp only [Act.put, Ze, Zf, Zg, zl, zm]
         rfl
        refine zq (i := 36) (N := some 53) (v := ?_) (a' := ?_) #[O,O,O,O,O,O,O,O,O,O,O,O,O,O,O,O,O,O,O,O,O,O,O,O,O,O,O,O,O,O,O,O,O,O,O,O,O,X,X,X,X,X,X,X,X,X,X,X,X,X,X,X,X,X,X,X,X,X,X,X,X,X,X,X] rfl rfl (zo HT_.out (by kernel_rfl)) (fun _ _ _ h => h) (Or.inl ⟨by rfl, ?_⟩) ?_ ?_
        rotate_left
        ·intro w'
         go_simp
         with_reducible rfl
        rotate_left
        ·simp only [Act.put, Ze, Zf, Zg, zl, zm]
         rfl
        refine zq (i := 37) (N := some 54) (v := ?_) (a' := ?_) #[O,O,O,O,O,O,O,O,O,O,O,O,O,O,O,O,O,O,O,O,O,O,O,O,O,O,O,O,O,O,O,O,O,O,O,O,O,O,X,X,X,X,X,X,X,X,X,X,X,X,X,X,X,X,X,X,X,X,X,X,X,X,X,X] rfl rfl (zo HT_.out (by kernel_rfl)) (fun _ _ _ h => h) (Or.inl ⟨by rfl, ?_⟩) ?_ ?_
        rotate_left
        ·intro w'
         go_simp
         with_reducible rfl
        rotate_left
        ·simp only [Act.put, Ze, Zf, Zg, zl, zm]
         rfl
        refine zq (i := 38) (N := some 55) (v := undef) (a' := ?_) #[O,O,O,O,O,O,O,O,O,O,O,O,O,O,O,O,O,O,O,O,O,O,O,O,O,O,O,O,O,O,O,O,O,O,O,O,O,O,O,X,X,X,X,X,X,X,X,X,X,X,X,X,X,X,X,X,X,X,X,X,X,X,X,X] rfl rfl (zo HT_.out (by kernel_rfl)) (fun _ _ _ h => h) (Or.inr ⟨by rfl, rfl⟩) ?_ ?_
        rotate_left
        ·simp only [Act.put, Ze, Zf, Zg, zl, zm]
         rfl
        refine zq (i := 39) (N := some 56) (v := undef) (a' := ?_) #[O,O,O,O,O,O,O,O,O,O,O,O,O,O,O,O,O,O,O,O,O,O,O,O,O,O,O,O,O,O,O,O,O,O,O,O,O,O,O,O,X,X,X,X,X,X,X,X,X,X,X,X,X,X,X,X,X,X,X,X,X,X,X,X] rfl rfl (zo HT_.out (by kernel_rfl)) (fun _ _ _ h => h) (Or.inr ⟨by rfl, rfl⟩) ?_ ?_
        rotate_left
        ·simp only [Act.put, Ze, Zf, Zg, zl, zm]
         rfl
        refine zq (i := 40) (N := some 57) (v := undef) (a' := ?_) #[O,O,O,O,O,O,O,O,O,O,O,O,O,O,O,O,O,O,O,O,O,O,O,O,O,O,O,O,O,O,O,O,O,O,O,O,O,O,O,O,O,X,X,X,X,X,X,X,X,X,X,X,X,X,X,X,X,X,X,X,X,X,X,X] rfl rfl (zo HT_.out (by kernel_rfl)) (fun _ _ _ h => h) (Or.inr ⟨by rfl, rfl⟩) ?_ ?_
        rotate_left
        ·simp only [Act.put, Ze, Zf, Zg, zl, zm]
         rfl
        refine zq (i := 41) (N := some 58) (v := undef) (a' := ?_) #[O,O,O,O,O,O,O,O,O,O,O,O,O,O,O,O,O,O,O,O,O,O,O,O,O,O,O,O,O,O,O,O,O,O,O,O,O,O,O,O,O,O,X,X,X,X,X,X,X,X,X,X,X,X,X,X,X,X,X,X,X,X,X,X] rfl rfl (zo HT_.out (by kernel_rfl)) (fun _ _ _ h => h) (Or.inr ⟨by rfl, rfl⟩) ?_ ?_
        rotate_left
        ·simp only [Act.put, Ze, Zf, Zg, zl, zm]
         rfl
        refine zq (i := 42) (N := some 59) (v := undef) (a' := ?_) #[O,O,O,O,O,O,O,O,O,O,O,O,O,O,O,O,O,O,O,O,O,O,O,O,O,O,O,O,O,O,O,O,O,O,O,O,O,O,O,O,O,O,O,X,X,X,X,X,X,X,X,X,X,X,X,X,X,X,X,X,X,X,X,X] rfl rfl (zo HT_.out (by kernel_rfl)) (fun _ _ _ h => h) (Or.inr ⟨by rfl, rfl⟩) ?_ ?_
        rotate_left
        ·simp only [Act.put, Ze, Zf, Zg, zl, zm]
         rfl
        refine zq (i := 43) (N := some 60) (v := undef) (a' := ?_) #[O,O,O,O,O,O,O,O,O,O,O,O,O,O,O,O,O,O,O,O,O,O,O,O,O,O,O,O,O,O,O,O,O,O,O,O,O,O,O,O,O,O,O,O,X,X,X,X,X,X,X,X,X,X,X,X,X,X,X,X,X,X,X,X] rfl rfl (zo HT_.out (by kernel_rfl)) (fun _ _ _ h => h) (Or.inr ⟨by rfl, rfl⟩) ?_ ?_
        rotate_left
        ·simp only [Act.put, Ze, Zf, Zg, zl, zm]
         rfl
        refine zq (i := 44) (N := some 61) (v := undef) (a' := ?_) #[O,O,O,O,O,O,O,O,O,O,O,O,O,O,O,O,O,O,O,O,O,O,O,O,O,O,O,O,O,O,O,O,O,O,O,O,O,O,O,O,O,O,O,O,O,X,X,X,X,X,X,X,X,X,X,X,X,X,X,X,X,X,X,X] rfl rfl (zo HT_.out (by kernel_rfl)) (fun _ _ _ h => h) (Or.inr ⟨by rfl, rfl⟩) ?_ ?_
        rotate_left
        ·simp only [Act.put, Ze, Zf, Zg, zl, zm]
         rfl
        refine zq (i := 45) (N := some 62) (v := undef) (a' := ?_) #[O,O,O,O,O,O,O,O,O,O,O,O,O,O,O,O,O,O,O,O,O,O,O,O,O,O,O,O,O,O,O,O,O,O,O,O,O,O,O,O,O,O,O,O,O,O,X,X,X,X,X,X,X,X,X,X,X,X,X,X,X,X,X,X] rfl rfl (zo HT_.out (by kernel_rfl)) (fun _ _ _ h => h) (Or.inr ⟨by rfl, rfl⟩) ?_ ?_
        rotate_left
        ·simp only [Act.put, Ze, Zf, Zg, zl, zm]
         rfl
        refine zq (i := 46) (N := some 63) (v := undef) (a' := ?_) #[O,O,O,O,O,O,O,O,O,O,O,O,O,O,O,O,O,O,O,O,O,O,O,O,O,O,O,O,O,O,O,O,O,O,O,O,O,O,O,O,O,O,O,O,O,O,O,X,X,X,X,X,X,X,X,X,X,X,X,X,X,X,X,X] rfl rfl (zo HT_.out (by kernel_rfl)) (fun _ _ _ h => h) (Or.inr ⟨by rfl, rfl⟩) ?_ ?_
        rotate_left
        ·simp only [Act.put, Ze, Zf, Zg, zl, zm]
         rfl
        refine zq (i := 47) (N := some 64) (v := undef) (a' := ?_) #[O,O,O,O,O,O,O,O,O,O,O,O,O,O,O,O,O,O,O,O,O,O,O,O,O,O,O,O,O,O,O,O,O,O,O,O,O,O,O,O,O,O,O,O,O,O,O,O,X,X,X,X,X,X,X,X,X,X,X,X,X,X,X,X] rfl rfl (zo HT_.out (by kernel_rfl)) (fun _ _ _ h => h) (Or.inr ⟨by rfl, rfl⟩) ?_ ?_
        rotate_left
        ·simp only [Act.put, Ze, Zf, Zg, zl, zm]
         rfl
        refine zq (i := 48) (N := some 65) (v := undef) (a' := ?_) #[O,O,O,O,O,O,O,O,O,O,O,O,O,O,O,O,O,O,O,O,O,O,O,O,O,O,O,O,O,O,O,O,O,O,O,O,O,O,O,O,O,O,O,O,O,O,O,O,O,X,X,X,X,X,X,X,X,X,X,X,X,X,X,X] rfl rfl (zo HT_.out (by kernel_rfl)) (fun _ _ _ h => h) (Or.inr ⟨by rfl, rfl⟩) ?_ ?_
        rotate_left
        ·simp only [Act.put, Ze, Zf, Zg, zl, zm]
         rfl
        refine zq (i := 49) (N := some 66) (v := ?_) (a' := ?_) #[O,O,O,O,O,O,O,O,O,O,O,O,O,O,O,O,O,O,O,O,O,O,O,O,O,O,O,O,O,O,O,O,O,O,O,O,O,O,O,O,O,O,O,O,O,O,O,O,O,O,X,X,X,X,X,X,X,X,X,X,X,X,X,X] rfl rfl (zo HT_.out (by kernel_rfl)) (fun _ _ _ h => h) (Or.inl ⟨by rfl, ?_⟩) ?_ ?_
        rotate_left
        ·intro w'
         go_simp
         with_reducible rfl
        rotate_left
        ·simp only [Act.put, Ze, Zf, Zg, zl, zm]
         rfl
        refine zq (i := 50) (N := some 67) (v := ?_) (a' := ?_) #[O,O,O,O,O,O,O,O,O,O,O,O,O,O,O,O,O,O,O,O,O,O,O,O,O,O,O,O,O,O,O,O,O,O,O,O,O,O,O,O,O,O,O,O,O,O,O,O,O,O,O,X,X,X,X,X,X,X,X,X,X,X,X,X] rfl rfl (zo HT_.out (by kernel_rfl)) (fun _ _ _ h => h) (Or.inl ⟨by rfl, ?_⟩) ?_ ?_
        rotate_left
        ·intro w'
         go_simp
         with_reducible rfl
        rotate_left
        ·simp only [Act.put, Ze, Zf, Zg, zl, zm]
         rfl
        refine zq (i := 51) (N := some 68) (v := undef) (a' := ?_) #[O,O,O,O,O,O,O,O,O,O,O,O,O,O,O,O,O,O,O,O,O,O,O,O,O,O,O,O,O,O,O,O,O,O,O,O,O,O,O,O,O,O,O,O,O,O,O,O,O,O,O,O,X,X,X,X,X,X,X,X,X,X,X,X] rfl rfl (zo HT_.out (by kernel_rfl)) (fun _ _ _ h => h) (Or.inr ⟨by rfl, rfl⟩) ?_ ?_
        rotate_left
        ·simp only [Act.put, Ze, Zf, Zg, zl, zm]
         rfl
        refine zq (i := 52) (N := some 69) (v := undef) (a' := ?_) #[O,O,O,O,O,O,O,O,O,O,O,O,O,O,O,O,O,O,O,O,O,O,O,O,O,O,O,O,O,O,O,O,O,O,O,O,O,O,O,O,O,O,O,O,O,O,O,O,O,O,O,O,O,X,X,X,X,X,X,X,X,X,X,X] rfl rfl (zo HT_.out (by kernel_rfl)) (fun _ _ _ h => h) (Or.inr ⟨by rfl, rfl⟩) ?_ ?_
        rotate_left
        ·simp only [Act.put, Ze, Zf, Zg, zl, zm]
         rfl
        refine zq (i := 53) (N := some 70) (v := undef) (a' := ?_) #[O,O,O,O,O,O,O,O,O,O,O,O,O,O,O,O,O,O,O,O,O,O,O,O,O,O,O,O,O,O,O,O,O,O,O,O,O,O,O,O,O,O,O,O,O,O,O,O,O,O,O,O,O,O,X,X,X,X,X,X,X,X,X,X] rfl rfl (zo HT_.out (by kernel_rfl)) (fun _ _ _ h => h) (Or.inr ⟨by rfl, rfl⟩) ?_ ?_
        rotate_left
        ·simp only [Act.put, Ze, Zf, Zg, zl, zm]
         rfl
        refine zq (i := 54) (N := some 71) (v := undef) (a' := ?_) #[O,O,O,O,O,O,O,O,O,O,O,O,O,O,O,O,O,O,O,O,O,O,O,O,O,O,O,O,O,O,O,O,O,O,O,O,O,O,O,O,O,O,O,O,O,O,O,O,O,O,O,O,O,O,O,X,X,X,X,X,X,X,X,X] rfl rfl (zo HT_.out (by kernel_rfl)) (fun _ _ _ h => h) (Or.inr ⟨by rfl, rfl⟩) ?_ ?_
        rotate_left
        ·simp only [Act.put, Ze, Zf, Zg, zl, zm]
         rfl
        refine zq (i := 55) (N := some 72) (v := undef) (a' := ?_) #[O,O,O,O,O,O,O,O,O,O,O,O,O,O,O,O,O,O,O,O,O,O,O,O,O,O,O,O,O,O,O,O,O,O,O,O,O,O,O,O,O,O,O,O,O,O,O,O,O,O,O,O,O,O,O,O,X,X,X,X,X,X,X,X] rfl rfl (zo HT_.out (by kernel_rfl)) (fun _ _ _ h => h) (Or.inr ⟨by rfl, rfl⟩) ?_ ?_
        rotate_left
        ·simp only [Act.put, Ze, Zf, Zg, zl, zm]
         rfl
        refine zq (i := 56) (N := some 73) (v := undef) (a' := ?_) #[O,O,O,O,O,O,O,O,O,O,O,O,O,O,O,O,O,O,O,O,O,O,O,O,O,O,O,O,O,O,O,O,O,O,O,O,O,O,O,O,O,O,O,O,O,O,O,O,O,O,O,O,O,O,O,O,O,X,X,X,X,X,X,X] rfl rfl (zo HT_.out (by kernel_rfl)) (fun _ _ _ h => h) (Or.inr ⟨by rfl, rfl⟩) ?_ ?_
        rotate_left
        ·simp only [Act.put, Ze, Zf, Zg, zl, zm]
         rfl
        refine zq (i := 57) (N := some 74) (v := undef) (a' := ?_) #[O,O,O,O,O,O,O,O,O,O,O,O,O,O,O,O,O,O,O,O,O,O,O,O,O,O,O,O,O,O,O,O,O,O,O,O,O,O,O,O,O,O,O,O,O,O,O,O,O,O,O,O,O,O,O,O,O,O,X,X,X,X,X,X] rfl rfl (zo HT_.out (by kernel_rfl)) (fun _ _ _ h => h) (Or.inr ⟨by rfl, rfl⟩) ?_ ?_
        rotate_left
        ·simp only [Act.put, Ze, Zf, Zg, zl, zm]
         rfl
        refine zq (i := 58) (N := some 75) (v := undef) (a' := ?_) #[O,O,O,O,O,O,O,O,O,O,O,O,O,O,O,O,O,O,O,O,O,O,O,O,O,O,O,O,O,O,O,O,O,O,O,O,O,O,O,O,O,O,O,O,O,O,O,O,O,O,O,O,O,O,O,O,O,O,O,X,X,X,X,X] rfl rfl (zo HT_.out (by kernel_rfl)) (fun _ _ _ h => h) (Or.inr ⟨by rfl, rfl⟩) ?_ ?_
        rotate_left
        ·simp only [Act.put, Ze, Zf, Zg, zl, zm]
         rfl
        refine zq (i := 59) (N := some 76) (v := undef) (a' := ?_) #[O,O,O,O,O,O,O,O,O,O,O,O,O,O,O,O,O,O,O,O,O,O,O,O,O,O,O,O,O,O,O,O,O,O,O,O,O,O,O,O,O,O,O,O,O,O,O,O,O,O,O,O,O,O,O,O,O,O,O,O,X,X,X,X] rfl rfl (zo HT_.out (by kernel_rfl)) (fun _ _ _ h => h) (Or.inr ⟨by rfl, rfl⟩) ?_ ?_
        rotate_left
        ·simp only [Act.put, Ze, Zf, Zg, zl, zm]
         rfl
        refine zq (i := 60) (N := some 77) (v := undef) (a' := ?_) #[O,O,O,O,O,O,O,O,O,O,O,O,O,O,O,O,O,O,O,O,O,O,O,O,O,O,O,O,O,O,O,O,O,O,O,O,O,O,O,O,O,O,O,O,O,O,O,O,O,O,O,O,O,O,O,O,O,O,O,O,O,X,X,X] rfl rfl (zo HT_.out (by kernel_rfl)) (fun _ _ _ h => h) (Or.inr ⟨by rfl, rfl⟩) ?_ ?_
        rotate_left
        ·simp only [Act.put, Ze, Zf, Zg, zl, zm]
         rfl
        refine zq (i := 61) (N := some 78) (v := undef) (a' := ?_) #[O,O,O,O,O,O,O,O,O,O,O,O,O,O,O,O,O,O,O,O,O,O,O,O,O,O,O,O,O,O,O,O,O,O,O,O,O,O,O,O,O,O,O,O,O,O,O,O,O,O,O,O,O,O,O,O,O,O,O,O,O,O,X,X] rfl rfl (zo HT_.out (by kernel_rfl)) (fun _ _ _ h => h) (Or.inr ⟨by rfl, rfl⟩) ?_ ?_
        rotate_left
        ·simp only [Act.put, Ze, Zf, Zg, zl, zm]
         rfl
        refine zq (i := 62) (N := some 79) (v := undef) (a' := ?_) #[O,O,O,O,O,O,O,O,O,O,O,O,O,O,O,O,O,O,O,O,O,O,O,O,O,O,O,O,O,O,O,O,O,O,O,O,O,O,O,O,O,O,O,O,O,O,O,O,O,O,O,O,O,O,O,O,O,O,O,O,O,O,O,X] rfl rfl (zo HT_.out (by kernel_rfl)) (fun _ _ _ h => h) (Or.inr ⟨by rfl, rfl⟩) ?_ ?_
        rotate_left
        ·simp only [Act.put, Ze, Zf, Zg, zl, zm]
         rfl
        refine zq (i := 63) (N := some 80) (v := ?_) (a' := ?_) #[O,O,O,O,O,O,O,O,O,O,O,O,O,O,O,O,O,O,O,O,O,O,O,O,O,O,O,O,O,O,O,O,O,O,O,O,O,O,O,O,O,O,O,O,O,O,O,O,O,O,O,O,O,O,O,O,O,O,O,O,O,O,O,O] rfl rfl (zo HT_.out (by kernel_rfl)) (fun _ _ _ h => h) (Or.inl ⟨by rfl, ?_⟩) ?_ ?_
        rotate_left
        ·intro w'
         go_simp
         with_reducible rfl
        rotate_left
        ·simp only [Act.put, Ze, Zf, Zg, zl, zm]
         rfl
        refine yZ (yE HT_.out (by kernel_rfl)) ?_
        try go_wp2
        go_ret
        exact ⟨by first | rfl | (simp [zu, zv] <;> rfl) | (simp [*, zu, zv] <;> rfl), by repeat (first | (with_reducible first | exact HB.out | apply zf | apply zd | apply ze) | exact HB.out)⟩
      ·rw [if_neg c6] at H
       exact absurd H (by simp)
     ·rw [if_neg c5] at H
      exact absurd H (by simp)
    ·rw [if_neg c4] at H
     have c4b0 : decide (x5_1 < (l0.length : Int)) = false := decide_eq_false c4
     clear c4
     obtain rfl := Option.some.inj H
     go_wp2
     go_ret
     exact ⟨by first | rfl | (simp [zu, zv] <;> rfl) | (simp [*, zu, zv] <;> rfl), by repeat (first | (with_reducible first | exact HB.out | apply zf | apply zd | apply ze) | exact HB.out)⟩
 ·rw [if_neg c3] at H
  have c3b0 : ((l0.length : Int) == (l1.length : Int)) = false := beq_eq_false_iff_ne.mpr c3
  have c3b1 : ((l0.length : Int) != (l1.length : Int)) = true := bne_iff_ne.mpr c3
  have c3b2 : (l0.length == l1.length) = false := by first | simpa using c3 | (simp at c3 ⊢; omega)
  obtain rfl := Option.some.inj H
  go_enter Tryz.func42, Tryz.ntmps42
  go_wp2
  go_ret
  exact ⟨by first | rfl | (simp [zu, zv] <;> rfl) | (simp [*, zu, zv] <;> rfl), by repeat (first | (with_reducible first | exact HB.out | apply zf | apply zd | apply ze) | exact HB.out)⟩
end Go.Proofs.YtepipnpfggnadaaGreat.Q
