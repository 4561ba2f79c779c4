/- Texts of this session laid together (shrink.py): what the claim's law rests on. -/
import Derived.Below
import Derived.Deep.Draws
import Derived.Deep.AppendLies
import Derived.Maps.AppendAt
import Derived.OwnWalk
import Derived.Laws.BytesArg
import Derived.Laws.MakeOwn
import Derived.Laws.OwnMore
import Derived.Deep.OwnRows
import Derived.Tactics
import Derived.Lib.ConvBytes
import Derived.Laws.Slices
import Derived.WalkKit
import Derived.KernelRfl
import Derived.RowKit3
import Derived.Deep.LoopGhost
import Derived.Deep.QuietTactic
import Derived.BigQuiet
import Derived.WideLaws
import Derived.Deep.DeepCutAuto
import Derived.Deep.CutBlock
import Derived.Deep.RegionHeld3
import Derived.Laws.Rows
import Derived.Lib.AppendStr
import Derived.ArgAppend
import Derived.Laws.IdiomCopy
import Derived.RowKit
import Derived.OrdersHeld
import Derived.Laws.BitsLemmas
import Derived.Laws.StructEq
import Derived.Test.YtepipnpfggnadaaGreatProg
import Derived.WalkMore
import Derived.Lib.Strings
import Derived.Test.YtepipnpfggnadaaGreatTFramesSamee
set_option linter.unusedVariables false
set_option linter.unusedSimpArgs false
set_option maxRecDepth 100000
set_option maxHeartbeats 8000000
open Bool renaming true → O, false → X
open List renaming setIfInBounds_toArray → Ze
open List renaming set_cons_zero → Zf
open List renaming set_cons_succ → Zg
open List renaming map_toArray → Zh
open Option renaming bind_eq_some_iff → Zi
open Go.World renaming block_lt_of_cell? → Zj
open Bool renaming eq_false_iff → Zk
open List renaming length_append → Zl
namespace Go.Proofs.YtepipnpfggnadaaGreat.Q
open Go.RowKit Go.Proofs.YtepipnpfggnadaaGreatW.PrintWords Go.Proofs.YtepipnpfggnadaaGreatW.PrintLast Go.Proofs.YtepipnpfggnadaaGreatW.PrintMore
attribute [local go_sem] xh xg xm xn yT yU xe xd
def zE.l0 : Nat → List (S52) → List (S52) → Int → Option (Bool)
 | 0, _, _, _ => none
 | k + 1, x0, x1, x5 => if x5 < (x0.length : Int) then (if 0 ≤ x5 then (if x5 < (x1.length : Int) then ((yn.f k ((zp x0 x5).f0) ((zp x0 x5).f1) ((zp x0 x5).f2) ((zp x0 x5).f3) ((zp x0 x5).f4) ((zp x0 x5).f5) ((zp x1 x5).f0) ((zp x1 x5).f1) ((zp x1 x5).f2) ((zp x1 x5).f3) ((zp x1 x5).f4) ((zp x1 x5).f5)).bind fun t715 => (if t715 = true then (zE.l0 k x0 x1 (wrap64 (x5 + 1))) else (some false))) else (none)) else (none)) else (some true)
def zE.f (k : Nat) (l0 : List (S52)) (l1 : List (S52)) : Option (Bool) := if (l0.length : Int) = (l1.length : Int) then (zE.l0 k l0 l1 0) else (some false)
def zE.T6 : Bool × List (List Nat × List Nat) := (true, [([], []), ([], []), ([0, 1], [0, 1]), ([2], [2]), ([], []), ([], []), ([4, 5], [4, 5]), ([6], [6]), ([3, 7], [3, 7]), ([8], [8])])
def zE.B6 : List Nat := [0, 0, 3, 7, 0, 0, 48, 112, 255, 511]
theorem zE.tab6 : yR .any (qS Tryz.f41 6) = zE.T6 := by kernel_rfl
theorem zE.bits6 : xt zE.T6.2 zE.B6 = true := by kernel_rfl
theorem zE.calls (k : Nat) (A0 : Option Addr) (c0 : Nat) (l0 : List (S52)) (A1 : Option Addr) (c1 : Nat) (l1 : List (S52)) (r : Bool) (w : World) (hr0 : Kd.C k52 w A0 l0.length l0) (hc0 : l0.length ≤ c0) (hr1 : Kd.C k52 w A1 l1.length l1) (hc1 : l1.length ≤ c1) (h : zE.f k l0 l1 = some r) :
  Calls Tryz.prog 41 #[.slice A0 l0.length c0, .slice A1 l1.length c1] w fun e w' => e = .returned (.bool r) ∧ Below w.heap.size w w' := by
 have hu52 := Tryz.underlying52
 have HR0 := zc.mk hr0
 have HC0 := zc.mk hc0
 clear hr0 hc0
 have HR1 := zc.mk hr1
 have HC1 := zc.mk hc1
 clear hr1 hc1
 have HB := zc.mk (Below.refl w.heap.size w)
 have H : (if (l0.length : Int) = (l1.length : Int) then (zE.l0 k l0 l1 0) else (some false)) = some r := h
 clear h
 by_cases c3 : (l0.length : Int) = (l1.length : Int)
 ·rw [if_pos c3] at H
  have c3b0 : ((l0.length : Int) == (l1.length : Int)) = true := beq_iff_eq.mpr c3
  have c3b1 : ((l0.length : Int) != (l1.length : Int)) = false := bne_eq_false_iff_eq.mpr c3
  have c3b2 : (l0.length == l1.length) = true := by first | simpa using c3 | (simp at c3 ⊢; omega)
  clear c3
  have H' := zc.mk H
  clear H
  go_enter Tryz.func41, Tryz.ntmps41
  go_wp2
  go_loopg [5] k (fun kq v5 w' => ∃ (x5_1 : Int), v5 = .int .i64 x5_1 ∧ zc (zE.l0 kq l0 l1 x5_1 = some r) ∧ zc (kq ≤ k) ∧ zc (Below w.heap.size w w'))
  case atStart => exact ⟨(0), (by first | rfl | (simp; done) | (simp [*]; done)), H', ⟨Nat.le_refl _⟩, ⟨by repeat (first | (with_reducible first | exact HB.out | apply zf | apply zd | apply ze) | exact HB.out)⟩⟩
  case round =>
   clear H'
   try clear c1
   try clear p2
   try clear c3
   try clear c3b0
   try clear c3b1
   try clear c3b2
   obtain ⟨x5_1, rfl, HA, HK1, HB⟩ := hrel
   cases gk with
   | zero => exact absurd HA.out (by simp [zE.l0])
   | succ k1 =>
    have H := HA.out
    clear HA
    simp only [zE.l0] at H
    by_cases c4 : x5_1 < (l0.length : Int)
    ·rw [if_pos c4] at H
     have c4b0 : decide (x5_1 < (l0.length : Int)) = true := decide_eq_true c4
     clear c4
     by_cases c5 : 0 ≤ x5_1
     ·rw [if_pos c5] at H
      have c5b0 : decide (0 ≤ x5_1) = true := decide_eq_true c5
      clear c5
      by_cases c6 : x5_1 < (l1.length : Int)
      ·rw [if_pos c6] at H
       have c6b0 : decide (x5_1 < (l1.length : Int)) = true := decide_eq_true c6
       clear c6
       replace H := Zi.mp H
       obtain ⟨t715, A70, H⟩ := H
       replace H : (if t715 = true then (zE.l0 k1 l0 l1 (wrap64 (x5_1 + 1))) else (some false)) = some r := H
       have A7 := zc.mk A70
       clear A70
       by_cases c8 : t715 = true
       ·subst c8
        have H1 : (zE.l0 k1 l0 l1 (wrap64 (x5_1 + 1))) = some r := by rw [if_pos rfl] at H; exact H
        clear H
        have H := H1
        clear H1
        have H' := zc.mk H
        clear H
        try go_wp2
        have n0_ := zc.mk (ze HB.out)
        clear HB
        have HB := n0_
        clear n0_
        have p713 : 0 ≤ (x5_1 : Int) := of_decide_eq_true (by first | (with_reducible assumption) | assumption)
        have q713 : x5_1 < (l0.length : Int) := of_decide_eq_true (by first | (with_reducible assumption) | assumption)
        obtain ⟨ad713, A713_4, c713_4, e713, hx713_0, hx713_1, hx713_2, hx713_3, hx713_4, hx713_5, hl713_4, hi713_4⟩ := xL HR0.out x5_1 p713 q713
        have hw713_5 := hx713_5
        have hw713_4 := hx713_4
        have hw713_3 := hx713_3
        have hw713_2 := hx713_2
        have hw713_1 := hx713_1
        have hw713_0 := hx713_0
        cases e713
        replace hx713_0 := (HB.out.cell (Zj w _ hx713_0)).trans hx713_0
        replace hx713_1 := (HB.out.cell (Zj w _ hx713_1)).trans hx713_1
        replace hx713_2 := (HB.out.cell (Zj w _ hx713_2)).trans hx713_2
        replace hx713_3 := (HB.out.cell (Zj w _ hx713_3)).trans hx713_3
        replace hx713_4 := (HB.out.cell (Zj w _ hx713_4)).trans hx713_4
        replace hx713_5 := (HB.out.cell (Zj w _ hx713_5)).trans hx713_5
        have HR713_4 := zc.mk hi713_4
        have HC713_4 := zc.mk hl713_4
        clear hi713_4 hl713_4
        replace p713 := eq_true p713
        replace q713 := eq_true q713
        have p714 : 0 ≤ (x5_1 : Int) := of_decide_eq_true (by first | (with_reducible assumption) | assumption)
        have q714 : x5_1 < (l1.length : Int) := of_decide_eq_true (by first | (with_reducible assumption) | assumption)
        obtain ⟨ad714, A714_4, c714_4, e714, hx714_0, hx714_1, hx714_2, hx714_3, hx714_4, hx714_5, hl714_4, hi714_4⟩ := xL HR1.out x5_1 p714 q714
        have hw714_5 := hx714_5
        have hw714_4 := hx714_4
        have hw714_3 := hx714_3
        have hw714_2 := hx714_2
        have hw714_1 := hx714_1
        have hw714_0 := hx714_0
        cases e714
        replace hx714_0 := (HB.out.cell (Zj w _ hx714_0)).trans hx714_0
        replace hx714_1 := (HB.out.cell (Zj w _ hx714_1)).trans hx714_1
        replace hx714_2 := (HB.out.cell (Zj w _ hx714_2)).trans hx714_2
        replace hx714_3 := (HB.out.cell (Zj w _ hx714_3)).trans hx714_3
        replace hx714_4 := (HB.out.cell (Zj w _ hx714_4)).trans hx714_4
        replace hx714_5 := (HB.out.cell (Zj w _ hx714_5)).trans hx714_5
        have HR714_4 := zc.mk hi714_4
        have HC714_4 := zc.mk hl714_4
        clear hi714_4 hl714_4
        replace p714 := eq_true p714
        replace q714 := eq_true q714
        refine yK (n := 10) (S := fun w' => w'.cell? (ad713.add ((x5_1).toNat * 6)) = some (.int .i64 ((zp l0 x5_1).f0)) ∧ w'.cell? ⟨(ad713.add ((x5_1).toNat * 6)).block, (ad713.add ((x5_1).toNat * 6)).off + 1, none⟩ = some (.int .i64 ((zp l0 x5_1).f1)) ∧ w'.cell? ⟨(ad713.add ((x5_1).toNat * 6)).block, (ad713.add ((x5_1).toNat * 6)).off + 2, none⟩ = some (.string ((zp l0 x5_1).f2)) ∧ w'.cell? ⟨(ad713.add ((x5_1).toNat * 6)).block, (ad713.add ((x5_1).toNat * 6)).off + 3, none⟩ = some (.int .i64 ((zp l0 x5_1).f3)) ∧ w'.cell? ⟨(ad713.add ((x5_1).toNat * 6)).block, (ad713.add ((x5_1).toNat * 6)).off + 4, none⟩ = some (.slice A713_4 ((zp l0 x5_1).f4).length c713_4) ∧ w'.cell? ⟨(ad713.add ((x5_1).toNat * 6)).block, (ad713.add ((x5_1).toNat * 6)).off + 5, none⟩ = some (.int .i64 ((zp l0 x5_1).f5)) ∧ w'.cell? (ad714.add ((x5_1).toNat * 6)) = some (.int .i64 ((zp l1 x5_1).f0)) ∧ w'.cell? ⟨(ad714.add ((x5_1).toNat * 6)).block, (ad714.add ((x5_1).toNat * 6)).off + 1, none⟩ = some (.int .i64 ((zp l1 x5_1).f1)) ∧ w'.cell? ⟨(ad714.add ((x5_1).toNat * 6)).block, (ad714.add ((x5_1).toNat * 6)).off + 2, none⟩ = some (.string ((zp l1 x5_1).f2)) ∧ w'.cell? ⟨(ad714.add ((x5_1).toNat * 6)).block, (ad714.add ((x5_1).toNat * 6)).off + 3, none⟩ = some (.int .i64 ((zp l1 x5_1).f3)) ∧ w'.cell? ⟨(ad714.add ((x5_1).toNat * 6)).block, (ad714.add ((x5_1).toNat * 6)).off + 4, none⟩ = some (.slice A714_4 ((zp l1 x5_1).f4).length c714_4) ∧ w'.cell? ⟨(ad714.add ((x5_1).toNat * 6)).block, (ad714.add ((x5_1).toNat * 6)).off + 5, none⟩ = some (.int .i64 ((zp l1 x5_1).f5))) (ds := []) #[X,X,X,X,X,X,X,X,X,X] (by kernel_rfl) rfl rfl ⟨((HB.out.cell (Zj w _ hw713_0)).trans hw713_0), ((HB.out.cell (Zj w _ hw713_1)).trans hw713_1), ((HB.out.cell (Zj w _ hw713_2)).trans hw713_2), ((HB.out.cell (Zj w _ hw713_3)).trans hw713_3), ((HB.out.cell (Zj w _ hw713_4)).trans hw713_4), ((HB.out.cell (Zj w _ hw713_5)).trans hw713_5), ((HB.out.cell (Zj w _ hw714_0)).trans hw714_0), ((HB.out.cell (Zj w _ hw714_1)).trans hw714_1), ((HB.out.cell (Zj w _ hw714_2)).trans hw714_2), ((HB.out.cell (Zj w _ hw714_3)).trans hw714_3), ((HB.out.cell (Zj w _ hw714_4)).trans hw714_4), ((HB.out.cell (Zj w _ hw714_5)).trans hw714_5)⟩ (fun hHeld => ?_); refine ym zE.tab6 zE.bits6 (fun HT_ HW_ => ?_)
        generalize wr.drew = w9 at HB HR713_4 HR714_4 hx713_0 hx713_1 hx713_2 hx713_3 hx713_4 hx713_5 hx714_0 hx714_1 hx714_2 hx714_3 hx714_4 hx714_5 hHeld ⊢
        refine zq (i := 0) (N := some 17) (v := ?_) (a' := ?_) #[O,X,X,X,X,X,X,X,X,X] rfl rfl (zo HT_.out (by kernel_rfl)) (fun _ _ _ h => h) (Or.inl ⟨by rfl, ?_⟩) ?_ ?_
        rotate_left
        ·intro w'
         go_simp
         with_reducible rfl
        rotate_left
        ·simp only [Act.put, Ze, Zf, Zg, zl, zm]
         rfl
        refine zq (i := 1) (N := some 18) (v := ?_) (a' := ?_) #[O,O,X,X,X,X,X,X,X,X] rfl rfl (zo HT_.out (by kernel_rfl)) (fun _ _ _ h => h) (Or.inl ⟨by rfl, ?_⟩) ?_ ?_
        rotate_left
        ·intro w'
         go_simp
         with_reducible rfl
        rotate_left
        ·simp only [Act.put, Ze, Zf, Zg, zl, zm]
         rfl
        refine zq (i := 2) (N := some 19) (v := ?_) (a' := ?_) #[O,O,O,X,X,X,X,X,X,X] rfl rfl (zo HT_.out (by kernel_rfl)) (fun _ _ _ h => h) (Or.inl ⟨by rfl, ?_⟩) ?_ ?_
        rotate_left
        ·intro w'
         go_simp
         with_reducible rfl
        rotate_left
        ·simp only [Act.put, Ze, Zf, Zg, zl, zm]
         rfl
        refine zq (i := 4) (N := some 21) (v := ?_) (a' := ?_) #[O,O,O,X,O,X,X,X,X,X] rfl rfl (zo HT_.out (by kernel_rfl)) (fun _ _ _ h => h) (Or.inl ⟨by rfl, ?_⟩) ?_ ?_
        rotate_left
        ·intro w'
         go_simp
         with_reducible rfl
        rotate_left
        ·simp only [Act.put, Ze, Zf, Zg, zl, zm]
         rfl
        refine zq (i := 5) (N := some 22) (v := ?_) (a' := ?_) #[O,O,O,X,O,O,X,X,X,X] rfl rfl (zo HT_.out (by kernel_rfl)) (fun _ _ _ h => h) (Or.inl ⟨by rfl, ?_⟩) ?_ ?_
        rotate_left
        ·intro w'
         go_simp
         with_reducible rfl
        rotate_left
        ·simp only [Act.put, Ze, Zf, Zg, zl, zm]
         rfl
        refine zq (i := 6) (N := some 23) (v := ?_) (a' := ?_) #[O,O,O,X,O,O,O,X,X,X] rfl rfl (zo HT_.out (by kernel_rfl)) (fun _ _ _ h => h) (Or.inl ⟨by rfl, ?_⟩) ?_ ?_
        rotate_left
        ·intro w'
         go_simp
         with_reducible rfl
        rotate_left
        ·simp only [Act.put, Ze, Zf, Zg, zl, zm]
         rfl
        refine take_ (i := 3) (N := some 20) (v := ?_) (a' := ?_) #[O,O,O,O,O,O,O,X,X,X] rfl rfl (zQ HT_.out HW_.out (by kernel_rfl)) (fun _ _ _ h => h) (Or.inl ⟨by rfl, ?_⟩) hHeld ?_ ?_
        rotate_left
        ·rintro w' ⟨s0, s1, s2, s3, s4, s5, s6, s7, s8, s9, s10, s11⟩
         go_simp
         with_reducible rfl
        rotate_left
        ·simp only [Act.put, Ze, Zf, Zg, zl, zm]
         rfl
        refine take_ (i := 7) (N := some 24) (v := ?_) (a' := ?_) #[O,O,O,O,O,O,O,O,X,X] rfl rfl (zQ HT_.out HW_.out (by kernel_rfl)) (fun _ _ _ h => h) (Or.inl ⟨by rfl, ?_⟩) hHeld ?_ ?_
        rotate_left
        ·rintro w' ⟨s0, s1, s2, s3, s4, s5, s6, s7, s8, s9, s10, s11⟩
         go_simp
         with_reducible rfl
        rotate_left
        ·simp only [Act.put, Ze, Zf, Zg, zl, zm]
         rfl
        refine yO (i := 8) (N := some 25) #[O,O,O,O,O,O,O,O,O,X] rfl rfl (yo HT_.out (by kernel_rfl)) (by decide) (fun K hK => ?_)
        refine yq Tryz.func81 (by kernel_rfl) rfl #[.agg #[.int .i64 ((zp l0 x5_1).f0), .int .i64 ((zp l0 x5_1).f1), .string ((zp l0 x5_1).f2), .int .i64 ((zp l0 x5_1).f3), .slice A713_4 ((zp l0 x5_1).f4).length c713_4, .int .i64 ((zp l0 x5_1).f5)], .agg #[.int .i64 ((zp l1 x5_1).f0), .int .i64 ((zp l1 x5_1).f1), .string ((zp l1 x5_1).f2), .int .i64 ((zp l1 x5_1).f3), .slice A714_4 ((zp l1 x5_1).f4).length c714_4, .int .i64 ((zp l1 x5_1).f5)]] (by rfl) rfl rfl (by (try simp only [Zh, List.map_cons, List.map_nil]); first | done | rfl | (simp only [List.length_drop, List.length_take]; rfl)) ?_
        with_reducible refine (yn.calls k1 ((zp l0 x5_1).f0) ((zp l0 x5_1).f1) ((zp l0 x5_1).f2) ((zp l0 x5_1).f3) _ _ ((zp l0 x5_1).f4) ((zp l0 x5_1).f5) ((zp l1 x5_1).f0) ((zp l1 x5_1).f1) ((zp l1 x5_1).f2) ((zp l1 x5_1).f3) _ _ ((zp l1 x5_1).f4) ((zp l1 x5_1).f5) true _ ?side1 ?side2 ?side3 ?side4 A7.out).mono ?_
        (case side1 => repeat (first | exact (Kd.C_below HR713_4.out HB.out) | (with_reducible refine Kd.C_alloc ?_ _) | (with_reducible refine Kd.C_drewN ?_ _) | (with_reducible refine Kd.C_drew ?_)))
        (case side2 => exact HC713_4.out)
        (case side3 => repeat (first | exact (Kd.C_below HR714_4.out HB.out) | (with_reducible refine Kd.C_alloc ?_ _) | (with_reducible refine Kd.C_drewN ?_ _) | (with_reducible refine Kd.C_drew ?_)))
        (case side4 => exact HC714_4.out)
        rintro e w10 ⟨rfl, hb⟩
        refine ⟨_, rfl, ?_⟩
        have n0_ := zc.mk (zs (by repeat (first | (with_reducible first | exact HB.out | apply zf | apply zd | apply ze) | exact HB.out)) hb)
        clear HB
        have HB := n0_
        clear n0_
        (try clear hb)
        (try clear hb2)
        (try clear hk)
        (try clear hi)
        refine hK.out _ _ ⟨((HB.out.cell (Zj w _ hw713_0)).trans hw713_0), ((HB.out.cell (Zj w _ hw713_1)).trans hw713_1), ((HB.out.cell (Zj w _ hw713_2)).trans hw713_2), ((HB.out.cell (Zj w _ hw713_3)).trans hw713_3), ((HB.out.cell (Zj w _ hw713_4)).trans hw713_4), ((HB.out.cell (Zj w _ hw713_5)).trans hw713_5), ((HB.out.cell (Zj w _ hw714_0)).trans hw714_0), ((HB.out.cell (Zj w _ hw714_1)).trans hw714_1), ((HB.out.cell (Zj w _ hw714_2)).trans hw714_2), ((HB.out.cell (Zj w _ hw714_3)).trans hw714_3), ((HB.out.cell (Zj w _ hw714_4)).trans hw714_4), ((HB.out.cell (Zj w _ hw714_5)).trans hw714_5)⟩ (fun hHeld => ?_)
        clear hK K
        refine yF (a' := ?_) ?_ ?_
        rotate_left
        ·show Act.put _ (some 25) _ = _
         simp only [Act.put, Ze, Zf, Zg, zl, zm]
         rfl
        refine zq (i := 9) (N := some 26) (v := ?_) (a' := ?_) #[O,O,O,O,O,O,O,O,O,O] rfl rfl (zo HT_.out (by kernel_rfl)) (fun _ _ _ h => h) (Or.inl ⟨by rfl, ?_⟩) ?_ ?_
        rotate_left
        ·intro w'
         go_simp
         with_reducible rfl
        rotate_left
        ·simp only [Act.put, Ze, Zf, Zg, zl, zm]
         rfl
        refine yZ (yE HT_.out (by kernel_rfl)) ?_
        try go_wp2
        go_roundg k1
        case measure => have := HK1.out; omega
        case rel => exact ⟨(wrap64 (x5_1 + 1)), (by first | rfl | (simp; done) | (simp [*]; done)), H', ⟨by have := HK1.out; omega⟩, ⟨by repeat (first | (with_reducible first | exact HB.out | apply zf | apply zd | apply ze) | exact HB.out)⟩⟩
       ·replace c8 := Zk.mpr c8
        subst c8
        have H1 : (some false) = some r := by rw [if_neg (show ¬ (false = true) by decide)] at H; exact H
        clear H
        have H := H1
        clear H1
        obtain rfl := Option.some.inj H
        try go_wp2
        have n0_ := zc.mk (ze HB.out)
        clear HB
        have HB := n0_
        clear n0_
        have p713 : 0 ≤ (x5_1 : Int) := of_decide_eq_true (by first | (with_reducible assumption) | assumption)
        have q713 : x5_1 < (l0.length : Int) := of_decide_eq_true (by first | (with_reducible assumption) | assumption)
        obtain ⟨ad713, A713_4, c713_4, e713, hx713_0, hx713_1, hx713_2, hx713_3, hx713_4, hx713_5, hl713_4, hi713_4⟩ := xL HR0.out x5_1 p713 q713
        have hw713_5 := hx713_5
        have hw713_4 := hx713_4
        have hw713_3 := hx713_3
        have hw713_2 := hx713_2
        have hw713_1 := hx713_1
        have hw713_0 := hx713_0
        cases e713
        replace hx713_0 := (HB.out.cell (Zj w _ hx713_0)).trans hx713_0
        replace hx713_1 := (HB.out.cell (Zj w _ hx713_1)).trans hx713_1
        replace hx713_2 := (HB.out.cell (Zj w _ hx713_2)).trans hx713_2
        replace hx713_3 := (HB.out.cell (Zj w _ hx713_3)).trans hx713_3
        replace hx713_4 := (HB.out.cell (Zj w _ hx713_4)).trans hx713_4
        replace hx713_5 := (HB.out.cell (Zj w _ hx713_5)).trans hx713_5
        have HR713_4 := zc.mk hi713_4
        have HC713_4 := zc.mk hl713_4
        clear hi713_4 hl713_4
        replace p713 := eq_true p713
        replace q713 := eq_true q713
        have p714 : 0 ≤ (x5_1 : Int) := of_decide_eq_true (by first | (with_reducible assumption) | assumption)
        have q714 : x5_1 < (l1.length : Int) := of_decide_eq_true (by first | (with_reducible assumption) | assumption)
        obtain ⟨ad714, A714_4, c714_4, e714, hx714_0, hx714_1, hx714_2, hx714_3, hx714_4, hx714_5, hl714_4, hi714_4⟩ := xL HR1.out x5_1 p714 q714
        have hw714_5 := hx714_5
        have hw714_4 := hx714_4
        have hw714_3 := hx714_3
        have hw714_2 := hx714_2
        have hw714_1 := hx714_1
        have hw714_0 := hx714_0
        cases e714
        replace hx714_0 := (HB.out.cell (Zj w _ hx714_0)).trans hx714_0
        replace hx714_1 := (HB.out.cell (Zj w _ hx714_1)).trans hx714_1
        replace hx714_2 := (HB.out.cell (Zj w _ hx714_2)).trans hx714_2
        replace hx714_3 := (HB.out.cell (Zj w _ hx714_3)).trans hx714_3
        replace hx714_4 := (HB.out.cell (Zj w _ hx714_4)).trans hx714_4
        replace hx714_5 := (HB.out.cell (Zj w _ hx714_5)).trans hx714_5
        have HR714_4 := zc.mk hi714_4
        have HC714_4 := zc.mk hl714_4
        clear hi714_4 hl714_4
        replace p714 := eq_true p714
        replace q714 := eq_true q714
        refine yK (n := 10) (S := fun w' => w'.cell? (ad713.add ((x5_1).toNat * 6)) = some (.int .i64 ((zp l0 x5_1).f0)) ∧ w'.cell? ⟨(ad713.add ((x5_1).toNat * 6)).block, (ad713.add ((x5_1).toNat * 6)).off + 1, none⟩ = some (.int .i64 ((zp l0 x5_1).f1)) ∧ w'.cell? ⟨(ad713.add ((x5_1).toNat * 6)).block, (ad713.add ((x5_1).toNat * 6)).off + 2, none⟩ = some (.string ((zp l0 x5_1).f2)) ∧ w'.cell? ⟨(ad713.add ((x5_1).toNat * 6)).block, (ad713.add ((x5_1).toNat * 6)).off + 3, none⟩ = some (.int .i64 ((zp l0 x5_1).f3)) ∧ w'.cell? ⟨(ad713.add ((x5_1).toNat * 6)).block, (ad713.add ((x5_1).toNat * 6)).off + 4, none⟩ = some (.slice A713_4 ((zp l0 x5_1).f4).length c713_4) ∧ w'.cell? ⟨(ad713.add ((x5_1).toNat * 6)).block, (ad713.add ((x5_1).toNat * 6)).off + 5, none⟩ = some (.int .i64 ((zp l0 x5_1).f5)) ∧ w'.cell? (ad714.add ((x5_1).toNat * 6)) = some (.int .i64 ((zp l1 x5_1).f0)) ∧ w'.cell? ⟨(ad714.add ((x5_1).toNat * 6)).block, (ad714.add ((x5_1).toNat * 6)).off + 1, none⟩ = some (.int .i64 ((zp l1 x5_1).f1)) ∧ w'.cell? ⟨(ad714.add ((x5_1).toNat * 6)).block, (ad714.add ((x5_1).toNat * 6)).off + 2, none⟩ = some (.string ((zp l1 x5_1).f2)) ∧ w'.cell? ⟨(ad714.add ((x5_1).toNat * 6)).block, (ad714.add ((x5_1).toNat * 6)).off + 3, none⟩ = some (.int .i64 ((zp l1 x5_1).f3)) ∧ w'.cell? ⟨(ad714.add ((x5_1).toNat * 6)).block, (ad714.add ((x5_1).toNat * 6)).off + 4, none⟩ = some (.slice A714_4 ((zp l1 x5_1).f4).length c714_4) ∧ w'.cell? ⟨(ad714.add ((x5_1).toNat * 6)).block, (ad714.add ((x5_1).toNat * 6)).off + 5, none⟩ = some (.int .i64 ((zp l1 x5_1).f5))) (ds := []) #[X,X,X,X,X,X,X,X,X,X] (by kernel_rfl) rfl rfl ⟨((HB.out.cell (Zj w _ hw713_0)).trans hw713_0), ((HB.out.cell (Zj w _ hw713_1)).trans hw713_1), ((HB.out.cell (Zj w _ hw713_2)).trans hw713_2), ((HB.out.cell (Zj w _ hw713_3)).trans hw713_3), ((HB.out.cell (Zj w _ hw713_4)).trans hw713_4), ((HB.out.cell (Zj w _ hw713_5)).trans hw713_5), ((HB.out.cell (Zj w _ hw714_0)).trans hw714_0), ((HB.out.cell (Zj w _ hw714_1)).trans hw714_1), ((HB.out.cell (Zj w _ hw714_2)).trans hw714_2), ((HB.out.cell (Zj w _ hw714_3)).trans hw714_3), ((HB.out.cell (Zj w _ hw714_4)).trans hw714_4), ((HB.out.cell (Zj w _ hw714_5)).trans hw714_5)⟩ (fun hHeld => ?_); refine ym zE.tab6 zE.bits6 (fun HT_ HW_ => ?_)
        generalize wr.drew = w11 at HB HR713_4 HR714_4 hx713_0 hx713_1 hx713_2 hx713_3 hx713_4 hx713_5 hx714_0 hx714_1 hx714_2 hx714_3 hx714_4 hx714_5 hHeld ⊢
        refine zq (i := 0) (N := some 17) (v := ?_) (a' := ?_) #[O,X,X,X,X,X,X,X,X,X] rfl rfl (zo HT_.out (by kernel_rfl)) (fun _ _ _ h => h) (Or.inl ⟨by rfl, ?_⟩) ?_ ?_
        rotate_left
        ·intro w'
         go_simp
         with_reducible rfl
        rotate_left
        ·simp only [Act.put, Ze, Zf, Zg, zl, zm]
         rfl
        refine zq (i := 1) (N := some 18) (v := ?_) (a' := ?_) #[O,O,X,X,X,X,X,X,X,X] rfl rfl (zo HT_.out (by kernel_rfl)) (fun _ _ _ h => h) (Or.inl ⟨by rfl, ?_⟩) ?_ ?_
        rotate_left
        ·intro w'
         go_simp
         with_reducible rfl
        rotate_left
        ·simp only [Act.put, Ze, Zf, Zg, zl, zm]
         rfl
        refine zq (i := 2) (N := some 19) (v := ?_) (a' := ?_) #[O,O,O,X,X,X,X,X,X,X] rfl rfl (zo HT_.out (by kernel_rfl)) (fun _ _ _ h => h) (Or.inl ⟨by rfl, ?_⟩) ?_ ?_
        rotate_left
        ·intro w'
         go_simp
         with_reducible rfl
        rotate_left
        ·simp only [Act.put, Ze, Zf, Zg, zl, zm]
         rfl
        refine zq (i := 4) (N := some 21) (v := ?_) (a' := ?_) #[O,O,O,X,O,X,X,X,X,X] rfl rfl (zo HT_.out (by kernel_rfl)) (fun _ _ _ h => h) (Or.inl ⟨by rfl, ?_⟩) ?_ ?_
        rotate_left
        ·intro w'
         go_simp
         with_reducible rfl
        rotate_left
        ·simp only [Act.put, Ze, Zf, Zg, zl, zm]
         rfl
        refine zq (i := 5) (N := some 22) (v := ?_) (a' := ?_) #[O,O,O,X,O,O,X,X,X,X] rfl rfl (zo HT_.out (by kernel_rfl)) (fun _ _ _ h => h) (Or.inl ⟨by rfl, ?_⟩) ?_ ?_
        rotate_left
        ·intro w'
         go_simp
         with_reducible rfl
        rotate_left
        ·simp only [Act.put, Ze, Zf, Zg, zl, zm]
         rfl
        refine zq (i := 6) (N := some 23) (v := ?_) (a' := ?_) #[O,O,O,X,O,O,O,X,X,X] rfl rfl (zo HT_.out (by kernel_rfl)) (fun _ _ _ h => h) (Or.inl ⟨by rfl, ?_⟩) ?_ ?_
        rotate_left
        ·intro w'
         go_simp
         with_reducible rfl
        rotate_left
        ·simp only [Act.put, Ze, Zf, Zg, zl, zm]
         rfl
        refine take_ (i := 3) (N := some 20) (v := ?_) (a' := ?_) #[O,O,O,O,O,O,O,X,X,X] rfl rfl (zQ HT_.out HW_.out (by kernel_rfl)) (fun _ _ _ h => h) (Or.inl ⟨by rfl, ?_⟩) hHeld ?_ ?_
        rotate_left
        ·rintro w' ⟨s0, s1, s2, s3, s4, s5, s6, s7, s8, s9, s10, s11⟩
         go_simp
         with_reducible rfl
        rotate_left
        ·simp only [Act.put, Ze, Zf, Zg, zl, zm]
         rfl
        refine take_ (i := 7) (N := some 24) (v := ?_) (a' := ?_) #[O,O,O,O,O,O,O,O,X,X] rfl rfl (zQ HT_.out HW_.out (by kernel_rfl)) (fun _ _ _ h => h) (Or.inl ⟨by rfl, ?_⟩) hHeld ?_ ?_
        rotate_left
        ·rintro w' ⟨s0, s1, s2, s3, s4, s5, s6, s7, s8, s9, s10, s11⟩
         go_simp
         with_reducible rfl
        rotate_left
        ·simp only [Act.put, Ze, Zf, Zg, zl, zm]
         rfl
        refine yO (i := 8) (N := some 25) #[O,O,O,O,O,O,O,O,O,X] rfl rfl (yo HT_.out (by kernel_rfl)) (by decide) (fun K hK => ?_)
        refine yq Tryz.func81 (by kernel_rfl) rfl #[.agg #[.int .i64 ((zp l0 x5_1).f0), .int .i64 ((zp l0 x5_1).f1), .string ((zp l0 x5_1).f2), .int .i64 ((zp l0 x5_1).f3), .slice A713_4 ((zp l0 x5_1).f4).length c713_4, .int .i64 ((zp l0 x5_1).f5)], .agg #[.int .i64 ((zp l1 x5_1).f0), .int .i64 ((zp l1 x5_1).f1), .string ((zp l1 x5_1).f2), .int .i64 ((zp l1 x5_1).f3), .slice A714_4 ((zp l1 x5_1).f4).length c714_4, .int .i64 ((zp l1 x5_1).f5)]] (by rfl) rfl rfl (by (try simp only [Zh, List.map_cons, List.map_nil]); first | done | rfl | (simp only [List.length_drop, List.length_take]; rfl)) ?_
        with_reducible refine (yn.calls k1 ((zp l0 x5_1).f0) ((zp l0 x5_1).f1) ((zp l0 x5_1).f2) ((zp l0 x5_1).f3) _ _ ((zp l0 x5_1).f4) ((zp l0 x5_1).f5) ((zp l1 x5_1).f0) ((zp l1 x5_1).f1) ((zp l1 x5_1).f2) ((zp l1 x5_1).f3) _ _ ((zp l1 x5_1).f4) ((zp l1 x5_1).f5) false _ ?side1 ?side2 ?side3 ?side4 A7.out).mono ?_
        (case side1 => repeat (first | exact (Kd.C_below HR713_4.out HB.out) | (with_reducible refine Kd.C_alloc ?_ _) | (with_reducible refine Kd.C_drewN ?_ _) | (with_reducible refine Kd.C_drew ?_)))
        (case side2 => exact HC713_4.out)
        (case side3 => repeat (first | exact (Kd.C_below HR714_4.out HB.out) | (with_reducible refine Kd.C_alloc ?_ _) | (with_reducible refine Kd.C_drewN ?_ _) | (with_reducible refine Kd.C_drew ?_)))
        (case side4 => exact HC714_4.out)
        rintro e w12 ⟨rfl, hb⟩
        refine ⟨_, rfl, ?_⟩
        have n0_ := zc.mk (zs (by repeat (first | (with_reducible first | exact HB.out | apply zf | apply zd | apply ze) | exact HB.out)) hb)
        clear HB
        have HB := n0_
        clear n0_
        (try clear hb)
        (try clear hb2)
        (try clear hk)
        (try clear hi)
        refine hK.out _ _ ⟨((HB.out.cell (Zj w _ hw713_0)).trans hw713_0), ((HB.out.cell (Zj w _ hw713_1)).trans hw713_1), ((HB.out.cell (Zj w _ hw713_2)).trans hw713_2), ((HB.out.cell (Zj w _ hw713_3)).trans hw713_3), ((HB.out.cell (Zj w _ hw713_4)).trans hw713_4), ((HB.out.cell (Zj w _ hw713_5)).trans hw713_5), ((HB.out.cell (Zj w _ hw714_0)).trans hw714_0), ((HB.out.cell (Zj w _ hw714_1)).trans hw714_1), ((HB.out.cell (Zj w _ hw714_2)).trans hw714_2), ((HB.out.cell (Zj w _ hw714_3)).trans hw714_3), ((HB.out.cell (Zj w _ hw714_4)).trans hw714_4), ((HB.out.cell (Zj w _ hw714_5)).trans hw714_5)⟩ (fun hHeld => ?_)
        clear hK K
        refine yF (a' := ?_) ?_ ?_
        rotate_left
        ·show Act.put _ (some 25) _ = _
         simp only [Act.put, Ze, Zf, Zg, zl, zm]
         rfl
        refine zq (i := 9) (N := some 26) (v := ?_) (a' := ?_) #[O,O,O,O,O,O,O,O,O,O] rfl rfl (zo HT_.out (by kernel_rfl)) (fun _ _ _ h => h) (Or.inl ⟨by rfl, ?_⟩) ?_ ?_
        rotate_left
        ·intro w'
         go_simp
         with_reducible rfl
        rotate_left
        ·simp only [Act.put, Ze, Zf, Zg, zl, zm]
         rfl
        refine yZ (yE HT_.out (by kernel_rfl)) ?_
        try go_wp2
        go_ret
        exact ⟨by first | rfl | (simp [zu, zv] <;> rfl) | (simp [*, zu, zv] <;> rfl), by repeat (first | (with_reducible first | exact HB.out | apply zf | apply zd | apply ze) | exact HB.out)⟩
      ·rw [if_neg c6] at H
       exact absurd H (by simp)
     ·rw [if_neg c5] at H
      exact absurd H (by simp)
    ·rw [if_neg c4] at H
     have c4b0 : decide (x5_1 < (l0.length : Int)) = false := decide_eq_false c4
     clear c4
     obtain rfl := Option.some.inj H
     go_wp2
     go_ret
     exact ⟨by first | rfl | (simp [zu, zv] <;> rfl) | (simp [*, zu, zv] <;> rfl), by repeat (first | (with_reducible first | exact HB.out | apply zf | apply zd | apply ze) | exact HB.out)⟩
 ·rw [if_neg c3] at H
  have c3b0 : ((l0.length : Int) == (l1.length : Int)) = false := beq_eq_false_iff_ne.mpr c3
  have c3b1 : ((l0.length : Int) != (l1.length : Int)) = true := bne_iff_ne.mpr c3
  have c3b2 : (l0.length == l1.length) = false := by first | simpa using c3 | (simp at c3 ⊢; omega)
  obtain rfl := Option.some.inj H
  go_enter Tryz.func41, Tryz.ntmps41
  go_wp2
  go_ret
  exact ⟨by first | rfl | (simp [zu, zv] <;> rfl) | (simp [*, zu, zv] <;> rfl), by repeat (first | (with_reducible first | exact HB.out | apply zf | apply zd | apply ze) | exact HB.out)⟩
def z3.l0 : Nat → List (S108) → List (S108) → Int → Option (Bool)
 | 0, _, _, _ => none
 | k + 1, x0, x1, x5 => if x5 < (x0.length : Int) then (if 0 ≤ x5 then (if x5 < (x1.length : Int) then (if ((zM x0 x5).f0) = ((zM x1 x5).f0) then ((zV.f k ((zM x0 x5).f1) ((zM x1 x5).f1)).bind fun t720 => (if t720 = true then (z3.l0 k x0 x1 (wrap64 (x5 + 1))) else (some false))) else (some false)) else (none)) else (none)) else (some true)
def z3.f (k : Nat) (l0 : List (S108)) (l1 : List (S108)) : Option (Bool) := if (l0.length : Int) = (l1.length : Int) then (z3.l0 k l0 l1 0) else (some false)
theorem z3.calls (k : Nat) (A0 : Option Addr) (c0 : Nat) (l0 : List (S108)) (A1 : Option Addr) (c1 : Nat) (l1 : List (S108)) (r : Bool) (w : World) (hr0 : Kd.C k108 w A0 l0.length l0) (hc0 : l0.length ≤ c0) (hr1 : Kd.C k108 w A1 l1.length l1) (hc1 : l1.length ≤ c1) (h : z3.f k l0 l1 = some r) :
  Calls Tryz.prog 82 #[.slice A0 l0.length c0, .slice A1 l1.length c1] w fun e w' => e = .returned (.bool r) ∧ zC w w' := by
 have HR0 := zc.mk hr0
 have HC0 := zc.mk hc0
 clear hr0 hc0
 have HR1 := zc.mk hr1
 have HC1 := zc.mk hc1
 clear hr1 hc1
 have H : (if (l0.length : Int) = (l1.length : Int) then (z3.l0 k l0 l1 0) else (some false)) = some r := h
 clear h
 by_cases c3 : (l0.length : Int) = (l1.length : Int)
 ·rw [if_pos c3] at H
  have c3b0 : ((l0.length : Int) == (l1.length : Int)) = true := beq_iff_eq.mpr c3
  have c3b1 : ((l0.length : Int) != (l1.length : Int)) = false := bne_eq_false_iff_eq.mpr c3
  have c3b2 : (l0.length == l1.length) = true := by first | simpa using c3 | (simp at c3 ⊢; omega)
  clear c3
  have H' := zc.mk H
  clear H
  go_enter Tryz.func82, Tryz.ntmps82
  go_wp2
  repeat (go_quiet (fail); try go_wp2)
  go_loopg [5] k (fun kq v5 w' => ∃ (x5_1 : Int), v5 = .int .i64 x5_1 ∧ zc (z3.l0 kq l0 l1 x5_1 = some r) ∧ zc (kq ≤ k) ∧ zC w w')
  case atStart => exact ⟨(0), (by first | rfl | (simp; done) | (simp [*]; done)), H', ⟨Nat.le_refl _⟩, by repeat (first | exact zC.refl _ | apply zC.step)⟩
  case round =>
   clear H'
   try clear c1
   try clear p2
   try clear c3
   try clear c3b0
   try clear c3b1
   try clear c3b2
   obtain ⟨x5_1, rfl, HA, HK1, ⟨m1, rfl⟩⟩ := hrel
   cases gk with
   | zero => exact absurd HA.out (by simp [z3.l0])
   | succ k1 =>
    have H := HA.out
    clear HA
    simp only [z3.l0] at H
    by_cases c4 : x5_1 < (l0.length : Int)
    ·rw [if_pos c4] at H
     have c4b0 : decide (x5_1 < (l0.length : Int)) = true := decide_eq_true c4
     clear c4
     by_cases c5 : 0 ≤ x5_1
     ·rw [if_pos c5] at H
      have c5b0 : decide (0 ≤ x5_1) = true := decide_eq_true c5
      clear c5
      by_cases c6 : x5_1 < (l1.length : Int)
      ·rw [if_pos c6] at H
       have c6b0 : decide (x5_1 < (l1.length : Int)) = true := decide_eq_true c6
       clear c6
       by_cases c7 : ((zM l0 x5_1).f0) = ((zM l1 x5_1).f0)
       ·rw [if_pos c7] at H
        have c7b0 : (((zM l0 x5_1).f0) == ((zM l1 x5_1).f0)) = true := beq_iff_eq.mpr c7
        have c7b1 : (((zM l0 x5_1).f0) != ((zM l1 x5_1).f0)) = false := bne_eq_false_iff_eq.mpr c7
        clear c7
        replace H := Zi.mp H
        obtain ⟨t720, A80, H⟩ := H
        replace H : (if t720 = true then (z3.l0 k1 l0 l1 (wrap64 (x5_1 + 1))) else (some false)) = some r := H
        have A8 := zc.mk A80
        clear A80
        by_cases c9 : t720 = true
        ·subst c9
         have H1 : (z3.l0 k1 l0 l1 (wrap64 (x5_1 + 1))) = some r := by rw [if_pos rfl] at H; exact H
         clear H
         have H := H1
         clear H1
         have H' := zc.mk H
         clear H
         have p716 : 0 ≤ (x5_1 : Int) := of_decide_eq_true (by first | (with_reducible assumption) | assumption)
         have q716 : x5_1 < (l0.length : Int) := of_decide_eq_true (by first | (with_reducible assumption) | assumption)
         obtain ⟨ad716, A716_1, c716_1, e716, hx716_0, hx716_1, hl716_1, hi716_1⟩ := yQ HR0.out x5_1 p716 q716
         cases e716
         have HR716_1 := zc.mk hi716_1
         have HC716_1 := zc.mk hl716_1
         clear hi716_1 hl716_1
         replace p716 := eq_true p716
         replace q716 := eq_true q716
         have p717 : 0 ≤ (x5_1 : Int) := of_decide_eq_true (by first | (with_reducible assumption) | assumption)
         have q717 : x5_1 < (l1.length : Int) := of_decide_eq_true (by first | (with_reducible assumption) | assumption)
         obtain ⟨ad717, A717_1, c717_1, e717, hx717_0, hx717_1, hl717_1, hi717_1⟩ := yQ HR1.out x5_1 p717 q717
         cases e717
         have HR717_1 := zc.mk hi717_1
         have HC717_1 := zc.mk hl717_1
         clear hi717_1 hl717_1
         replace p717 := eq_true p717
         replace q717 := eq_true q717
         have p718 : 0 ≤ (x5_1 : Int) := of_decide_eq_true (by first | (with_reducible assumption) | assumption)
         have q718 : x5_1 < (l0.length : Int) := of_decide_eq_true (by first | (with_reducible assumption) | assumption)
         obtain ⟨ad718, A718_1, c718_1, e718, hx718_0, hx718_1, hl718_1, hi718_1⟩ := yQ HR0.out x5_1 p718 q718
         obtain rfl : ad716 = ad718 := (by injection e718)
         have HR718_1 := zc.mk hi718_1
         have HC718_1 := zc.mk hl718_1
         clear hi718_1 hl718_1
         replace p718 := eq_true p718
         replace q718 := eq_true q718
         have ea_ := Option.some.inj (hx716_1.symm.trans hx718_1)
         injection ea_ with ea_ en_ ec_
         subst ea_
         subst ec_
         clear en_
         have p719 : 0 ≤ (x5_1 : Int) := of_decide_eq_true (by first | (with_reducible assumption) | assumption)
         have q719 : x5_1 < (l1.length : Int) := of_decide_eq_true (by first | (with_reducible assumption) | assumption)
         obtain ⟨ad719, A719_1, c719_1, e719, hx719_0, hx719_1, hl719_1, hi719_1⟩ := yQ HR1.out x5_1 p719 q719
         obtain rfl : ad717 = ad719 := (by injection e719)
         have HR719_1 := zc.mk hi719_1
         have HC719_1 := zc.mk hl719_1
         clear hi719_1 hl719_1
         replace p719 := eq_true p719
         replace q719 := eq_true q719
         have ea_ := Option.some.inj (hx717_1.symm.trans hx719_1)
         injection ea_ with ea_ en_ ec_
         subst ea_
         subst ec_
         clear en_
         go_wp2_with (first | (go_at_call 125; (with_reducible refine (zV.calls k1 _ _ ((zM l0 x5_1).f1) _ _ ((zM l1 x5_1).f1) true _ ?side1 ?side2 ?side3 ?side4 A8.out).mono ?_); (case side1 => repeat (first | exact HR718_1.out | (with_reducible refine Kd.C_alloc ?_ _) | (with_reducible refine Kd.C_drewN ?_ _) | (with_reducible refine Kd.C_drew ?_))); (case side2 => exact HC718_1.out); (case side3 => repeat (first | exact HR719_1.out | (with_reducible refine Kd.C_alloc ?_ _) | (with_reducible refine Kd.C_drewN ?_ _) | (with_reducible refine Kd.C_drew ?_))); (case side4 => exact HC719_1.out); rintro e w' ⟨rfl, ⟨nd, rfl⟩⟩; (try first | exact ⟨rfl, _, World.drewN_drewN _ _ _⟩ | exact ⟨rfl, _, Eq.trans (World.drewN_drewN _ _ _) (congrArg (World.drewN _) (Nat.add_assoc _ _ _))⟩)))
         repeat (go_quiet (first | (go_at_call 125; (with_reducible refine (zV.calls k1 _ _ ((zM l0 x5_1).f1) _ _ ((zM l1 x5_1).f1) true _ ?side1 ?side2 ?side3 ?side4 A8.out).mono ?_); (case side1 => repeat (first | exact HR718_1.out | (with_reducible refine Kd.C_alloc ?_ _) | (with_reducible refine Kd.C_drewN ?_ _) | (with_reducible refine Kd.C_drew ?_))); (case side2 => exact HC718_1.out); (case side3 => repeat (first | exact HR719_1.out | (with_reducible refine Kd.C_alloc ?_ _) | (with_reducible refine Kd.C_drewN ?_ _) | (with_reducible refine Kd.C_drew ?_))); (case side4 => exact HC719_1.out); rintro e w' ⟨rfl, ⟨nd, rfl⟩⟩; (try first | exact ⟨rfl, _, World.drewN_drewN _ _ _⟩ | exact ⟨rfl, _, Eq.trans (World.drewN_drewN _ _ _) (congrArg (World.drewN _) (Nat.add_assoc _ _ _))⟩))); try go_wp2_with (first | (go_at_call 125; (with_reducible refine (zV.calls k1 _ _ ((zM l0 x5_1).f1) _ _ ((zM l1 x5_1).f1) true _ ?side1 ?side2 ?side3 ?side4 A8.out).mono ?_); (case side1 => repeat (first | exact HR718_1.out | (with_reducible refine Kd.C_alloc ?_ _) | (with_reducible refine Kd.C_drewN ?_ _) | (with_reducible refine Kd.C_drew ?_))); (case side2 => exact HC718_1.out); (case side3 => repeat (first | exact HR719_1.out | (with_reducible refine Kd.C_alloc ?_ _) | (with_reducible refine Kd.C_drewN ?_ _) | (with_reducible refine Kd.C_drew ?_))); (case side4 => exact HC719_1.out); rintro e w' ⟨rfl, ⟨nd, rfl⟩⟩; (try first | exact ⟨rfl, _, World.drewN_drewN _ _ _⟩ | exact ⟨rfl, _, Eq.trans (World.drewN_drewN _ _ _) (congrArg (World.drewN _) (Nat.add_assoc _ _ _))⟩))))
         go_roundg k1
         case measure => have := HK1.out; omega
         case rel => exact ⟨(wrap64 (x5_1 + 1)), (by first | rfl | (simp; done) | (simp [*]; done)), H', ⟨by have := HK1.out; omega⟩, by repeat (first | exact zC.refl _ | apply zC.step)⟩
        ·replace c9 := Zk.mpr c9
         subst c9
         have H1 : (some false) = some r := by rw [if_neg (show ¬ (false = true) by decide)] at H; exact H
         clear H
         have H := H1
         clear H1
         obtain rfl := Option.some.inj H
         have p716 : 0 ≤ (x5_1 : Int) := of_decide_eq_true (by first | (with_reducible assumption) | assumption)
         have q716 : x5_1 < (l0.length : Int) := of_decide_eq_true (by first | (with_reducible assumption) | assumption)
         obtain ⟨ad716, A716_1, c716_1, e716, hx716_0, hx716_1, hl716_1, hi716_1⟩ := yQ HR0.out x5_1 p716 q716
         cases e716
         have HR716_1 := zc.mk hi716_1
         have HC716_1 := zc.mk hl716_1
         clear hi716_1 hl716_1
         replace p716 := eq_true p716
         replace q716 := eq_true q716
         have p717 : 0 ≤ (x5_1 : Int) := of_decide_eq_true (by first | (with_reducible assumption) | assumption)
         have q717 : x5_1 < (l1.length : Int) := of_decide_eq_true (by first | (with_reducible assumption) | assumption)
         obtain ⟨ad717, A717_1, c717_1, e717, hx717_0, hx717_1, hl717_1, hi717_1⟩ := yQ HR1.out x5_1 p717 q717
         cases e717
         have HR717_1 := zc.mk hi717_1
         have HC717_1 := zc.mk hl717_1
         clear hi717_1 hl717_1
         replace p717 := eq_true p717
         replace q717 := eq_true q717
         have p718 : 0 ≤ (x5_1 : Int) := of_decide_eq_true (by first | (with_reducible assumption) | assumption)
         have q718 : x5_1 < (l0.length : Int) := of_decide_eq_true (by first | (with_reducible assumption) | assumption)
         obtain ⟨ad718, A718_1, c718_1, e718, hx718_0, hx718_1, hl718_1, hi718_1⟩ := yQ HR0.out x5_1 p718 q718
         obtain rfl : ad716 = ad718 := (by injection e718)
         have HR718_1 := zc.mk hi718_1
         have HC718_1 := zc.mk hl718_1
         clear hi718_1 hl718_1
         replace p718 := eq_true p718
         replace q718 := eq_true q718
         have ea_ := Option.some.inj (hx716_1.symm.trans hx718_1)
         injection ea_ with ea_ en_ ec_
         subst ea_
         subst ec_
         clear en_
         have p719 : 0 ≤ (x5_1 : Int) := of_decide_eq_true (by first | (with_reducible assumption) | assumption)
         have q719 : x5_1 < (l1.length : Int) := of_decide_eq_true (by first | (with_reducible assumption) | assumption)
         obtain ⟨ad719, A719_1, c719_1, e719, hx719_0, hx719_1, hl719_1, hi719_1⟩ := yQ HR1.out x5_1 p719 q719
         obtain rfl : ad717 = ad719 := (by injection e719)
         have HR719_1 := zc.mk hi719_1
         have HC719_1 := zc.mk hl719_1
         clear hi719_1 hl719_1
         replace p719 := eq_true p719
         replace q719 := eq_true q719
         have ea_ := Option.some.inj (hx717_1.symm.trans hx719_1)
         injection ea_ with ea_ en_ ec_
         subst ea_
         subst ec_
         clear en_
         go_wp2_with (first | (go_at_call 125; (with_reducible refine (zV.calls k1 _ _ ((zM l0 x5_1).f1) _ _ ((zM l1 x5_1).f1) false _ ?side1 ?side2 ?side3 ?side4 A8.out).mono ?_); (case side1 => repeat (first | exact HR718_1.out | (with_reducible refine Kd.C_alloc ?_ _) | (with_reducible refine Kd.C_drewN ?_ _) | (with_reducible refine Kd.C_drew ?_))); (case side2 => exact HC718_1.out); (case side3 => repeat (first | exact HR719_1.out | (with_reducible refine Kd.C_alloc ?_ _) | (with_reducible refine Kd.C_drewN ?_ _) | (with_reducible refine Kd.C_drew ?_))); (case side4 => exact HC719_1.out); rintro e w' ⟨rfl, ⟨nd, rfl⟩⟩; (try first | exact ⟨rfl, _, World.drewN_drewN _ _ _⟩ | exact ⟨rfl, _, Eq.trans (World.drewN_drewN _ _ _) (congrArg (World.drewN _) (Nat.add_assoc _ _ _))⟩)))
         repeat (go_quiet (first | (go_at_call 125; (with_reducible refine (zV.calls k1 _ _ ((zM l0 x5_1).f1) _ _ ((zM l1 x5_1).f1) false _ ?side1 ?side2 ?side3 ?side4 A8.out).mono ?_); (case side1 => repeat (first | exact HR718_1.out | (with_reducible refine Kd.C_alloc ?_ _) | (with_reducible refine Kd.C_drewN ?_ _) | (with_reducible refine Kd.C_drew ?_))); (case side2 => exact HC718_1.out); (case side3 => repeat (first | exact HR719_1.out | (with_reducible refine Kd.C_alloc ?_ _) | (with_reducible refine Kd.C_drewN ?_ _) | (with_reducible refine Kd.C_drew ?_))); (case side4 => exact HC719_1.out); rintro e w' ⟨rfl, ⟨nd, rfl⟩⟩; (try first | exact ⟨rfl, _, World.drewN_drewN _ _ _⟩ | exact ⟨rfl, _, Eq.trans (World.drewN_drewN _ _ _) (congrArg (World.drewN _) (Nat.add_assoc _ _ _))⟩))); try go_wp2_with (first | (go_at_call 125; (with_reducible refine (zV.calls k1 _ _ ((zM l0 x5_1).f1) _ _ ((zM l1 x5_1).f1) false _ ?side1 ?side2 ?side3 ?side4 A8.out).mono ?_); (case side1 => repeat (first | exact HR718_1.out | (with_reducible refine Kd.C_alloc ?_ _) | (with_reducible refine Kd.C_drewN ?_ _) | (with_reducible refine Kd.C_drew ?_))); (case side2 => exact HC718_1.out); (case side3 => repeat (first | exact HR719_1.out | (with_reducible refine Kd.C_alloc ?_ _) | (with_reducible refine Kd.C_drewN ?_ _) | (with_reducible refine Kd.C_drew ?_))); (case side4 => exact HC719_1.out); rintro e w' ⟨rfl, ⟨nd, rfl⟩⟩; (try first | exact ⟨rfl, _, World.drewN_drewN _ _ _⟩ | exact ⟨rfl, _, Eq.trans (World.drewN_drewN _ _ _) (congrArg (World.drewN _) (Nat.add_assoc _ _ _))⟩))))
         go_ret
         exact ⟨by first | rfl | (simp; done) | (simp [*]; done), by repeat (first | exact zC.refl _ | apply zC.step)⟩
       ·rw [if_neg c7] at H
        have c7b0 : (((zM l0 x5_1).f0) == ((zM l1 x5_1).f0)) = false := beq_eq_false_iff_ne.mpr c7
        have c7b1 : (((zM l0 x5_1).f0) != ((zM l1 x5_1).f0)) = true := bne_iff_ne.mpr c7
        obtain rfl := Option.some.inj H
        have p716 : 0 ≤ (x5_1 : Int) := of_decide_eq_true (by first | (with_reducible assumption) | assumption)
        have q716 : x5_1 < (l0.length : Int) := of_decide_eq_true (by first | (with_reducible assumption) | assumption)
        obtain ⟨ad716, A716_1, c716_1, e716, hx716_0, hx716_1, hl716_1, hi716_1⟩ := yQ HR0.out x5_1 p716 q716
        cases e716
        have HR716_1 := zc.mk hi716_1
        have HC716_1 := zc.mk hl716_1
        clear hi716_1 hl716_1
        replace p716 := eq_true p716
        replace q716 := eq_true q716
        have p717 : 0 ≤ (x5_1 : Int) := of_decide_eq_true (by first | (with_reducible assumption) | assumption)
        have q717 : x5_1 < (l1.length : Int) := of_decide_eq_true (by first | (with_reducible assumption) | assumption)
        obtain ⟨ad717, A717_1, c717_1, e717, hx717_0, hx717_1, hl717_1, hi717_1⟩ := yQ HR1.out x5_1 p717 q717
        cases e717
        have HR717_1 := zc.mk hi717_1
        have HC717_1 := zc.mk hl717_1
        clear hi717_1 hl717_1
        replace p717 := eq_true p717
        replace q717 := eq_true q717
        go_wp2
        repeat (go_quiet (fail); try go_wp2)
        go_ret
        exact ⟨by first | rfl | (simp; done) | (simp [*]; done), by repeat (first | exact zC.refl _ | apply zC.step)⟩
      ·rw [if_neg c6] at H
       exact absurd H (by simp)
     ·rw [if_neg c5] at H
      exact absurd H (by simp)
    ·rw [if_neg c4] at H
     have c4b0 : decide (x5_1 < (l0.length : Int)) = false := decide_eq_false c4
     clear c4
     obtain rfl := Option.some.inj H
     go_wp2
     repeat (go_quiet (fail); try go_wp2)
     go_ret
     exact ⟨by first | rfl | (simp; done) | (simp [*]; done), by repeat (first | exact zC.refl _ | apply zC.step)⟩
 ·rw [if_neg c3] at H
  have c3b0 : ((l0.length : Int) == (l1.length : Int)) = false := beq_eq_false_iff_ne.mpr c3
  have c3b1 : ((l0.length : Int) != (l1.length : Int)) = true := bne_iff_ne.mpr c3
  have c3b2 : (l0.length == l1.length) = false := by first | simpa using c3 | (simp at c3 ⊢; omega)
  obtain rfl := Option.some.inj H
  go_enter Tryz.func82, Tryz.ntmps82
  go_wp2
  repeat (go_quiet (fail); try go_wp2)
  go_ret
  exact ⟨by first | rfl | (simp; done) | (simp [*]; done), by repeat (first | exact zC.refl _ | apply zC.step)⟩
end Go.Proofs.YtepipnpfggnadaaGreat.Q
