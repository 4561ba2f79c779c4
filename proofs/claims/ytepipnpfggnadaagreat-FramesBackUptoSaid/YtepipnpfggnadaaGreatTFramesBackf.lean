/- Texts of this session laid together (shrink.py): what the claim's law rests on. -/
import Derived.Below
import Derived.Deep.Draws
import Derived.Deep.AppendLies
import Derived.Maps.AppendAt
import Derived.OwnWalk
import Derived.Laws.BytesArg
import Derived.Laws.MakeOwn
import Derived.Laws.OwnMore
import Derived.Deep.OwnRows
import Derived.Tactics
import Derived.Lib.ConvBytes
import Derived.Laws.Slices
import Derived.WalkKit
import Derived.KernelRfl
import Derived.RowKit3
import Derived.Deep.LoopGhost
import Derived.Deep.QuietTactic
import Derived.BigQuiet
import Derived.WideLaws
import Derived.Deep.DeepCutAuto
import Derived.Deep.CutBlock
import Derived.Deep.RegionHeld3
import Derived.Laws.Rows
import Derived.Lib.AppendStr
import Derived.ArgAppend
import Derived.Laws.IdiomCopy
import Derived.RowKit
import Derived.OrdersHeld
import Derived.Laws.BitsLemmas
import Derived.Laws.StructEq
import Derived.Test.YtepipnpfggnadaaGreatProg
import Derived.WalkMore
import Derived.Lib.Strings
import Derived.Test.YtepipnpfggnadaaGreatTFramesBacke
set_option linter.unusedVariables false
set_option linter.unusedSimpArgs false
set_option maxRecDepth 100000
set_option maxHeartbeats 8000000
open Bool renaming true → O, false → Y
open List renaming setIfInBounds_toArray → zdF
open List renaming set_cons_zero → zdG
open List renaming set_cons_succ → zdH
open List renaming map_toArray → zdI
open Option renaming bind_eq_some_iff → zdJ
open Go.World renaming block_lt_of_cell? → zdK
open Bool renaming eq_false_iff → zdL
open List renaming length_append → zdM
namespace Go.Proofs.YtepipnpfggnadaaGreat.Q
open Go.RowKit Go.Proofs.YtepipnpfggnadaaGreatW.PrintWords Go.Proofs.YtepipnpfggnadaaGreatW.PrintLast Go.Proofs.YtepipnpfggnadaaGreatW.PrintMore
attribute [local go_sem] jG jE vD vr ja je jK jJ
def yF.f (k : Nat) (a0 : ByteArray) : Option (ByteArray × Int) := if (wrap64 ((a0.size : Int) - 4)) < 0 then (some ((⟨#[]⟩ : ByteArray), 5)) else (if 0 ≤ (wrap64 ((a0.size : Int) - 4)) then (if (wrap64 ((a0.size : Int) - 4)) ≤ (a0.size : Int) then ((xE.f k (a0.extract 0 ((wrap64 ((a0.size : Int) - 4)) : Int).toNat)).bind fun t436 => ((yP.f t436).bind fun t437 => (if t437.toList = (a0.extract ((wrap64 ((a0.size : Int) - 4)) : Int).toNat a0.size).toList then (some (a0.extract 0 ((wrap64 ((a0.size : Int) - 4)) : Int).toNat, 0)) else (some ((⟨#[]⟩ : ByteArray), 7))))) else (none)) else (none))
def yF.T4 : Bool × List (List Nat × List Nat) := (true, [([], []), ([], []), ([0, 1], [0, 1]), ([2], [2]), ([3, 3], [3]), ([], []), ([], []), ([5, 6], [5, 6]), ([4, 7], [4, 7]), ([8, 4], [8])])
def yF.B4 : List Nat := [0, 0, 3, 7, 15, 0, 0, 96, 255, 511]
theorem yF.tab4 : xT .any (zak Tryz.f36 4) = yF.T4 := by kernel_rfl
theorem yF.bits4 : vu yF.T4.2 yF.B4 = true := by kernel_rfl
theorem yF.calls (k : Nat) (a0 : ByteArray) (r1 : ByteArray) (r2 : Int) (w : World) (h : yF.f k a0 = some (r1, r2)) :
  Calls Tryz.prog 36 #[.string a0] w fun e w' => e = .returned (.tuple #[.string r1, .int .i64 r2]) ∧ Below w.heap.size w w' := by
 have HB := za.mk (Below.refl w.heap.size w)
 have H : (if (wrap64 ((a0.size : Int) - 4)) < 0 then (some ((⟨#[]⟩ : ByteArray), 5)) else (if 0 ≤ (wrap64 ((a0.size : Int) - 4)) then (if (wrap64 ((a0.size : Int) - 4)) ≤ (a0.size : Int) then ((xE.f k (a0.extract 0 ((wrap64 ((a0.size : Int) - 4)) : Int).toNat)).bind fun t436 => ((yP.f t436).bind fun t437 => (if t437.toList = (a0.extract ((wrap64 ((a0.size : Int) - 4)) : Int).toNat a0.size).toList then (some (a0.extract 0 ((wrap64 ((a0.size : Int) - 4)) : Int).toNat, 0)) else (some ((⟨#[]⟩ : ByteArray), 7))))) else (none)) else (none))) = some (r1, r2) := h
 clear h
 by_cases c2 : (wrap64 ((a0.size : Int) - 4)) < 0
 ·rw [if_pos c2] at H
  have c2b0 : decide ((wrap64 ((a0.size : Int) - 4)) < 0) = true := decide_eq_true c2
  clear c2
  simp only [Option.some.injEq, Prod.mk.injEq] at H
  obtain ⟨rfl, rfl⟩ := H
  go_enter Tryz.func36, Tryz.ntmps36
  go_wp2
  go_ret2
  exact ⟨by first | rfl | (simp [zn, zo] <;> rfl) | (simp [*, zn, zo] <;> rfl), by repeat (first | (with_reducible first | exact HB.out | apply zc | apply zb | apply zd) | exact HB.out)⟩
 ·rw [if_neg c2] at H
  have c2b0 : decide ((wrap64 ((a0.size : Int) - 4)) < 0) = false := decide_eq_false c2
  clear c2
  obtain ⟨ji3, hji3⟩ : ∃ j_ : Int, (wrap64 ((a0.size : Int) - 4)) = j_ := ⟨_, rfl⟩
  replace H : (if 0 ≤ (ji3) then (if (ji3) ≤ (a0.size : Int) then ((xE.f k (a0.extract 0 ((ji3) : Int).toNat)).bind fun t436 => ((yP.f t436).bind fun t437 => (if t437.toList = (a0.extract ((ji3) : Int).toNat a0.size).toList then (some (a0.extract 0 ((ji3) : Int).toNat, 0)) else (some ((⟨#[]⟩ : ByteArray), 7))))) else (none)) else (none)) = some (r1, r2) := by first | (rw [hji3] at H; exact H) | (simp only [hji3] at H ⊢; exact H)
  (try rw [hji3] at c2b0)
  have hji3w : (IntKind.i64.wrap ((a0.size : Int) - 4)) = ji3 := (z6 _).trans hji3
  by_cases c4 : 0 ≤ (ji3)
  ·rw [if_pos c4] at H
   have c4b0 := eq_true c4
   have c4b1 : decide (0 ≤ (ji3)) = true := decide_eq_true c4
   clear c4
   by_cases c5 : (ji3) ≤ (a0.size : Int)
   ·rw [if_pos c5] at H
    have c5b0 := eq_true c5
    have c5b1 : decide ((ji3) ≤ (a0.size : Int)) = true := decide_eq_true c5
    clear c5
    replace H := zdJ.mp H
    obtain ⟨t436, A60, H⟩ := H
    replace H : ((yP.f t436).bind fun t437 => (if t437.toList = (a0.extract ((ji3) : Int).toNat a0.size).toList then (some (a0.extract 0 ((ji3) : Int).toNat, 0)) else (some ((⟨#[]⟩ : ByteArray), 7)))) = some (r1, r2) := H
    have A6 := za.mk A60
    clear A60
    replace H := zdJ.mp H
    obtain ⟨t437, A70, H⟩ := H
    replace H : (if t437.toList = (a0.extract ((ji3) : Int).toNat a0.size).toList then (some (a0.extract 0 ((ji3) : Int).toNat, 0)) else (some ((⟨#[]⟩ : ByteArray), 7))) = some (r1, r2) := H
    have A7 := za.mk A70
    clear A70
    have c8b0 := eq_true (of_decide_eq_true (by first | (with_reducible assumption) | assumption) : 0 ≤ (ji3))
    have c9b0 := eq_true (of_decide_eq_true (by first | (with_reducible assumption) | assumption) : (ji3) ≤ (a0.size : Int))
    by_cases c10 : t437.toList = (a0.extract ((ji3) : Int).toNat a0.size).toList
    ·rw [if_pos c10] at H
     have c10b0 : (t437.toList == (a0.extract ((ji3) : Int).toNat a0.size).toList) = true := beq_iff_eq.mpr c10
     have c10b1 : (t437.toList != (a0.extract ((ji3) : Int).toNat a0.size).toList) = false := bne_eq_false_iff_eq.mpr c10
     clear c10
     have c11b0 := eq_true (of_decide_eq_true (by first | (with_reducible assumption) | assumption) : 0 ≤ (ji3))
     have c12b0 := eq_true (of_decide_eq_true (by first | (with_reducible assumption) | assumption) : (ji3) ≤ (a0.size : Int))
     simp only [Option.some.injEq, Prod.mk.injEq] at H
     obtain ⟨rfl, rfl⟩ := H
     go_enter Tryz.func36, Tryz.ntmps36
     try go_wp2
     refine Xa (n := 10) (S := fun w' => True) (ds := []) #[Y,Y,Y,Y,Y,Y,Y,Y,Y,Y] (by kernel_rfl) rfl rfl trivial (fun hHeld => ?_); refine ZJ yF.tab4 yF.bits4 (fun HT_ HW_ => ?_)
     first | (generalize hdrew_ : (World.drewN w nd).drew = w13 at hHeld ⊢; have n0_ : za (Below _ _ w13) := za.mk (by rw [← hdrew_]; exact zd (zb HB.out nd)); clear hdrew_; clear HB; have HB := n0_; clear n0_) | (have n0_ := za.mk (zd HB.out); clear HB; have HB := n0_; clear n0_; generalize w.drew = w13 at HB hHeld ⊢)
     refine yR (i := 0) (N := some 12) (v := ?_) (a' := ?_) #[O,Y,Y,Y,Y,Y,Y,Y,Y,Y] rfl rfl (yC HT_.out (by kernel_rfl)) (fun _ _ _ h => h) (Or.inl ⟨by rfl, ?_⟩) ?_ ?_
     rotate_left
     ·intro w'
      go_simp
      with_reducible rfl
     rotate_left
     ·simp only [Act.put, zdF, zdG, zdH, z6, ya]
      rfl
     refine yR (i := 1) (N := some 13) (v := ?_) (a' := ?_) #[O,O,Y,Y,Y,Y,Y,Y,Y,Y] rfl rfl (yC HT_.out (by kernel_rfl)) (fun _ _ _ h => h) (Or.inl ⟨by rfl, ?_⟩) ?_ ?_
     rotate_left
     ·intro w'
      go_simp
      with_reducible rfl
     rotate_left
     ·simp only [Act.put, zdF, zdG, zdH, z6, ya]
      rfl
     refine yR (i := 2) (N := some 14) (v := ?_) (a' := ?_) #[O,O,O,Y,Y,Y,Y,Y,Y,Y] rfl rfl (yC HT_.out (by kernel_rfl)) (fun _ _ _ h => h) (Or.inl ⟨by rfl, ?_⟩) ?_ ?_
     rotate_left
     ·intro w'
      go_simp
      with_reducible rfl
     rotate_left
     ·simp only [Act.put, zdF, zdG, zdH, z6, ya]
      rfl
     refine yR (i := 5) (N := some 17) (v := ?_) (a' := ?_) #[O,O,O,Y,Y,O,Y,Y,Y,Y] rfl rfl (yC HT_.out (by kernel_rfl)) (fun _ _ _ h => h) (Or.inl ⟨by rfl, ?_⟩) ?_ ?_
     rotate_left
     ·intro w'
      go_simp
      with_reducible rfl
     rotate_left
     ·simp only [Act.put, zdF, zdG, zdH, z6, ya]
      rfl
     refine yR (i := 6) (N := some 18) (v := ?_) (a' := ?_) #[O,O,O,Y,Y,O,O,Y,Y,Y] rfl rfl (yC HT_.out (by kernel_rfl)) (fun _ _ _ h => h) (Or.inl ⟨by rfl, ?_⟩) ?_ ?_
     rotate_left
     ·intro w'
      go_simp
      with_reducible rfl
     rotate_left
     ·simp only [Act.put, zdF, zdG, zdH, z6, ya]
      rfl
     refine yR (i := 7) (N := some 19) (v := ?_) (a' := ?_) #[O,O,O,Y,Y,O,O,O,Y,Y] rfl rfl (yC HT_.out (by kernel_rfl)) (fun _ _ _ h => h) (Or.inl ⟨by rfl, ?_⟩) ?_ ?_
     rotate_left
     ·intro w'
      go_simp
      with_reducible rfl
     rotate_left
     ·simp only [Act.put, zdF, zdG, zdH, z6, ya]
      rfl
     refine jC (i := 3) (N := some 15) #[O,O,O,O,Y,O,O,O,Y,Y] rfl rfl (jc HT_.out (by kernel_rfl)) (by decide) (fun K hK => ?_)
     refine vL Tryz.func56 (by kernel_rfl) rfl #[.string (a0.extract 0 ((ji3) : Int).toNat)] (by rfl) rfl rfl (by (try simp only [zdI, List.map_cons, List.map_nil]); first | done | (simp only [hji3]; rfl) | rfl | (simp only [List.length_drop, List.length_take]; rfl)) ?_
     with_reducible refine (xE.calls k (a0.extract 0 ((ji3) : Int).toNat) t436 _ A6.out).mono ?_
     rintro e w' ⟨rfl, ⟨nd, rfl⟩⟩
     refine ⟨_, rfl, ?_⟩
     refine hK.out _ _ trivial (fun hHeld => ?_)
     clear hK K
     refine qz (a' := ?_) ?_ ?_
     rotate_left
     ·show Act.put _ (some 15) _ = _
      simp only [Act.put, zdF, zdG, zdH, z6, ya]
      rfl
     refine jC (i := 4) (N := some 16) #[O,O,O,O,O,O,O,O,Y,Y] rfl rfl (jc HT_.out (by kernel_rfl)) (by decide) (fun K hK => ?_)
     refine vL Tryz.func55 (by kernel_rfl) rfl #[.int .u32 t436] (by rfl) rfl rfl (by (try simp only [zdI, List.map_cons, List.map_nil]); first | done | rfl | (simp only [List.length_drop, List.length_take]; rfl)) ?_
     with_reducible refine (yP.calls t436 t437 _ A7.out).mono ?_
     rintro e w14 ⟨rfl, hb⟩
     refine ⟨_, rfl, ?_⟩
     have n0_ := za.mk (zp (by repeat (first | (with_reducible first | exact HB.out | apply zc | apply zb | apply zd) | exact HB.out)) hb)
     clear HB
     have HB := n0_
     clear n0_
     (try clear hb)
     (try clear hb2)
     (try clear hk)
     (try clear hi)
     refine hK.out _ _ trivial (fun hHeld => ?_)
     clear hK K
     refine qz (a' := ?_) ?_ ?_
     rotate_left
     ·show Act.put _ (some 16) _ = _
      simp only [Act.put, zdF, zdG, zdH, z6, ya]
      rfl
     refine yR (i := 8) (N := some 20) (v := ?_) (a' := ?_) #[O,O,O,O,O,O,O,O,O,Y] rfl rfl (yC HT_.out (by kernel_rfl)) (fun _ _ _ h => h) (Or.inl ⟨by rfl, ?_⟩) ?_ ?_
     rotate_left
     ·intro w'
      go_simp
      with_reducible rfl
     rotate_left
     ·simp only [Act.put, zdF, zdG, zdH, z6, ya]
      rfl
     refine yR (i := 9) (N := some 11) (v := ?_) (a' := ?_) #[O,O,O,O,O,O,O,O,O,O] rfl rfl (yC HT_.out (by kernel_rfl)) (fun _ _ _ h => h) (Or.inl ⟨by rfl, ?_⟩) ?_ ?_
     rotate_left
     ·intro w'
      go_simp
      with_reducible rfl
     rotate_left
     ·simp only [Act.put, zdF, zdG, zdH, z6, ya]
      rfl
     refine Xo (Xg HT_.out (by kernel_rfl)) ?_
     try go_wp2
     go_ret2
     exact ⟨by first | rfl | (simp [zn, zo] <;> rfl) | (simp only [← hji3]; first | rfl | (simp [zn, zo] <;> rfl)) | (simp [*, zn, zo] <;> rfl), by repeat (first | (with_reducible first | exact HB.out | apply zc | apply zb | apply zd) | exact HB.out)⟩
    ·rw [if_neg c10] at H
     have c10b0 : (t437.toList == (a0.extract ((ji3) : Int).toNat a0.size).toList) = false := beq_eq_false_iff_ne.mpr c10
     have c10b1 : (t437.toList != (a0.extract ((ji3) : Int).toNat a0.size).toList) = true := bne_iff_ne.mpr c10
     simp only [Option.some.injEq, Prod.mk.injEq] at H
     obtain ⟨rfl, rfl⟩ := H
     go_enter Tryz.func36, Tryz.ntmps36
     try go_wp2
     refine Xa (n := 10) (S := fun w' => True) (ds := []) #[Y,Y,Y,Y,Y,Y,Y,Y,Y,Y] (by kernel_rfl) rfl rfl trivial (fun hHeld => ?_); refine ZJ yF.tab4 yF.bits4 (fun HT_ HW_ => ?_)
     first | (generalize hdrew_ : (World.drewN w nd).drew = w15 at hHeld ⊢; have n0_ : za (Below _ _ w15) := za.mk (by rw [← hdrew_]; exact zd (zb HB.out nd)); clear hdrew_; clear HB; have HB := n0_; clear n0_) | (have n0_ := za.mk (zd HB.out); clear HB; have HB := n0_; clear n0_; generalize w.drew = w15 at HB hHeld ⊢)
     refine yR (i := 0) (N := some 12) (v := ?_) (a' := ?_) #[O,Y,Y,Y,Y,Y,Y,Y,Y,Y] rfl rfl (yC HT_.out (by kernel_rfl)) (fun _ _ _ h => h) (Or.inl ⟨by rfl, ?_⟩) ?_ ?_
     rotate_left
     ·intro w'
      go_simp
      with_reducible rfl
     rotate_left
     ·simp only [Act.put, zdF, zdG, zdH, z6, ya]
      rfl
     refine yR (i := 1) (N := some 13) (v := ?_) (a' := ?_) #[O,O,Y,Y,Y,Y,Y,Y,Y,Y] rfl rfl (yC HT_.out (by kernel_rfl)) (fun _ _ _ h => h) (Or.inl ⟨by rfl, ?_⟩) ?_ ?_
     rotate_left
     ·intro w'
      go_simp
      with_reducible rfl
     rotate_left
     ·simp only [Act.put, zdF, zdG, zdH, z6, ya]
      rfl
     refine yR (i := 2) (N := some 14) (v := ?_) (a' := ?_) #[O,O,O,Y,Y,Y,Y,Y,Y,Y] rfl rfl (yC HT_.out (by kernel_rfl)) (fun _ _ _ h => h) (Or.inl ⟨by rfl, ?_⟩) ?_ ?_
     rotate_left
     ·intro w'
      go_simp
      with_reducible rfl
     rotate_left
     ·simp only [Act.put, zdF, zdG, zdH, z6, ya]
      rfl
     refine yR (i := 5) (N := some 17) (v := ?_) (a' := ?_) #[O,O,O,Y,Y,O,Y,Y,Y,Y] rfl rfl (yC HT_.out (by kernel_rfl)) (fun _ _ _ h => h) (Or.inl ⟨by rfl, ?_⟩) ?_ ?_
     rotate_left
     ·intro w'
      go_simp
      with_reducible rfl
     rotate_left
     ·simp only [Act.put, zdF, zdG, zdH, z6, ya]
      rfl
     refine yR (i := 6) (N := some 18) (v := ?_) (a' := ?_) #[O,O,O,Y,Y,O,O,Y,Y,Y] rfl rfl (yC HT_.out (by kernel_rfl)) (fun _ _ _ h => h) (Or.inl ⟨by rfl, ?_⟩) ?_ ?_
     rotate_left
     ·intro w'
      go_simp
      with_reducible rfl
     rotate_left
     ·simp only [Act.put, zdF, zdG, zdH, z6, ya]
      rfl
     refine yR (i := 7) (N := some 19) (v := ?_) (a' := ?_) #[O,O,O,Y,Y,O,O,O,Y,Y] rfl rfl (yC HT_.out (by kernel_rfl)) (fun _ _ _ h => h) (Or.inl ⟨by rfl, ?_⟩) ?_ ?_
     rotate_left
     ·intro w'
      go_simp
      with_reducible rfl
     rotate_left
     ·simp only [Act.put, zdF, zdG, zdH, z6, ya]
      rfl
     refine jC (i := 3) (N := some 15) #[O,O,O,O,Y,O,O,O,Y,Y] rfl rfl (jc HT_.out (by kernel_rfl)) (by decide) (fun K hK => ?_)
     refine vL Tryz.func56 (by kernel_rfl) rfl #[.string (a0.extract 0 ((ji3) : Int).toNat)] (by rfl) rfl rfl (by (try simp only [zdI, List.map_cons, List.map_nil]); first | done | (simp only [hji3]; rfl) | rfl | (simp only [List.length_drop, List.length_take]; rfl)) ?_
     with_reducible refine (xE.calls k (a0.extract 0 ((ji3) : Int).toNat) t436 _ A6.out).mono ?_
     rintro e w' ⟨rfl, ⟨nd, rfl⟩⟩
     refine ⟨_, rfl, ?_⟩
     refine hK.out _ _ trivial (fun hHeld => ?_)
     clear hK K
     refine qz (a' := ?_) ?_ ?_
     rotate_left
     ·show Act.put _ (some 15) _ = _
      simp only [Act.put, zdF, zdG, zdH, z6, ya]
      rfl
     refine jC (i := 4) (N := some 16) #[O,O,O,O,O,O,O,O,Y,Y] rfl rfl (jc HT_.out (by kernel_rfl)) (by decide) (fun K hK => ?_)
     refine vL Tryz.func55 (by kernel_rfl) rfl #[.int .u32 t436] (by rfl) rfl rfl (by (try simp only [zdI, List.map_cons, List.map_nil]); first | done | rfl | (simp only [List.length_drop, List.length_take]; rfl)) ?_
     with_reducible refine (yP.calls t436 t437 _ A7.out).mono ?_
     rintro e w16 ⟨rfl, hb⟩
     refine ⟨_, rfl, ?_⟩
     have n0_ := za.mk (zp (by repeat (first | (with_reducible first | exact HB.out | apply zc | apply zb | apply zd) | exact HB.out)) hb)
     clear HB
     have HB := n0_
     clear n0_
     (try clear hb)
     (try clear hb2)
     (try clear hk)
     (try clear hi)
     refine hK.out _ _ trivial (fun hHeld => ?_)
     clear hK K
     refine qz (a' := ?_) ?_ ?_
     rotate_left
     ·show Act.put _ (some 16) _ = _
      simp only [Act.put, zdF, zdG, zdH, z6, ya]
      rfl
     refine yR (i := 8) (N := some 20) (v := ?_) (a' := ?_) #[O,O,O,O,O,O,O,O,O,Y] rfl rfl (yC HT_.out (by kernel_rfl)) (fun _ _ _ h => h) (Or.inl ⟨by rfl, ?_⟩) ?_ ?_
     rotate_left
     ·intro w'
      go_simp
      with_reducible rfl
     rotate_left
     ·simp only [Act.put, zdF, zdG, zdH, z6, ya]
      rfl
     refine yR (i := 9) (N := some 11) (v := ?_) (a' := ?_) #[O,O,O,O,O,O,O,O,O,O] rfl rfl (yC HT_.out (by kernel_rfl)) (fun _ _ _ h => h) (Or.inl ⟨by rfl, ?_⟩) ?_ ?_
     rotate_left
     ·intro w'
      go_simp
      with_reducible rfl
     rotate_left
     ·simp only [Act.put, zdF, zdG, zdH, z6, ya]
      rfl
     refine Xo (Xg HT_.out (by kernel_rfl)) ?_
     try go_wp2
     go_ret2
     exact ⟨by first | rfl | (simp [zn, zo] <;> rfl) | (simp only [← hji3]; first | rfl | (simp [zn, zo] <;> rfl)) | (simp [*, zn, zo] <;> rfl), by repeat (first | (with_reducible first | exact HB.out | apply zc | apply zb | apply zd) | exact HB.out)⟩
   ·rw [if_neg c5] at H
    exact absurd H (by simp)
  ·rw [if_neg c4] at H
   exact absurd H (by simp)
open Go.RowKit Go.Proofs.YtepipnpfggnadaaGreatW.PrintWords Go.Proofs.YtepipnpfggnadaaGreatW.PrintLast Go.Proofs.YtepipnpfggnadaaGreatW.PrintMore Go.Proofs.YtepipnpfggnadaaGreat.Crc
def XO (x : Nat) : List Nat := [x % 256, x / 256 % 256, x / 65536 % 256, x / 16777216 % 256]
def vK (x : Nat) : ByteArray := strOfNums ((XO x).map fun (n : Nat) => (n : Int))
theorem zdi (x : Nat) : ∀ c ∈ XO x, c < 256 := by
 intro c hc
 simp only [XO, List.mem_cons, List.not_mem_nil, or_false] at hc
 omega
theorem zbL (x : Nat) : bl (vK x) = XO x := by
 unfold vK
 rw [QG]
 ·rw [List.map_map]
  have e : (Int.toNat ∘ fun (n : Nat) => (n : Int)) = id := by funext n; rfl
  rw [e, List.map_id]
 ·intro y hy
  rw [List.mem_map] at hy
  obtain ⟨n, hn, rfl⟩ := hy
  have := zdi x n hn
  omega
theorem X7 (x : Nat) : (vK x).size = 4 := by
 rw [← z8, zbL]
 rfl
theorem QZ (x : Nat) (hx : x < 4294967296) : yP.f (x : Int) = some (vK x) := by
 unfold yP.f vK XO
 simp only [List.map_cons, List.map_nil]
 congr 2
theorem zaU (x : Nat) : vp (x : Int) 4 = (XO x).map fun (n : Nat) => (n : Int) := by
 simp [vp, XO]
theorem zb9 (s : ByteArray) (hs : s.size ≤ 140737488351232) (k : Nat) (hk : s.size + 9 < k) : ji.f k s = some (s ++ vK (Z0 (bl s))) := by
 unfold ji.f
 rw [VC s hs k hk]
 simp only [Option.bind_some]
 rw [QZ _ (VA _ (ZN s))]
 simp only [Option.bind_some]
 rw [X7, if_pos (by omega)]
theorem Vh (s : ByteArray) (hs : s.size ≤ 140737488351232) (k : Nat) (hk : 10 * s.size < k) : xc.f k s = some (s ++ vK (Z0 (bl s))) := by
 unfold xc.f
 rw [if_pos hs, VR s hs k hk]
 simp only [Option.bind_some]
 rw [zaU, Zx, yU]
 rfl
def Xj (s : ByteArray) : ByteArray × Int :=
 if s.size < 4 then (⟨#[]⟩, 5) else if vK (Z0 (bl (s.extract 0 (s.size - 4)))) = s.extract (s.size - 4) s.size then (s.extract 0 (s.size - 4), 0) else (⟨#[]⟩, 7)
theorem XH (s : ByteArray) (hs : s.size ≤ 140737488351232) (k : Nat) (hk : s.size + 9 < k) : yF.f k s = some (Xj s) := by
 unfold yF.f Xj
 rw [xL (by omega) (by omega)]
 by_cases h : s.size < 4
 ·rw [if_pos (by omega), if_pos h]
 ·have e : ((s.size : Int) - 4).toNat = s.size - 4 := by omega
  have hsz : (s.extract 0 (s.size - 4)).size = s.size - 4 := by rw [ByteArray.size_extract]; omega
  rw [if_neg (by omega), if_pos (by omega), if_pos (by omega), if_neg h, e, VC _ (by omega) k (by omega)]
  simp only [Option.bind_some]
  rw [QZ _ (VA _ (ZN _))]
  simp only [Option.bind_some, jl]
  split <;> rfl
theorem zbX (s : ByteArray) (h : ¬ s.size < 4) : s = s.extract 0 (s.size - 4) ++ s.extract (s.size - 4) s.size := by
 apply qo
 rw [xZ, yK, yK]
 have hl : (bl s).length ≤ s.size := by rw [z8]; omega
 rw [List.take_of_length_le hl, List.drop_zero, List.take_append_drop]
def Ys (y : S52) : Prop := (Lit.int .i64 y.f0).wf = true ∧ (Lit.int .i64 y.f1).wf = true ∧ y.f2.size ≤ 140737488351232 ∧ (Lit.int .i64 y.f3).wf = true ∧ vV y.f4 ∧ (Lit.int .i64 y.f5).wf = true
def ZM (y : S46) : Prop := (Lit.int .i64 y.f0).wf = true ∧ y.f1.size ≤ 140737488351232 ∧ (y.f2.length ≤ 1048576 ∧ ∀ e ∈ y.f2, ZB e) ∧ (Lit.int .i64 y.f3).wf = true ∧ (Lit.int .i64 y.f4).wf = true
structure FmB (x : Fm) : Prop where
 n0 : (Lit.int .i64 x.f0).wf = true
 n1 : (Lit.int .i64 x.f1).wf = true
 n2 : (Lit.int .i64 x.f2).wf = true
 n3 : (Lit.int .i64 x.f3).wf = true
 n4 : (Lit.int .i64 x.f4).wf = true
 fil : x.f5.length ≤ 1048576 ∧ ∀ y ∈ x.f5, y.size ≤ 140737488351232
 cmd : x.f6.length ≤ 1048576 ∧ ∀ y ∈ x.f6, Ys y
 ent : x.f7.length ≤ 1048576 ∧ ∀ y ∈ x.f7, ZM y
 ite : x.f8.length ≤ 524288 ∧ (∀ y ∈ x.f8, y.f0.size ≤ 1048576) ∧ ∀ y ∈ x.f8, Z1 y
 ver : x.f9.length ≤ 1048576 ∧ ∀ y ∈ x.f9, YT y
theorem XG (b : Bool) (y : ByteArray) : ((xS b y).2 == 0) = b := by cases b <;> rfl
theorem zaO (b : Bool) (y : ByteArray) : (xS b y).2 = if b = true then 0 else 2 := by cases b <;> rfl
def Yt (cl : Int) : Option Int → List S52 → Bool
 | _, [] => true
 | p, y :: l => (qU y.f0 y.f1 y.f2 y.f3 y.f4 y.f5 && ((y.f0 == cl) && qp p y.f1)) && Yt cl (some y.f1) l
theorem putc (y : S52) (h : Ys y) (k : Nat) (hk : 3000000 ≤ k) : yD.f k y.f0 y.f1 y.f2 y.f3 y.f4 y.f5 = some (xS (qU y.f0 y.f1 y.f2 y.f3 y.f4 y.f5) (XI y.f0 y.f1 y.f2 y.f3 y.f4 y.f5)) := Vc _ _ _ _ _ _ h.1 h.2.1 h.2.2.1 h.2.2.2.1 h.2.2.2.2.1 h.2.2.2.2.2 k hk
theorem JW (cl : Int) : ∀ (l : List S52) (p : Option Int), (∀ y ∈ l, Ys y) → Jn cl p l (Yt cl p l)
 | [], _, _ => rfl
 | y :: l, p, h => by
  refine ⟨3000000, (xS (qU y.f0 y.f1 y.f2 y.f3 y.f4 y.f5) (XI y.f0 y.f1 y.f2 y.f3 y.f4 y.f5)).1, (xS (qU y.f0 y.f1 y.f2 y.f3 y.f4 y.f5) (XI y.f0 y.f1 y.f2 y.f3 y.f4 y.f5)).2, putc y (h y (.head _)) _ (Nat.le_refl _), ?_⟩
  rw [XG]
  cases hb : (qU y.f0 y.f1 y.f2 y.f3 y.f4 y.f5 && ((y.f0 == cl) && qp p y.f1)) with
  | false => exact .inl ⟨rfl, by rw [Yt, hb]; rfl⟩
  | true =>
   refine .inr ⟨rfl, ?_⟩
   rw [Yt, hb, Bool.true_and]
   exact JW cl l _ (fun z hz => h z (.tail _ hz))
def Zu (y : S46) : Bool := entV (if Zd y.f2 = true then 0 else 2) y.f1 y.f2.length y.f3 y.f4
theorem pute (y : S46) (h : ZM y) (k : Nat) (hk : 3000000 ≤ k) : xO.f k y.f0 y.f1 y.f2 y.f3 y.f4 = some (Zu y) := by
 unfold xO.f Zu
 rw [zD (Yd y.f2 h.2.2.1.1 h.2.2.1.2 k hk), zaO]
def YF (fr up : Int) : Option Int → List S46 → Bool
 | _, [] => true
 | p, y :: l => (Zu y && (decide (fr ≤ y.f0) && (decide (y.f0 < up) && qp p y.f0))) && YF fr up (some y.f0) l
theorem QU (fr up : Int) : ∀ (l : List S46) (p : Option Int), (∀ y ∈ l, ZM y) → X9 fr up p l (YF fr up p l)
 | [], _, _ => rfl
 | y :: l, p, h => by
  refine ⟨3000000, _, pute y (h y (.head _)) _ (Nat.le_refl _), ?_⟩
  cases hb : (Zu y && (decide (fr ≤ y.f0) && (decide (y.f0 < up) && qp p y.f0))) with
  | false => exact .inl ⟨rfl, by rw [YF, hb]; rfl⟩
  | true =>
   refine .inr ⟨rfl, ?_⟩
   rw [YF, hb, Bool.true_and]
   exact QU fr up l _ (fun z hz => h z (.tail _ hz))
abbrev MS : Int := 1099511627776
def vW (x : Fm) : Bool :=
 if x.f0 = 1 then Xc x.f5 && (inB x.f3 0 MS && inB x.f4 1 MS) else
 if x.f0 = 2 then Yt x.f1 none x.f6 && inB (x.f6.length : Int) 1 8 else
 if x.f0 = 3 then inB x.f4 0 MS else
 if x.f0 = 4 then YF x.f3 x.f4 none x.f7 && (inB x.f3 0 MS && (inB x.f4 0 MS && (decide (x.f3 ≤ x.f4) && decide ((x.f7.length : Int) ≤ 16)))) else
 inB x.f4 0 MS && (qr x.f8 && xu x.f9)
theorem zbp {x : Fm} (hB : FmB x) (h0 : 1 ≤ x.f0 ∧ x.f0 ≤ 5) : Z9 x (vW x) := by
 unfold vW Z9
 by_cases c1 : x.f0 = 1
 ·rw [if_pos c1]
  obtain ⟨r, e1, e2⟩ := Zg x.f5 (by have := hB.fil.1; omega) (x.f5.length + 301) (Nat.le_refl _)
  exact .inl ⟨c1, _, _, _, e1, by rw [e2]⟩
 rw [if_neg c1]
 by_cases c2 : x.f0 = 2
 ·rw [if_pos c2]
  exact .inr (.inl ⟨c2, _, JW _ _ _ hB.cmd.2, rfl⟩)
 rw [if_neg c2]
 by_cases c3 : x.f0 = 3
 ·rw [if_pos c3]
  exact .inr (.inr (.inl ⟨c3, rfl⟩))
 rw [if_neg c3]
 by_cases c4 : x.f0 = 4
 ·rw [if_pos c4]
  exact .inr (.inr (.inr (.inl ⟨c4, _, QU _ _ _ _ hB.ent.2, rfl⟩)))
 rw [if_neg c4]
 exact .inr (.inr (.inr (.inr ⟨by omega, _, (xS (qr x.f8) (yh itY x.f8)).1, (xS (qr x.f8) (yh itY x.f8)).2, _, (xS (xu x.f9) (yh veY x.f9)).1, (xS (xu x.f9) (yh veY x.f9)).2, YJ x.f8 hB.ite.1 hB.ite.2.1 hB.ite.2.2 3000000 (Nat.le_refl _), ZC x.f9 hB.ver.1 hB.ver.2 3000000 (Nat.le_refl _), by rw [XG, XG]⟩)))
instance (x : Fm) : Decidable (jw x) := inferInstanceAs (Decidable ((0 ≤ x.f1 ∧ x.f1 ≤ 5) ∧ (1 ≤ x.f2 ∧ x.f2 ≤ 1099511627776) ∧ (1 ≤ x.f0 ∧ x.f0 ≤ 5)))
def qV (x : Fm) : Bool := decide (jw x) && (jy x && vW x)
theorem Za {x : Fm} (hB : FmB x) : vY x (qV x) := by
 unfold qV vY
 by_cases h : jw x
 ·rw [decide_eq_true h, Bool.true_and]
  cases ho : jy x with
  | false => exact .inr (.inl ⟨h, rfl, rfl⟩)
  | true => exact .inr (.inr ⟨h, rfl, by rw [Bool.true_and]; exact zbp hB h.2.2⟩)
 ·rw [decide_eq_false h]
  exact .inl ⟨h, rfl⟩
theorem Ve (l : List Int) (h : ∀ n ∈ l, (Lit.int .i64 n).wf = true) (hl : l.length ≤ 1048576) (d : Nat) : ∀ (k i : Nat) (acc : ByteArray), i + d = l.length → d + 1 ≤ k → acc.size + 10 * d < 140737488355328 →
  zx.l0 k (bytesOf acc) l (l.length : Int) (i : Int) = some (acc ++ xv (l.drop i)) := by
 induction d with
 | zero =>
  intro k i acc hi hk ha
  obtain ⟨k, rfl⟩ : ∃ m, k = m + 1 := ⟨k - 1, by omega⟩
  rw [zx.l0, if_neg (by omega), List.drop_of_length_le (by omega), xv, qw, qJ, yU]
 | succ d ih =>
  intro k i acc hi hk ha
  obtain ⟨k, rfl⟩ : ∃ m, k = m + 1 := ⟨k - 1, by omega⟩
  have hlt : i < l.length := by omega
  have hb := YU (h _ (List.getElem_mem hlt))
  have hs := zN l[i]
  rw [zx.l0, if_pos (by omega), if_pos (by omega), if_pos (by omega), Jk l i hlt, zD (qZ _ hb.1 hb.2), if_pos (by rw [yj]; omega), z9 (by omega) (by omega), List.drop_eq_getElem_cons hlt, ← y9]
  have := ih k (i + 1) (acc ++ zW l[i]) (by omega) (by omega) (by rw [zK]; omega)
  rw [yJ] at this
  exact this
theorem xD (l : List Int) (h : ∀ n ∈ l, (Lit.int .i64 n).wf = true) (hl : l.length ≤ 1048576) (k : Nat) (hk : l.length + 1 ≤ k) : zx.f k l = some (xv l) := by
 have := Ve l h hl l.length k 0 ⟨#[]⟩ (by omega) hk (by show 0 + _ < _; omega)
 rw [List.drop_zero, Ya] at this
 exact this
theorem Qd {n : Nat} (h : n ≤ 1048576) : (Lit.int .i64 (n : Int)).wf = true := Z6 _ (by omega) (by omega)
def vy (y : S52) : ByteArray := XI y.f0 y.f1 y.f2 y.f3 y.f4 y.f5
def vA (y : S46) : ByteArray := ((zW y.f0 ++ qE y.f1) ++ yh evY y.f2) ++ (zW y.f3 ++ zW y.f4)
theorem YY {y : S52} (h : qU y.f0 y.f1 y.f2 y.f3 y.f4 y.f5 = true) : (vy y).size ≤ 3000 := by
 obtain ⟨_, _, h3, _, _, h6, _⟩ := JP h
 have b1 := zN y.f0
 have b2 := zN y.f1
 have b3 := qQ y.f2
 have b4 := zN y.f3
 have b5 := jz y.f4
 have b6 := zN y.f5
 unfold vy XI
 simp only [zK]
 omega
theorem JZ {l : List S108} (h : Zd l = true) : (yh evY l).size ≤ 8000 := by
 obtain ⟨h1, h2⟩ := Z5 h
 have b1 := zN (l.length : Int)
 have b2 := jN evY 2600 l (fun x hx => by
  have c1 := zN x.f0
  have c2 := jz x.f1
  have c3 := (h2 x hx).2
  unfold evY
  rw [zK]
  omega)
 unfold yh
 rw [zK]
 omega
theorem QE {y : S46} (h : Zu y = true) : Zd y.f2 = true ∧ y.f1.size ≤ 32 := by
 unfold Zu entV at h
 simp only [Bool.and_eq_true] at h
 obtain ⟨h1, h2, h3, _⟩ := h
 cases he : Zd y.f2 with
 | false => rw [he] at h1; exact absurd h1 (by decide)
 | true =>
  refine ⟨rfl, ?_⟩
  cases hn : decide (0 < y.f2.length) with
  | true =>
   rw [hn, beq_iff_eq] at h2
   exact Y4 h2.symm
  | false =>
   rw [hn, Bool.false_or, beq_iff_eq] at h3
   have := (Yq y.f1).1 h3
   omega
theorem Q1 {y : S46} (h : Zu y = true) : (vA y).size ≤ 9000 := by
 obtain ⟨h1, h2⟩ := QE h
 have b1 := zN y.f0
 have b3 := qQ y.f1
 have b4 := JZ h1
 have b5 := zN y.f3
 have b6 := zN y.f4
 unfold vA
 simp only [zK]
 omega
theorem ZR (cl : Int) : ∀ (l : List S52) (p : Option Int), Yt cl p l = true → ∀ y ∈ l, qU y.f0 y.f1 y.f2 y.f3 y.f4 y.f5 = true
 | [], _, _ => by simp
 | z :: l, p, h => by
  rw [Yt, Bool.and_eq_true, Bool.and_eq_true] at h
  intro y hy
  rcases List.mem_cons.1 hy with rfl | hy
  ·exact h.1.1
  ·exact ZR cl l _ h.2 y hy
theorem ZU (fr up : Int) : ∀ (l : List S46) (p : Option Int), YF fr up p l = true → ∀ y ∈ l, Zu y = true
 | [], _, _ => by simp
 | z :: l, p, h => by
  rw [YF, Bool.and_eq_true, Bool.and_eq_true] at h
  intro y hy
  rcases List.mem_cons.1 hy with rfl | hy
  ·exact h.1.1
  ·exact ZU fr up l _ h.2 y hy
def xg (x : Fm) : ByteArray :=
 if x.f0 = 1 then xv [x.f3, x.f4] ++ yh qE x.f5 else
 if x.f0 = 2 then xv [(x.f6.length : Int)] ++ ql vy x.f6 else
 if x.f0 = 3 then xv [x.f4] else
 if x.f0 = 4 then xv [x.f3, x.f4, (x.f7.length : Int)] ++ ql vA x.f7 else
 (xv [x.f4] ++ yh itY x.f8) ++ yh veY x.f9
theorem vX {b : Bool} {y : ByteArray} (h : b = true) : xS b y = (y, 0) := by rw [h]; rfl
theorem qf (l : List Int) (n : Nat) (h : l.length ≤ n) : (xv l).size ≤ 10 * n := Nat.le_trans (V3 l) (Nat.mul_le_mul_left _ h)
theorem j8 {α : Type} (B : α → ByteArray) (M n : Nat) (l : List α) (hl : l.length ≤ n) (h : ∀ x ∈ l, (B x).size ≤ M) : (yh B l).size ≤ 10 + M * n := by
 have h1 := zN (l.length : Int)
 have h2 := Nat.le_trans (jN B M l h) (Nat.mul_le_mul_left M hl)
 unfold yh
 rw [zK]
 omega
theorem Jb (y : S52) (h : Ys y) (hb : qU y.f0 y.f1 y.f2 y.f3 y.f4 y.f5 = true) (a : ByteArray) (ha : a.size + 3000 < 140737488355328) : qx 3000000 (bytesOf a) y = some (bytesOf (a ++ vy y)) := by
 have := YY hb
 unfold qx
 rw [zD (putc y h _ (Nat.le_refl _)), vX hb]
 show (if (bytesOf a).length + (vy y).size ≤ _ then _ else none) = _
 rw [if_pos (by rw [yj]; omega), y9]
 rfl
theorem Qy (y : S46) (h : ZM y) (hb : Zu y = true) (a : ByteArray) (ha : a.size + 9000 < 140737488355328) : xY 3000000 (bytesOf a) y = some (bytesOf (a ++ vA y)) := by
 obtain ⟨h1, h2⟩ := QE hb
 have b1 := zN y.f0
 have b3 := qQ y.f1
 have b4 := JZ h1
 have b5 := zN y.f3
 have b6 := zN y.f4
 unfold xY
 rw [zD (Y0 y.f1 h.2.1), q7 y.f1 (by omega), zD (Yd y.f2 h.2.2.1.1 h.2.2.1.2 3000000 (Nat.le_refl _)), vX h1, zD (xD [y.f0] (Y7 h.1) (by simp) _ (by simp)), qL]
 dsimp only
 rw [if_pos (by rw [yj]; omega), ← y9, if_pos (by rw [yj, zK]; omega), ← y9, if_pos (by rw [yj, zK, zK]; omega), ← y9, zD (xD [y.f3, y.f4] (YP h.2.2.2.1 h.2.2.2.2) (by simp) _ (by simp)), ZV, if_pos (by rw [yj]; simp only [zK]; omega), ← y9]
 unfold vA
 simp only [yJ]
theorem Qe {x : Fm} (hB : FmB x) (h0 : 1 ≤ x.f0 ∧ x.f0 ≤ 5) (hs : vW x = true) : Ye x (xg x) ∧ (xg x).size ≤ 1000000 := by
 refine ⟨⟨3000000, ?_⟩, ?_⟩
 ·unfold qm.f xg
  unfold vW at hs
  by_cases c1 : x.f0 = 1
  ·rw [if_pos c1] at hs ⊢
   rw [if_pos c1]
   rw [Bool.and_eq_true] at hs
   have e := Qs x.f5 hB.fil.1 hB.fil.2 3000000 (Nat.le_refl _)
   rw [vX hs.1] at e
   have g := Yb hs.1
   have b1 := qf [x.f3, x.f4] 2 (Nat.le_refl _)
   have b2 := j8 qE 50 8 x.f5 g.1 (fun y hy => by have := qQ y; have := g.2 y hy; omega)
   unfold xK.f
   rw [zD e, zD (xD [x.f3, x.f4] (YP hB.n3 hB.n4) (by simp) _ (by simp))]
   dsimp only
   rw [if_pos (by omega)]
  rw [if_neg c1] at hs ⊢
  rw [if_neg c1]
  by_cases c2 : x.f0 = 2
  ·rw [if_pos c2] at hs ⊢
   rw [if_pos c2]
   rw [Bool.and_eq_true] at hs
   have hl : (x.f6.length : Int) ≤ 8 := of_decide_eq_true (Bool.and_eq_true_iff.1 hs.2).2
   have ha := ZR _ _ _ hs.1
   have b1 := qf [(x.f6.length : Int)] 1 (Nat.le_refl _)
   unfold xC.f
   rw [zD (xD [(x.f6.length : Int)] (Y7 (Qd hB.cmd.1)) (by simp) _ (by simp)), if_pos (by omega), zD (Zl (qx 3000000) vy 3000 x.f6 _ (fun y hy => YY (ha y hy)) (fun y hy a h => Jb y (hB.cmd.2 y hy) (ha y hy) a h) (by omega)), yU]
  rw [if_neg c2] at hs ⊢
  rw [if_neg c2]
  by_cases c3 : x.f0 = 3
  ·rw [if_pos c3] at hs ⊢
   rw [if_pos c3]
   unfold qd.f
   rw [zD (xD [x.f4] (Y7 hB.n4) (by simp) _ (by simp))]
  rw [if_neg c3] at hs ⊢
  rw [if_neg c3]
  by_cases c4 : x.f0 = 4
  ·rw [if_pos c4] at hs ⊢
   rw [if_pos c4]
   simp only [Bool.and_eq_true, decide_eq_true_eq] at hs
   have hl := hs.2.2.2.2
   have ha := ZU _ _ _ _ hs.1
   have b1 := qf [x.f3, x.f4, (x.f7.length : Int)] 3 (Nat.le_refl _)
   unfold xm.f
   rw [zD (xD [x.f3, x.f4, (x.f7.length : Int)] (fun n hn => by rcases List.mem_cons.1 hn with rfl | hn; exact hB.n3; exact YP hB.n4 (Qd hB.ent.1) n hn) (by simp) _ (by simp)), if_pos (by omega), zD (Zl (xY 3000000) vA 9000 x.f7 _ (fun y hy => Q1 (ha y hy)) (fun y hy a h => Qy y (hB.ent.2 y hy) (ha y hy) a h) (by omega)), yU]
  rw [if_neg c4] at hs ⊢
  rw [if_neg c4]
  simp only [Bool.and_eq_true] at hs
  have e1 := YJ x.f8 hB.ite.1 hB.ite.2.1 hB.ite.2.2 3000000 (Nat.le_refl _)
  have e2 := ZC x.f9 hB.ver.1 hB.ver.2 3000000 (Nat.le_refl _)
  rw [vX hs.2.1] at e1
  rw [vX hs.2.2] at e2
  have g1 := Zt hs.2.1
  have g2 := vE hs.2.2
  have b1 := qf [x.f4] 1 (Nat.le_refl _)
  have b2 := j8 itY 3000 64 x.f8 g1.1 (fun y hy => by
   have := qQ y.f0
   have := zN y.f1.f0
   have := zN y.f1.f1
   have := jz y.f1.f2
   have := (g1.2 y hy).2
   unfold itY
   simp only [zK]
   omega)
  have b3 := j8 veY 20 32 x.f9 g2.1 (fun y _ => XP y)
  unfold qe.f
  rw [zD e1, zD e2, zD (xD [x.f4] (Y7 hB.n4) (by simp) _ (by simp))]
  dsimp only
  rw [if_pos (by omega), if_pos (by rw [zK]; omega)]
 ·unfold xg
  unfold vW at hs
  by_cases c1 : x.f0 = 1
  ·rw [if_pos c1] at hs ⊢
   rw [Bool.and_eq_true] at hs
   have g := Yb hs.1
   have b1 := qf [x.f3, x.f4] 2 (Nat.le_refl _)
   have b2 := j8 qE 50 8 x.f5 g.1 (fun y hy => by have := qQ y; have := g.2 y hy; omega)
   rw [zK]
   omega
  rw [if_neg c1] at hs ⊢
  by_cases c2 : x.f0 = 2
  ·rw [if_pos c2] at hs ⊢
   rw [Bool.and_eq_true] at hs
   have hl : (x.f6.length : Int) ≤ 8 := of_decide_eq_true (Bool.and_eq_true_iff.1 hs.2).2
   have b1 := qf [(x.f6.length : Int)] 1 (Nat.le_refl _)
   have b2 := jN vy 3000 x.f6 (fun y hy => YY (ZR _ _ _ hs.1 y hy))
   rw [zK]
   omega
  rw [if_neg c2] at hs ⊢
  by_cases c3 : x.f0 = 3
  ·rw [if_pos c3]
   have b1 := qf [x.f4] 1 (Nat.le_refl _)
   omega
  rw [if_neg c3] at hs ⊢
  by_cases c4 : x.f0 = 4
  ·rw [if_pos c4] at hs ⊢
   simp only [Bool.and_eq_true, decide_eq_true_eq] at hs
   have hl := hs.2.2.2.2
   have b1 := qf [x.f3, x.f4, (x.f7.length : Int)] 3 (Nat.le_refl _)
   have b2 := jN vA 9000 x.f7 (fun y hy => Q1 (ZU _ _ _ _ hs.1 y hy))
   rw [zK]
   omega
  rw [if_neg c4] at hs ⊢
  simp only [Bool.and_eq_true] at hs
  have g1 := Zt hs.2.1
  have g2 := vE hs.2.2
  have b1 := qf [x.f4] 1 (Nat.le_refl _)
  have b2 := j8 itY 3000 64 x.f8 g1.1 (fun y hy => by
   have := qQ y.f0
   have := zN y.f1.f0
   have := zN y.f1.f1
   have := jz y.f1.f2
   have := (g1.2 y hy).2
   unfold itY
   simp only [zK]
   omega)
  have b3 := j8 veY 20 32 x.f9 g2.1 (fun y _ => XP y)
  rw [zK, zK]
  omega
def jZ (x : Fm) : ByteArray := xv [x.f0, x.f1, x.f2] ++ xg x
def qj (t : ByteArray) : ByteArray := t ++ vK (Z0 (bl t))
theorem Zf (t : ByteArray) : (qj t).size = t.size + 4 := by unfold qj; rw [zK, X7]
theorem QB {x : Fm} (hB : FmB x) : (qV x = false ∧ ZD x ⟨#[]⟩ 2) ∨ (qV x = true ∧ ZD x (qj (jZ x)) 0 ∧ (jZ x).size ≤ 1000030) := by
 have hr := Za hB
 cases h : qV x with
 | false =>
  rw [h] at hr
  exact .inl ⟨rfl, .inl ⟨hr, rfl, rfl⟩⟩
 | true =>
  rw [h] at hr
  unfold qV at h
  simp only [Bool.and_eq_true, decide_eq_true_eq] at h
  obtain ⟨hf, hz⟩ := Qe hB h.1.2.2 h.2.2
  have b1 := qf [x.f0, x.f1, x.f2] 3 (Nat.le_refl _)
  have hl : (jZ x).size ≤ 1000030 := by unfold jZ; rw [zK]; omega
  refine .inr ⟨rfl, .inr ⟨hr, xv [x.f0, x.f1, x.f2], xg x, ⟨_, xD [x.f0, x.f1, x.f2] (fun n hn => by rcases List.mem_cons.1 hn with rfl | hn; exact hB.n0; exact YP hB.n1 hB.n2 n hn) (by simp) 4 (by simp)⟩, hf, by omega, ⟨1000040, zb9 (jZ x) (by omega) 1000040 (by omega)⟩, rfl⟩, hl⟩
abbrev Tn (w : World) (g T : Nat) (new : List Value) (w' : World) : Prop := xl [g] w w' ∧ w'.heap[g]? = some (.cells new.toArray T (0, 0))
abbrev AtB (w : World) (g T : Nat) (cs : List Value) : Prop := w.heap[g]? = some (.cells cs.toArray T (0, 0))
section
variable {P : Program} {gs : List Nat} {w0 w w1 W : World} {bs bs' bs1 : List Bk} {rs : List Rw} {f : FuncId} {args : Array Value} {K : Ending → World → Prop} {g T : Nat} {old new : List Value} {α : Type} {d : Kd α} {t e : Nat} {xs : List α} {x : α} {r : Value}
theorem Sat.tn (H : Sat gs w0 w bs rs) {Φ : Ending → World → Prop} (hc : AtB w g T old → Calls P f args w fun e w' => Φ e w' ∧ Tn w g T new w') (h : ∀ e w', Φ e w' → Sat gs w0 w' bs' rs → K e w')
  (hm : (g, old, T) ∈ bs := by ((repeat (first | exact .head _ | apply List.Mem.tail)); (first | done | fail))) (U : Up g T 0 (fun _ => new) bs bs' := by ((repeat (first | exact .here rfl | apply Up.there)); (first | done | fail))) (ht : xj T rs = true := by rfl) : Calls P f args w K :=
 (hc (H.blk _ hm).2).mono fun e w' he => h e w' he.1 (H.turn U ht he.2.1 (fun _ _ => he.2.2))
theorem Sat.tn0 (H : Sat gs w0 w bs rs) (hc : AtB w g T old → Calls P f args w fun e w' => e = .returned r ∧ Tn w g T new w') (h : ∀ w', Sat gs w0 w' bs' rs → K (.returned r) w')
  (hm : (g, old, T) ∈ bs := by ((repeat (first | exact .head _ | apply List.Mem.tail)); (first | done | fail))) (U : Up g T 0 (fun _ => new) bs bs' := by ((repeat (first | exact .here rfl | apply Up.there)); (first | done | fail))) (ht : xj T rs = true := by rfl) : Calls P f args w K :=
 H.tn hc (fun e w' he HS => by subst he; exact h w' HS) hm U ht
theorem Sat.tnR (H : Sat gs w0 w bs rs) (hc : AtB w g T old → Calls P f args w fun e w' => (∃ v, e = .returned v ∧ d.R t w' w.heap.size (fun _ => True) v xs) ∧ Tn w g T new w')
  (h : ∀ A c w', Sat gs w0 w' bs' (xV d t w0 (.slice A xs.length c) xs :: rs) → K (.returned (.slice A xs.length c)) w')
  (hm : (g, old, T) ∈ bs := by ((repeat (first | exact .head _ | apply List.Mem.tail)); (first | done | fail))) (U : Up g T 0 (fun _ => new) bs bs' := by ((repeat (first | exact .here rfl | apply Up.there)); (first | done | fail))) (ht : xj T rs = true := by rfl) : Calls P f args w K :=
 H.tn hc (fun e w' he HS => by
  obtain ⟨v, rfl, hr⟩ := he
  obtain ⟨A, c, rfl⟩ := Kd.R_slice hr
  exact h A c w' (HS.R hr H.keep.size)) hm U ht
theorem Sat.tnM (H : Sat gs w0 w bs rs) {F : List Value → Value} (hc : AtB w g T old → Calls P f args w fun e w' => (∃ cs, e = .returned (F cs) ∧ d.M w' w.heap.size (fun _ => True) x cs) ∧ Tn w g T new w')
  (h : ∀ cs w', Sat gs w0 w' bs' rs → d.M w' w0.heap.size (fun _ => True) x cs → K (.returned (F cs)) w')
  (hm : (g, old, T) ∈ bs := by ((repeat (first | exact .head _ | apply List.Mem.tail)); (first | done | fail))) (U : Up g T 0 (fun _ => new) bs bs' := by ((repeat (first | exact .here rfl | apply Up.there)); (first | done | fail))) (ht : xj T rs = true := by rfl) : Calls P f args w K :=
 H.tn hc (fun e w' he HS => by
  obtain ⟨cs, rfl, hr⟩ := he
  exact h cs w' HS (d.M_lower H.keep.size hr)) hm U ht
theorem Sat.fin (H : Sat [g] w w1 bs rs) (hm : (g, new, T) ∈ bs := by ((repeat (first | exact .head _ | apply List.Mem.tail)); (first | done | fail))) : Tn w g T new w1 := ⟨H.keep, (H.blk _ hm).2⟩
variable {ops : Array Oper} {rest : List Oper} {o o1 o2 : Oper} {a : Act} {Q : Exit → Act → World → Prop} {v : Value} {p : α}
theorem gL {w : World} {t n : Nat} {l : Array (Nat × Operand)} (_ho : o.op = .buildSlice t n l) (h : wpList P ops Q (o :: rest) a w) : wpList P ops Q (o :: rest) a w := h
theorem Jm (H : Sat gs w0 W bs (xV d e w0 v xs :: rs)) {cs : List Value} {s y : Operand} {t : TypeId} {z : Value} {bytes : Nat} (hp : d.M W w0.heap.size (fun _ => True) p cs) (hl : (xs.length + 1) * bytes ≤ 140737488355328)
  (h : ∀ A c w1, Sat gs w0 w1 bs (xV d e w0 (.slice A (xs ++ [p]).length c) (xs ++ [p]) :: rs) → wpList P ops Q rest ((a.put o1.dst (.slice (some ⟨W.heap.size, 0, none⟩) 1 1)).put o2.dst (.slice A (xs ++ [p]).length c)) w1)
  (hg1 : o1.guard = none := by rfl) (hr1 : (execOp a.eval o1).run P W = .ok (.value (.slice (some ⟨W.heap.size, 0, none⟩) 1 1)) (W.alloc (.cells cs.toArray e)) := by (go_simp; try rfl))
  (hg2 : o2.guard = none := by rfl) (hop : o2.op = .call { callee := .builtin .append, args := #[s, y], argTypes := #[t, t] } := by rfl)
  (hs : (a.put o1.dst (.slice (some ⟨W.heap.size, 0, none⟩) 1 1)).eval s = v := by rfl) (hx : (a.put o1.dst (.slice (some ⟨W.heap.size, 0, none⟩) 1 1)).eval y = .slice (some ⟨W.heap.size, 0, none⟩) 1 1 := by rfl)
  (ht : P.underlying t = some (.slice e) := by rfl) (hinfo : (P.info? e).map (fun i => (i.zero, i.size, i.bytes)) = some (some z, d.sz, bytes) := by rfl) (hz : z.cells.size = d.sz := by rfl) (hs0 : 0 < d.sz := by decide) (hb0 : 0 < bytes := by decide)
  (hE : d.E.contains e = false := by rfl) (hf : xj e rs = true := by rfl) (hb : (bs.all fun b => b.2.2 != e) = true := by rfl) : wpList P ops Q (o1 :: o2 :: rest) a W := by
 have h0 := (H.rows _ (.head _)).2
 refine Kd.event_run hg1 hr1 ?_
 refine Kd.R_append d (w0 := xy W w0.heap.size) (W := W) w0.heap.size hg2 s y t e z bytes hop ht hinfo hz hs0 hb0 v xs p cs (fun _ => True) _ hs hx (zcA h0 hp hE) (fun _ hk => hk) (fun _ _ => trivial) h0
  ⟨rfl, rfl, rfl, by rw [vO H.keep.size]; exact H.keep.size, (Yr H.keep.size).block |> fun hb k hk => hb k (by rw [vO H.keep.size]; exact hk)⟩ H.keep.size hl ?_
 intro v1 w1 hr hbl hg _
 obtain ⟨A, c, rfl⟩ := Kd.R_slice hr
 exact h A c w1 (H.grown hr hg (show W.tape = w1.tape from hbl.tape.symm) (H.apartOf hb) hf)
variable {i D : Nat} {r0 : PT} {a' : Act}
theorem YS {X : Act → World → Prop} (H : Sat gs w0 w bs rs) (hs : bs1.Sublist bs) {fn : Func} {c : Operand} {ax : Array Operand} {ts : Array TypeId} {F : Value → Value} (hc : Calls P f args w fun e w' => ∃ v, e = .returned (F v) ∧ d.R t w' w.heap.size (fun _ => True) v xs ∧ Below w.heap.size w w')
  (h : ∀ A c w', Sat gs w0 w' bs (xV d t w0 (.slice A xs.length c) xs :: rs) → X (a.put (some D) (F (.slice A xs.length c))) w')
  (hd : o.dst = some D := by rfl) (hop : o.op = .call { callee := .value c, args := ax, argTypes := ts } := by rfl) (hcv : a.eval c = .func (Fn.func f) #[] #[] := by rfl) (hargs : ax.map a.eval = args := by (simp only [zdI, List.map_cons, List.map_nil]; rfl)) (hf : P.funcs[f]? = some fn := by rfl)
  (hname : (fn.name == "runtime.NumGoroutine") = false := by rfl) (hbd : fn.body.isSome = true := by rfl) (hw : Region.wanted o (yielded ops a.tmps) = true := by rfl) : Stp P ops Q (fun W => Lk W bs1) X o D a w :=
 fun K hK => Zo (hc.mono fun e w' he => by
  obtain ⟨v, rfl, hr, hb⟩ := he
  obtain ⟨A, c, rfl⟩ := Kd.R_slice hr
  have HS := (H.call hb).R hr H.keep.size
  exact ⟨_, rfl, hK _ _ (xb hs HS.lk) (fun _ => h A c w' HS)⟩) hf hop hcv hargs hname hbd hw hd
theorem zdo {X : Act → World → Prop} (H : Sat gs w0 w bs rs) (hs : bs1.Sublist bs) {fn : Func} {c : Operand} {ax : Array Operand} {ts : Array TypeId} {F : List Value → Value} (hc : Calls P f args w fun e w' => (∃ cs, e = .returned (F cs) ∧ d.M w' w.heap.size (fun _ => True) x cs) ∧ Below w.heap.size w w')
  (h : ∀ cs w', Sat gs w0 w' bs rs → d.M w' w0.heap.size (fun _ => True) x cs → X (a.put (some D) (F cs)) w')
  (hd : o.dst = some D := by rfl) (hop : o.op = .call { callee := .value c, args := ax, argTypes := ts } := by rfl) (hcv : a.eval c = .func (Fn.func f) #[] #[] := by rfl) (hargs : ax.map a.eval = args := by (simp only [zdI, List.map_cons, List.map_nil]; rfl)) (hf : P.funcs[f]? = some fn := by rfl)
  (hname : (fn.name == "runtime.NumGoroutine") = false := by rfl) (hbd : fn.body.isSome = true := by rfl) (hw : Region.wanted o (yielded ops a.tmps) = true := by rfl) : Stp P ops Q (fun W => Lk W bs1) X o D a w :=
 fun K hK => Zo (hc.mono fun e w' he => by
  obtain ⟨⟨cs, rfl, hr⟩, hb⟩ := he
  have HS := H.call hb
  exact ⟨_, rfl, hK _ _ (xb hs HS.lk) (fun _ => h cs w' HS (d.M_lower H.keep.size hr))⟩) hf hop hcv hargs hname hbd hw hd
end
abbrev rdC (s : ByteArray) (p e : Int) : List Value := [.string s, .int .i64 p, .int .i64 e]
def beh {α : Type} (z : α) (f : ByteArray → Int → α → Int → Int → Prop) (s : ByteArray) (p q : Int) (v : α) (p' q' : Int) : Prop := (q ≠ 0 ∧ v = z ∧ p' = p ∧ q' = q) ∨ (q = 0 ∧ f s p v p' q')
def xp := beh (0 : Int) fun s p v p' q' => ∃ k, zm.f k s p = some (v, p', q')
def jA := beh (⟨#[]⟩ : ByteArray) fun s p v p' q' => ∃ k, xA.f k s p = some (v, p', q')
def Xn := beh ([] : List Int) fun s p v p' q' => ∃ k, xq.f k s p = some (v, p', q')
def rEv (s : ByteArray) (p q : Int) (x : S108) (p' q' : Int) : Prop := ∃ p1 q1, xp s p q x.f0 p1 q1 ∧ Xn s p1 q1 x.f1 p' q'
def QO (s : ByteArray) (p q : Int) (x : S77) (p' q' : Int) : Prop := ∃ p1 q1, xp s p q x.f0 p1 q1 ∧ xp s p1 q1 x.f1 p' q'
def rIt (s : ByteArray) (p q : Int) (x : S86) (p' q' : Int) : Prop := ∃ p1 q1 p2 q2 p3 q3, jA s p q x.f0 p1 q1 ∧ xp s p1 q1 x.f1.f0 p2 q2 ∧ xp s p2 q2 x.f1.f1 p3 q3 ∧ Xn s p3 q3 x.f1.f2 p' q'
def ZL {α : Type} (one : Int → Int → α → Int → Int → Prop) : List α → Int → Int → Int → Int → Int → Prop
 | [], n, p, q, p', q' => ¬ (0 < n ∧ q = 0) ∧ p' = p ∧ q' = q
 | x :: l, n, p, q, p', q' => 0 < n ∧ q = 0 ∧ ∃ p1 q1, one p q x p1 q1 ∧ ZL one l (n - 1) p1 q1 p' q'
def Ym {α : Type} (one : ByteArray → Int → Int → α → Int → Int → Prop) (s : ByteArray) (p q m : Int) (xs : List α) (p' q' : Int) : Prop := ∃ n p1 q0 q1, xp s p q n p1 q0 ∧ ((q0 ≠ 0 ∧ q1 = q0) ∨ (q0 = 0 ∧ wiB n 0 m = false ∧ q1 = 6) ∨ (q0 = 0 ∧ wiB n 0 m = true ∧ q1 = 0)) ∧ ZL (one s) xs n p1 q1 p' q'
def YQ {α : Type} (z x : α) (ok : Bool) (p q : Int) (y : α) (n e : Int) : Prop := (q ≠ 0 ∧ y = z ∧ n = 0 ∧ e = q) ∨ (q = 0 ∧ ok = false ∧ y = z ∧ n = 0 ∧ e = 6) ∨ (q = 0 ∧ ok = true ∧ y = x ∧ n = p ∧ e = 0)
def Xi {α : Type} (one : ByteArray → Int → Int → α → Int → Int → Prop) (m : Int) (ok : List α → Bool → Prop) (s : ByteArray) (at_ : Int) (ys : List α) (n e : Int) : Prop := ∃ xs p q b, Ym one s at_ 0 m xs p q ∧ ok xs b ∧ YQ [] xs b p q ys n e
def Vm := Xi rIt 64 (fun l b => qr l = b)
def Qc := Xi QO 32 (fun l b => xu l = b)
def zcE (s : ByteArray) (at_ : Int) (y : S52) (n e : Int) : Prop := ∃ (x : S52) (p1 q1 p2 q2 p3 q3 p4 q4 p5 q5 p q : Int), xp s at_ 0 x.f0 p1 q1 ∧ xp s p1 q1 x.f1 p2 q2 ∧ jA s p2 q2 x.f2 p3 q3 ∧ xp s p3 q3 x.f3 p4 q4 ∧ Xn s p4 q4 x.f4 p5 q5 ∧ xp s p5 q5 x.f5 p q ∧ YQ z52 x (qU x.f0 x.f1 x.f2 x.f3 x.f4 x.f5) p q y n e
theorem qq {s : ByteArray} {p q p' q' : Int} {a : Int} {w : World} {g : Nat} (h : xp s p q a p' q') (hg : AtB w g 156 (rdC s p q)) : Calls Tryz.prog 152 #[.pointer (some ⟨g, 0, none⟩)] w fun e w' => e = .returned (.int .i64 a) ∧ Tn w g 156 (rdC s p' q') w' := by
 have HS := Sat.one hg
 have hc := HS.lk
 simp only [Lk, LkC, Value.cells, List.toList_toArray, Nat.reduceAdd, Nat.zero_add, and_true, zf, zg, ze, zh] at HS hc
 rcases h with ⟨c, rfl, rfl, rfl⟩ | ⟨rfl, k, h⟩
 ·have d1 := bne_iff_ne.mpr c
  go_enter Tryz.func152, Tryz.ntmps152
  go_wp2_with ((first | ((with_reducible refine gB rfl ?_); refine zC HS ?_) | ((with_reducible refine gA rfl ?_); refine zt HS ?_) | ((with_reducible refine gS rfl ?_); refine zr HS ?_)); clear HS; (try clear hc); intros; rename_i HS; have hc := HS.lk; simp only [Lk, LkC, Value.cells, List.toList_toArray, Nat.reduceAdd, Nat.zero_add, and_true, zf, zg, ze, zh] at HS hc)
  go_ret
  exact ⟨rfl, HS.fin⟩
 ·replace h := za.mk h
  go_enter Tryz.func152, Tryz.ntmps152
  go_wp2_with (first | ((first | ((with_reducible refine gB rfl ?_); refine zC HS ?_) | ((with_reducible refine gA rfl ?_); refine zt HS ?_) | ((with_reducible refine gS rfl ?_); refine zr HS ?_)); clear HS; (try clear hc); intros; rename_i HS; have hc := HS.lk; simp only [Lk, LkC, Value.cells, List.toList_toArray, Nat.reduceAdd, Nat.zero_add, and_true, zf, zg, ze, zh] at HS hc) | (refine yt (.op 0 0 12 (.op 1 0 13 (.op 2 0 14 (.op 3 0 15 (.op 4 0 16 (.op 5 0 17 (.op 6 0 18 (.op 7 0 19 (.op 8 2 20 (.op 9 1 11 (.op 10 1 21 (.op 11 1 22 (.op 12 1 23 (.op 13 1 3 (.op 14 1 4 (.op 15 1 5 .nil)))))))))))))))) [] HS (List.Sublist.refl _) ?_; clear HS hc; intro HS hS; (repeat' (first | refine RT.tk ?_ | refine RT.pu ?_ | (refine RT.o1 ?_; refine Zm HS (List.Sublist.refl _) (jI (zm.calls k _ _ _ _ _ _ h.out)) ?_; clear HS; intro w_ HS; refine RT.nm ?_))); have hc := HS.lk; simp only [Lk, LkC, Value.cells, List.toList_toArray, Nat.reduceAdd, Nat.zero_add, and_true, zf, zg, ze, zh] at HS hc; refine RT.nil ?_))
  go_ret
  exact ⟨rfl, HS.fin⟩
theorem Ju {s : ByteArray} {p q p' q' : Int} {a : ByteArray} {w : World} {g : Nat} (h : jA s p q a p' q') (hg : AtB w g 156 (rdC s p q)) : Calls Tryz.prog 150 #[.pointer (some ⟨g, 0, none⟩)] w fun e w' => e = .returned (.string a) ∧ Tn w g 156 (rdC s p' q') w' := by
 have HS := Sat.one hg
 have hc := HS.lk
 simp only [Lk, LkC, Value.cells, List.toList_toArray, Nat.reduceAdd, Nat.zero_add, and_true, zf, zg, ze, zh] at HS hc
 rcases h with ⟨c, rfl, rfl, rfl⟩ | ⟨rfl, k, h⟩
 ·have d1 := bne_iff_ne.mpr c
  go_enter Tryz.func150, Tryz.ntmps150
  go_wp2_with ((first | ((with_reducible refine gB rfl ?_); refine zC HS ?_) | ((with_reducible refine gA rfl ?_); refine zt HS ?_) | ((with_reducible refine gS rfl ?_); refine zr HS ?_)); clear HS; (try clear hc); intros; rename_i HS; have hc := HS.lk; simp only [Lk, LkC, Value.cells, List.toList_toArray, Nat.reduceAdd, Nat.zero_add, and_true, zf, zg, ze, zh] at HS hc)
  go_ret
  exact ⟨rfl, HS.fin⟩
 ·replace h := za.mk h
  go_enter Tryz.func150, Tryz.ntmps150
  go_wp2_with (first | ((first | ((with_reducible refine gB rfl ?_); refine zC HS ?_) | ((with_reducible refine gA rfl ?_); refine zt HS ?_) | ((with_reducible refine gS rfl ?_); refine zr HS ?_)); clear HS; (try clear hc); intros; rename_i HS; have hc := HS.lk; simp only [Lk, LkC, Value.cells, List.toList_toArray, Nat.reduceAdd, Nat.zero_add, and_true, zf, zg, ze, zh] at HS hc) | (refine yt (.op 0 0 12 (.op 1 0 13 (.op 2 0 14 (.op 3 0 15 (.op 4 0 16 (.op 5 0 17 (.op 6 0 18 (.op 7 0 19 (.op 8 2 20 (.op 9 1 11 (.op 10 1 21 (.op 11 1 22 (.op 12 1 23 (.op 13 1 3 (.op 14 1 4 (.op 15 1 5 .nil)))))))))))))))) [] HS (List.Sublist.refl _) ?_; clear HS hc; intro HS hS; (repeat' (first | refine RT.tk ?_ | refine RT.pu ?_ | (refine RT.o1 ?_; refine Zm HS (List.Sublist.refl _) (jI (xA.calls k _ _ _ _ _ _ h.out)) ?_; clear HS; intro w_ HS; refine RT.nm ?_))); have hc := HS.lk; simp only [Lk, LkC, Value.cells, List.toList_toArray, Nat.reduceAdd, Nat.zero_add, and_true, zf, zg, ze, zh] at HS hc; refine RT.nil ?_))
  go_ret
  exact ⟨rfl, HS.fin⟩
theorem J2 {s : ByteArray} {p q p' q' : Int} {a : List Int} {w : World} {g : Nat} (h : Xn s p q a p' q') (hg : AtB w g 156 (rdC s p q)) : Calls Tryz.prog 153 #[.pointer (some ⟨g, 0, none⟩)] w fun e w' => (∃ v, e = .returned v ∧ (Kd.int .i64).R 3 w' w.heap.size (fun _ => True) v a) ∧ Tn w g 156 (rdC s p' q') w' := by
 have HS := Sat.one hg
 have hc := HS.lk
 simp only [Lk, LkC, Value.cells, List.toList_toArray, Nat.reduceAdd, Nat.zero_add, and_true, zf, zg, ze, zh] at HS hc
 rcases h with ⟨c, rfl, rfl, rfl⟩ | ⟨rfl, k, h⟩
 ·have d1 := bne_iff_ne.mpr c
  go_enter Tryz.func153, Tryz.ntmps153
  go_wp2_with ((first | ((with_reducible refine gB rfl ?_); refine zC HS ?_) | ((with_reducible refine gA rfl ?_); refine zt HS ?_) | ((with_reducible refine gS rfl ?_); refine zr HS ?_)); clear HS; (try clear hc); intros; rename_i HS; have hc := HS.lk; simp only [Lk, LkC, Value.cells, List.toList_toArray, Nat.reduceAdd, Nat.zero_add, and_true, zf, zg, ze, zh] at HS hc)
  go_ret
  exact ⟨⟨_, rfl, Kd.R_nil _ _ _ _ _⟩, HS.fin⟩
 ·replace h := za.mk h
  go_enter Tryz.func153, Tryz.ntmps153
  go_wp2_with (first | ((first | ((with_reducible refine gB rfl ?_); refine zC HS ?_) | ((with_reducible refine gA rfl ?_); refine zt HS ?_) | ((with_reducible refine gS rfl ?_); refine zr HS ?_)); clear HS; (try clear hc); intros; rename_i HS; have hc := HS.lk; simp only [Lk, LkC, Value.cells, List.toList_toArray, Nat.reduceAdd, Nat.zero_add, and_true, zf, zg, ze, zh] at HS hc) | (refine yt (.op 0 0 12 (.op 1 0 13 (.op 2 0 14 (.op 3 0 15 (.op 4 0 16 (.op 5 0 17 (.op 6 0 18 (.op 7 0 19 (.op 8 2 20 (.op 9 1 11 (.op 10 1 21 (.op 11 1 22 (.op 12 1 23 (.op 13 1 3 (.op 14 1 4 (.op 15 1 5 .nil)))))))))))))))) [] HS (List.Sublist.refl _) ?_; clear HS hc; intro HS hS; (repeat' (first | refine RT.tk ?_ | refine RT.pu ?_ | (refine RT.o1 ?_; refine YS (F := fun v => .tuple #[v, .int .i64 p', .int .i64 q']) HS (List.Sublist.refl _) (xq.calls k _ _ _ _ _ _ h.out ) ?_; clear HS; intro A_ c_ w_ HS; refine RT.nm ?_))); have hc := HS.lk; simp only [Lk, LkC, Value.cells, List.toList_toArray, Nat.reduceAdd, Nat.zero_add, and_true, zf, zg, ze, zh] at HS hc; refine RT.nil ?_))
  go_ret
  exact ⟨⟨_, rfl, (HS.rows _ (.head _)).2⟩, HS.fin⟩
theorem ev_c {s : ByteArray} {p q p' q' : Int} {x : S108} {w : World} {g : Nat} (h : rEv s p q x p' q') (hg : AtB w g 156 (rdC s p q)) : Calls Tryz.prog 158 #[.pointer (some ⟨g, 0, none⟩)] w fun e w' => (∃ cs : List Value, e = .returned (.agg cs.toArray) ∧ k108.M w' w.heap.size (fun _ => True) x cs) ∧ Tn w g 156 (rdC s p' q') w' := by
 have HS := Sat.one hg
 obtain ⟨p1, q1, h1, h2⟩ := h
 replace h1 := za.mk h1
 replace h2 := za.mk h2
 go_enter Tryz.func158, Tryz.ntmps158
 go_wp2_with ((first | ((with_reducible refine gB rfl ?_); refine zC HS ?_) | ((with_reducible refine gA rfl ?_); refine zt HS ?_) | ((with_reducible refine gS rfl ?_); refine zr HS ?_) | (go_at_call 152; refine HS.tn0 (qq h1.out) ?_) | (go_at_call 153; refine HS.tnR (J2 h2.out) ?_)); clear HS; (try clear hc); intros; rename_i HS; have hc := HS.lk; simp only [Lk, LkC, Value.cells, List.toList_toArray, Nat.reduceAdd, Nat.zero_add, and_true, zf, zg, ze, zh] at HS hc)
 refine bodyPost_ret (yN rfl (.cell _ _ _ _ _ rfl (HS.blk _ (.head _)).2 Tryz.underlying108 rfl (by kernel_rfl) .nil)) rfl ?_
 exact ⟨⟨_, rfl, zcp _ _ _ x (HS.rows _ (.head _)).2⟩, HS.fin⟩
theorem it_c {s : ByteArray} {p q p' q' : Int} {x : S86} {w : World} {g : Nat} (h : rIt s p q x p' q') (hg : AtB w g 156 (rdC s p q)) : Calls Tryz.prog 161 #[.pointer (some ⟨g, 0, none⟩)] w fun e w' => (∃ cs : List Value, e = .returned (.agg cs.toArray) ∧ k86.M w' w.heap.size (fun _ => True) x cs) ∧ Tn w g 156 (rdC s p' q') w' := by
 have HS := Sat.one hg
 obtain ⟨p1, q1, p2, q2, p3, q3, h1, h2, h3, h4⟩ := h
 replace h1 := za.mk h1
 replace h2 := za.mk h2
 replace h3 := za.mk h3
 replace h4 := za.mk h4
 go_enter Tryz.func161, Tryz.ntmps161
 go_wp2_with ((first | ((with_reducible refine gB rfl ?_); refine zC HS ?_) | ((with_reducible refine gA rfl ?_); refine zt HS ?_) | ((with_reducible refine gS rfl ?_); refine zr HS ?_) | (go_at_call 150; refine HS.tn0 (Ju h1.out) ?_) | (go_at_call 152; refine HS.tn0 (qq h2.out) ?_) | (go_at_call 152; refine HS.tn0 (qq h3.out) ?_) | (go_at_call 153; refine HS.tnR (J2 h4.out) ?_)); clear HS; (try clear hc); intros; rename_i HS; have hc := HS.lk; simp only [Lk, LkC, Value.cells, List.toList_toArray, Nat.reduceAdd, Nat.zero_add, and_true, zf, zg, ze, zh] at HS hc)
 refine bodyPost_ret (yN rfl (.cell _ _ _ _ _ rfl (HS.blk _ (.head _)).2 Tryz.underlying86 rfl (by kernel_rfl) .nil)) rfl ?_
 exact ⟨⟨_, rfl, zcT _ _ _ x (HS.rows _ (.head _)).2⟩, HS.fin⟩
theorem ver_c {s : ByteArray} {p q p' q' : Int} {x : S77} {w : World} {g : Nat} (h : QO s p q x p' q') (hg : AtB w g 156 (rdC s p q)) : Calls Tryz.prog 164 #[.pointer (some ⟨g, 0, none⟩)] w fun e w' => (∃ cs : List Value, e = .returned (.agg cs.toArray) ∧ k77.M w' w.heap.size (fun _ => True) x cs) ∧ Tn w g 156 (rdC s p' q') w' := by
 have HS := Sat.one hg
 obtain ⟨p1, q1, h1, h2⟩ := h
 replace h1 := za.mk h1
 replace h2 := za.mk h2
 go_enter Tryz.func164, Tryz.ntmps164
 go_wp2_with ((first | ((with_reducible refine gB rfl ?_); refine zC HS ?_) | ((with_reducible refine gA rfl ?_); refine zt HS ?_) | ((with_reducible refine gS rfl ?_); refine zr HS ?_) | (go_at_call 152; refine HS.tn0 (qq h1.out) ?_) | (go_at_call 152; refine HS.tn0 (qq h2.out) ?_)); clear HS; (try clear hc); intros; rename_i HS; have hc := HS.lk; simp only [Lk, LkC, Value.cells, List.toList_toArray, Nat.reduceAdd, Nat.zero_add, and_true, zf, zg, ze, zh] at HS hc)
 refine bodyPost_ret (yN rfl (.cell _ _ _ _ _ rfl (HS.blk _ (.head _)).2 Tryz.underlying77 rfl (by kernel_rfl) .nil)) rfl ?_
 exact ⟨⟨_, rfl, zc3 _ _ _ x⟩, HS.fin⟩
theorem str_c {s : ByteArray} {p q p' q' : Int} {x : ByteArray} {w : World} {g : Nat} (h : jA s p q x p' q') (hg : AtB w g 156 (rdC s p q)) : Calls Tryz.prog 149 #[.pointer (some ⟨g, 0, none⟩)] w fun e w' => e = .returned (.string x) ∧ Tn w g 156 (rdC s p' q') w' := by
 have HS := Sat.one hg
 replace h := za.mk h
 go_enter Tryz.func149, Tryz.ntmps149
 go_wp2_with ((first | ((with_reducible refine gB rfl ?_); refine zC HS ?_) | ((with_reducible refine gA rfl ?_); refine zt HS ?_) | ((with_reducible refine gS rfl ?_); refine zr HS ?_) | (go_at_call 150; refine HS.tn0 (Ju h.out) ?_)); clear HS; (try clear hc); intros; rename_i HS; have hc := HS.lk; simp only [Lk, LkC, Value.cells, List.toList_toArray, Nat.reduceAdd, Nat.zero_add, and_true, zf, zg, ze, zh] at HS hc)
 go_ret
 exact ⟨rfl, HS.fin⟩
theorem zb2 {s : ByteArray} {p q m p' q' : Int} {xs : List S108} {w : World} {g : Nat} (h : Ym rEv s p q m xs p' q') (hM : m ≤ 1024) (hg : AtB w g 156 (rdC s p q)) : Calls Tryz.prog 157 #[.pointer (some ⟨g, 0, none⟩), .int .i64 m, .func (Fn.func 158) #[] #[]] w fun e w' => (∃ v, e = .returned v ∧ k108.R 108 w' w.heap.size (fun _ => True) v xs) ∧ Tn w g 156 (rdC s p' q') w' := by
 have HS := (Sat.one hg).R (Kd.R_nil k108 108 w w.heap.size (fun _ => True)) (Nat.le_refl _)
 obtain ⟨n, p1, q0, q1, h1, h2, h3⟩ := h
 replace h1 := za.mk h1
 have HL := za.mk h3
 have HN : za (q1 = 0 → n ≤ 1024) := ⟨fun hq => by rcases h2 with ⟨c, e⟩ | ⟨_, _, e⟩ | ⟨_, c, _⟩; exact absurd (e.symm.trans hq) c; rw [e] at hq; cases hq; have := of_decide_eq_true c; omega⟩
 clear h3
 go_enter Tryz.func157, Tryz.ntmps157
 go_upto_region 2 with ((first | ((with_reducible refine gB rfl ?_); refine zC HS ?_) | ((with_reducible refine gA rfl ?_); refine zt HS ?_) | ((with_reducible refine gS rfl ?_); refine zr HS ?_) | (go_at_call 152; refine HS.tn0 (qq h1.out) ?_) | (go_at_call 170; refine HS.go (xk c.out) ?_)); clear HS; (try clear hc); intros; rename_i HS; have hc := HS.lk; simp only [Lk, LkC, Value.cells, List.toList_toArray, Nat.reduceAdd, Nat.zero_add, and_true, zf, zg, ze, zh] at HS hc)
 rcases h2 with ⟨c, rfl⟩ | ⟨rfl, c, rfl⟩ | ⟨rfl, c, rfl⟩
 case' inl => have c1 : (q1 == 0) = false := beq_eq_false_iff_ne.mpr c
 all_goals
  replace c := za.mk c
  go_wp2_with ((first | ((with_reducible refine gB rfl ?_); refine zC HS ?_) | ((with_reducible refine gA rfl ?_); refine zt HS ?_) | ((with_reducible refine gS rfl ?_); refine zr HS ?_) | (go_at_call 152; refine HS.tn0 (qq h1.out) ?_) | (go_at_call 170; refine HS.go (xk c.out) ?_)); clear HS; (try clear hc); intros; rename_i HS; have hc := HS.lk; simp only [Lk, LkC, Value.cells, List.toList_toArray, Nat.reduceAdd, Nat.zero_add, and_true, zf, zg, ze, zh] at HS hc)
  have HZ := za.mk HS
  clear HS hc
  go_loopg [8, 9] xs.length (fun kq v8 v9 wr => ∃ (ys zs : List S108) (i : Nat) (P_ Q_ : Int) (A_ : Option Addr) (c_ : Nat), v8 = .slice A_ ys.length c_ ∧ v9 = .int .i64 i ∧ i = ys.length ∧ kq = zs.length ∧ za (ys ++ zs = xs) ∧ za (Q_ = 0 → n ≤ 1024) ∧ za (ZL (rEv s) zs (n - i) P_ Q_ p' q') ∧ za (Sat [g] w wr [(g, rdC s P_ Q_, 156)] [xV k108 108 w (.slice A_ ys.length c_) ys]))
  case atStart => exact ⟨[], xs, 0, _, _, _, _, rfl, rfl, rfl, rfl, ⟨rfl⟩, ⟨fun h_ => HN.out (by first | exact h_ | trivial)⟩, ⟨by rw [show n - ((0 : Nat) : Int) = n by omega]; exact HL.out⟩, HZ⟩
  case round =>
   clear HZ HL HN
   obtain ⟨ys, zs, i, P_, Q_, A_, c_, rfl, rfl, hi, hk, HX, HN, HL, HT⟩ := hrel
   have HS := HT.out
   clear HT
   have hc := HS.lk; simp only [Lk, LkC, Value.cells, List.toList_toArray, Nat.reduceAdd, Nat.zero_add, and_true, zf, zg, ze, zh] at HS hc
   have hl := HL.out
   cases zs with
   | nil =>
    obtain ⟨hz, rfl, rfl⟩ := hl
    have hx := HX.out
    rw [List.append_nil] at hx
    subst hx
    clear HX HL
    by_cases h0 : (i : Int) < n
    case' pos => have h9 : (q' == 0) = false := beq_eq_false_iff_ne.mpr (fun h => hz ⟨by omega, h⟩)
    all_goals
     clear hz
     go_wp2
     go_ret
     exact ⟨⟨_, rfl, (HS.rows _ (.head _)).2⟩, HS.fin⟩
   | cons y zs =>
    obtain ⟨h6, rfl, p2, q2, h5, hl⟩ := hl
    replace h5 := za.mk h5
    have hn := HN.out rfl
    have h0 : (i : Int) < n := by omega
    clear HL h6
    go_wp2_with (first | (go_at_call 158; refine HS.tnM (d := k108) (F := fun cs => .agg cs.toArray) (ev_c h5.out) ?_; clear HS hc; intro cs w_ HS hm; have hm0 := hm; obtain ⟨v_, rfl, g_⟩ := VZ hm; obtain ⟨A3_, c3_, rfl⟩ := Kd.R_slice g_; clear g_; clear hm; have hc := HS.lk; simp only [Lk, LkC, Value.cells, List.toList_toArray, Nat.reduceAdd, Nat.zero_add, and_true, zf, zg, ze, zh] at HS hc) | ((with_reducible refine gL rfl ?_); refine Jm (bytes := 32) HS hm0 (by omega) ?_; clear hm0; clear HS hc; intro A1_ c1_ w_ HS; have hc := HS.lk; simp only [Lk, LkC, Value.cells, List.toList_toArray, Nat.reduceAdd, Nat.zero_add, and_true, zf, zg, ze, zh] at HS hc))
    go_roundg zs.length
    case measure => rw [hk]; simp
    case rel => exact ⟨ys ++ [y], zs, i + 1, p2, q2, _, _, by simp, by have h_ : wrap64 ((i : Int) + 1) = ((i + 1 : Nat) : Int) := z9 (by omega) (by omega); first | (rw [h_]) | (simp only [h_]) | (simp [hi]) | rfl, by simp [hi], rfl, ⟨by rw [← HX.out]; simp⟩, ⟨fun _ => hn⟩, ⟨by rw [show n - ((i + 1 : Nat) : Int) = n - i - 1 by omega]; exact hl⟩, ⟨HS⟩⟩
theorem zcn {s : ByteArray} {p q m p' q' : Int} {xs : List S86} {w : World} {g : Nat} (h : Ym rIt s p q m xs p' q') (hM : m ≤ 1024) (hg : AtB w g 156 (rdC s p q)) : Calls Tryz.prog 160 #[.pointer (some ⟨g, 0, none⟩), .int .i64 m, .func (Fn.func 161) #[] #[]] w fun e w' => (∃ v, e = .returned v ∧ k86.R 86 w' w.heap.size (fun _ => True) v xs) ∧ Tn w g 156 (rdC s p' q') w' := by
 have HS := (Sat.one hg).R (Kd.R_nil k86 86 w w.heap.size (fun _ => True)) (Nat.le_refl _)
 obtain ⟨n, p1, q0, q1, h1, h2, h3⟩ := h
 replace h1 := za.mk h1
 have HL := za.mk h3
 have HN : za (q1 = 0 → n ≤ 1024) := ⟨fun hq => by rcases h2 with ⟨c, e⟩ | ⟨_, _, e⟩ | ⟨_, c, _⟩; exact absurd (e.symm.trans hq) c; rw [e] at hq; cases hq; have := of_decide_eq_true c; omega⟩
 clear h3
 go_enter Tryz.func160, Tryz.ntmps160
 go_upto_region 2 with ((first | ((with_reducible refine gB rfl ?_); refine zC HS ?_) | ((with_reducible refine gA rfl ?_); refine zt HS ?_) | ((with_reducible refine gS rfl ?_); refine zr HS ?_) | (go_at_call 152; refine HS.tn0 (qq h1.out) ?_) | (go_at_call 170; refine HS.go (xk c.out) ?_)); clear HS; (try clear hc); intros; rename_i HS; have hc := HS.lk; simp only [Lk, LkC, Value.cells, List.toList_toArray, Nat.reduceAdd, Nat.zero_add, and_true, zf, zg, ze, zh] at HS hc)
 rcases h2 with ⟨c, rfl⟩ | ⟨rfl, c, rfl⟩ | ⟨rfl, c, rfl⟩
 case' inl => have c1 : (q1 == 0) = false := beq_eq_false_iff_ne.mpr c
 all_goals
  replace c := za.mk c
  go_wp2_with ((first | ((with_reducible refine gB rfl ?_); refine zC HS ?_) | ((with_reducible refine gA rfl ?_); refine zt HS ?_) | ((with_reducible refine gS rfl ?_); refine zr HS ?_) | (go_at_call 152; refine HS.tn0 (qq h1.out) ?_) | (go_at_call 170; refine HS.go (xk c.out) ?_)); clear HS; (try clear hc); intros; rename_i HS; have hc := HS.lk; simp only [Lk, LkC, Value.cells, List.toList_toArray, Nat.reduceAdd, Nat.zero_add, and_true, zf, zg, ze, zh] at HS hc)
  have HZ := za.mk HS
  clear HS hc
  go_loopg [8, 9] xs.length (fun kq v8 v9 wr => ∃ (ys zs : List S86) (i : Nat) (P_ Q_ : Int) (A_ : Option Addr) (c_ : Nat), v8 = .slice A_ ys.length c_ ∧ v9 = .int .i64 i ∧ i = ys.length ∧ kq = zs.length ∧ za (ys ++ zs = xs) ∧ za (Q_ = 0 → n ≤ 1024) ∧ za (ZL (rIt s) zs (n - i) P_ Q_ p' q') ∧ za (Sat [g] w wr [(g, rdC s P_ Q_, 156)] [xV k86 86 w (.slice A_ ys.length c_) ys]))
  case atStart => exact ⟨[], xs, 0, _, _, _, _, rfl, rfl, rfl, rfl, ⟨rfl⟩, ⟨fun h_ => HN.out (by first | exact h_ | trivial)⟩, ⟨by rw [show n - ((0 : Nat) : Int) = n by omega]; exact HL.out⟩, HZ⟩
  case round =>
   clear HZ HL HN
   obtain ⟨ys, zs, i, P_, Q_, A_, c_, rfl, rfl, hi, hk, HX, HN, HL, HT⟩ := hrel
   have HS := HT.out
   clear HT
   have hc := HS.lk; simp only [Lk, LkC, Value.cells, List.toList_toArray, Nat.reduceAdd, Nat.zero_add, and_true, zf, zg, ze, zh] at HS hc
   have hl := HL.out
   cases zs with
   | nil =>
    obtain ⟨hz, rfl, rfl⟩ := hl
    have hx := HX.out
    rw [List.append_nil] at hx
    subst hx
    clear HX HL
    by_cases h0 : (i : Int) < n
    case' pos => have h9 : (q' == 0) = false := beq_eq_false_iff_ne.mpr (fun h => hz ⟨by omega, h⟩)
    all_goals
     clear hz
     go_wp2
     go_ret
     exact ⟨⟨_, rfl, (HS.rows _ (.head _)).2⟩, HS.fin⟩
   | cons y zs =>
    obtain ⟨h6, rfl, p2, q2, h5, hl⟩ := hl
    replace h5 := za.mk h5
    have hn := HN.out rfl
    have h0 : (i : Int) < n := by omega
    clear HL h6
    go_wp2_with (first | (go_at_call 161; refine HS.tnM (d := k86) (F := fun cs => .agg cs.toArray) (it_c h5.out) ?_; clear HS hc; intro cs w_ HS hm; have hm0 := hm; obtain ⟨v_, rfl, g_⟩ := za9 hm; obtain ⟨A3_, c3_, rfl⟩ := Kd.R_slice g_; clear g_; clear hm; have hc := HS.lk; simp only [Lk, LkC, Value.cells, List.toList_toArray, Nat.reduceAdd, Nat.zero_add, and_true, zf, zg, ze, zh] at HS hc) | ((with_reducible refine gL rfl ?_); refine Jm (bytes := 56) HS hm0 (by omega) ?_; clear hm0; clear HS hc; intro A1_ c1_ w_ HS; have hc := HS.lk; simp only [Lk, LkC, Value.cells, List.toList_toArray, Nat.reduceAdd, Nat.zero_add, and_true, zf, zg, ze, zh] at HS hc))
    go_roundg zs.length
    case measure => rw [hk]; simp
    case rel => exact ⟨ys ++ [y], zs, i + 1, p2, q2, _, _, by simp, by have h_ : wrap64 ((i : Int) + 1) = ((i + 1 : Nat) : Int) := z9 (by omega) (by omega); first | (rw [h_]) | (simp only [h_]) | (simp [hi]) | rfl, by simp [hi], rfl, ⟨by rw [← HX.out]; simp⟩, ⟨fun _ => hn⟩, ⟨by rw [show n - ((i + 1 : Nat) : Int) = n - i - 1 by omega]; exact hl⟩, ⟨HS⟩⟩
theorem zaC {s : ByteArray} {p q m p' q' : Int} {xs : List S77} {w : World} {g : Nat} (h : Ym QO s p q m xs p' q') (hM : m ≤ 1024) (hg : AtB w g 156 (rdC s p q)) : Calls Tryz.prog 163 #[.pointer (some ⟨g, 0, none⟩), .int .i64 m, .func (Fn.func 164) #[] #[]] w fun e w' => (∃ v, e = .returned v ∧ k77.R 77 w' w.heap.size (fun _ => True) v xs) ∧ Tn w g 156 (rdC s p' q') w' := by
 have HS := (Sat.one hg).R (Kd.R_nil k77 77 w w.heap.size (fun _ => True)) (Nat.le_refl _)
 obtain ⟨n, p1, q0, q1, h1, h2, h3⟩ := h
 replace h1 := za.mk h1
 have HL := za.mk h3
 have HN : za (q1 = 0 → n ≤ 1024) := ⟨fun hq => by rcases h2 with ⟨c, e⟩ | ⟨_, _, e⟩ | ⟨_, c, _⟩; exact absurd (e.symm.trans hq) c; rw [e] at hq; cases hq; have := of_decide_eq_true c; omega⟩
 clear h3
 go_enter Tryz.func163, Tryz.ntmps163
 go_upto_region 2 with ((first | ((with_reducible refine gB rfl ?_); refine zC HS ?_) | ((with_reducible refine gA rfl ?_); refine zt HS ?_) | ((with_reducible refine gS rfl ?_); refine zr HS ?_) | (go_at_call 152; refine HS.tn0 (qq h1.out) ?_) | (go_at_call 170; refine HS.go (xk c.out) ?_)); clear HS; (try clear hc); intros; rename_i HS; have hc := HS.lk; simp only [Lk, LkC, Value.cells, List.toList_toArray, Nat.reduceAdd, Nat.zero_add, and_true, zf, zg, ze, zh] at HS hc)
 rcases h2 with ⟨c, rfl⟩ | ⟨rfl, c, rfl⟩ | ⟨rfl, c, rfl⟩
 case' inl => have c1 : (q1 == 0) = false := beq_eq_false_iff_ne.mpr c
 all_goals
  replace c := za.mk c
  go_wp2_with ((first | ((with_reducible refine gB rfl ?_); refine zC HS ?_) | ((with_reducible refine gA rfl ?_); refine zt HS ?_) | ((with_reducible refine gS rfl ?_); refine zr HS ?_) | (go_at_call 152; refine HS.tn0 (qq h1.out) ?_) | (go_at_call 170; refine HS.go (xk c.out) ?_)); clear HS; (try clear hc); intros; rename_i HS; have hc := HS.lk; simp only [Lk, LkC, Value.cells, List.toList_toArray, Nat.reduceAdd, Nat.zero_add, and_true, zf, zg, ze, zh] at HS hc)
  have HZ := za.mk HS
  clear HS hc
  go_loopg [8, 9] xs.length (fun kq v8 v9 wr => ∃ (ys zs : List S77) (i : Nat) (P_ Q_ : Int) (A_ : Option Addr) (c_ : Nat), v8 = .slice A_ ys.length c_ ∧ v9 = .int .i64 i ∧ i = ys.length ∧ kq = zs.length ∧ za (ys ++ zs = xs) ∧ za (Q_ = 0 → n ≤ 1024) ∧ za (ZL (QO s) zs (n - i) P_ Q_ p' q') ∧ za (Sat [g] w wr [(g, rdC s P_ Q_, 156)] [xV k77 77 w (.slice A_ ys.length c_) ys]))
  case atStart => exact ⟨[], xs, 0, _, _, _, _, rfl, rfl, rfl, rfl, ⟨rfl⟩, ⟨fun h_ => HN.out (by first | exact h_ | trivial)⟩, ⟨by rw [show n - ((0 : Nat) : Int) = n by omega]; exact HL.out⟩, HZ⟩
  case round =>
   clear HZ HL HN
   obtain ⟨ys, zs, i, P_, Q_, A_, c_, rfl, rfl, hi, hk, HX, HN, HL, HT⟩ := hrel
   have HS := HT.out
   clear HT
   have hc := HS.lk; simp only [Lk, LkC, Value.cells, List.toList_toArray, Nat.reduceAdd, Nat.zero_add, and_true, zf, zg, ze, zh] at HS hc
   have hl := HL.out
   cases zs with
   | nil =>
    obtain ⟨hz, rfl, rfl⟩ := hl
    have hx := HX.out
    rw [List.append_nil] at hx
    subst hx
    clear HX HL
    by_cases h0 : (i : Int) < n
    case' pos => have h9 : (q' == 0) = false := beq_eq_false_iff_ne.mpr (fun h => hz ⟨by omega, h⟩)
    all_goals
     clear hz
     go_wp2
     go_ret
     exact ⟨⟨_, rfl, (HS.rows _ (.head _)).2⟩, HS.fin⟩
   | cons y zs =>
    obtain ⟨h6, rfl, p2, q2, h5, hl⟩ := hl
    replace h5 := za.mk h5
    have hn := HN.out rfl
    have h0 : (i : Int) < n := by omega
    clear HL h6
    go_wp2_with (first | (go_at_call 164; refine HS.tnM (d := k77) (F := fun cs => .agg cs.toArray) (ver_c h5.out) ?_; clear HS hc; intro cs w_ HS hm; have hm0 := hm; obtain rfl := zbs hm; clear hm; have hc := HS.lk; simp only [Lk, LkC, Value.cells, List.toList_toArray, Nat.reduceAdd, Nat.zero_add, and_true, zf, zg, ze, zh] at HS hc) | ((with_reducible refine gL rfl ?_); refine Jm (bytes := 16) HS hm0 (by omega) ?_; clear hm0; clear HS hc; intro A1_ c1_ w_ HS; have hc := HS.lk; simp only [Lk, LkC, Value.cells, List.toList_toArray, Nat.reduceAdd, Nat.zero_add, and_true, zf, zg, ze, zh] at HS hc))
    go_roundg zs.length
    case measure => rw [hk]; simp
    case rel => exact ⟨ys ++ [y], zs, i + 1, p2, q2, _, _, by simp, by have h_ : wrap64 ((i : Int) + 1) = ((i + 1 : Nat) : Int) := z9 (by omega) (by omega); first | (rw [h_]) | (simp only [h_]) | (simp [hi]) | rfl, by simp [hi], rfl, ⟨by rw [← HX.out]; simp⟩, ⟨fun _ => hn⟩, ⟨by rw [show n - ((i + 1 : Nat) : Int) = n - i - 1 by omega]; exact hl⟩, ⟨HS⟩⟩
theorem zaz {s : ByteArray} {p q m p' q' : Int} {xs : List ByteArray} {w : World} {g : Nat} (h : Ym jA s p q m xs p' q') (hM : m ≤ 1024) (hg : AtB w g 156 (rdC s p q)) : Calls Tryz.prog 148 #[.pointer (some ⟨g, 0, none⟩), .int .i64 m, .func (Fn.func 149) #[] #[]] w fun e w' => (∃ v, e = .returned v ∧ Kd.string.R 9 w' w.heap.size (fun _ => True) v xs) ∧ Tn w g 156 (rdC s p' q') w' := by
 have HS := (Sat.one hg).R (Kd.R_nil Kd.string 9 w w.heap.size (fun _ => True)) (Nat.le_refl _)
 obtain ⟨n, p1, q0, q1, h1, h2, h3⟩ := h
 replace h1 := za.mk h1
 have HL := za.mk h3
 have HN : za (q1 = 0 → n ≤ 1024) := ⟨fun hq => by rcases h2 with ⟨c, e⟩ | ⟨_, _, e⟩ | ⟨_, c, _⟩; exact absurd (e.symm.trans hq) c; rw [e] at hq; cases hq; have := of_decide_eq_true c; omega⟩
 clear h3
 go_enter Tryz.func148, Tryz.ntmps148
 go_upto_region 2 with ((first | ((with_reducible refine gB rfl ?_); refine zC HS ?_) | ((with_reducible refine gA rfl ?_); refine zt HS ?_) | ((with_reducible refine gS rfl ?_); refine zr HS ?_) | (go_at_call 152; refine HS.tn0 (qq h1.out) ?_) | (go_at_call 170; refine HS.go (xk c.out) ?_)); clear HS; (try clear hc); intros; rename_i HS; have hc := HS.lk; simp only [Lk, LkC, Value.cells, List.toList_toArray, Nat.reduceAdd, Nat.zero_add, and_true, zf, zg, ze, zh] at HS hc)
 rcases h2 with ⟨c, rfl⟩ | ⟨rfl, c, rfl⟩ | ⟨rfl, c, rfl⟩
 case' inl => have c1 : (q1 == 0) = false := beq_eq_false_iff_ne.mpr c
 all_goals
  replace c := za.mk c
  go_wp2_with ((first | ((with_reducible refine gB rfl ?_); refine zC HS ?_) | ((with_reducible refine gA rfl ?_); refine zt HS ?_) | ((with_reducible refine gS rfl ?_); refine zr HS ?_) | (go_at_call 152; refine HS.tn0 (qq h1.out) ?_) | (go_at_call 170; refine HS.go (xk c.out) ?_)); clear HS; (try clear hc); intros; rename_i HS; have hc := HS.lk; simp only [Lk, LkC, Value.cells, List.toList_toArray, Nat.reduceAdd, Nat.zero_add, and_true, zf, zg, ze, zh] at HS hc)
  have HZ := za.mk HS
  clear HS hc
  go_loopg [8, 9] xs.length (fun kq v8 v9 wr => ∃ (ys zs : List ByteArray) (i : Nat) (P_ Q_ : Int) (A_ : Option Addr) (c_ : Nat), v8 = .slice A_ ys.length c_ ∧ v9 = .int .i64 i ∧ i = ys.length ∧ kq = zs.length ∧ za (ys ++ zs = xs) ∧ za (Q_ = 0 → n ≤ 1024) ∧ za (ZL (jA s) zs (n - i) P_ Q_ p' q') ∧ za (Sat [g] w wr [(g, rdC s P_ Q_, 156)] [xV Kd.string 9 w (.slice A_ ys.length c_) ys]))
  case atStart => exact ⟨[], xs, 0, _, _, _, _, rfl, rfl, rfl, rfl, ⟨rfl⟩, ⟨fun h_ => HN.out (by first | exact h_ | trivial)⟩, ⟨by rw [show n - ((0 : Nat) : Int) = n by omega]; exact HL.out⟩, HZ⟩
  case round =>
   clear HZ HL HN
   obtain ⟨ys, zs, i, P_, Q_, A_, c_, rfl, rfl, hi, hk, HX, HN, HL, HT⟩ := hrel
   have HS := HT.out
   clear HT
   have hc := HS.lk; simp only [Lk, LkC, Value.cells, List.toList_toArray, Nat.reduceAdd, Nat.zero_add, and_true, zf, zg, ze, zh] at HS hc
   have hl := HL.out
   cases zs with
   | nil =>
    obtain ⟨hz, rfl, rfl⟩ := hl
    have hx := HX.out
    rw [List.append_nil] at hx
    subst hx
    clear HX HL
    by_cases h0 : (i : Int) < n
    case' pos => have h9 : (q' == 0) = false := beq_eq_false_iff_ne.mpr (fun h => hz ⟨by omega, h⟩)
    all_goals
     clear hz
     go_wp2
     go_ret
     exact ⟨⟨_, rfl, (HS.rows _ (.head _)).2⟩, HS.fin⟩
   | cons y zs =>
    obtain ⟨h6, rfl, p2, q2, h5, hl⟩ := hl
    replace h5 := za.mk h5
    have hn := HN.out rfl
    have h0 : (i : Int) < n := by omega
    clear HL h6
    go_wp2_with (first | (go_at_call 149; refine HS.tn0 (str_c h5.out) ?_; clear HS hc; intro w_ HS; have hc := HS.lk; simp only [Lk, LkC, Value.cells, List.toList_toArray, Nat.reduceAdd, Nat.zero_add, and_true, zf, zg, ze, zh] at HS hc) | ((with_reducible refine gL rfl ?_); refine Jm (bytes := 16) HS (show Kd.string.M _ _ _ y [.string y] from rfl) (by omega) ?_; clear HS hc; intro A1_ c1_ w_ HS; have hc := HS.lk; simp only [Lk, LkC, Value.cells, List.toList_toArray, Nat.reduceAdd, Nat.zero_add, and_true, zf, zg, ze, zh] at HS hc))
    go_roundg zs.length
    case measure => rw [hk]; simp
    case rel => exact ⟨ys ++ [y], zs, i + 1, p2, q2, _, _, by simp, by have h_ : wrap64 ((i : Int) + 1) = ((i + 1 : Nat) : Int) := z9 (by omega) (by omega); first | (rw [h_]) | (simp only [h_]) | (simp [hi]) | rfl, by simp [hi], rfl, ⟨by rw [← HX.out]; simp⟩, ⟨fun _ => hn⟩, ⟨by rw [show n - ((i + 1 : Nat) : Int) = n - i - 1 by omega]; exact hl⟩, ⟨HS⟩⟩
def xt.f (k : Nat) (l0 : List ByteArray) : Option (Bool) := (yd.f k l0).bind fun bt464 => (some (bt464.2 == 0))
theorem xt.calls (k : Nat) (A0 : Option Addr) (c0 : Nat) (l0 : List ByteArray) (r : Bool) (w : World) (hr0 : Kd.C Kd.string w A0 l0.length l0) (hc0 : l0.length ≤ c0) (h : xt.f k l0 = some r) :
  Calls Tryz.prog 151 #[.slice A0 l0.length c0] w fun e w' => e = .returned (.bool r) ∧ Below w.heap.size w w' := by
 have HR0 := za.mk hr0
 have HC0 := za.mk hc0
 clear hr0 hc0
 have HB := za.mk (Below.refl w.heap.size w)
 have H : ((yd.f k l0).bind fun bt464 => (some (bt464.2 == 0))) = some r := h
 clear h
 replace H := zdJ.mp H
 obtain ⟨⟨t464, t465⟩, A20, H⟩ := H
 replace H : (some (t465 == 0)) = some r := H
 have A2 := za.mk A20
 clear A20
 obtain rfl := Option.some.inj H
 go_enter Tryz.func151, Tryz.ntmps151
 go_wp2_with (first | ((with_reducible refine zy (f := 127) rfl ?_); refine zU (some 7) rfl rfl Tryz.func127 (by kernel_rfl) rfl #[.slice A0 l0.length c0] rfl (by (try simp only [zdI, List.map_cons, List.map_nil]); first | done | rfl | (simp only [List.length_drop, List.length_take]; rfl)) ?_; (with_reducible refine (yd.calls k _ _ l0 t464 t465 _ ?side1 ?side2 A2.out).mono ?_); (case side1 => repeat (first | exact HR0.out | (with_reducible refine Kd.C_alloc ?_ _) | (with_reducible refine Kd.C_drewN ?_ _) | (with_reducible refine Kd.C_drew ?_))); (case side2 => exact HC0.out); rintro e w3 ⟨rfl, hb⟩; refine ⟨_, rfl, ?_⟩; have n0_ := za.mk (zp (by repeat (first | (with_reducible first | exact HB.out | apply zc | apply zb | apply zd) | exact HB.out)) hb); clear HB; have HB := n0_; clear n0_; (try clear hb); (try clear hb2); (try clear hk); (try clear hi)))
 go_ret
 exact ⟨by first | rfl | (simp [zn, zo] <;> rfl) | (simp [*, zn, zo] <;> rfl), by repeat (first | (with_reducible first | exact HB.out | apply zc | apply zb | apply zd) | exact HB.out)⟩
def JF := Xi rEv 3 (fun l b => ∃ k, zR.f k l = some b)
def Jv := Xi jA 8 (fun l b => ∃ k, xt.f k l = some b)
theorem zc5 {s : ByteArray} {p q n e : Int} {l ys : List S86} {b : Bool} {A : Option Addr} {c : Nat} {w : World} {g : Nat} (h : YQ [] l b p q ys n e) (hb : Calls Tryz.prog 140 #[.slice A l.length c] w fun e w' => e = .returned (.bool b) ∧ Below w.heap.size w w') (hg : AtB w g 156 (rdC s p q)) : Calls Tryz.prog 159 #[.pointer (some ⟨g, 0, none⟩), .slice A l.length c, .func (Fn.func 140) #[] #[]] w fun e' w' => (∃ v, e' = .returned (.tuple #[v, .int .i64 n, .int .i64 e]) ∧ ((v = .slice none 0 0 ∧ ys = []) ∨ (v = .slice A l.length c ∧ ys = l))) ∧ Tn w g 156 (rdC s p e) w' := by
 have HS := Sat.one hg
 have hb2 := za.mk hb
 clear hb
 rcases h with ⟨c0, rfl, rfl, rfl⟩ | ⟨rfl, rfl, rfl, rfl, rfl⟩ | ⟨rfl, rfl, rfl, rfl, rfl⟩
 case' inl => have c1 := beq_eq_false_iff_ne.mpr c0; have c2 := bne_iff_ne.mpr c0; clear c0
 all_goals
  have hc := HS.lk
  simp only [Lk, LkC, Value.cells, List.toList_toArray, Nat.reduceAdd, Nat.zero_add, and_true, zf, zg, ze, zh] at HS hc
  go_enter Tryz.func159, Tryz.ntmps159
  go_wp2_with (first | ((first | ((with_reducible refine gB rfl ?_); refine zC HS ?_) | ((with_reducible refine gA rfl ?_); refine zt HS ?_) | ((with_reducible refine gS rfl ?_); refine zr HS ?_) | (go_at_call 140; refine HS.go hb2.out ?_)); clear HS; (try clear hc); intros; rename_i HS; have hc := HS.lk; simp only [Lk, LkC, Value.cells, List.toList_toArray, Nat.reduceAdd, Nat.zero_add, and_true, zf, zg, ze, zh] at HS hc) | (refine yt (.op 0 0 29 (.op 1 0 30 (.op 2 0 31 (.op 3 0 32 (.op 4 0 33 (.op 5 0 6 (.op 6 0 7 (.op 7 0 8 .nil)))))))) [] HS (List.Sublist.refl _) ?_; clear HS hc; intro HS hS; (repeat refine RT.tk ?_); clear hS; have hc := HS.lk; simp only [Lk, LkC, Value.cells, List.toList_toArray, Nat.reduceAdd, Nat.zero_add, and_true, zf, zg, ze, zh] at HS hc; refine RT.nil ?_) | (refine yt (.op 0 0 34 (.op 1 0 35 (.op 2 0 36 (.op 3 0 37 (.op 4 0 38 (.op 5 0 6 (.op 6 0 7 (.op 7 0 8 .nil)))))))) [] HS (List.Sublist.refl _) ?_; clear HS hc; intro HS hS; (repeat refine RT.tk ?_); clear hS; have hc := HS.lk; simp only [Lk, LkC, Value.cells, List.toList_toArray, Nat.reduceAdd, Nat.zero_add, and_true, zf, zg, ze, zh] at HS hc; refine RT.nil ?_))
  go_ret3
  exact ⟨⟨_, rfl, by simp⟩, HS.fin⟩
theorem zaQ {s : ByteArray} {p n e : Int} {ys : List S86} {w : World} (h : Vm s p ys n e) : Calls Tryz.prog 122 #[.string s, .int .i64 p] w fun e' w' => ∃ v, e' = .returned (.tuple #[v, .int .i64 n, .int .i64 e]) ∧ k86.R 86 w' w.heap.size (fun _ => True) v ys ∧ Below w.heap.size w w' := by
 have HS := Sat.nil w
 obtain ⟨xs, p1, q1, b, h1, h2, h3⟩ := h
 replace h1 := za.mk h1
 replace h2 := za.mk h2
 replace h3 := za.mk h3
 go_enter Tryz.func122, Tryz.ntmps122
 go_wp2_with (first | (first | ((with_reducible refine gB rfl ?_); refine zC HS ?_) | ((with_reducible refine gA rfl ?_); refine zt HS ?_) | ((with_reducible refine gS rfl ?_); refine zr HS ?_) | (go_at_call 160; refine HS.tnR (zcn h1.out (by decide)) ?_) | (go_at_call 159; refine HS.tn (zc5 h3.out (by obtain rfl := h2.out; exact Y2 (Kd.R_reads' (HS.rows _ (.head _)).2).2.2)) ?_)); clear HS; (try clear hc); intros; first | (rename_i e_ w_ he HS; obtain ⟨v_, rfl, hv_⟩ := he; have hc := HS.lk; simp only [Lk, LkC, Value.cells, List.toList_toArray, Nat.reduceAdd, Nat.zero_add, and_true, zf, zg, ze, zh] at HS hc) | (rename_i HS; have hc := HS.lk; simp only [Lk, LkC, Value.cells, List.toList_toArray, Nat.reduceAdd, Nat.zero_add, and_true, zf, zg, ze, zh] at HS hc))
 go_ret3
 refine ⟨_, rfl, ?_, HS.below⟩
 rcases hv_ with ⟨rfl, rfl⟩ | ⟨rfl, rfl⟩
 ·exact Kd.R_nil _ _ _ _ _
 ·exact (HS.rows _ (.head _)).2
theorem zbS {s : ByteArray} {p q n e : Int} {l ys : List S77} {b : Bool} {A : Option Addr} {c : Nat} {w : World} {g : Nat} (h : YQ [] l b p q ys n e) (hb : Calls Tryz.prog 143 #[.slice A l.length c] w fun e w' => e = .returned (.bool b) ∧ Below w.heap.size w w') (hg : AtB w g 156 (rdC s p q)) : Calls Tryz.prog 162 #[.pointer (some ⟨g, 0, none⟩), .slice A l.length c, .func (Fn.func 143) #[] #[]] w fun e' w' => (∃ v, e' = .returned (.tuple #[v, .int .i64 n, .int .i64 e]) ∧ ((v = .slice none 0 0 ∧ ys = []) ∨ (v = .slice A l.length c ∧ ys = l))) ∧ Tn w g 156 (rdC s p e) w' := by
 have HS := Sat.one hg
 have hb2 := za.mk hb
 clear hb
 rcases h with ⟨c0, rfl, rfl, rfl⟩ | ⟨rfl, rfl, rfl, rfl, rfl⟩ | ⟨rfl, rfl, rfl, rfl, rfl⟩
 case' inl => have c1 := beq_eq_false_iff_ne.mpr c0; have c2 := bne_iff_ne.mpr c0; clear c0
 all_goals
  have hc := HS.lk
  simp only [Lk, LkC, Value.cells, List.toList_toArray, Nat.reduceAdd, Nat.zero_add, and_true, zf, zg, ze, zh] at HS hc
  go_enter Tryz.func162, Tryz.ntmps162
  go_wp2_with (first | ((first | ((with_reducible refine gB rfl ?_); refine zC HS ?_) | ((with_reducible refine gA rfl ?_); refine zt HS ?_) | ((with_reducible refine gS rfl ?_); refine zr HS ?_) | (go_at_call 143; refine HS.go hb2.out ?_)); clear HS; (try clear hc); intros; rename_i HS; have hc := HS.lk; simp only [Lk, LkC, Value.cells, List.toList_toArray, Nat.reduceAdd, Nat.zero_add, and_true, zf, zg, ze, zh] at HS hc) | (refine yt (.op 0 0 29 (.op 1 0 30 (.op 2 0 31 (.op 3 0 32 (.op 4 0 33 (.op 5 0 6 (.op 6 0 7 (.op 7 0 8 .nil)))))))) [] HS (List.Sublist.refl _) ?_; clear HS hc; intro HS hS; (repeat refine RT.tk ?_); clear hS; have hc := HS.lk; simp only [Lk, LkC, Value.cells, List.toList_toArray, Nat.reduceAdd, Nat.zero_add, and_true, zf, zg, ze, zh] at HS hc; refine RT.nil ?_) | (refine yt (.op 0 0 34 (.op 1 0 35 (.op 2 0 36 (.op 3 0 37 (.op 4 0 38 (.op 5 0 6 (.op 6 0 7 (.op 7 0 8 .nil)))))))) [] HS (List.Sublist.refl _) ?_; clear HS hc; intro HS hS; (repeat refine RT.tk ?_); clear hS; have hc := HS.lk; simp only [Lk, LkC, Value.cells, List.toList_toArray, Nat.reduceAdd, Nat.zero_add, and_true, zf, zg, ze, zh] at HS hc; refine RT.nil ?_))
  go_ret3
  exact ⟨⟨_, rfl, by simp⟩, HS.fin⟩
theorem JC {s : ByteArray} {p n e : Int} {ys : List S77} {w : World} (h : Qc s p ys n e) : Calls Tryz.prog 124 #[.string s, .int .i64 p] w fun e' w' => ∃ v, e' = .returned (.tuple #[v, .int .i64 n, .int .i64 e]) ∧ k77.R 77 w' w.heap.size (fun _ => True) v ys ∧ Below w.heap.size w w' := by
 have HS := Sat.nil w
 obtain ⟨xs, p1, q1, b, h1, h2, h3⟩ := h
 replace h1 := za.mk h1
 replace h2 := za.mk h2
 replace h3 := za.mk h3
 go_enter Tryz.func124, Tryz.ntmps124
 go_wp2_with (first | (first | ((with_reducible refine gB rfl ?_); refine zC HS ?_) | ((with_reducible refine gA rfl ?_); refine zt HS ?_) | ((with_reducible refine gS rfl ?_); refine zr HS ?_) | (go_at_call 163; refine HS.tnR (zaC h1.out (by decide)) ?_) | (go_at_call 162; refine HS.tn (zbS h3.out (by obtain rfl := h2.out; exact ZX (Kd.R_reads' (HS.rows _ (.head _)).2).2.2)) ?_)); clear HS; (try clear hc); intros; first | (rename_i e_ w_ he HS; obtain ⟨v_, rfl, hv_⟩ := he; have hc := HS.lk; simp only [Lk, LkC, Value.cells, List.toList_toArray, Nat.reduceAdd, Nat.zero_add, and_true, zf, zg, ze, zh] at HS hc) | (rename_i HS; have hc := HS.lk; simp only [Lk, LkC, Value.cells, List.toList_toArray, Nat.reduceAdd, Nat.zero_add, and_true, zf, zg, ze, zh] at HS hc))
 go_ret3
 refine ⟨_, rfl, ?_, HS.below⟩
 rcases hv_ with ⟨rfl, rfl⟩ | ⟨rfl, rfl⟩
 ·exact Kd.R_nil _ _ _ _ _
 ·exact (HS.rows _ (.head _)).2
theorem zde {s : ByteArray} {p q n e : Int} {l ys : List S108} {b : Bool} {A : Option Addr} {c : Nat} {w : World} {g : Nat} (h : YQ [] l b p q ys n e) (hb : Calls Tryz.prog 137 #[.slice A l.length c] w fun e w' => e = .returned (.bool b) ∧ Below w.heap.size w w') (hg : AtB w g 156 (rdC s p q)) : Calls Tryz.prog 156 #[.pointer (some ⟨g, 0, none⟩), .slice A l.length c, .func (Fn.func 137) #[] #[]] w fun e' w' => (∃ v, e' = .returned (.tuple #[v, .int .i64 n, .int .i64 e]) ∧ ((v = .slice none 0 0 ∧ ys = []) ∨ (v = .slice A l.length c ∧ ys = l))) ∧ Tn w g 156 (rdC s p e) w' := by
 have HS := Sat.one hg
 have hb2 := za.mk hb
 clear hb
 rcases h with ⟨c0, rfl, rfl, rfl⟩ | ⟨rfl, rfl, rfl, rfl, rfl⟩ | ⟨rfl, rfl, rfl, rfl, rfl⟩
 case' inl => have c1 := beq_eq_false_iff_ne.mpr c0; have c2 := bne_iff_ne.mpr c0; clear c0
 all_goals
  have hc := HS.lk
  simp only [Lk, LkC, Value.cells, List.toList_toArray, Nat.reduceAdd, Nat.zero_add, and_true, zf, zg, ze, zh] at HS hc
  go_enter Tryz.func156, Tryz.ntmps156
  go_wp2_with (first | ((first | ((with_reducible refine gB rfl ?_); refine zC HS ?_) | ((with_reducible refine gA rfl ?_); refine zt HS ?_) | ((with_reducible refine gS rfl ?_); refine zr HS ?_) | (go_at_call 137; refine HS.go hb2.out ?_)); clear HS; (try clear hc); intros; rename_i HS; have hc := HS.lk; simp only [Lk, LkC, Value.cells, List.toList_toArray, Nat.reduceAdd, Nat.zero_add, and_true, zf, zg, ze, zh] at HS hc) | (refine yt (.op 0 0 29 (.op 1 0 30 (.op 2 0 31 (.op 3 0 32 (.op 4 0 33 (.op 5 0 6 (.op 6 0 7 (.op 7 0 8 .nil)))))))) [] HS (List.Sublist.refl _) ?_; clear HS hc; intro HS hS; (repeat refine RT.tk ?_); clear hS; have hc := HS.lk; simp only [Lk, LkC, Value.cells, List.toList_toArray, Nat.reduceAdd, Nat.zero_add, and_true, zf, zg, ze, zh] at HS hc; refine RT.nil ?_) | (refine yt (.op 0 0 34 (.op 1 0 35 (.op 2 0 36 (.op 3 0 37 (.op 4 0 38 (.op 5 0 6 (.op 6 0 7 (.op 7 0 8 .nil)))))))) [] HS (List.Sublist.refl _) ?_; clear HS hc; intro HS hS; (repeat refine RT.tk ?_); clear hS; have hc := HS.lk; simp only [Lk, LkC, Value.cells, List.toList_toArray, Nat.reduceAdd, Nat.zero_add, and_true, zf, zg, ze, zh] at HS hc; refine RT.nil ?_))
  go_ret3
  exact ⟨⟨_, rfl, by simp⟩, HS.fin⟩
theorem VF {s : ByteArray} {p n e : Int} {ys : List S108} {w : World} (h : JF s p ys n e) : Calls Tryz.prog 120 #[.string s, .int .i64 p] w fun e' w' => ∃ v, e' = .returned (.tuple #[v, .int .i64 n, .int .i64 e]) ∧ k108.R 108 w' w.heap.size (fun _ => True) v ys ∧ Below w.heap.size w w' := by
 have HS := Sat.nil w
 obtain ⟨xs, p1, q1, b, h1, h2, h3⟩ := h
 replace h1 := za.mk h1
 replace h2 := za.mk h2
 replace h3 := za.mk h3
 go_enter Tryz.func120, Tryz.ntmps120
 go_wp2_with (first | (first | ((with_reducible refine gB rfl ?_); refine zC HS ?_) | ((with_reducible refine gA rfl ?_); refine zt HS ?_) | ((with_reducible refine gS rfl ?_); refine zr HS ?_) | (go_at_call 157; refine HS.tnR (zb2 h1.out (by decide)) ?_) | (go_at_call 156; refine HS.tn (zde h3.out (by obtain ⟨k_, hk_⟩ := h2.out; exact zR.calls k_ _ _ _ _ _ (Kd.R_reads' (HS.rows _ (.head _)).2).2.2 (Kd.R_reads' (HS.rows _ (.head _)).2).2.1 hk_)) ?_)); clear HS; (try clear hc); intros; first | (rename_i e_ w_ he HS; obtain ⟨v_, rfl, hv_⟩ := he; have hc := HS.lk; simp only [Lk, LkC, Value.cells, List.toList_toArray, Nat.reduceAdd, Nat.zero_add, and_true, zf, zg, ze, zh] at HS hc) | (rename_i HS; have hc := HS.lk; simp only [Lk, LkC, Value.cells, List.toList_toArray, Nat.reduceAdd, Nat.zero_add, and_true, zf, zg, ze, zh] at HS hc))
 go_ret3
 refine ⟨_, rfl, ?_, HS.below⟩
 rcases hv_ with ⟨rfl, rfl⟩ | ⟨rfl, rfl⟩
 ·exact Kd.R_nil _ _ _ _ _
 ·exact (HS.rows _ (.head _)).2
theorem zb4 {s : ByteArray} {p q n e : Int} {l ys : List ByteArray} {b : Bool} {A : Option Addr} {c : Nat} {w : World} {g : Nat} (h : YQ [] l b p q ys n e) (hb : Calls Tryz.prog 151 #[.slice A l.length c] w fun e w' => e = .returned (.bool b) ∧ Below w.heap.size w w') (hg : AtB w g 156 (rdC s p q)) : Calls Tryz.prog 147 #[.pointer (some ⟨g, 0, none⟩), .slice A l.length c, .func (Fn.func 151) #[] #[]] w fun e' w' => (∃ v, e' = .returned (.tuple #[v, .int .i64 n, .int .i64 e]) ∧ ((v = .slice none 0 0 ∧ ys = []) ∨ (v = .slice A l.length c ∧ ys = l))) ∧ Tn w g 156 (rdC s p e) w' := by
 have HS := Sat.one hg
 have hb2 := za.mk hb
 clear hb
 rcases h with ⟨c0, rfl, rfl, rfl⟩ | ⟨rfl, rfl, rfl, rfl, rfl⟩ | ⟨rfl, rfl, rfl, rfl, rfl⟩
 case' inl => have c1 := beq_eq_false_iff_ne.mpr c0; have c2 := bne_iff_ne.mpr c0; clear c0
 all_goals
  have hc := HS.lk
  simp only [Lk, LkC, Value.cells, List.toList_toArray, Nat.reduceAdd, Nat.zero_add, and_true, zf, zg, ze, zh] at HS hc
  go_enter Tryz.func147, Tryz.ntmps147
  go_wp2_with (first | ((first | ((with_reducible refine gB rfl ?_); refine zC HS ?_) | ((with_reducible refine gA rfl ?_); refine zt HS ?_) | ((with_reducible refine gS rfl ?_); refine zr HS ?_) | (go_at_call 151; refine HS.go hb2.out ?_)); clear HS; (try clear hc); intros; rename_i HS; have hc := HS.lk; simp only [Lk, LkC, Value.cells, List.toList_toArray, Nat.reduceAdd, Nat.zero_add, and_true, zf, zg, ze, zh] at HS hc) | (refine yt (.op 0 0 29 (.op 1 0 30 (.op 2 0 31 (.op 3 0 32 (.op 4 0 33 (.op 5 0 6 (.op 6 0 7 (.op 7 0 8 .nil)))))))) [] HS (List.Sublist.refl _) ?_; clear HS hc; intro HS hS; (repeat refine RT.tk ?_); clear hS; have hc := HS.lk; simp only [Lk, LkC, Value.cells, List.toList_toArray, Nat.reduceAdd, Nat.zero_add, and_true, zf, zg, ze, zh] at HS hc; refine RT.nil ?_) | (refine yt (.op 0 0 34 (.op 1 0 35 (.op 2 0 36 (.op 3 0 37 (.op 4 0 38 (.op 5 0 6 (.op 6 0 7 (.op 7 0 8 .nil)))))))) [] HS (List.Sublist.refl _) ?_; clear HS hc; intro HS hS; (repeat refine RT.tk ?_); clear hS; have hc := HS.lk; simp only [Lk, LkC, Value.cells, List.toList_toArray, Nat.reduceAdd, Nat.zero_add, and_true, zf, zg, ze, zh] at HS hc; refine RT.nil ?_))
  go_ret3
  exact ⟨⟨_, rfl, by simp⟩, HS.fin⟩
theorem zac {s : ByteArray} {p n e : Int} {ys : List ByteArray} {w : World} (h : Jv s p ys n e) : Calls Tryz.prog 113 #[.string s, .int .i64 p] w fun e' w' => ∃ v, e' = .returned (.tuple #[v, .int .i64 n, .int .i64 e]) ∧ Kd.string.R 9 w' w.heap.size (fun _ => True) v ys ∧ Below w.heap.size w w' := by
 have HS := Sat.nil w
 obtain ⟨xs, p1, q1, b, h1, h2, h3⟩ := h
 replace h1 := za.mk h1
 replace h2 := za.mk h2
 replace h3 := za.mk h3
 go_enter Tryz.func113, Tryz.ntmps113
 go_wp2_with (first | (first | ((with_reducible refine gB rfl ?_); refine zC HS ?_) | ((with_reducible refine gA rfl ?_); refine zt HS ?_) | ((with_reducible refine gS rfl ?_); refine zr HS ?_) | (go_at_call 148; refine HS.tnR (zaz h1.out (by decide)) ?_) | (go_at_call 147; refine HS.tn (zb4 h3.out (by obtain ⟨k_, hk_⟩ := h2.out; exact xt.calls k_ _ _ _ _ _ (Kd.R_reads' (HS.rows _ (.head _)).2).2.2 (Kd.R_reads' (HS.rows _ (.head _)).2).2.1 hk_)) ?_)); clear HS; (try clear hc); intros; first | (rename_i e_ w_ he HS; obtain ⟨v_, rfl, hv_⟩ := he; have hc := HS.lk; simp only [Lk, LkC, Value.cells, List.toList_toArray, Nat.reduceAdd, Nat.zero_add, and_true, zf, zg, ze, zh] at HS hc) | (rename_i HS; have hc := HS.lk; simp only [Lk, LkC, Value.cells, List.toList_toArray, Nat.reduceAdd, Nat.zero_add, and_true, zf, zg, ze, zh] at HS hc))
 go_ret3
 refine ⟨_, rfl, ?_, HS.below⟩
 rcases hv_ with ⟨rfl, rfl⟩ | ⟨rfl, rfl⟩
 ·exact Kd.R_nil _ _ _ _ _
 ·exact (HS.rows _ (.head _)).2
theorem zcl {s : ByteArray} {p q n e : Int} {x y : S52} {b : Bool} {A : Option Addr} {c base : Nat} {w : World} {g : Nat} {cs : List Value} (hB : qU x.f0 x.f1 x.f2 x.f3 x.f4 x.f5 = b) (h : YQ z52 x b p q y n e) (hr : (Kd.int .i64).R 3 w base (fun _ => True) (.slice A x.f4.length c) x.f4) (hcs : (e = 0 ∧ cs = [.int .i64 x.f0, .int .i64 x.f1, .string x.f2, .int .i64 x.f3, .slice A x.f4.length c, .int .i64 x.f5]) ∨ (e ≠ 0 ∧ cs = [.int .i64 0, .int .i64 0, .string ⟨#[]⟩, .int .i64 0, .slice none 0 0, .int .i64 0])) (hg : AtB w g 156 (rdC s p q)) : Calls Tryz.prog 154 #[.pointer (some ⟨g, 0, none⟩), .agg #[.int .i64 x.f0, .int .i64 x.f1, .string x.f2, .int .i64 x.f3, .slice A x.f4.length c, .int .i64 x.f5], .func (Fn.func 136) #[] #[]] w fun e' w' => e' = .returned (.tuple #[.agg cs.toArray, .int .i64 n, .int .i64 e]) ∧ Tn w g 156 (rdC s p e) w' := by
 have HS := (Sat.one hg).row (Ty.R (Kd.int .i64) 3 base _ _) hr
 replace hB := za.mk hB
 clear hr
 rcases h with ⟨c0, rfl, rfl, rfl⟩ | ⟨rfl, rfl, rfl, rfl, rfl⟩ | ⟨rfl, rfl, rfl, rfl, rfl⟩
 case' inl => have c1 := beq_eq_false_iff_ne.mpr c0; have c2 := bne_iff_ne.mpr c0
 all_goals
  rcases hcs with ⟨c3, rfl⟩ | ⟨c3, rfl⟩ <;> first | (exfalso; first | exact c0 c3 | exact c3 rfl | (revert c3; decide)) | skip
  try clear c0
  clear c3
  have hc := HS.lk
  simp only [Lk, LkC, Value.cells, List.toList_toArray, Nat.reduceAdd, Nat.zero_add, and_true, zf, zg, ze, zh] at HS hc
  go_enter Tryz.func154, Tryz.ntmps154
  go_wp2_with (first | ((first | ((with_reducible refine gB rfl ?_); refine zC HS ?_) | ((with_reducible refine gA rfl ?_); refine zt HS ?_) | ((with_reducible refine gS rfl ?_); refine zr HS ?_) | (go_at_call 136; refine HS.go (xX.calls 0 _ _ _ _ _ _ _ _ _ _ (Kd.R_reads' (HS.rows _ (.head _)).2).2.2 (Kd.R_reads' (HS.rows _ (.head _)).2).2.1 (congrArg some hB.out)) ?_)); clear HS; (try clear hc); intros; rename_i HS; have hc := HS.lk; simp only [Lk, LkC, Value.cells, List.toList_toArray, Nat.reduceAdd, Nat.zero_add, and_true, zf, zg, ze, zh] at HS hc) | (refine yt (.op 0 0 29 (.op 1 0 30 (.op 2 0 31 (.op 3 0 32 (.op 4 0 33 (.op 5 4 0 (.op 6 1 7 (.op 7 1 8 .nil)))))))) [] HS (.cons_cons _ (.cons _ (.cons_cons _ (.cons_cons _ .slnil)))) ?_; clear HS hc; intro HS hS; (repeat (refine RT.tk ?_)); refine RT.o4 ?_; intro K hK; refine xo HS ?_; clear HS hS; intro w_ HS; have hc := HS.lk; simp only [Lk, LkC, Value.cells, List.toList_toArray, Nat.reduceAdd, Nat.zero_add, and_true, zf, zg, ze, zh] at HS hc; refine hK _ _ (xb (.cons_cons _ (.cons _ (.cons_cons _ (.cons_cons _ .slnil)))) HS.lk) (fun hS => ?_); clear hK hS; (repeat (refine RT.pu ?_)); refine RT.nil ?_) | (refine yt (.op 0 0 34 (.op 1 0 35 (.op 2 0 36 (.op 3 0 37 (.op 4 0 38 (.op 5 4 0 (.op 6 1 7 (.op 7 1 8 .nil)))))))) [] HS (.cons_cons _ (.cons _ (.cons_cons _ (.cons_cons _ .slnil)))) ?_; clear HS hc; intro HS hS; (repeat (refine RT.tk ?_)); refine RT.o4 ?_; intro K hK; refine xo HS ?_; clear HS hS; intro w_ HS; have hc := HS.lk; simp only [Lk, LkC, Value.cells, List.toList_toArray, Nat.reduceAdd, Nat.zero_add, and_true, zf, zg, ze, zh] at HS hc; refine hK _ _ (xb (.cons_cons _ (.cons _ (.cons_cons _ (.cons_cons _ .slnil)))) HS.lk) (fun hS => ?_); clear hK hS; (repeat (refine RT.pu ?_)); refine RT.nil ?_))
  refine bodyPost_ret (xx (rs := [_, _, _]) rfl (by simp) (.cell _ _ _ _ _ rfl (HS.blk (_, _, _) (by repeat (first | exact .head _ | apply List.Mem.tail))).2 Tryz.underlying52 rfl (by kernel_rfl) (.tmp (.tmp .nil)))) rfl ?_
  exact ⟨rfl, HS.fin⟩
theorem zc6 {s : ByteArray} {p n e : Int} {y : S52} {w : World} (h : zcE s p y n e) : Calls Tryz.prog 116 #[.string s, .int .i64 p] w fun e' w' => (∃ cs : List Value, e' = .returned (.tuple #[.agg cs.toArray, .int .i64 n, .int .i64 e]) ∧ k52.M w' w.heap.size (fun _ => True) y cs) ∧ Below w.heap.size w w' := by
 have HS := Sat.nil w
 obtain ⟨x, p1, q1, p2, q2, p3, q3, p4, q4, p5, q5, p_, q_, h1, h2, h3, h4, h5, h6, h7⟩ := h
 replace h1 := za.mk h1
 replace h2 := za.mk h2
 replace h3 := za.mk h3
 replace h4 := za.mk h4
 replace h5 := za.mk h5
 replace h6 := za.mk h6
 have h8 : (e = 0 ∧ y = x) ∨ (e ≠ 0 ∧ y = z52) := by
  rcases h7 with ⟨c0, rfl, rfl, rfl⟩ | ⟨rfl, _, rfl, rfl, rfl⟩ | ⟨rfl, _, rfl, rfl, rfl⟩
  ·exact .inr ⟨c0, rfl⟩
  ·exact .inr ⟨by decide, rfl⟩
  ·exact .inl ⟨rfl, rfl⟩
 replace h7 := za.mk h7
 rcases h8 with ⟨h8, rfl⟩ | ⟨h8, rfl⟩
 all_goals
  replace h8 := za.mk h8
  go_enter Tryz.func116, Tryz.ntmps116
  go_wp2_with ((first | ((with_reducible refine gB rfl ?_); refine zC HS ?_) | ((with_reducible refine gA rfl ?_); refine zt HS ?_) | ((with_reducible refine gS rfl ?_); refine zr HS ?_) | (go_at_call 152; refine HS.tn0 (qq h1.out) ?_) | (go_at_call 152; refine HS.tn0 (qq h2.out) ?_) | (go_at_call 150; refine HS.tn0 (Ju h3.out) ?_) | (go_at_call 152; refine HS.tn0 (qq h4.out) ?_) | (go_at_call 153; refine HS.tnR (J2 h5.out) ?_) | (go_at_call 152; refine HS.tn0 (qq h6.out) ?_) | (go_at_call 154; refine HS.tn0 (zcl rfl h7.out (HS.rows _ (.head _)).2 (by first | exact .inl ⟨h8.out, rfl⟩ | exact .inr ⟨h8.out, rfl⟩)) ?_)); clear HS; (try clear hc); intros; rename_i HS; have hc := HS.lk; simp only [Lk, LkC, Value.cells, List.toList_toArray, Nat.reduceAdd, Nat.zero_add, and_true, zf, zg, ze, zh] at HS hc)
  refine bodyPost_ret (xx (rs := [_, _, _]) rfl (by simp) (.cell _ _ _ _ _ rfl (HS.blk (_, _, _) (by repeat (first | exact .head _ | apply List.Mem.tail))).2 Tryz.underlying52 rfl (by kernel_rfl) (.tmp (.tmp .nil)))) rfl ?_
  refine ⟨⟨_, rfl, ?_⟩, HS.below⟩
  first | exact QK _ _ _ _ (HS.rows _ (.head _)).2 | exact QK _ _ _ z52 (Kd.R_nil _ _ _ _ _)
section
variable {P : Program} {gs : List Nat} {w0 w : World} {bs bs' : List Bk} {rs : List Rw} {f : FuncId} {args : Array Value} {K : Ending → World → Prop} {g : Nat} {s s' : ByteArray} {p q p' q' : Int} {α : Type} {d : Kd α} {t : Nat} {xs : List α} {r : Value}
abbrev IsR (W w : World) (g : Nat) (s : ByteArray) (p q : Int) : Prop := w.heap[g]? = some (.cells (rdC s p q).toArray 67 (0, 0)) ∧ W.heap.size ≤ g
abbrev qK (W w w' : World) (g : Nat) (s : ByteArray) (p q : Int) : Prop := IsR W w' g s p q ∧ Below W.heap.size W w' ∧ yI w w' g none
theorem Sat.reader (H : Sat gs w0 w bs rs) (hm : (g, rdC s p q, 67) ∈ bs) : IsR (xy w g) w g s p q ∧ Below (xy w g).heap.size (xy w g) w :=
 ⟨⟨(H.blk _ hm).2, by rw [vO (H.lt hm)]; exact Nat.le_refl _⟩, Yr (H.lt hm)⟩
theorem Sat.rd0 (H : Sat gs w0 w bs rs) (hc : IsR (xy w g) w g s p q → Below (xy w g).heap.size (xy w g) w → Calls P f args w fun e w' => e = .returned r ∧ qK (xy w g) w w' g s' p' q')
  (h : ∀ w', Sat gs w0 w' bs' rs → K (.returned r) w') (hm : (g, rdC s p q, 67) ∈ bs := by ((repeat (first | exact .head _ | apply List.Mem.tail)); (first | done | fail))) (U : Up g 67 0 (fun _ => rdC s' p' q') bs bs' := by ((repeat (first | exact .here rfl | apply Up.there)); (first | done | fail))) (ht : xj 67 rs = true := by rfl) : Calls P f args w K := by
 obtain ⟨h1, h2⟩ := H.reader hm
 refine H.st (Φ := fun e _ => e = .returned r) ((hc h1 h2).mono fun e w' he => ⟨he.1, he.2.1.1, he.2.2⟩) h2 (fun e w' he HS => ?_) U ht
 subst he
 exact h w' HS
theorem Sat.rdR (H : Sat gs w0 w bs rs) (hc : IsR (xy w g) w g s p q → Below (xy w g).heap.size (xy w g) w → Calls P f args w fun e w' => ∃ v, e = .returned v ∧ d.R t w' w.heap.size (fun _ => True) v xs ∧ qK (xy w g) w w' g s' p' q')
  (h : ∀ A c w', Sat gs w0 w' bs' ((t :: d.E, fun w => d.R t w w0.heap.size (fun _ => True) (.slice A xs.length c) xs) :: rs) → K (.returned (.slice A xs.length c)) w') (hm : (g, rdC s p q, 67) ∈ bs := by ((repeat (first | exact .head _ | apply List.Mem.tail)); (first | done | fail))) (U : Up g 67 0 (fun _ => rdC s' p' q') bs bs' := by ((repeat (first | exact .here rfl | apply Up.there)); (first | done | fail))) (ht : xj 67 rs = true := by rfl) : Calls P f args w K := by
 obtain ⟨h1, h2⟩ := H.reader hm
 refine H.st (Φ := fun e w' => ∃ v, e = .returned v ∧ d.R t w' w.heap.size (fun _ => True) v xs) ((hc h1 h2).mono fun e w' he => ?_) h2 (fun e w' he HS => ?_) U ht
 ·obtain ⟨v, h3, h4, h5, h6⟩ := he
  exact ⟨⟨v, h3, h4⟩, h5.1, h6⟩
 ·obtain ⟨v, rfl, hr⟩ := he
  obtain ⟨A, c, rfl⟩ := Kd.R_slice hr
  exact h A c w' (HS.R hr H.keep.size)
theorem Sat.rdG (H : Sat gs w0 w bs rs) {Φ : Ending → World → Prop} (hc : IsR (xy w g) w g s p q → Below (xy w g).heap.size (xy w g) w → Calls P f args w fun e w' => Φ e w' ∧ qK (xy w g) w w' g s' p' q')
  (h : ∀ e w', Φ e w' → Sat gs w0 w' bs' rs → K e w') (hm : (g, rdC s p q, 67) ∈ bs := by ((repeat (first | exact .head _ | apply List.Mem.tail)); (first | done | fail))) (U : Up g 67 0 (fun _ => rdC s' p' q') bs bs' := by ((repeat (first | exact .here rfl | apply Up.there)); (first | done | fail))) (ht : xj 67 rs = true := by rfl) : Calls P f args w K := by
 obtain ⟨h1, h2⟩ := H.reader hm
 exact H.st (Φ := Φ) ((hc h1 h2).mono fun e w' he => ⟨he.1, he.2.1.1, he.2.2⟩) h2 h U ht
theorem Sat.post {W w' : World} (H : Sat [g] w w' bs rs) (hB : Below W.heap.size W w) (hg : W.heap.size ≤ g) (hm : (g, rdC s p q, 67) ∈ bs) : qK W w w' g s p q :=
 ⟨⟨(H.blk _ hm).2, hg⟩, H.keep.below_of hB (by simpa using hg), H.keep.but⟩
end
def Qt := beh z52 zcE
def Yj := beh [] Jv
def Yf := beh [] JF
def YW := beh [] Vm
def vZ := beh [] Qc
def ZS (s : ByteArray) (p q m v p' q' : Int) : Prop := ∃ n q1, xp s p q n p' q1 ∧ ((q1 = 0 ∧ inB n 0 m = true ∧ v = n ∧ q' = 0) ∨ (q1 = 0 ∧ inB n 0 m = false ∧ v = 0 ∧ q' = 6) ∨ (q1 ≠ 0 ∧ v = 0 ∧ q' = q1))
abbrev cmdC (x : S52) (A : Option Addr) (c : Nat) : List Value := [.int .i64 x.f0, .int .i64 x.f1, .string x.f2, .int .i64 x.f3, .slice A x.f4.length c, .int .i64 x.f5]
section
variable {W w : World} {g : Nat} {s : ByteArray} {p q p' q' : Int}
theorem xp.with {v : Int} (h : xp s p q v p' q') (hI : IsR W w g s p q) (hB : Below W.heap.size W w) : Calls Tryz.prog 74 #[.pointer (some ⟨g, 0, none⟩), .func (Fn.func 75) #[] #[]] w fun e w' => e = .returned (.int .i64 v) ∧ qK W w w' g s p' q' := by
 have hG := za.mk hI.2
 have HS := Sat.one hI.1
 replace hB := za.mk hB
 clear hI
 have hc := HS.lk
 simp only [Lk, LkC, Value.cells, List.toList_toArray, Nat.reduceAdd, Nat.zero_add, and_true, zf, zg, ze, zh] at HS hc
 rcases h with ⟨c, rfl, rfl, rfl⟩ | ⟨rfl, h⟩
 ·have d1 := bne_iff_ne.mpr c
  go_enter Tryz.func74, Tryz.ntmps74
  go_wp2_with ((first | ((with_reducible refine gB rfl ?_); refine zC HS ?_) | ((with_reducible refine gA rfl ?_); refine zt HS ?_) | ((with_reducible refine gS rfl ?_); refine zr HS ?_)); clear HS; (try clear hc); intros; rename_i HS; have hc := HS.lk; simp only [Lk, LkC, Value.cells, List.toList_toArray, Nat.reduceAdd, Nat.zero_add, and_true, zf, zg, ze, zh] at HS hc)
  go_ret
  exact ⟨rfl, HS.post hB.out hG.out (by simp)⟩
 ·replace h := za.mk h
  obtain ⟨k, h⟩ := h.out
  replace h := za.mk h
  go_enter Tryz.func74, Tryz.ntmps74
  go_wp2_with (first | ((first | ((with_reducible refine gB rfl ?_); refine zC HS ?_) | ((with_reducible refine gA rfl ?_); refine zt HS ?_) | ((with_reducible refine gS rfl ?_); refine zr HS ?_)); clear HS; (try clear hc); intros; rename_i HS; have hc := HS.lk; simp only [Lk, LkC, Value.cells, List.toList_toArray, Nat.reduceAdd, Nat.zero_add, and_true, zf, zg, ze, zh] at HS hc) | (refine yt (.op 0 0 16 (.op 1 0 17 (.op 2 0 18 (.op 3 0 19 (.op 4 0 20 (.op 5 0 21 (.op 6 0 22 (.op 7 0 23 (.op 8 0 24 (.op 9 2 25 (.op 10 1 15 (.op 11 1 26 (.op 12 1 27 (.op 13 1 28 (.op 14 1 6 (.op 15 1 7 (.op 16 1 8 .nil))))))))))))))))) [] HS (List.Sublist.refl _) ?_; clear HS hc; intro HS hS; (repeat' (first | refine RT.tk ?_ | refine RT.pu ?_ | (refine RT.o1 ?_; refine Zm HS (List.Sublist.refl _) (jI (zm.calls k _ _ _ _ _ _ h.out)) ?_; clear HS; intro w_ HS; refine RT.nm ?_))); have hc := HS.lk; simp only [Lk, LkC, Value.cells, List.toList_toArray, Nat.reduceAdd, Nat.zero_add, and_true, zf, zg, ze, zh] at HS hc; refine RT.nil ?_))
  go_ret
  exact ⟨rfl, HS.post hB.out hG.out (by simp)⟩
theorem xp.calls {v : Int} (h : xp s p q v p' q') (hI : IsR W w g s p q) (hB : Below W.heap.size W w) : Calls Tryz.prog 37 #[.pointer (some ⟨g, 0, none⟩)] w fun e w' => e = .returned (.int .i64 v) ∧ qK W w w' g s p' q' := by
 have hG := za.mk hI.2
 have HS := Sat.one hI.1
 replace hB := za.mk hB
 clear hI
 replace h := za.mk h
 go_enter Tryz.func37, Tryz.ntmps37
 go_wp2_with ((first | ((with_reducible refine gB rfl ?_); refine zC HS ?_) | ((with_reducible refine gA rfl ?_); refine zt HS ?_) | ((with_reducible refine gS rfl ?_); refine zr HS ?_) | (go_at_call 74; refine HS.rd0 h.out.with ?_)); clear HS; (try clear hc); intros; rename_i HS; have hc := HS.lk; simp only [Lk, LkC, Value.cells, List.toList_toArray, Nat.reduceAdd, Nat.zero_add, and_true, zf, zg, ze, zh] at HS hc)
 go_ret
 exact ⟨rfl, HS.post hB.out hG.out (by simp)⟩
theorem jA.calls {v : ByteArray} (h : jA s p q v p' q') (hI : IsR W w g s p q) (hB : Below W.heap.size W w) : Calls Tryz.prog 117 #[.pointer (some ⟨g, 0, none⟩), .func (Fn.func 118) #[] #[]] w fun e w' => e = .returned (.string v) ∧ qK W w w' g s p' q' := by
 have hG := za.mk hI.2
 have HS := Sat.one hI.1
 replace hB := za.mk hB
 clear hI
 have hc := HS.lk
 simp only [Lk, LkC, Value.cells, List.toList_toArray, Nat.reduceAdd, Nat.zero_add, and_true, zf, zg, ze, zh] at HS hc
 rcases h with ⟨c, rfl, rfl, rfl⟩ | ⟨rfl, h⟩
 ·have d1 := bne_iff_ne.mpr c
  go_enter Tryz.func117, Tryz.ntmps117
  go_wp2_with ((first | ((with_reducible refine gB rfl ?_); refine zC HS ?_) | ((with_reducible refine gA rfl ?_); refine zt HS ?_) | ((with_reducible refine gS rfl ?_); refine zr HS ?_)); clear HS; (try clear hc); intros; rename_i HS; have hc := HS.lk; simp only [Lk, LkC, Value.cells, List.toList_toArray, Nat.reduceAdd, Nat.zero_add, and_true, zf, zg, ze, zh] at HS hc)
  go_ret
  exact ⟨rfl, HS.post hB.out hG.out (by simp)⟩
 ·replace h := za.mk h
  obtain ⟨k, h⟩ := h.out
  replace h := za.mk h
  go_enter Tryz.func117, Tryz.ntmps117
  go_wp2_with (first | ((first | ((with_reducible refine gB rfl ?_); refine zC HS ?_) | ((with_reducible refine gA rfl ?_); refine zt HS ?_) | ((with_reducible refine gS rfl ?_); refine zr HS ?_)); clear HS; (try clear hc); intros; rename_i HS; have hc := HS.lk; simp only [Lk, LkC, Value.cells, List.toList_toArray, Nat.reduceAdd, Nat.zero_add, and_true, zf, zg, ze, zh] at HS hc) | (refine yt (.op 0 0 16 (.op 1 0 17 (.op 2 0 18 (.op 3 0 19 (.op 4 0 20 (.op 5 0 21 (.op 6 0 22 (.op 7 0 23 (.op 8 0 24 (.op 9 2 25 (.op 10 1 15 (.op 11 1 26 (.op 12 1 27 (.op 13 1 28 (.op 14 1 6 (.op 15 1 7 (.op 16 1 8 .nil))))))))))))))))) [] HS (List.Sublist.refl _) ?_; clear HS hc; intro HS hS; (repeat' (first | refine RT.tk ?_ | refine RT.pu ?_ | (refine RT.o1 ?_; refine Zm HS (List.Sublist.refl _) (jI (xA.calls k _ _ _ _ _ _ h.out)) ?_; clear HS; intro w_ HS; refine RT.nm ?_))); have hc := HS.lk; simp only [Lk, LkC, Value.cells, List.toList_toArray, Nat.reduceAdd, Nat.zero_add, and_true, zf, zg, ze, zh] at HS hc; refine RT.nil ?_))
  go_ret
  exact ⟨rfl, HS.post hB.out hG.out (by simp)⟩
theorem Yj.calls {v : List ByteArray} (h : Yj s p q v p' q') (hI : IsR W w g s p q) (hB : Below W.heap.size W w) : Calls Tryz.prog 112 #[.pointer (some ⟨g, 0, none⟩), .func (Fn.func 113) #[] #[]] w fun e w' => ∃ v0, e = .returned v0 ∧ Kd.string.R 9 w' w.heap.size (fun _ => True) v0 v ∧ qK W w w' g s p' q' := by
 have hG := za.mk hI.2
 have HS := Sat.one hI.1
 replace hB := za.mk hB
 clear hI
 have hc := HS.lk
 simp only [Lk, LkC, Value.cells, List.toList_toArray, Nat.reduceAdd, Nat.zero_add, and_true, zf, zg, ze, zh] at HS hc
 rcases h with ⟨c, rfl, rfl, rfl⟩ | ⟨rfl, h⟩
 ·have d1 := bne_iff_ne.mpr c
  go_enter Tryz.func112, Tryz.ntmps112
  go_wp2_with ((first | ((with_reducible refine gB rfl ?_); refine zC HS ?_) | ((with_reducible refine gA rfl ?_); refine zt HS ?_) | ((with_reducible refine gS rfl ?_); refine zr HS ?_)); clear HS; (try clear hc); intros; rename_i HS; have hc := HS.lk; simp only [Lk, LkC, Value.cells, List.toList_toArray, Nat.reduceAdd, Nat.zero_add, and_true, zf, zg, ze, zh] at HS hc)
  go_ret
  exact ⟨_, rfl, Kd.R_nil _ _ _ _ _, HS.post hB.out hG.out (by simp)⟩
 ·replace h := za.mk h
  go_enter Tryz.func112, Tryz.ntmps112
  go_wp2_with (first | ((first | ((with_reducible refine gB rfl ?_); refine zC HS ?_) | ((with_reducible refine gA rfl ?_); refine zt HS ?_) | ((with_reducible refine gS rfl ?_); refine zr HS ?_)); clear HS; (try clear hc); intros; rename_i HS; have hc := HS.lk; simp only [Lk, LkC, Value.cells, List.toList_toArray, Nat.reduceAdd, Nat.zero_add, and_true, zf, zg, ze, zh] at HS hc) | (refine yt (.op 0 0 16 (.op 1 0 17 (.op 2 0 18 (.op 3 0 19 (.op 4 0 20 (.op 5 0 21 (.op 6 0 22 (.op 7 0 23 (.op 8 0 24 (.op 9 2 25 (.op 10 1 15 (.op 11 1 26 (.op 12 1 27 (.op 13 1 28 (.op 14 1 6 (.op 15 1 7 (.op 16 1 8 .nil))))))))))))))))) [] HS (List.Sublist.refl _) ?_; clear HS hc; intro HS hS; (repeat' (first | refine RT.tk ?_ | refine RT.pu ?_ | (refine RT.o1 ?_; refine YS (F := fun v => .tuple #[v, .int .i64 p', .int .i64 q']) HS (List.Sublist.refl _) (zac h.out) ?_; clear HS; intro A_ c_ w_ HS; refine RT.nm ?_))); have hc := HS.lk; simp only [Lk, LkC, Value.cells, List.toList_toArray, Nat.reduceAdd, Nat.zero_add, and_true, zf, zg, ze, zh] at HS hc; refine RT.nil ?_))
  go_ret
  exact ⟨_, rfl, (HS.rows _ (.head _)).2, HS.post hB.out hG.out (by simp)⟩
theorem Yf.calls {v : List S108} (h : Yf s p q v p' q') (hI : IsR W w g s p q) (hB : Below W.heap.size W w) : Calls Tryz.prog 119 #[.pointer (some ⟨g, 0, none⟩), .func (Fn.func 120) #[] #[]] w fun e w' => ∃ v0, e = .returned v0 ∧ k108.R 108 w' w.heap.size (fun _ => True) v0 v ∧ qK W w w' g s p' q' := by
 have hG := za.mk hI.2
 have HS := Sat.one hI.1
 replace hB := za.mk hB
 clear hI
 have hc := HS.lk
 simp only [Lk, LkC, Value.cells, List.toList_toArray, Nat.reduceAdd, Nat.zero_add, and_true, zf, zg, ze, zh] at HS hc
 rcases h with ⟨c, rfl, rfl, rfl⟩ | ⟨rfl, h⟩
 ·have d1 := bne_iff_ne.mpr c
  go_enter Tryz.func119, Tryz.ntmps119
  go_wp2_with ((first | ((with_reducible refine gB rfl ?_); refine zC HS ?_) | ((with_reducible refine gA rfl ?_); refine zt HS ?_) | ((with_reducible refine gS rfl ?_); refine zr HS ?_)); clear HS; (try clear hc); intros; rename_i HS; have hc := HS.lk; simp only [Lk, LkC, Value.cells, List.toList_toArray, Nat.reduceAdd, Nat.zero_add, and_true, zf, zg, ze, zh] at HS hc)
  go_ret
  exact ⟨_, rfl, Kd.R_nil _ _ _ _ _, HS.post hB.out hG.out (by simp)⟩
 ·replace h := za.mk h
  go_enter Tryz.func119, Tryz.ntmps119
  go_wp2_with (first | ((first | ((with_reducible refine gB rfl ?_); refine zC HS ?_) | ((with_reducible refine gA rfl ?_); refine zt HS ?_) | ((with_reducible refine gS rfl ?_); refine zr HS ?_)); clear HS; (try clear hc); intros; rename_i HS; have hc := HS.lk; simp only [Lk, LkC, Value.cells, List.toList_toArray, Nat.reduceAdd, Nat.zero_add, and_true, zf, zg, ze, zh] at HS hc) | (refine yt (.op 0 0 16 (.op 1 0 17 (.op 2 0 18 (.op 3 0 19 (.op 4 0 20 (.op 5 0 21 (.op 6 0 22 (.op 7 0 23 (.op 8 0 24 (.op 9 2 25 (.op 10 1 15 (.op 11 1 26 (.op 12 1 27 (.op 13 1 28 (.op 14 1 6 (.op 15 1 7 (.op 16 1 8 .nil))))))))))))))))) [] HS (List.Sublist.refl _) ?_; clear HS hc; intro HS hS; (repeat' (first | refine RT.tk ?_ | refine RT.pu ?_ | (refine RT.o1 ?_; refine YS (F := fun v => .tuple #[v, .int .i64 p', .int .i64 q']) HS (List.Sublist.refl _) (VF h.out) ?_; clear HS; intro A_ c_ w_ HS; refine RT.nm ?_))); have hc := HS.lk; simp only [Lk, LkC, Value.cells, List.toList_toArray, Nat.reduceAdd, Nat.zero_add, and_true, zf, zg, ze, zh] at HS hc; refine RT.nil ?_))
  go_ret
  exact ⟨_, rfl, (HS.rows _ (.head _)).2, HS.post hB.out hG.out (by simp)⟩
theorem YW.calls {v : List S86} (h : YW s p q v p' q') (hI : IsR W w g s p q) (hB : Below W.heap.size W w) : Calls Tryz.prog 121 #[.pointer (some ⟨g, 0, none⟩), .func (Fn.func 122) #[] #[]] w fun e w' => ∃ v0, e = .returned v0 ∧ k86.R 86 w' w.heap.size (fun _ => True) v0 v ∧ qK W w w' g s p' q' := by
 have hG := za.mk hI.2
 have HS := Sat.one hI.1
 replace hB := za.mk hB
 clear hI
 have hc := HS.lk
 simp only [Lk, LkC, Value.cells, List.toList_toArray, Nat.reduceAdd, Nat.zero_add, and_true, zf, zg, ze, zh] at HS hc
 rcases h with ⟨c, rfl, rfl, rfl⟩ | ⟨rfl, h⟩
 ·have d1 := bne_iff_ne.mpr c
  go_enter Tryz.func121, Tryz.ntmps121
  go_wp2_with ((first | ((with_reducible refine gB rfl ?_); refine zC HS ?_) | ((with_reducible refine gA rfl ?_); refine zt HS ?_) | ((with_reducible refine gS rfl ?_); refine zr HS ?_)); clear HS; (try clear hc); intros; rename_i HS; have hc := HS.lk; simp only [Lk, LkC, Value.cells, List.toList_toArray, Nat.reduceAdd, Nat.zero_add, and_true, zf, zg, ze, zh] at HS hc)
  go_ret
  exact ⟨_, rfl, Kd.R_nil _ _ _ _ _, HS.post hB.out hG.out (by simp)⟩
 ·replace h := za.mk h
  go_enter Tryz.func121, Tryz.ntmps121
  go_wp2_with (first | ((first | ((with_reducible refine gB rfl ?_); refine zC HS ?_) | ((with_reducible refine gA rfl ?_); refine zt HS ?_) | ((with_reducible refine gS rfl ?_); refine zr HS ?_)); clear HS; (try clear hc); intros; rename_i HS; have hc := HS.lk; simp only [Lk, LkC, Value.cells, List.toList_toArray, Nat.reduceAdd, Nat.zero_add, and_true, zf, zg, ze, zh] at HS hc) | (refine yt (.op 0 0 16 (.op 1 0 17 (.op 2 0 18 (.op 3 0 19 (.op 4 0 20 (.op 5 0 21 (.op 6 0 22 (.op 7 0 23 (.op 8 0 24 (.op 9 2 25 (.op 10 1 15 (.op 11 1 26 (.op 12 1 27 (.op 13 1 28 (.op 14 1 6 (.op 15 1 7 (.op 16 1 8 .nil))))))))))))))))) [] HS (List.Sublist.refl _) ?_; clear HS hc; intro HS hS; (repeat' (first | refine RT.tk ?_ | refine RT.pu ?_ | (refine RT.o1 ?_; refine YS (F := fun v => .tuple #[v, .int .i64 p', .int .i64 q']) HS (List.Sublist.refl _) (zaQ h.out) ?_; clear HS; intro A_ c_ w_ HS; refine RT.nm ?_))); have hc := HS.lk; simp only [Lk, LkC, Value.cells, List.toList_toArray, Nat.reduceAdd, Nat.zero_add, and_true, zf, zg, ze, zh] at HS hc; refine RT.nil ?_))
  go_ret
  exact ⟨_, rfl, (HS.rows _ (.head _)).2, HS.post hB.out hG.out (by simp)⟩
theorem vZ.calls {v : List S77} (h : vZ s p q v p' q') (hI : IsR W w g s p q) (hB : Below W.heap.size W w) : Calls Tryz.prog 123 #[.pointer (some ⟨g, 0, none⟩), .func (Fn.func 124) #[] #[]] w fun e w' => ∃ v0, e = .returned v0 ∧ k77.R 77 w' w.heap.size (fun _ => True) v0 v ∧ qK W w w' g s p' q' := by
 have hG := za.mk hI.2
 have HS := Sat.one hI.1
 replace hB := za.mk hB
 clear hI
 have hc := HS.lk
 simp only [Lk, LkC, Value.cells, List.toList_toArray, Nat.reduceAdd, Nat.zero_add, and_true, zf, zg, ze, zh] at HS hc
 rcases h with ⟨c, rfl, rfl, rfl⟩ | ⟨rfl, h⟩
 ·have d1 := bne_iff_ne.mpr c
  go_enter Tryz.func123, Tryz.ntmps123
  go_wp2_with ((first | ((with_reducible refine gB rfl ?_); refine zC HS ?_) | ((with_reducible refine gA rfl ?_); refine zt HS ?_) | ((with_reducible refine gS rfl ?_); refine zr HS ?_)); clear HS; (try clear hc); intros; rename_i HS; have hc := HS.lk; simp only [Lk, LkC, Value.cells, List.toList_toArray, Nat.reduceAdd, Nat.zero_add, and_true, zf, zg, ze, zh] at HS hc)
  go_ret
  exact ⟨_, rfl, Kd.R_nil _ _ _ _ _, HS.post hB.out hG.out (by simp)⟩
 ·replace h := za.mk h
  go_enter Tryz.func123, Tryz.ntmps123
  go_wp2_with (first | ((first | ((with_reducible refine gB rfl ?_); refine zC HS ?_) | ((with_reducible refine gA rfl ?_); refine zt HS ?_) | ((with_reducible refine gS rfl ?_); refine zr HS ?_)); clear HS; (try clear hc); intros; rename_i HS; have hc := HS.lk; simp only [Lk, LkC, Value.cells, List.toList_toArray, Nat.reduceAdd, Nat.zero_add, and_true, zf, zg, ze, zh] at HS hc) | (refine yt (.op 0 0 16 (.op 1 0 17 (.op 2 0 18 (.op 3 0 19 (.op 4 0 20 (.op 5 0 21 (.op 6 0 22 (.op 7 0 23 (.op 8 0 24 (.op 9 2 25 (.op 10 1 15 (.op 11 1 26 (.op 12 1 27 (.op 13 1 28 (.op 14 1 6 (.op 15 1 7 (.op 16 1 8 .nil))))))))))))))))) [] HS (List.Sublist.refl _) ?_; clear HS hc; intro HS hS; (repeat' (first | refine RT.tk ?_ | refine RT.pu ?_ | (refine RT.o1 ?_; refine YS (F := fun v => .tuple #[v, .int .i64 p', .int .i64 q']) HS (List.Sublist.refl _) (JC h.out) ?_; clear HS; intro A_ c_ w_ HS; refine RT.nm ?_))); have hc := HS.lk; simp only [Lk, LkC, Value.cells, List.toList_toArray, Nat.reduceAdd, Nat.zero_add, and_true, zf, zg, ze, zh] at HS hc; refine RT.nil ?_))
  go_ret
  exact ⟨_, rfl, (HS.rows _ (.head _)).2, HS.post hB.out hG.out (by simp)⟩
theorem Qt.calls {v : S52} (h : Qt s p q v p' q') (hI : IsR W w g s p q) (hB : Below W.heap.size W w) : Calls Tryz.prog 115 #[.pointer (some ⟨g, 0, none⟩), .func (Fn.func 116) #[] #[]] w fun e w' => (∃ A c, e = .returned (.agg (cmdC v A c).toArray) ∧ Kd.R (Kd.int .i64) 3 w' w.heap.size (fun _ => True) (.slice A v.f4.length c) v.f4) ∧ qK W w w' g s p' q' := by
 have hG := za.mk hI.2
 have HS := Sat.one hI.1
 replace hB := za.mk hB
 clear hI
 have hc := HS.lk
 simp only [Lk, LkC, Value.cells, List.toList_toArray, Nat.reduceAdd, Nat.zero_add, and_true, zf, zg, ze, zh] at HS hc
 rcases h with ⟨c, rfl, rfl, rfl⟩ | ⟨rfl, h⟩
 ·have d1 := bne_iff_ne.mpr c
  go_enter Tryz.func115, Tryz.ntmps115
  go_wp2_with ((first | ((with_reducible refine gB rfl ?_); refine zC HS ?_) | ((with_reducible refine gA rfl ?_); refine zt HS ?_) | ((with_reducible refine gS rfl ?_); refine zr HS ?_)); clear HS; (try clear hc); intros; rename_i HS; have hc := HS.lk; simp only [Lk, LkC, Value.cells, List.toList_toArray, Nat.reduceAdd, Nat.zero_add, and_true, zf, zg, ze, zh] at HS hc)
  refine bodyPost_ret (yN rfl (.cell _ _ _ _ _ rfl (HS.blk (_, _, _) (by repeat (first | exact .head _ | apply List.Mem.tail))).2 Tryz.underlying52 rfl (by kernel_rfl) .nil)) rfl ?_
  exact ⟨⟨none, 0, rfl, Kd.R_nil _ _ _ _ _⟩, HS.post hB.out hG.out (by simp)⟩
 ·replace h := za.mk h
  go_enter Tryz.func115, Tryz.ntmps115
  go_wp2_with (first | ((first | ((with_reducible refine gB rfl ?_); refine zC HS ?_) | ((with_reducible refine gA rfl ?_); refine zt HS ?_) | ((with_reducible refine gS rfl ?_); refine zr HS ?_)); clear HS; (try clear hc); intros; rename_i HS; have hc := HS.lk; simp only [Lk, LkC, Value.cells, List.toList_toArray, Nat.reduceAdd, Nat.zero_add, and_true, zf, zg, ze, zh] at HS hc) | (refine yt (.op 0 0 16 (.op 1 0 17 (.op 2 0 18 (.op 3 0 19 (.op 4 0 20 (.op 5 0 21 (.op 6 0 22 (.op 7 0 23 (.op 8 0 24 (.two 9 25 14 6 (.op 10 1 15 (.op 11 1 26 (.op 12 1 27 (.op 13 1 28 (.op 14 2 6 (.op 15 4 0 (.op 16 1 7 (.op 17 1 8 .nil)))))))) (.op 9 2 25 (.op 10 1 15 (.op 11 1 26 (.op 12 1 27 (.op 13 1 28 (.op 15 4 0 (.op 16 1 7 (.op 17 1 8 .nil)))))))))))))))))) [] HS (by (repeat (first | exact List.Sublist.refl _ | apply List.Sublist.cons))) ?_; clear HS hc; intro HS hS; (repeat' (first | refine RT.tk ?_ | refine RT.pu ?_ | refine RT.f2 ?_ ?_ | refine RT.o1 ?_ | (refine zdo (d := k52) (F := fun cs => .tuple #[.agg cs.toArray, .int .i64 p', .int .i64 q']) HS (by (repeat (first | exact List.Sublist.refl _ | apply List.Sublist.cons))) (zc6 h.out) ?_; clear HS; intro cs_ w_ HS hm; obtain ⟨v_, rfl, g_⟩ := zaH hm; obtain ⟨A_, c_, rfl⟩ := Kd.R_slice g_; replace HS := HS.row (Ty.R (Kd.int .i64) 3 _ _ _) g_; clear hm g_; refine RT.nm ?_) | (intro K hK; refine zb1 HS ?_; clear HS; intro g_ w_ HS; have hc := HS.lk; simp only [Lk, LkC, Value.cells, List.toList_toArray, Nat.reduceAdd, Nat.zero_add, and_true, zf, zg, ze, zh] at HS hc; refine hK _ _ (xb (by (repeat (first | exact List.Sublist.refl _ | apply List.Sublist.cons))) HS.lk) (fun hS => ?_); clear hK; refine RT.nm ?_) | (refine RT.o4 ?_; intro K hK; refine xo HS ?_; clear HS; intro w_ HS; have hc := HS.lk; simp only [Lk, LkC, Value.cells, List.toList_toArray, Nat.reduceAdd, Nat.zero_add, and_true, zf, zg, ze, zh] at HS hc; refine hK _ _ (xb (by (repeat (first | exact List.Sublist.refl _ | apply List.Sublist.cons))) HS.lk) (fun hS => ?_); clear hK))); (all_goals (try clear hc); have hc := HS.lk; simp only [Lk, LkC, Value.cells, List.toList_toArray, Nat.reduceAdd, Nat.zero_add, and_true, zf, zg, ze, zh] at HS hc; refine RT.nil ?_)))
  all_goals
   go_wp2_with ((first | ((with_reducible refine gB rfl ?_); refine zC HS ?_) | ((with_reducible refine gA rfl ?_); refine zt HS ?_) | ((with_reducible refine gS rfl ?_); refine zr HS ?_)); clear HS; (try clear hc); intros; rename_i HS; have hc := HS.lk; simp only [Lk, LkC, Value.cells, List.toList_toArray, Nat.reduceAdd, Nat.zero_add, and_true, zf, zg, ze, zh] at HS hc)
   refine bodyPost_ret (yN rfl (.cell _ _ _ _ _ rfl (HS.blk (_, _, _) (by repeat (first | exact .head _ | apply List.Mem.tail))).2 Tryz.underlying52 rfl (by kernel_rfl) .nil)) rfl ?_
   exact ⟨⟨_, _, rfl, (HS.rows _ (.head _)).2⟩, HS.post hB.out hG.out (by simp)⟩
theorem ZS.calls {m v : Int} (h : ZS s p q m v p' q') (hI : IsR W w g s p q) (hB : Below W.heap.size W w) : Calls Tryz.prog 114 #[.pointer (some ⟨g, 0, none⟩), .int .i64 m] w fun e w' => e = .returned (.int .i64 v) ∧ qK W w w' g s p' q' := by
 have hG := za.mk hI.2
 have HS := Sat.one hI.1
 replace hB := za.mk hB
 clear hI
 obtain ⟨n, q1, h1, h2⟩ := h
 replace h1 := za.mk h1
 rcases h2 with ⟨rfl, c, rfl, rfl⟩ | ⟨rfl, c, rfl, rfl⟩ | ⟨c, rfl, rfl⟩
 case' inr.inr => have c1 := beq_eq_false_iff_ne.mpr c; have c2 := bne_iff_ne.mpr c
 all_goals
  replace c := za.mk c
  go_enter Tryz.func114, Tryz.ntmps114
  go_wp2_with ((first | ((with_reducible refine gB rfl ?_); refine zC HS ?_) | ((with_reducible refine gA rfl ?_); refine zt HS ?_) | ((with_reducible refine gS rfl ?_); refine zr HS ?_) | (go_at_call 37; refine HS.rd0 h1.out.calls ?_) | (go_at_call 38; refine HS.go0 (YE c.out) ?_)); clear HS; (try clear hc); intros; rename_i HS; have hc := HS.lk; simp only [Lk, LkC, Value.cells, List.toList_toArray, Nat.reduceAdd, Nat.zero_add, and_true, zf, zg, ze, zh] at HS hc)
  go_ret
  exact ⟨rfl, HS.post hB.out hG.out (by simp)⟩
end
def Qg (s : ByteArray) (p q a0 a1 a2 : Int) (x : Fm) (p' q' : Int) : Prop := ∃ v1 p1 q1 v2 p2 q2 l, xp s p q v1 p1 q1 ∧ xp s p1 q1 v2 p2 q2 ∧ Yj s p2 q2 l p' q' ∧ x = ⟨a0, a1, a2, v1, v2, l, [], [], [], []⟩
def rAck (s : ByteArray) (p q a0 a1 a2 : Int) (x : Fm) (p' q' : Int) : Prop := ∃ v1, xp s p q v1 p' q' ∧ x = ⟨a0, a1, a2, 0, v1, [], [], [], [], []⟩
def X8 (s : ByteArray) (p q a0 a1 a2 : Int) (x : Fm) (p' q' : Int) : Prop := ∃ v1 p1 q1 l p2 q2 m, xp s p q v1 p1 q1 ∧ YW s p1 q1 l p2 q2 ∧ vZ s p2 q2 m p' q' ∧ x = ⟨a0, a1, a2, 0, v1, [], [], [], l, m⟩
inductive jR (s : ByteArray) : Nat → Int → Int → List S52 → Int → Int → Prop
 | done {p q : Int} : jR s 0 p q [] p q
 | stop {n : Nat} {p q : Int} (h : q ≠ 0) : jR s (n + 1) p q [] p q
 | step {n : Nat} {p p1 q1 p' q' : Int} {x : S52} {l : List S52} (h : Qt s p 0 x p1 q1) (t : jR s n p1 q1 l p' q') : jR s (n + 1) p 0 (x :: l) p' q'
theorem jR.split {s : ByteArray} {n : Nat} {p q p' q' : Int} {l : List S52} (h : jR s n p q l p' q') : (n = 0 ∧ l = [] ∧ p' = p ∧ q' = q) ∨ (0 < n ∧ q ≠ 0 ∧ l = [] ∧ p' = p ∧ q' = q) ∨ ∃ m x l1 p1 q1, n = m + 1 ∧ q = 0 ∧ Qt s p 0 x p1 q1 ∧ jR s m p1 q1 l1 p' q' ∧ l = x :: l1 := by
 cases h with
 | done => exact .inl ⟨rfl, rfl, rfl, rfl⟩
 | stop h => exact .inr (.inl ⟨by omega, h, rfl, rfl, rfl⟩)
 | step h t => exact .inr (.inr ⟨_, _, _, _, _, rfl, rfl, h, t, rfl⟩)
theorem ZS.most {s : ByteArray} {p q m p' q' : Int} {n : Nat} (h : ZS s p q m n p' q') : 0 ≤ m → (n : Int) ≤ m := by
 obtain ⟨a, q1, _, h⟩ := h
 intro hm
 rcases h with ⟨_, h1, rfl, _⟩ | ⟨_, _, h2, _⟩ | ⟨_, h2, _⟩
 ·have := of_decide_eq_true (Bool.and_eq_true_iff.1 h1).2
  exact this
 ·omega
 ·omega
def Jl (s : ByteArray) (p q a0 a1 a2 : Int) (x : Fm) (p' q' : Int) : Prop := ∃ (n : Nat) (p1 q1 : Int) (l : List S52), ZS s p q 8 n p1 q1 ∧ jR s n p1 q1 l p' q' ∧ x = ⟨a0, a1, a2, 0, 0, [], l, [], [], []⟩
def X4 (s : ByteArray) (p q : Int) (x : S46) (p' q' : Int) : Prop := ∃ v p1 q1 t p2 q2 l p3 q3 u p4 q4 m, xp s p q v p1 q1 ∧ jA s p1 q1 t p2 q2 ∧ Yf s p2 q2 l p3 q3 ∧ xp s p3 q3 u p4 q4 ∧ xp s p4 q4 m p' q' ∧ x = ⟨v, t, l, u, m⟩
inductive qg (s : ByteArray) : Nat → Int → Int → List S46 → Int → Int → Prop
 | done {p q : Int} : qg s 0 p q [] p q
 | stop {n : Nat} {p q : Int} (h : q ≠ 0) : qg s (n + 1) p q [] p q
 | step {n : Nat} {p p1 q1 p' q' : Int} {x : S46} {l : List S46} (h : X4 s p 0 x p1 q1) (t : qg s n p1 q1 l p' q') : qg s (n + 1) p 0 (x :: l) p' q'
theorem qg.split {s : ByteArray} {n : Nat} {p q p' q' : Int} {l : List S46} (h : qg s n p q l p' q') : (n = 0 ∧ l = [] ∧ p' = p ∧ q' = q) ∨ (0 < n ∧ q ≠ 0 ∧ l = [] ∧ p' = p ∧ q' = q) ∨ ∃ m x l1 p1 q1, n = m + 1 ∧ q = 0 ∧ X4 s p 0 x p1 q1 ∧ qg s m p1 q1 l1 p' q' ∧ l = x :: l1 := by
 cases h with
 | done => exact .inl ⟨rfl, rfl, rfl, rfl⟩
 | stop h => exact .inr (.inl ⟨by omega, h, rfl, rfl, rfl⟩)
 | step h t => exact .inr (.inr ⟨_, _, _, _, _, rfl, rfl, h, t, rfl⟩)
def X0 (s : ByteArray) (p q a0 a1 a2 : Int) (x : Fm) (p' q' : Int) : Prop := ∃ v1 p1 q1 v2 p2 q2 n p3 q3 l, xp s p q v1 p1 q1 ∧ xp s p1 q1 v2 p2 q2 ∧ ZS s p2 q2 16 (n : Nat) p3 q3 ∧ qg s n p3 q3 l p' q' ∧ x = ⟨a0, a1, a2, v1, v2, [], [], l, [], []⟩
abbrev QN (a0 a1 a2 : Int) : List Value := [.int .i64 a0, .int .i64 a1, .int .i64 a2, .int .i64 0, .int .i64 0, .slice none 0 0, .slice none 0 0, .slice none 0 0, .slice none 0 0, .slice none 0 0]
def jd (w w' : World) (g gf : Nat) (s : ByteArray) (p q : Int) (x : Fm) : Prop := xl [g, gf] w w' ∧ w'.heap[g]? = some (.cells (rdC s p q).toArray 67 (0, 0)) ∧ ∃ cs, w'.heap[gf]? = some (.cells cs.toArray 28 (0, 0)) ∧ FmO w' w.heap.size x cs
theorem Sat.fp {w w' : World} {g gf : Nat} {bs : List Bk} {rs : List Rw} {s : ByteArray} {p q : Int} {x : Fm} {cs : List Value} (H : Sat [g, gf] w w' bs rs) (hf : FmO w' w.heap.size x cs) (hg : (g, rdC s p q, 67) ∈ bs := by simp) (hm : (gf, cs, 28) ∈ bs := by simp) : jd w w' g gf s p q x :=
 ⟨H.keep, (H.blk _ hg).2, cs, (H.blk _ hm).2, hf⟩
theorem Qg.calls {s : ByteArray} {p q a0 a1 a2 p' q' : Int} {x : Fm} {g gf : Nat} {w : World} (h : Qg s p q a0 a1 a2 x p' q') (hR : w.heap[g]? = some (.cells (rdC s p q).toArray 67 (0, 0))) (hF : w.heap[gf]? = some (.cells (QN a0 a1 a2).toArray 28 (0, 0))) (hN : g ≠ gf) : Calls Tryz.prog 76 #[.agg #[], .pointer (some ⟨g, 0, none⟩), .pointer (some ⟨gf, 0, none⟩)] w fun e w' => e = .returned (.tuple #[]) ∧ jd w w' g gf s p' q' x := by
 obtain ⟨v1, p1, q1, v2, p2, q2, l, h1, h2, h3, rfl⟩ := h
 replace h1 := za.mk h1
 replace h2 := za.mk h2
 replace h3 := za.mk h3
 have HS := Sat.two hR hF hN
 clear hR hF hN
 have hc := HS.lk
 simp only [Lk, LkC, Value.cells, List.toList_toArray, Nat.reduceAdd, Nat.zero_add, and_true, zf, zg, ze, zh] at HS hc
 go_enter Tryz.func76, Tryz.ntmps76
 go_wp2_with ((first | ((with_reducible refine gB rfl ?_); refine zC HS ?_) | ((with_reducible refine gA rfl ?_); refine zt HS ?_) | ((with_reducible refine gS rfl ?_); refine zr HS ?_) | (go_at_call 37; refine HS.rd0 h1.out.calls ?_) | (go_at_call 37; refine HS.rd0 h2.out.calls ?_) | (go_at_call 112; refine HS.rdR h3.out.calls ?_)); clear HS; (try clear hc); intros; rename_i HS; have hc := HS.lk; simp only [Lk, LkC, Value.cells, List.toList_toArray, Nat.reduceAdd, Nat.zero_add, and_true, zf, zg, ze, zh] at HS hc)
 go_end0
 exact ⟨rfl, HS.fp ⟨_, _, _, _, _, rfl, (HS.rows _ (.head _)).2, oN, oN, oN, oN⟩⟩
theorem rAck.calls {s : ByteArray} {p q a0 a1 a2 p' q' : Int} {x : Fm} {g gf : Nat} {w : World} (h : rAck s p q a0 a1 a2 x p' q') (hR : w.heap[g]? = some (.cells (rdC s p q).toArray 67 (0, 0))) (hF : w.heap[gf]? = some (.cells (QN a0 a1 a2).toArray 28 (0, 0))) (hN : g ≠ gf) : Calls Tryz.prog 78 #[.agg #[], .pointer (some ⟨g, 0, none⟩), .pointer (some ⟨gf, 0, none⟩)] w fun e w' => e = .returned (.tuple #[]) ∧ jd w w' g gf s p' q' x := by
 obtain ⟨v1, h1, rfl⟩ := h
 replace h1 := za.mk h1
 have HS := Sat.two hR hF hN
 clear hR hF hN
 have hc := HS.lk
 simp only [Lk, LkC, Value.cells, List.toList_toArray, Nat.reduceAdd, Nat.zero_add, and_true, zf, zg, ze, zh] at HS hc
 go_enter Tryz.func78, Tryz.ntmps78
 go_wp2_with ((first | ((with_reducible refine gB rfl ?_); refine zC HS ?_) | ((with_reducible refine gA rfl ?_); refine zt HS ?_) | ((with_reducible refine gS rfl ?_); refine zr HS ?_) | (go_at_call 37; refine HS.rd0 h1.out.calls ?_)); clear HS; (try clear hc); intros; rename_i HS; have hc := HS.lk; simp only [Lk, LkC, Value.cells, List.toList_toArray, Nat.reduceAdd, Nat.zero_add, and_true, zf, zg, ze, zh] at HS hc)
 go_end0
 exact ⟨rfl, HS.fp ⟨_, _, _, _, _, rfl, oN, oN, oN, oN, oN⟩⟩
theorem X8.calls {s : ByteArray} {p q a0 a1 a2 p' q' : Int} {x : Fm} {g gf : Nat} {w : World} (h : X8 s p q a0 a1 a2 x p' q') (hR : w.heap[g]? = some (.cells (rdC s p q).toArray 67 (0, 0))) (hF : w.heap[gf]? = some (.cells (QN a0 a1 a2).toArray 28 (0, 0))) (hN : g ≠ gf) : Calls Tryz.prog 80 #[.agg #[], .pointer (some ⟨g, 0, none⟩), .pointer (some ⟨gf, 0, none⟩)] w fun e w' => e = .returned (.tuple #[]) ∧ jd w w' g gf s p' q' x := by
 obtain ⟨v1, p1, q1, l, p2, q2, m, h1, h2, h3, rfl⟩ := h
 replace h1 := za.mk h1
 replace h2 := za.mk h2
 replace h3 := za.mk h3
 have HS := Sat.two hR hF hN
 clear hR hF hN
 have hc := HS.lk
 simp only [Lk, LkC, Value.cells, List.toList_toArray, Nat.reduceAdd, Nat.zero_add, and_true, zf, zg, ze, zh] at HS hc
 go_enter Tryz.func80, Tryz.ntmps80
 go_wp2_with ((first | ((with_reducible refine gB rfl ?_); refine zC HS ?_) | ((with_reducible refine gA rfl ?_); refine zt HS ?_) | ((with_reducible refine gS rfl ?_); refine zr HS ?_) | (go_at_call 37; refine HS.rd0 h1.out.calls ?_) | (go_at_call 121; refine HS.rdR h2.out.calls ?_) | (go_at_call 123; refine HS.rdR h3.out.calls ?_)); clear HS; (try clear hc); intros; rename_i HS; have hc := HS.lk; simp only [Lk, LkC, Value.cells, List.toList_toArray, Nat.reduceAdd, Nat.zero_add, and_true, zf, zg, ze, zh] at HS hc)
 go_end0
 exact ⟨rfl, HS.fp ⟨_, _, _, _, _, rfl, oN, oN, oN, (HS.rows _ (.tail _ (.head _))).2, (HS.rows _ (.head _)).2⟩⟩
theorem Jl.calls {s : ByteArray} {p q a0 a1 a2 p' q' : Int} {x : Fm} {g gf : Nat} {w : World} (h : Jl s p q a0 a1 a2 x p' q') (hR : w.heap[g]? = some (.cells (rdC s p q).toArray 67 (0, 0))) (hF : w.heap[gf]? = some (.cells (QN a0 a1 a2).toArray 28 (0, 0))) (hN : g ≠ gf) : Calls Tryz.prog 77 #[.agg #[], .pointer (some ⟨g, 0, none⟩), .pointer (some ⟨gf, 0, none⟩)] w fun e w' => e = .returned (.tuple #[]) ∧ jd w w' g gf s p' q' x := by
 obtain ⟨n, p1, q1, l, h1, h2, rfl⟩ := h
 replace h1 := za.mk h1
 replace h2 := za.mk h2
 have HS := Sat.two hR hF hN
 clear hR hF hN
 have hc := HS.lk
 simp only [Lk, LkC, Value.cells, List.toList_toArray, Nat.reduceAdd, Nat.zero_add, and_true, zf, zg, ze, zh] at HS hc
 go_enter Tryz.func77, Tryz.ntmps77
 go_wp2_with ((first | ((with_reducible refine gB rfl ?_); refine zC HS ?_) | ((with_reducible refine gA rfl ?_); refine zt HS ?_) | ((with_reducible refine gS rfl ?_); refine zr HS ?_) | (go_at_call 114; refine HS.rd0 h1.out.calls ?_)); clear HS; (try clear hc); intros; rename_i HS; have hc := HS.lk; simp only [Lk, LkC, Value.cells, List.toList_toArray, Nat.reduceAdd, Nat.zero_add, and_true, zf, zg, ze, zh] at HS hc)
 rename_i z_ _ _
 have HR := Kd.R_nil k52 52 w w.heap.size (fun _ => True)
 replace HS := HS.row (Ty.R k52 52 w.heap.size (.slice none 0 0) []) (Kd.R_nil _ _ _ _ _)
 have HZ := za.mk HS
 clear HS hc HR
 go_loopg [6] n (fun kq vi wr => ∃ (pa qa : Int) (acc rest : List S52) (A : Option Addr) (c : Nat), vi = .int .i64 kq ∧ za (jR s kq pa qa rest p' q') ∧ za (acc ++ rest = l ∧ acc.length + kq ≤ 8) ∧ za (Sat [g, gf] w wr [(z_, [], 92), (g, rdC s pa qa, 67), (gf, [.int .i64 a0, .int .i64 a1, .int .i64 a2, .int .i64 0, .int .i64 0, .slice none 0 0, .slice A acc.length c, .slice none 0 0, .slice none 0 0, .slice none 0 0], 28)] [xV k52 52 w (.slice A acc.length c) acc]))
 case atStart => exact ⟨p1, q1, [], l, none, 0, rfl, h2, ⟨rfl, by have := h1.out.most (by decide); simp; omega⟩, HZ⟩
 case round =>
  clear HZ h2 h1
  obtain ⟨pa, qa, acc, rest, A, c, rfl, HC, HL, HT⟩ := hrel
  have HS := HT.out
  clear HT
  have hc := HS.lk
  simp only [Lk, LkC, Value.cells, List.toList_toArray, Nat.reduceAdd, Nat.zero_add, and_true, zf, zg, ze, zh] at HS hc
  rcases HC.out.split with ⟨rfl, rfl, rfl, rfl⟩ | ⟨c0, c1, rfl, rfl, rfl⟩ | ⟨m, x, l1, pb, qb, e1, rfl, hx, ht, rfl⟩
  ·go_wp2
   go_end0
   obtain ⟨h3, _⟩ := HL.out
   rw [List.append_nil] at h3
   subst h3
   exact ⟨rfl, HS.fp ⟨_, _, _, _, _, rfl, oN, (HS.rows _ (.head _)).2, oN, oN, oN⟩⟩
  ·have c2 := beq_eq_false_iff_ne.mpr c1
   have c3 : (0 : Int) < gk := by omega
   go_wp2
   go_end0
   obtain ⟨h3, _⟩ := HL.out
   rw [List.append_nil] at h3
   subst h3
   exact ⟨rfl, HS.fp ⟨_, _, _, _, _, rfl, oN, (HS.rows _ (.head _)).2, oN, oN, oN⟩⟩
  ·have c3 : (0 : Int) < gk := by omega
   have HX := za.mk hx
   have HT := za.mk ht
   have HM := za.mk e1
   clear hx ht e1
   go_upto_region 4 with (fail)
   clear hc
   replace HS := HS.drewN 1
   have hS := (HS.off (bs1 := [(gf, [.int .i64 a0, .int .i64 a1, .int .i64 a2, .int .i64 0, .int .i64 0, .slice none 0 0, .slice A acc.length c, .slice none 0 0, .slice none 0 0, .slice none 0 0], 28)]) (.cons _ (.cons _ (.cons_cons _ .slnil)))).lk
   refine qP (.op 0 0 20 (.op 1 0 21 (.op 2 0 22 (.op 3 0 23 (.op 4 0 24 (.op 5 0 25 (.op 6 2 26 (.op 7 2 27 (.op 8 2 28 (.op 9 1 29 (.op 10 1 30 (.op 11 3 0 .nil)))))))))))) [11] (fun W => Lk W [(gf, [.int .i64 a0, .int .i64 a1, .int .i64 a2, .int .i64 0, .int .i64 0, .slice none 0 0, .slice A acc.length c, .slice none 0 0, .slice none 0 0, .slice none 0 0], 28)]) hS (fun hS => ?_)
   repeat (refine RT.tk ?_)
   refine RT.o1 ?_
   intro K hK
   refine Zo (HS.rdG HX.out.calls ?_)
   have hz := HS.keep.size
   clear HS hS
   intro e_ w_ he_ HS
   obtain ⟨A1, c1, rfl, hr_⟩ := he_
   refine ⟨_, rfl, hK _ _ (HS.off (.cons _ (.cons _ (.cons_cons _ .slnil)))).lk (fun hS => RT.nm ?_)⟩
   refine RT.ap (bytes := 72) (cs := cmdC x A1 c1) HS (QK _ _ _ x (Kd.R_lower hr_ hz)) (by have := HL.out.2; omega) (fun _ h => xb (.cons _ (.cons _ (.cons_cons _ .slnil))) h) (HS.apartOf rfl) ?_
   clear HS hr_ hz hK
   intro A2 c2 w2_ HS
   refine RT.nm ?_
   repeat (refine RT.pu ?_)
   refine RT.o3 ?_
   intro K hK
   refine xo HS ?_
   clear HS hS
   intro w3_ HS
   simp only [zf, zg, ze, zh, Value.cells, List.toList_toArray] at HS
   refine hK _ _ (RT.nil ?_)
   rw [show acc.length + 1 = (acc ++ [x]).length by simp] at HS
   have HQ := za.mk HS
   clear HS hK
   go_wp2
   go_roundg m
   case measure => have := HM.out; omega
   case rel => exact ⟨pb, qb, acc ++ [x], l1, A2, c2, by have h_ : wrap64 ((gk : Int) - 1) = (m : Int) := (by have h1 := HM.out; have h2 := HL.out.2; unfold wrap64; omega); first | (rw [h_]) | (simp only [h_]), HT, ⟨by rw [List.append_assoc]; exact HL.out.1, by have h1 := HM.out; have h2 := HL.out.2; simp only [zdM, List.length_singleton]; omega⟩, HQ⟩
theorem X0.calls {s : ByteArray} {p q a0 a1 a2 p' q' : Int} {x : Fm} {g gf : Nat} {w : World} (h : X0 s p q a0 a1 a2 x p' q') (hR : w.heap[g]? = some (.cells (rdC s p q).toArray 67 (0, 0))) (hF : w.heap[gf]? = some (.cells (QN a0 a1 a2).toArray 28 (0, 0))) (hN : g ≠ gf) : Calls Tryz.prog 79 #[.agg #[], .pointer (some ⟨g, 0, none⟩), .pointer (some ⟨gf, 0, none⟩)] w fun e w' => e = .returned (.tuple #[]) ∧ jd w w' g gf s p' q' x := by
 obtain ⟨v1, p1, q1, v2, p2, q2, n, p3, q3, l, h1, h2, h3, h4, rfl⟩ := h
 replace h1 := za.mk h1
 replace h2 := za.mk h2
 replace h3 := za.mk h3
 replace h4 := za.mk h4
 have HS := Sat.two hR hF hN
 clear hR hF hN
 have hc := HS.lk
 simp only [Lk, LkC, Value.cells, List.toList_toArray, Nat.reduceAdd, Nat.zero_add, and_true, zf, zg, ze, zh] at HS hc
 go_enter Tryz.func79, Tryz.ntmps79
 go_wp2_with ((first | ((with_reducible refine gB rfl ?_); refine zC HS ?_) | ((with_reducible refine gA rfl ?_); refine zt HS ?_) | ((with_reducible refine gS rfl ?_); refine zr HS ?_) | (go_at_call 37; refine HS.rd0 h1.out.calls ?_) | (go_at_call 37; refine HS.rd0 h2.out.calls ?_) | (go_at_call 114; refine HS.rd0 h3.out.calls ?_)); clear HS; (try clear hc); intros; rename_i HS; have hc := HS.lk; simp only [Lk, LkC, Value.cells, List.toList_toArray, Nat.reduceAdd, Nat.zero_add, and_true, zf, zg, ze, zh] at HS hc)
 replace HS := (HS.off (bs1 := [(g, rdC s p3 q3, 67), (gf, _, 28)]) (.cons _ (.cons_cons _ (.cons_cons _ .slnil)))).row (Ty.R k46 46 w.heap.size (.slice none 0 0) []) (Kd.R_nil _ _ _ _ _)
 have HZ := za.mk HS
 clear HS hc
 go_loopg [6] n (fun kq vi wr => ∃ (pa qa : Int) (acc rest : List S46) (A : Option Addr) (c : Nat), vi = .int .i64 kq ∧ za (qg s kq pa qa rest p' q') ∧ za (acc ++ rest = l ∧ acc.length + kq ≤ 16) ∧ za (Sat [g, gf] w wr [(g, rdC s pa qa, 67), (gf, [.int .i64 a0, .int .i64 a1, .int .i64 a2, .int .i64 v1, .int .i64 v2, .slice none 0 0, .slice none 0 0, .slice A acc.length c, .slice none 0 0, .slice none 0 0], 28)] [xV k46 46 w (.slice A acc.length c) acc]))
 case atStart => exact ⟨p3, q3, [], l, none, 0, rfl, h4, ⟨rfl, by have := h3.out.most (by decide); simp; omega⟩, HZ⟩
 case round =>
  clear HZ h4 h3 h2 h1
  obtain ⟨pa, qa, acc, rest, A, c, rfl, HC, HL, HP⟩ := hrel
  have HS := HP.out.again (bs1 := [(g, rdC s pa qa, 67), (gf, [.int .i64 a0, .int .i64 a1, .int .i64 a2, .int .i64 v1, .int .i64 v2, .slice none 0 0, .slice none 0 0, .slice A acc.length c, .slice none 0 0, .slice none 0 0], 28)]) (List.Sublist.refl _) (by simp)
  have hc := HS.lk
  simp only [Lk, LkC, Value.cells, List.toList_toArray, Nat.reduceAdd, Nat.zero_add, and_true, zf, zg, ze, zh] at HS hc
  rcases HC.out.split with ⟨rfl, rfl, rfl, rfl⟩ | ⟨c0, c1, rfl, rfl, rfl⟩ | ⟨m, x, l1, pb, qb, e1, rfl, hx, ht, rfl⟩
  ·go_wp2
   go_end0
   obtain ⟨h3, _⟩ := HL.out
   rw [List.append_nil] at h3
   subst h3
   exact ⟨rfl, HP.out.fp ⟨_, _, _, _, _, rfl, oN, oN, (HP.out.rows _ (.head _)).2, oN, oN⟩⟩
  ·have c2 := beq_eq_false_iff_ne.mpr c1
   have c3 : (0 : Int) < gk := by omega
   go_wp2
   go_end0
   obtain ⟨h3, _⟩ := HL.out
   rw [List.append_nil] at h3
   subst h3
   exact ⟨rfl, HP.out.fp ⟨_, _, _, _, _, rfl, oN, oN, (HP.out.rows _ (.head _)).2, oN, oN⟩⟩
  ·have c3 : (0 : Int) < gk := by omega
   obtain ⟨v, pv, qv, t, pt, qt, y, py, qy, u, pu, qu, z, g1, g2, g3, g4, g5, rfl⟩ := hx
   replace g1 := za.mk g1
   replace g2 := za.mk g2
   replace g3 := za.mk g3
   replace g4 := za.mk g4
   replace g5 := za.mk g5
   have HT := za.mk ht
   have HM := za.mk e1
   clear ht e1
   go_upto_region 8 with ((first | ((with_reducible refine gB rfl ?_); refine zC HS ?_) | ((with_reducible refine gA rfl ?_); refine zt HS ?_) | ((with_reducible refine gS rfl ?_); refine zr HS ?_) | (go_at_call 37; refine HS.rd0 g1.out.calls ?_) | (go_at_call 117; refine HS.rd0 g2.out.calls ?_) | (go_at_call 119; refine HS.rdR g3.out.calls ?_) | (go_at_call 37; refine HS.rd0 g4.out.calls ?_) | (go_at_call 37; refine HS.rd0 g5.out.calls ?_)); clear HS; (try clear hc); intros; rename_i HS; have hc := HS.lk; simp only [Lk, LkC, Value.cells, List.toList_toArray, Nat.reduceAdd, Nat.zero_add, and_true, zf, zg, ze, zh] at HS hc)
   clear hc
   rename_i gx _ _ A1 c1 _ _ _ _ _ _
   replace HS := HS.drewN 1
   have hS := (HS.off (bs1 := [(gx, [.int .i64 v, .string t, .slice A1 y.length c1, .int .i64 u, .int .i64 z], 46), (gf, [.int .i64 a0, .int .i64 a1, .int .i64 a2, .int .i64 v1, .int .i64 v2, .slice none 0 0, .slice none 0 0, .slice A acc.length c, .slice none 0 0, .slice none 0 0], 28)]) (.cons_cons _ (.cons _ (.cons_cons _ .slnil)))).lk
   refine qP (.op 0 0 45 (.op 1 0 46 (.op 2 0 47 (.op 3 0 48 (.op 4 0 49 (.op 5 0 50 (.op 6 2 51 (.op 7 2 52 (.op 8 1 53 (.op 9 1 54 (.op 10 3 0 .nil))))))))))) [10] (fun W => Lk W [(gx, [.int .i64 v, .string t, .slice A1 y.length c1, .int .i64 u, .int .i64 z], 46), (gf, [.int .i64 a0, .int .i64 a1, .int .i64 a2, .int .i64 v1, .int .i64 v2, .slice none 0 0, .slice none 0 0, .slice A acc.length c, .slice none 0 0, .slice none 0 0], 28)]) hS (fun hS => ?_)
   repeat (refine RT.tk ?_)
   refine RT.ap (bytes := 64) (cs := [.int .i64 v, .string t, .slice A1 y.length c1, .int .i64 u, .int .i64 z]) (HP.out.trans HS (by simp) rfl) (zdf _ _ _ ⟨v, t, y, u, z⟩ (Kd.R_lower (HS.rows _ (.head _)).2 HP.out.keep.size)) (by have := HL.out.2; omega) (fun _ h => xb (.cons_cons _ (.cons _ (.cons_cons _ .slnil))) h) (HP.out.elder HS (by simp) rfl) ?_
   clear HS HP
   intro A2 c2 w2_ HS
   replace HS := HS.off (bs1 := [(g, rdC s pb qb, 67), (gf, [.int .i64 a0, .int .i64 a1, .int .i64 a2, .int .i64 v1, .int .i64 v2, .slice none 0 0, .slice none 0 0, .slice A acc.length c, .slice none 0 0, .slice none 0 0], 28)]) (.cons _ (.cons_cons _ (.cons_cons _ .slnil)))
   refine RT.nm ?_
   repeat (refine RT.pu ?_)
   refine RT.o3 ?_
   intro K hK
   refine xo HS ?_
   clear HS hS
   intro w3_ HS
   simp only [zf, zg, ze, zh, Value.cells, List.toList_toArray] at HS
   refine hK _ _ (RT.nil ?_)
   obtain ⟨x, hx⟩ : ∃ x, x = (⟨v, t, y, u, z⟩ : S46) := ⟨_, rfl⟩
   rw [← hx] at HS HL
   rw [show acc.length + 1 = (acc ++ [x]).length by simp] at HS
   have HQ := za.mk (HS.drop (rs' := [xV k46 46 w (.slice A2 (acc ++ [x]).length c2) (acc ++ [x])]) (fun r hr => by rw [List.mem_singleton.1 hr]; exact .head _))
   clear HS hK hx
   go_wp2
   go_roundg m
   case measure => have := HM.out; omega
   case rel => exact ⟨pb, qb, acc ++ [x], l1, A2, c2, by have h_ : wrap64 ((gk : Int) - 1) = (m : Int) := (by have h1 := HM.out; have h2 := HL.out.2; unfold wrap64; omega); first | (rw [h_]) | (simp only [h_]), HT, ⟨by rw [List.append_assoc]; exact HL.out.1, by have h1 := HM.out; have h2 := HL.out.2; simp only [zdM, List.length_singleton]; omega⟩, HQ⟩
def ZW (s : ByteArray) (p q a0 a1 a2 : Int) (x : Fm) (p' q' : Int) : Prop := if a0 = 1 then Qg s p q a0 a1 a2 x p' q' else if a0 = 2 then Jl s p q a0 a1 a2 x p' q' else if a0 = 3 then rAck s p q a0 a1 a2 x p' q' else if a0 = 4 then X0 s p q a0 a1 a2 x p' q' else X8 s p q a0 a1 a2 x p' q'
theorem ZW.calls {s : ByteArray} {p q a0 a1 a2 p' q' : Int} {x : Fm} {g gf : Nat} {w : World} (h : ZW s p q a0 a1 a2 x p' q') (hR : w.heap[g]? = some (.cells (rdC s p q).toArray 67 (0, 0))) (hF : w.heap[gf]? = some (.cells (QN a0 a1 a2).toArray 28 (0, 0))) (hN : g ≠ gf) : Calls Tryz.prog 39 #[.pointer (some ⟨g, 0, none⟩), .pointer (some ⟨gf, 0, none⟩)] w fun e w' => e = .returned (.tuple #[]) ∧ jd w w' g gf s p' q' x := by
 have HS := Sat.two hR hF hN
 have hc := HS.lk
 simp only [Lk, LkC, Value.cells, List.toList_toArray, Nat.reduceAdd, Nat.zero_add, and_true, zf, zg, ze, zh] at HS hc
 clear HS
 replace hR := za.mk hR
 replace hF := za.mk hF
 replace hN := za.mk hN
 unfold ZW at h
 go_enter Tryz.func39, Tryz.ntmps39
 by_cases c0 : a0 = 1
 ·rw [if_pos c0] at h
  have d0 : (a0 == 1) = true := beq_iff_eq.mpr c0
  have HX := za.mk h
  clear h
  go_wp2_with (go_at_call 76; refine (Qg.calls HX.out hR.out hF.out hN.out).mono ?_; rintro e_ w_ ⟨rfl, hp_⟩; replace hp_ := za.mk hp_)
  go_end0
  exact ⟨rfl, hp_.out⟩
 rw [if_neg c0] at h
 have d0 : (a0 == 1) = false := beq_eq_false_iff_ne.mpr c0
 by_cases c1 : a0 = 2
 ·rw [if_pos c1] at h
  have d1 : (a0 == 2) = true := beq_iff_eq.mpr c1
  have HX := za.mk h
  clear h
  go_wp2_with (go_at_call 77; refine (Jl.calls HX.out hR.out hF.out hN.out).mono ?_; rintro e_ w_ ⟨rfl, hp_⟩; replace hp_ := za.mk hp_)
  go_end0
  exact ⟨rfl, hp_.out⟩
 rw [if_neg c1] at h
 have d1 : (a0 == 2) = false := beq_eq_false_iff_ne.mpr c1
 by_cases c2 : a0 = 3
 ·rw [if_pos c2] at h
  have d2 : (a0 == 3) = true := beq_iff_eq.mpr c2
  have HX := za.mk h
  clear h
  go_wp2_with (go_at_call 78; refine (rAck.calls HX.out hR.out hF.out hN.out).mono ?_; rintro e_ w_ ⟨rfl, hp_⟩; replace hp_ := za.mk hp_)
  go_end0
  exact ⟨rfl, hp_.out⟩
 rw [if_neg c2] at h
 have d2 : (a0 == 3) = false := beq_eq_false_iff_ne.mpr c2
 by_cases c3 : a0 = 4
 ·rw [if_pos c3] at h
  have d3 : (a0 == 4) = true := beq_iff_eq.mpr c3
  have HX := za.mk h
  clear h
  go_wp2_with (go_at_call 79; refine (X0.calls HX.out hR.out hF.out hN.out).mono ?_; rintro e_ w_ ⟨rfl, hp_⟩; replace hp_ := za.mk hp_)
  go_end0
  exact ⟨rfl, hp_.out⟩
 rw [if_neg c3] at h
 have d3 : (a0 == 4) = false := beq_eq_false_iff_ne.mpr c3
 have HX := za.mk h
 clear h
 go_wp2_with (go_at_call 80; refine (X8.calls HX.out hR.out hF.out hN.out).mono ?_; rintro e_ w_ ⟨rfl, hp_⟩; replace hp_ := za.mk hp_)
 go_end0
 exact ⟨rfl, hp_.out⟩
def fm0 : Fm := ⟨0, 0, 0, 0, 0, [], [], [], [], []⟩
def Jj (s t : ByteArray) (e : Int) : Prop := ∃ k, yF.f k s = some (t, e)
def za7 (t : ByteArray) (y : Fm) (p q : Int) (x : Fm) (e : Int) : Prop := (q ≠ 0 ∧ x = fm0 ∧ e = q) ∨ (q = 0 ∧ p < t.size ∧ x = fm0 ∧ e = 6) ∨ (q = 0 ∧ ¬ p < t.size ∧ ∃ r, vY y r ∧ ((r = false ∧ x = fm0 ∧ e = 6) ∨ (r = true ∧ x = y ∧ e = 0)))
def zcL (t : ByteArray) (a0 p q : Int) (x : Fm) (e : Int) : Prop := ∃ a1 p2 q2 a2 p3 q3, xp t p q a1 p2 q2 ∧ xp t p2 q2 a2 p3 q3 ∧ ((q3 ≠ 0 ∧ x = fm0 ∧ e = q3) ∨ (q3 = 0 ∧ ∃ y p4 q4, ZW t p3 0 a0 a1 a2 y p4 q4 ∧ za7 t y p4 q4 x e))
def Ze (s : ByteArray) (x : Fm) (e : Int) : Prop := ∃ t e1, Jj s t e1 ∧ ((e1 ≠ 0 ∧ x = fm0 ∧ e = e1) ∨ (e1 = 0 ∧ t.size ≤ 9223372036854775807 ∧ ∃ a0 p q, xp t 0 0 a0 p q ∧ ((q = 0 ∧ ¬ (1 ≤ a0 ∧ a0 ≤ 5) ∧ x = fm0 ∧ e = 6) ∨ (¬ (q = 0 ∧ ¬ (1 ≤ a0 ∧ a0 ≤ 5)) ∧ zcL t a0 p q x e))))
section
variable {P : Program} {gs : List Nat} {w0 w w' : World} {bs bs' bs1 : List Bk} {rs : List Rw}
theorem Sat.turn2 (H : Sat gs w0 w bs rs) {g g' t t' : Nat} {cs cs' : List Value} (U : Up g t 0 (fun _ => cs) bs bs1) (V : Up g' t' 0 (fun _ => cs') bs1 bs') (ht : xj t rs = true) (ht' : xj t' rs = true) (K : xl [g, g'] w w') (hg : w'.heap[g]? = some (.cells cs.toArray t (0, 0))) (hg' : w'.heap[g']? = some (.cells cs'.toArray t' (0, 0))) : Sat gs w0 w' bs' rs := by
 obtain ⟨c1, hm, _⟩ := U.mem
 have hb := H.blk _ hm
 have ha : bs1.Pairwise (fun x y => x.1 ≠ y.1) := by rw [Z3, U.fst, ← Z3]; exact H.apart
 obtain ⟨c2, hm2, _⟩ := V.mem
 obtain ⟨c3, hm3⟩ : ∃ c3, (g', c3, t') ∈ bs ∨ (g' = g ∧ t' = t) := by
  rcases U.own H.apart _ hm2 with ⟨h1, _⟩ | ⟨_, h1, h2⟩
  ·exact ⟨c2, .inl h1⟩
  ·injection h2 with h2 h3
   injection h3 with _ h3
   exact ⟨c2, .inr ⟨h2, h3⟩⟩
 have hfar : ∀ k q cells, k < w.heap.size → w.heap[k]? = some (Obj.cells cells q (0, 0)) → q ≠ t → q ≠ t' → w'.heap[k]? = w.heap[k]? := fun k q cells hk hc h1 h2 => K.blk k hk (fun hin => by
  simp only [List.mem_cons, List.not_mem_nil, or_false] at hin
  have hgo : ∀ c u, (k, c, u) ∈ bs → q = u := fun c u hx => by
   rw [(H.blk _ hx).2] at hc
   injection hc with hc
   injection hc with _ hc
   exact hc.symm
  rcases hin with rfl | rfl
  ·exact h1 (hgo _ _ hm)
  ·rcases hm3 with h3 | ⟨rfl, rfl⟩
   ·exact h2 (hgo _ _ h3)
   ·exact h1 (hgo _ _ hm))
 have hown : g' ∈ gs ∨ w0.heap.size ≤ g' := by
  rcases hm3 with h3 | ⟨rfl, _⟩
  ·exact (H.blk _ h3).1
  ·exact hb.1
 refine ⟨H.keep.trans K (by simpa using ⟨hb.1, hown⟩), fun y hy => ?_, by rw [Z3, V.fst, ← Z3]; exact ha, fun r hr => ⟨(H.rows r hr).1, (H.rows r hr).1 w w' (fun k q cells hk hc hq => hfar k q cells hk hc ?_ ?_) (H.rows r hr).2⟩⟩
 ·rcases V.own ha y hy with ⟨h1, h2⟩ | ⟨_, _, rfl⟩
  ·rcases U.own H.apart y h1 with ⟨h3, h4⟩ | ⟨_, _, rfl⟩
   ·exact ⟨(H.blk y h3).1, (K.blk _ (xG (H.blk y h3).2) (by simp [h2, h4])).trans (H.blk y h3).2⟩
   ·exact ⟨hb.1, hg⟩
  ·exact ⟨hown, hg'⟩
 ·rintro rfl
  have h2 := List.all_eq_true.1 ht r hr
  simp only [Bool.not_eq_true', List.contains_eq_mem, decide_eq_false_iff_not] at h2
  exact h2 hq
 ·rintro rfl
  have h2 := List.all_eq_true.1 ht' r hr
  simp only [Bool.not_eq_true', List.contains_eq_mem, decide_eq_false_iff_not] at h2
  exact h2 hq
abbrev fmSl (x : Fm) (A5 : Option Addr) (c5 : Nat) (A6 : Option Addr) (c6 : Nat) (A7 : Option Addr) (c7 : Nat) (A8 : Option Addr) (c8 : Nat) (A9 : Option Addr) (c9 : Nat) : List Value := [.int .i64 x.f0, .int .i64 x.f1, .int .i64 x.f2, .int .i64 x.f3, .int .i64 x.f4, .slice A5 x.f5.length c5, .slice A6 x.f6.length c6, .slice A7 x.f7.length c7, .slice A8 x.f8.length c8, .slice A9 x.f9.length c9]
abbrev Y9 (w0 : World) (x : Fm) (A5 : Option Addr) (c5 : Nat) (A6 : Option Addr) (c6 : Nat) (A7 : Option Addr) (c7 : Nat) (A8 : Option Addr) (c8 : Nat) (A9 : Option Addr) (c9 : Nat) : List Rw := [xV Kd.string 9 w0 (.slice A5 x.f5.length c5) x.f5, xV k52 52 w0 (.slice A6 x.f6.length c6) x.f6, xV k46 46 w0 (.slice A7 x.f7.length c7) x.f7, xV k86 86 w0 (.slice A8 x.f8.length c8) x.f8, xV k77 77 w0 (.slice A9 x.f9.length c9) x.f9]
theorem Sat.fmC {x : Fm} {A5 A6 A7 A8 A9 : Option Addr} {c5 c6 c7 c8 c9 : Nat} (H : Sat gs w0 w bs (Y9 w0 x A5 c5 A6 c6 A7 c7 A8 c8 A9 c9)) : FmC w x (fmSl x A5 c5 A6 c6 A7 c7 A8 c8 A9 c9) :=
 ⟨_, _, _, _, _, rfl, Zv (H.rows _ (.head _)).2, Zv (H.rows _ (.tail _ (.head _))).2, Zv (H.rows _ (.tail _ (.tail _ (.head _)))).2, Zv (H.rows _ (.tail _ (.tail _ (.tail _ (.head _))))).2, Zv (H.rows _ (.tail _ (.tail _ (.tail _ (.tail _ (.head _)))))).2⟩
theorem Sat.fmO {x : Fm} {A5 A6 A7 A8 A9 : Option Addr} {c5 c6 c7 c8 c9 : Nat} (H : Sat gs w0 w bs (Y9 w0 x A5 c5 A6 c6 A7 c7 A8 c8 A9 c9)) : FmO w w0.heap.size x (fmSl x A5 c5 A6 c6 A7 c7 A8 c8 A9 c9) :=
 ⟨_, _, _, _, _, rfl, (H.rows _ (.head _)).2, (H.rows _ (.tail _ (.head _))).2, (H.rows _ (.tail _ (.tail _ (.head _)))).2, (H.rows _ (.tail _ (.tail _ (.tail _ (.head _))))).2, (H.rows _ (.tail _ (.tail _ (.tail _ (.tail _ (.head _)))))).2⟩
theorem Sat.got (H : Sat gs w0 w bs []) {f : FuncId} {args : Array Value} {K : Ending → World → Prop} {x : Fm} {F : List Value → Value} (hc : Calls P f args w fun e w' => (∃ cs, e = .returned (F cs) ∧ FmO w' w.heap.size x cs) ∧ Below w.heap.size w w')
  (h : ∀ A5 c5 A6 c6 A7 c7 A8 c8 A9 c9 w', Sat gs w0 w' bs (Y9 w0 x A5 c5 A6 c6 A7 c7 A8 c8 A9 c9) → K (.returned (F (fmSl x A5 c5 A6 c6 A7 c7 A8 c8 A9 c9))) w') : Calls P f args w K := by
 refine hc.mono fun e w' he => ?_
 obtain ⟨⟨_, rfl, v5, v6, v7, v8, v9, rfl, h5, h6, h7, h8, h9⟩, hb⟩ := he
 obtain ⟨A5, c5, rfl⟩ := Kd.R_slice h5
 obtain ⟨A6, c6, rfl⟩ := Kd.R_slice h6
 obtain ⟨A7, c7, rfl⟩ := Kd.R_slice h7
 obtain ⟨A8, c8, rfl⟩ := Kd.R_slice h8
 obtain ⟨A9, c9, rfl⟩ := Kd.R_slice h9
 have hz := H.keep.size
 exact h A5 c5 A6 c6 A7 c7 A8 c8 A9 c9 w' ((((((H.call hb).R h9 hz).R h8 hz).R h7 hz).R h6 hz).R h5 hz)
theorem Sat.fill (H : Sat gs w0 w bs []) {f : FuncId} {args : Array Value} {K : Ending → World → Prop} {g gf : Nat} {s : ByteArray} {p q : Int} {x : Fm} {r : Value} {bs2 : Option Addr → Nat → Option Addr → Nat → Option Addr → Nat → Option Addr → Nat → Option Addr → Nat → List Bk} (hc : Calls P f args w fun e w' => e = .returned r ∧ jd w w' g gf s p q x)
  (h : ∀ A5 c5 A6 c6 A7 c7 A8 c8 A9 c9 w', Sat gs w0 w' (bs2 A5 c5 A6 c6 A7 c7 A8 c8 A9 c9) (Y9 w0 x A5 c5 A6 c6 A7 c7 A8 c8 A9 c9) → K (.returned r) w')
  (U : Up g 67 0 (fun _ => rdC s p q) bs bs1 := by ((repeat (first | exact .here rfl | apply Up.there)); (first | done | fail))) (V : ∀ A5 c5 A6 c6 A7 c7 A8 c8 A9 c9, Up gf 28 0 (fun _ => fmSl x A5 c5 A6 c6 A7 c7 A8 c8 A9 c9) bs1 (bs2 A5 c5 A6 c6 A7 c7 A8 c8 A9 c9) := by (intros; (repeat (first | exact .here rfl | apply Up.there)); (first | done | fail))) : Calls P f args w K := by
 refine hc.mono fun e w' he => ?_
 obtain ⟨rfl, K1, hg, cs, hgf, v5, v6, v7, v8, v9, rfl, h5, h6, h7, h8, h9⟩ := he
 obtain ⟨A5, c5, rfl⟩ := Kd.R_slice h5
 obtain ⟨A6, c6, rfl⟩ := Kd.R_slice h6
 obtain ⟨A7, c7, rfl⟩ := Kd.R_slice h7
 obtain ⟨A8, c8, rfl⟩ := Kd.R_slice h8
 obtain ⟨A9, c9, rfl⟩ := Kd.R_slice h9
 have hz := H.keep.size
 exact h A5 c5 A6 c6 A7 c7 A8 c8 A9 c9 w' (((((H.turn2 U (V A5 c5 A6 c6 A7 c7 A8 c8 A9 c9) rfl rfl K1 hg hgf).R h9 hz).R h8 hz).R h7 hz).R h6 hz |>.R h5 hz)
end
theorem Jj.calls {s t : ByteArray} {e : Int} {w : World} (h : Jj s t e) : Calls Tryz.prog 36 #[.string s] w fun r w' => r = .returned (.tuple #[.string t, .int .i64 e]) ∧ Below w.heap.size w w' := by
 obtain ⟨k, h⟩ := h
 exact yF.calls k s t e w h
theorem Ze.calls {s : ByteArray} {x : Fm} {er : Int} {w : World} (h : Ze s x er) : Calls Tryz.prog 13 #[.string s] w fun e w' => (∃ cs, e = .returned (.tuple #[.agg cs.toArray, .int .i64 er]) ∧ FmO w' w.heap.size x cs) ∧ Below w.heap.size w w' := by
 obtain ⟨t, e1, HO, h⟩ := h
 replace HO := za.mk HO
 have HS := Sat.nil w
 rcases h with ⟨c1, rfl, rfl⟩ | ⟨rfl, hl, a0, p, q, h1, h⟩
 ·have d1 := beq_eq_false_iff_ne.mpr c1
  have d2 := bne_iff_ne.mpr c1
  go_enter Tryz.func13, Tryz.ntmps13
  go_wp2_with (first | ((first | ((with_reducible refine gB rfl ?_); refine zC HS ?_) | ((with_reducible refine gA rfl ?_); refine zt HS ?_) | ((with_reducible refine gS rfl ?_); refine zr HS ?_) | (go_at_call 36; refine HS.go HO.out.calls ?_) | (go_at_call 37; refine HS.rd0 h1.out.calls ?_) | (go_at_call 37; refine HS.rd0 h2.out.calls ?_) | (go_at_call 37; refine HS.rd0 h3.out.calls ?_) | (go_at_call 38; refine HS.go0 (zT.calls _ _ _ _ _ hw.out) ?_) | (go_at_call 39; refine HS.fill (hf.out.calls (HS.blk _ (.tail _ (.head _))).2 (HS.blk _ (.head _)).2 (Ne.symm ((List.pairwise_cons.1 HS.apart).1 _ (.head _)))) ?_) | (go_at_call 16; refine HS.go (hr.out.calls HS.fmC) ?_)); clear HS; (try clear hc); intros; rename_i HS; have hc := HS.lk; simp only [Lk, LkC, Value.cells, List.toList_toArray, Nat.reduceAdd, Nat.zero_add, and_true, zf, zg, ze, zh] at HS hc) | (refine yt (.op 0 0 54 (.op 1 0 55 (.op 2 0 56 (.op 3 0 57 (.op 4 0 58 (.op 5 4 0 (.op 6 1 3 .nil))))))) [] HS (.cons _ (.cons_cons _ (.cons _ .slnil))) ?_; clear HS hc; intro HS hS; (repeat (refine RT.tk ?_)); refine RT.o4 ?_; intro K hK; refine xo HS ?_; clear HS hS; intro w_ HS; have hc := HS.lk; simp only [Lk, LkC, Value.cells, List.toList_toArray, Nat.reduceAdd, Nat.zero_add, and_true, zf, zg, ze, zh] at HS hc; refine hK _ _ (xb (.cons _ (.cons_cons _ (.cons _ .slnil))) HS.lk) (fun hS => ?_); clear hK hS; (repeat (refine RT.pu ?_)); refine RT.nil ?_))
  refine bodyPost_ret (xx (rs := [_, _]) rfl (by simp) (.cell _ _ _ _ _ rfl (HS.blk (_, _, _) (by repeat (first | exact .head _ | apply List.Mem.tail))).2 Tryz.underlying28 rfl (by kernel_rfl) (.tmp .nil))) rfl ?_; exact ⟨⟨_, rfl, _, _, _, _, _, rfl, oN, oN, oN, oN, oN⟩, HS.below⟩
 replace h1 := za.mk h1
 rcases h with ⟨rfl, hk, rfl, rfl⟩ | ⟨hk, a1, p2, q2, a2, p3, q3, h2, h3, h⟩
 ·have hw := za.mk (ZO hk)
  clear hk
  go_enter Tryz.func13, Tryz.ntmps13
  go_wp2_with (first | ((first | ((with_reducible refine gB rfl ?_); refine zC HS ?_) | ((with_reducible refine gA rfl ?_); refine zt HS ?_) | ((with_reducible refine gS rfl ?_); refine zr HS ?_) | (go_at_call 36; refine HS.go HO.out.calls ?_) | (go_at_call 37; refine HS.rd0 h1.out.calls ?_) | (go_at_call 37; refine HS.rd0 h2.out.calls ?_) | (go_at_call 37; refine HS.rd0 h3.out.calls ?_) | (go_at_call 38; refine HS.go0 (zT.calls _ _ _ _ _ hw.out) ?_) | (go_at_call 39; refine HS.fill (hf.out.calls (HS.blk _ (.tail _ (.head _))).2 (HS.blk _ (.head _)).2 (Ne.symm ((List.pairwise_cons.1 HS.apart).1 _ (.head _)))) ?_) | (go_at_call 16; refine HS.go (hr.out.calls HS.fmC) ?_)); clear HS; (try clear hc); intros; rename_i HS; have hc := HS.lk; simp only [Lk, LkC, Value.cells, List.toList_toArray, Nat.reduceAdd, Nat.zero_add, and_true, zf, zg, ze, zh] at HS hc) | (refine yt (.op 0 0 54 (.op 1 0 55 (.op 2 0 56 (.op 3 0 57 (.op 4 0 58 (.op 5 4 0 (.op 6 1 3 .nil))))))) [] HS (.cons _ (.cons_cons _ (.cons _ .slnil))) ?_; clear HS hc; intro HS hS; (repeat (refine RT.tk ?_)); refine RT.o4 ?_; intro K hK; refine xo HS ?_; clear HS hS; intro w_ HS; have hc := HS.lk; simp only [Lk, LkC, Value.cells, List.toList_toArray, Nat.reduceAdd, Nat.zero_add, and_true, zf, zg, ze, zh] at HS hc; refine hK _ _ (xb (.cons _ (.cons_cons _ (.cons _ .slnil))) HS.lk) (fun hS => ?_); clear hK hS; (repeat (refine RT.pu ?_)); refine RT.nil ?_))
  refine bodyPost_ret (xx (rs := [_, _]) rfl (by simp) (.cell _ _ _ _ _ rfl (HS.blk (_, _, _) (by repeat (first | exact .head _ | apply List.Mem.tail))).2 Tryz.underlying28 rfl (by kernel_rfl) (.tmp .nil))) rfl ?_; exact ⟨⟨_, rfl, _, _, _, _, _, rfl, oN, oN, oN, oN, oN⟩, HS.below⟩
 replace h2 := za.mk h2
 replace h3 := za.mk h3
 replace h := za.mk h
 go_enter Tryz.func13, Tryz.ntmps13
 by_cases c0 : q = 0
 case' pos =>
  subst c0
  have hw := za.mk (qS (Decidable.not_not.1 (fun hn => hk ⟨rfl, hn⟩)))
  clear hk
  go_upto_region 8 with (first | ((first | ((with_reducible refine gB rfl ?_); refine zC HS ?_) | ((with_reducible refine gA rfl ?_); refine zt HS ?_) | ((with_reducible refine gS rfl ?_); refine zr HS ?_) | (go_at_call 36; refine HS.go HO.out.calls ?_) | (go_at_call 37; refine HS.rd0 h1.out.calls ?_) | (go_at_call 37; refine HS.rd0 h2.out.calls ?_) | (go_at_call 37; refine HS.rd0 h3.out.calls ?_) | (go_at_call 38; refine HS.go0 (zT.calls _ _ _ _ _ hw.out) ?_) | (go_at_call 39; refine HS.fill (hf.out.calls (HS.blk _ (.tail _ (.head _))).2 (HS.blk _ (.head _)).2 (Ne.symm ((List.pairwise_cons.1 HS.apart).1 _ (.head _)))) ?_) | (go_at_call 16; refine HS.go (hr.out.calls HS.fmC) ?_)); clear HS; (try clear hc); intros; rename_i HS; have hc := HS.lk; simp only [Lk, LkC, Value.cells, List.toList_toArray, Nat.reduceAdd, Nat.zero_add, and_true, zf, zg, ze, zh] at HS hc) | (refine yt (.op 0 0 54 (.op 1 0 55 (.op 2 0 56 (.op 3 0 57 (.op 4 0 58 (.op 5 4 0 (.op 6 1 3 .nil))))))) [] HS (.cons _ (.cons_cons _ (.cons _ .slnil))) ?_; clear HS hc; intro HS hS; (repeat (refine RT.tk ?_)); refine RT.o4 ?_; intro K hK; refine xo HS ?_; clear HS hS; intro w_ HS; have hc := HS.lk; simp only [Lk, LkC, Value.cells, List.toList_toArray, Nat.reduceAdd, Nat.zero_add, and_true, zf, zg, ze, zh] at HS hc; refine hK _ _ (xb (.cons _ (.cons_cons _ (.cons _ .slnil))) HS.lk) (fun hS => ?_); clear hK hS; (repeat (refine RT.pu ?_)); refine RT.nil ?_))
  clear hw
 case' neg =>
  have d0 := beq_eq_false_iff_ne.mpr c0
  clear hk
  go_upto_region 8 with (first | ((first | ((with_reducible refine gB rfl ?_); refine zC HS ?_) | ((with_reducible refine gA rfl ?_); refine zt HS ?_) | ((with_reducible refine gS rfl ?_); refine zr HS ?_) | (go_at_call 36; refine HS.go HO.out.calls ?_) | (go_at_call 37; refine HS.rd0 h1.out.calls ?_) | (go_at_call 37; refine HS.rd0 h2.out.calls ?_) | (go_at_call 37; refine HS.rd0 h3.out.calls ?_) | (go_at_call 38; refine HS.go0 (zT.calls _ _ _ _ _ hw.out) ?_) | (go_at_call 39; refine HS.fill (hf.out.calls (HS.blk _ (.tail _ (.head _))).2 (HS.blk _ (.head _)).2 (Ne.symm ((List.pairwise_cons.1 HS.apart).1 _ (.head _)))) ?_) | (go_at_call 16; refine HS.go (hr.out.calls HS.fmC) ?_)); clear HS; (try clear hc); intros; rename_i HS; have hc := HS.lk; simp only [Lk, LkC, Value.cells, List.toList_toArray, Nat.reduceAdd, Nat.zero_add, and_true, zf, zg, ze, zh] at HS hc) | (refine yt (.op 0 0 54 (.op 1 0 55 (.op 2 0 56 (.op 3 0 57 (.op 4 0 58 (.op 5 4 0 (.op 6 1 3 .nil))))))) [] HS (.cons _ (.cons_cons _ (.cons _ .slnil))) ?_; clear HS hc; intro HS hS; (repeat (refine RT.tk ?_)); refine RT.o4 ?_; intro K hK; refine xo HS ?_; clear HS hS; intro w_ HS; have hc := HS.lk; simp only [Lk, LkC, Value.cells, List.toList_toArray, Nat.reduceAdd, Nat.zero_add, and_true, zf, zg, ze, zh] at HS hc; refine hK _ _ (xb (.cons _ (.cons_cons _ (.cons _ .slnil))) HS.lk) (fun hS => ?_); clear hK hS; (repeat (refine RT.pu ?_)); refine RT.nil ?_))
  clear d0 c0
 all_goals
  rcases h.out with ⟨c3, rfl, rfl⟩ | ⟨rfl, y, p4, q4, hf, ⟨c4, rfl, rfl⟩ | ⟨rfl, c5, rfl, rfl⟩ | ⟨rfl, c5, r, hr, ⟨rfl, rfl, rfl⟩ | ⟨rfl, rfl, rfl⟩⟩⟩
  ·have d3 := beq_eq_false_iff_ne.mpr c3
   have d4 := bne_iff_ne.mpr c3
   go_wp2_with (first | ((first | ((with_reducible refine gB rfl ?_); refine zC HS ?_) | ((with_reducible refine gA rfl ?_); refine zt HS ?_) | ((with_reducible refine gS rfl ?_); refine zr HS ?_) | (go_at_call 36; refine HS.go HO.out.calls ?_) | (go_at_call 37; refine HS.rd0 h1.out.calls ?_) | (go_at_call 37; refine HS.rd0 h2.out.calls ?_) | (go_at_call 37; refine HS.rd0 h3.out.calls ?_) | (go_at_call 38; refine HS.go0 (zT.calls _ _ _ _ _ hw.out) ?_) | (go_at_call 39; refine HS.fill (hf.out.calls (HS.blk _ (.tail _ (.head _))).2 (HS.blk _ (.head _)).2 (Ne.symm ((List.pairwise_cons.1 HS.apart).1 _ (.head _)))) ?_) | (go_at_call 16; refine HS.go (hr.out.calls HS.fmC) ?_)); clear HS; (try clear hc); intros; rename_i HS; have hc := HS.lk; simp only [Lk, LkC, Value.cells, List.toList_toArray, Nat.reduceAdd, Nat.zero_add, and_true, zf, zg, ze, zh] at HS hc) | (refine yt (.op 0 0 54 (.op 1 0 55 (.op 2 0 56 (.op 3 0 57 (.op 4 0 58 (.op 5 4 0 (.op 6 1 3 .nil))))))) [] HS (.cons _ (.cons_cons _ (.cons _ .slnil))) ?_; clear HS hc; intro HS hS; (repeat (refine RT.tk ?_)); refine RT.o4 ?_; intro K hK; refine xo HS ?_; clear HS hS; intro w_ HS; have hc := HS.lk; simp only [Lk, LkC, Value.cells, List.toList_toArray, Nat.reduceAdd, Nat.zero_add, and_true, zf, zg, ze, zh] at HS hc; refine hK _ _ (xb (.cons _ (.cons_cons _ (.cons _ .slnil))) HS.lk) (fun hS => ?_); clear hK hS; (repeat (refine RT.pu ?_)); refine RT.nil ?_))
   refine bodyPost_ret (xx (rs := [_, _]) rfl (by simp) (.cell _ _ _ _ _ rfl (HS.blk (_, _, _) (by repeat (first | exact .head _ | apply List.Mem.tail))).2 Tryz.underlying28 rfl (by kernel_rfl) (.tmp .nil))) rfl ?_; exact ⟨⟨_, rfl, _, _, _, _, _, rfl, oN, oN, oN, oN, oN⟩, HS.below⟩
  ·replace hf := za.mk hf
   have d3 := beq_eq_false_iff_ne.mpr c4
   have d4 := bne_iff_ne.mpr c4
   go_wp2_with (first | ((first | ((with_reducible refine gB rfl ?_); refine zC HS ?_) | ((with_reducible refine gA rfl ?_); refine zt HS ?_) | ((with_reducible refine gS rfl ?_); refine zr HS ?_) | (go_at_call 36; refine HS.go HO.out.calls ?_) | (go_at_call 37; refine HS.rd0 h1.out.calls ?_) | (go_at_call 37; refine HS.rd0 h2.out.calls ?_) | (go_at_call 37; refine HS.rd0 h3.out.calls ?_) | (go_at_call 38; refine HS.go0 (zT.calls _ _ _ _ _ hw.out) ?_) | (go_at_call 39; refine HS.fill (hf.out.calls (HS.blk _ (.tail _ (.head _))).2 (HS.blk _ (.head _)).2 (Ne.symm ((List.pairwise_cons.1 HS.apart).1 _ (.head _)))) ?_) | (go_at_call 16; refine HS.go (hr.out.calls HS.fmC) ?_)); clear HS; (try clear hc); intros; rename_i HS; have hc := HS.lk; simp only [Lk, LkC, Value.cells, List.toList_toArray, Nat.reduceAdd, Nat.zero_add, and_true, zf, zg, ze, zh] at HS hc) | (refine yt (.op 0 0 54 (.op 1 0 55 (.op 2 0 56 (.op 3 0 57 (.op 4 0 58 (.op 5 4 0 (.op 6 1 3 .nil))))))) [] HS (.cons _ (.cons_cons _ (.cons _ .slnil))) ?_; clear HS hc; intro HS hS; (repeat (refine RT.tk ?_)); refine RT.o4 ?_; intro K hK; refine xo HS ?_; clear HS hS; intro w_ HS; have hc := HS.lk; simp only [Lk, LkC, Value.cells, List.toList_toArray, Nat.reduceAdd, Nat.zero_add, and_true, zf, zg, ze, zh] at HS hc; refine hK _ _ (xb (.cons _ (.cons_cons _ (.cons _ .slnil))) HS.lk) (fun hS => ?_); clear hK hS; (repeat (refine RT.pu ?_)); refine RT.nil ?_))
   refine bodyPost_ret (xx (rs := [_, _]) rfl (by simp) (.cell _ _ _ _ _ rfl (HS.blk (_, _, _) (by repeat (first | exact .head _ | apply List.Mem.tail))).2 Tryz.underlying28 rfl (by kernel_rfl) (.tmp .nil))) rfl ?_; exact ⟨⟨_, rfl, _, _, _, _, _, rfl, oN, oN, oN, oN, oN⟩, HS.below⟩
  ·replace hf := za.mk hf
   go_wp2_with (first | ((first | ((with_reducible refine gB rfl ?_); refine zC HS ?_) | ((with_reducible refine gA rfl ?_); refine zt HS ?_) | ((with_reducible refine gS rfl ?_); refine zr HS ?_) | (go_at_call 36; refine HS.go HO.out.calls ?_) | (go_at_call 37; refine HS.rd0 h1.out.calls ?_) | (go_at_call 37; refine HS.rd0 h2.out.calls ?_) | (go_at_call 37; refine HS.rd0 h3.out.calls ?_) | (go_at_call 38; refine HS.go0 (zT.calls _ _ _ _ _ hw.out) ?_) | (go_at_call 39; refine HS.fill (hf.out.calls (HS.blk _ (.tail _ (.head _))).2 (HS.blk _ (.head _)).2 (Ne.symm ((List.pairwise_cons.1 HS.apart).1 _ (.head _)))) ?_) | (go_at_call 16; refine HS.go (hr.out.calls HS.fmC) ?_)); clear HS; (try clear hc); intros; rename_i HS; have hc := HS.lk; simp only [Lk, LkC, Value.cells, List.toList_toArray, Nat.reduceAdd, Nat.zero_add, and_true, zf, zg, ze, zh] at HS hc) | (refine yt (.op 0 0 54 (.op 1 0 55 (.op 2 0 56 (.op 3 0 57 (.op 4 0 58 (.op 5 4 0 (.op 6 1 3 .nil))))))) [] HS (.cons _ (.cons_cons _ (.cons _ .slnil))) ?_; clear HS hc; intro HS hS; (repeat (refine RT.tk ?_)); refine RT.o4 ?_; intro K hK; refine xo HS ?_; clear HS hS; intro w_ HS; have hc := HS.lk; simp only [Lk, LkC, Value.cells, List.toList_toArray, Nat.reduceAdd, Nat.zero_add, and_true, zf, zg, ze, zh] at HS hc; refine hK _ _ (xb (.cons _ (.cons_cons _ (.cons _ .slnil))) HS.lk) (fun hS => ?_); clear hK hS; (repeat (refine RT.pu ?_)); refine RT.nil ?_))
   refine bodyPost_ret (xx (rs := [_, _]) rfl (by simp) (.cell _ _ _ _ _ rfl (HS.blk (_, _, _) (by repeat (first | exact .head _ | apply List.Mem.tail))).2 Tryz.underlying28 rfl (by kernel_rfl) (.tmp .nil))) rfl ?_; exact ⟨⟨_, rfl, _, _, _, _, _, rfl, oN, oN, oN, oN, oN⟩, HS.below⟩
  ·replace hf := za.mk hf
   replace hr := za.mk hr
   have d5 := decide_eq_false c5
   go_wp2_with (first | ((first | ((with_reducible refine gB rfl ?_); refine zC HS ?_) | ((with_reducible refine gA rfl ?_); refine zt HS ?_) | ((with_reducible refine gS rfl ?_); refine zr HS ?_) | (go_at_call 36; refine HS.go HO.out.calls ?_) | (go_at_call 37; refine HS.rd0 h1.out.calls ?_) | (go_at_call 37; refine HS.rd0 h2.out.calls ?_) | (go_at_call 37; refine HS.rd0 h3.out.calls ?_) | (go_at_call 38; refine HS.go0 (zT.calls _ _ _ _ _ hw.out) ?_) | (go_at_call 39; refine HS.fill (hf.out.calls (HS.blk _ (.tail _ (.head _))).2 (HS.blk _ (.head _)).2 (Ne.symm ((List.pairwise_cons.1 HS.apart).1 _ (.head _)))) ?_) | (go_at_call 16; refine HS.go (hr.out.calls HS.fmC) ?_)); clear HS; (try clear hc); intros; rename_i HS; have hc := HS.lk; simp only [Lk, LkC, Value.cells, List.toList_toArray, Nat.reduceAdd, Nat.zero_add, and_true, zf, zg, ze, zh] at HS hc) | (refine yt (.op 0 0 54 (.op 1 0 55 (.op 2 0 56 (.op 3 0 57 (.op 4 0 58 (.op 5 4 0 (.op 6 1 3 .nil))))))) [] HS (.cons _ (.cons_cons _ (.cons _ .slnil))) ?_; clear HS hc; intro HS hS; (repeat (refine RT.tk ?_)); refine RT.o4 ?_; intro K hK; refine xo HS ?_; clear HS hS; intro w_ HS; have hc := HS.lk; simp only [Lk, LkC, Value.cells, List.toList_toArray, Nat.reduceAdd, Nat.zero_add, and_true, zf, zg, ze, zh] at HS hc; refine hK _ _ (xb (.cons _ (.cons_cons _ (.cons _ .slnil))) HS.lk) (fun hS => ?_); clear hK hS; (repeat (refine RT.pu ?_)); refine RT.nil ?_))
   refine bodyPost_ret (xx (rs := [_, _]) rfl (by simp) (.cell _ _ _ _ _ rfl (HS.blk (_, _, _) (by repeat (first | exact .head _ | apply List.Mem.tail))).2 Tryz.underlying28 rfl (by kernel_rfl) (.tmp .nil))) rfl ?_; exact ⟨⟨_, rfl, _, _, _, _, _, rfl, oN, oN, oN, oN, oN⟩, HS.below⟩
  ·replace hf := za.mk hf
   replace hr := za.mk hr
   have d5 := decide_eq_false c5
   go_wp2_with (first | ((first | ((with_reducible refine gB rfl ?_); refine zC HS ?_) | ((with_reducible refine gA rfl ?_); refine zt HS ?_) | ((with_reducible refine gS rfl ?_); refine zr HS ?_) | (go_at_call 36; refine HS.go HO.out.calls ?_) | (go_at_call 37; refine HS.rd0 h1.out.calls ?_) | (go_at_call 37; refine HS.rd0 h2.out.calls ?_) | (go_at_call 37; refine HS.rd0 h3.out.calls ?_) | (go_at_call 38; refine HS.go0 (zT.calls _ _ _ _ _ hw.out) ?_) | (go_at_call 39; refine HS.fill (hf.out.calls (HS.blk _ (.tail _ (.head _))).2 (HS.blk _ (.head _)).2 (Ne.symm ((List.pairwise_cons.1 HS.apart).1 _ (.head _)))) ?_) | (go_at_call 16; refine HS.go (hr.out.calls HS.fmC) ?_)); clear HS; (try clear hc); intros; rename_i HS; have hc := HS.lk; simp only [Lk, LkC, Value.cells, List.toList_toArray, Nat.reduceAdd, Nat.zero_add, and_true, zf, zg, ze, zh] at HS hc) | (refine yt (.op 0 0 54 (.op 1 0 55 (.op 2 0 56 (.op 3 0 57 (.op 4 0 58 (.op 5 4 0 (.op 6 1 3 .nil))))))) [] HS (.cons _ (.cons_cons _ (.cons _ .slnil))) ?_; clear HS hc; intro HS hS; (repeat (refine RT.tk ?_)); refine RT.o4 ?_; intro K hK; refine xo HS ?_; clear HS hS; intro w_ HS; have hc := HS.lk; simp only [Lk, LkC, Value.cells, List.toList_toArray, Nat.reduceAdd, Nat.zero_add, and_true, zf, zg, ze, zh] at HS hc; refine hK _ _ (xb (.cons _ (.cons_cons _ (.cons _ .slnil))) HS.lk) (fun hS => ?_); clear hK hS; (repeat (refine RT.pu ?_)); refine RT.nil ?_))
   refine bodyPost_ret (xx (rs := [_, _]) rfl (by simp) (.cell _ _ _ _ _ rfl (HS.blk (_, _, _) (by repeat (first | exact .head _ | apply List.Mem.tail))).2 Tryz.underlying28 rfl (by kernel_rfl) (.tmp .nil))) rfl ?_
   exact ⟨⟨_, rfl, HS.fmO⟩, HS.below⟩
abbrev wfI (n : Int) : Prop := (Lit.int .i64 n).wf = true
section
variable {s : ByteArray} (hs : s.size ≤ 140737488351232)
theorem J4 (a : Int) : wfI (yo s a).1 := by
 by_cases h : (yo s a).2.2 = 0
 ·have := za4 s a h
  exact Z6 _ this.1 this.2
 ·have e : (yo s a).1 = 0 := by
   unfold yo jU at h ⊢
   split at h
   ·rename_i c; rw [if_pos c]
   ·rename_i c
    rw [if_neg c]
    split at h
    ·exact absurd rfl h
    ·rename_i d; rw [if_neg d]
  rw [e]
  rfl
include hs
theorem J5 (p : Int) : (jY s p).1.size ≤ 4096 := by
 unfold jY
 split
 ·rename_i h
  have := jg s p 4096 hs (by decide) h
  split
  ·exact Nat.zero_le _
  ·rw [← z8, yK, List.length_drop, List.length_take, z8]
   omega
 ·exact Nat.zero_le _
end
abbrev fA : Fm := ⟨3, 1, 2, 0, 3, [], [], [], [], []⟩
def yA : ByteArray := ⟨#[6, 2, 4, 6, 140, 141, 102, 171]⟩
theorem putA : ZD fA yA 0 := by
 rcases QB (x := fA) ⟨rfl, rfl, rfl, rfl, rfl, by simp, by simp, by simp, by simp, by simp⟩ with ⟨h, _⟩ | ⟨_, h, _⟩
 ·exact absurd h (by decide +kernel)
 ·have e : qj (jZ fA) = yA := by decide +kernel
  rwa [e] at h
theorem numA {t : ByteArray} (ht : t = (⟨#[6, 2, 4, 6]⟩ : ByteArray)) (p v p' : Int) (h : yo ⟨#[6, 2, 4, 6]⟩ p = (v, p', 0)) : xp t p 0 v p' 0 := .inr ⟨rfl, 40, by subst ht; rw [← h]; exact vQ _ (by decide +kernel) p 40 (Nat.le_refl _)⟩
theorem getA : Ze yA fA 0 := by
 obtain ⟨t, ht⟩ : ∃ t, t = (⟨#[6, 2, 4, 6]⟩ : ByteArray) := ⟨_, rfl⟩
 have hz : t.size = 4 := by rw [ht]; rfl
 have hr : vY fA true := by
  have h := Za (x := fA) ⟨rfl, rfl, rfl, rfl, rfl, by simp, by simp, by simp, by simp, by simp⟩
  have e : qV fA = true := by decide +kernel
  rwa [e] at h
 refine ⟨t, 0, ⟨100, ?_⟩, .inr ⟨rfl, by omega, 3, 1, 0, numA ht _ _ _ (by decide +kernel), .inr ⟨by decide, 1, 2, 0, 2, 3, 0, numA ht _ _ _ (by decide +kernel), numA ht _ _ _ (by decide +kernel), .inr ⟨rfl, fA, 4, 0, ?_, .inr (.inr ⟨rfl, by omega, true, hr, .inr ⟨rfl, rfl, rfl⟩⟩)⟩⟩⟩⟩
 ·rw [ht, XH yA (by decide +kernel) 100 (by decide +kernel)]
  exact congrArg some (by decide +kernel)
 ·exact ⟨3, numA ht _ _ _ (by decide +kernel), rfl⟩
theorem zdt {w0 w : World} {bs : List Bk} {A5 A6 A7 A8 A9 : Option Addr} {c5 c6 c7 c8 c9 : Nat} (H : Sat [] w0 w bs (Y9 w0 fA A5 c5 A6 c6 A7 c7 A8 c8 A9 c9)) : Calls Tryz.prog 15 #[.agg #[.int .i64 3, .int .i64 1, .int .i64 2, .int .i64 0, .int .i64 3, .slice none 0 0, .slice none 0 0, .slice none 0 0, .slice none 0 0, .slice none 0 0], .agg #[.int .i64 3, .int .i64 1, .int .i64 2, .int .i64 0, .int .i64 3, .slice A5 0 c5, .slice A6 0 c6, .slice A7 0 c7, .slice A8 0 c8, .slice A9 0 c9]] w fun e w' => e = .returned (.bool true) ∧ Below w.heap.size w w' :=
 jD (p0 := true) (p1 := true) (p2 := true) (p3 := true) (p4 := true) (b5 := true) (b6 := true) (b7 := true) (b8 := true) (b9 := true) rfl rfl rfl rfl rfl (vz (Zv (H.rows _ (.head _)).2)) (vw (Zv (H.rows _ (.tail _ (.head _))).2)) (vx (Zv (H.rows _ (.tail _ (.tail _ (.head _)))).2)) (vn (Zv (H.rows _ (.tail _ (.tail _ (.tail _ (.head _))))).2)) (vm (Zv (H.rows _ (.tail _ (.tail _ (.tail _ (.tail _ (.head _)))))).2))
theorem zdp (w : World) : Calls Tryz.prog 15 #[.agg #[.int .i64 3, .int .i64 1, .int .i64 2, .int .i64 0, .int .i64 3, .slice none 0 0, .slice none 0 0, .slice none 0 0, .slice none 0 0, .slice none 0 0], .agg #[.int .i64 0, .int .i64 0, .int .i64 0, .int .i64 0, .int .i64 0, .slice none 0 0, .slice none 0 0, .slice none 0 0, .slice none 0 0, .slice none 0 0]] w fun e w' => e = .returned (.bool false) ∧ Below w.heap.size w w' :=
 jD (p0 := false) (p1 := false) (p2 := false) (p3 := true) (p4 := false) (b5 := true) (b6 := true) (b7 := true) (b8 := true) (b9 := true) rfl rfl rfl rfl rfl (vz jo) (vw jo) (vx jo) (vn jo) (vm jo)
theorem zcV (w : World) : Calls Tryz.prog 9 #[] w fun e w' => e = .returned (.bool true) ∧ Below w.heap.size w w' := by
 have HS := Sat.nil w
 obtain ⟨y, hy⟩ : ∃ y, y = yA := ⟨_, rfl⟩
 have hp : za (ZD fA y 0) := ⟨hy ▸ putA⟩
 have hg : za (Ze y fA 0) := ⟨hy ▸ getA⟩
 have y0 : (y.size : Int) = 8 := by subst hy; decide +kernel
 have y1 : ((y.size : Int) == 8) = true := by subst hy; decide +kernel
 have y2 : decide ((4 : Int) ≤ (y.size : Int)) = true := by subst hy; decide +kernel
 have y3 : decide (4 ≤ y.size) = true := by subst hy; decide +kernel
 have y4 : 4 ≤ y.size := by subst hy; decide +kernel
 have y5 : ((y.extract 0 4).toList == ([6, 2, 4, 6] : List UInt8)) = true := by subst hy; decide +kernel
 have y6 : (y.extract 0 4).toList = ([6, 2, 4, 6] : List UInt8) := by subst hy; decide +kernel
 have y7 : (y.extract 0 4 == (⟨#[6, 2, 4, 6]⟩ : ByteArray)) = true := by subst hy; decide +kernel
 clear hy
 go_enter Tryz.func9, Tryz.ntmps9
 go_wp2_with ((first | ((with_reducible refine gB rfl ?_); refine zC HS ?_) | ((with_reducible refine gA rfl ?_); refine zt HS ?_) | ((with_reducible refine gS rfl ?_); refine zr HS ?_) | (go_at_call 7; refine HS.go (ZD.calls hp.out ⟨_, _, _, _, _, rfl, jo, jo, jo, jo, jo⟩) ?_) | (go_at_call 13; refine HS.got (F := fun cs => .tuple #[.agg cs.toArray, .int .i64 0]) (Ze.calls hg.out) ?_) | (go_at_call 15; with_reducible refine HS.go (zdp _) ?_) | (go_at_call 15; with_reducible refine HS.go (zdt HS) ?_)); clear HS; (try clear hc); intros; rename_i HS; have hc := HS.lk; simp only [Lk, LkC, Value.cells, List.toList_toArray, Nat.reduceAdd, Nat.zero_add, and_true, zf, zg, ze, zh, List.length_nil] at HS hc)
 go_ret
 exact ⟨rfl, HS.below⟩
end Go.Proofs.YtepipnpfggnadaaGreat.Q
