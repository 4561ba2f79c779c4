/- Texts of this session laid together (shrink.py): what the claim's law rests on. -/
import Derived.Below
import Derived.Deep.Draws
import Derived.Deep.AppendLies
import Derived.Maps.AppendAt
import Derived.OwnWalk
import Derived.Laws.BytesArg
import Derived.Laws.MakeOwn
import Derived.Laws.OwnMore
import Derived.Deep.OwnRows
import Derived.Tactics
import Derived.Lib.ConvBytes
import Derived.Laws.Slices
import Derived.WalkKit
import Derived.KernelRfl
import Derived.RowKit3
import Derived.Deep.LoopGhost
import Derived.Deep.QuietTactic
import Derived.BigQuiet
import Derived.WideLaws
import Derived.Deep.DeepCutAuto
import Derived.Deep.CutBlock
import Derived.Deep.RegionHeld3
import Derived.Laws.Rows
import Derived.Lib.AppendStr
import Derived.ArgAppend
import Derived.Laws.IdiomCopy
import Derived.RowKit
import Derived.OrdersHeld
import Derived.Laws.BitsLemmas
import Derived.Laws.StructEq
import Derived.Test.YtepipnpfggnadaaGreatProg
import Derived.WalkMore
import Derived.Lib.Strings
import Derived.Test.YtepipnpfggnadaaGreatTFramesPutc
set_option linter.unusedVariables false
set_option linter.unusedSimpArgs false
set_option maxRecDepth 100000
set_option maxHeartbeats 8000000
open Bool renaming true → O, false → Y
open List renaming setIfInBounds_toArray → zdG
open List renaming set_cons_zero → zdH
open List renaming set_cons_succ → zdI
open List renaming map_toArray → zdJ
open Option renaming bind_eq_some_iff → zdK
open Go.World renaming block_lt_of_cell? → zdL
open Bool renaming eq_false_iff → zdM
open List renaming length_append → zdN
namespace Go.Proofs.YtepipnpfggnadaaGreat.Q
open Go.RowKit Go.Proofs.YtepipnpfggnadaaGreatW.PrintWords Go.Proofs.YtepipnpfggnadaaGreatW.PrintLast Go.Proofs.YtepipnpfggnadaaGreatW.PrintMore
attribute [local go_sem] jM jJ vE vD jm jl jL jO
def zO.f : Nat → Int → Option (ByteArray)
 | 0, _ => none
 | k + 1, a0 => if a0 < 128 then (some (strOfNums (([(a0) % 256] : List Int)))) else ((some (([(IntKind.u64.wrap ((Int.tmod a0 128) + 128)) % 256] : List Int) : List Int)).bind fun y730 => ((zO.f k (IntKind.u64.wrap (Int.tdiv a0 128))).bind fun t733 => (if (strOfNums y730).size + t733.size ≤ 9223372036854775807 then (some ((strOfNums y730) ++ t733)) else (none))))
def zO.T3 : Bool × List (List Nat × List Nat) := (true, [([], []), ([0], [0]), ([1], [1]), ([2], [2]), ([3], [3]), ([4], [4]), ([], []), ([6], [6]), ([7], [7]), ([5, 8], [5, 8]), ([9, 8, 0, 1, 2, 3, 4, 5, 6, 7, 8, 9], [9])])
def zO.B3 : List Nat := [0, 1, 3, 7, 15, 31, 0, 64, 192, 511, 1023]
theorem zO.tab3 : qr .any (Ju Tryz.f72 3) = zO.T3 := by kernel_rfl
theorem zO.bits3 : vC zO.T3.2 zO.B3 = true := by kernel_rfl
theorem zO.calls (k : Nat) : ∀ (a0 : Int) (r : ByteArray) (w : World) (h : zO.f k a0 = some r),
  Calls Tryz.prog 72 #[.int .u64 a0] w fun e w' => e = .returned (.string r) ∧ Below w.heap.size w w' := by
 induction k using Nat.strongRecOn with
 | _ k ih =>
 intro a0 r w h
 cases k with
 | zero => exact absurd h (by simp [zO.f])
 | succ k =>
 simp only [zO.f] at h
 have HB := za.mk (Below.refl w.heap.size w)
 have H : (if a0 < 128 then (some (strOfNums (([(a0) % 256] : List Int)))) else ((some (([(IntKind.u64.wrap ((Int.tmod a0 128) + 128)) % 256] : List Int) : List Int)).bind fun y730 => ((zO.f k (IntKind.u64.wrap (Int.tdiv a0 128))).bind fun t733 => (if (strOfNums y730).size + t733.size ≤ 9223372036854775807 then (some ((strOfNums y730) ++ t733)) else (none))))) = some r := h
 clear h
 by_cases c2 : a0 < 128
 ·rw [if_pos c2] at H
  have c2b0 : decide (a0 < 128) = true := decide_eq_true c2
  clear c2
  obtain ⟨y727, hy727⟩ : ∃ y_ : List Int, y_ = (([(a0) % 256] : List Int)) := ⟨_, rfl⟩
  replace H : (some (strOfNums y727)) = some r := by first | (rw [hy727]; with_reducible exact H) | (have H2_ := (Option.bind_some _ _).symm.trans H; rw [hy727]; with_reducible exact H2_) | (have H2_ := (Option.bind_some _ _).symm.trans H; with_reducible exact H2_) | with_reducible exact H | (rw [hy727]; exact H) | exact H
  have Ny727 := za.mk hy727
  clear hy727
  obtain rfl := Option.some.inj H
  go_enter Tryz.func72, Tryz.ntmps72
  go_wp2_with (first | ((with_reducible refine zN (N := 7) rfl ?_); refine Kd.R_lit (Kd.int .u8) _ 5 ?hg (N := 7) ?hd (xs := ([(a0) % 256] : List Int)) (inner := [.int .u8 ((a0) % 256)]) (ok := fun _ => True) (okp := fun _ => True) ?hr ?hp (fun _ hk => hk) trivial (Below.refl _ _) (Nat.le_refl _) (by simp) ?_; (case hd => rfl); (case hg => rfl); (case hr => first | (go_simp; done) | (go_simp; rfl)); (case hp => exact (zX.one (show Kd.M (Kd.int .u8) _ _ _ ((a0) % 256) [.int .u8 ((a0) % 256)] from rfl) (zX.none _ _))); intro v728 w3 ho4 hb hg_ hnew_; clear hg_ hnew_; (first | rw [← Ny727.out] at ho4 | (simp only [Int.reduceToNat] at ho4; rw [← Ny727.out] at ho4)); have n0_ := za.mk (Kd.R_lower ho4 (zF (by repeat (first | (with_reducible first | exact HB.out | apply zc | apply zb | apply zd) | exact HB.out)))); have n1_ := za.mk (zp (by repeat (first | (with_reducible first | exact HB.out | apply zc | apply zb | apply zd) | exact HB.out)) hb); clear HB; have HO729 := n0_; have HB := n1_; clear n0_ n1_; clear hb ho4; have hcv5 := jQ (P := Tryz.prog) Tryz.underlying41 Tryz.underlying5 Tryz.underlying9 (Kd.own_of_R HO729.out)))
  go_ret
  exact ⟨by first | rfl | (simp [zl, zk] <;> rfl) | (simp [*, zl, zk] <;> rfl), by repeat (first | (with_reducible first | exact HB.out | apply zc | apply zb | apply zd) | exact HB.out)⟩
 ·rw [if_neg c2] at H
  have c2b0 : decide (a0 < 128) = false := decide_eq_false c2
  clear c2
  obtain ⟨y730, hy730⟩ : ∃ y_ : List Int, y_ = (([(IntKind.u64.wrap ((Int.tmod a0 128) + 128)) % 256] : List Int)) := ⟨_, rfl⟩
  replace H : ((zO.f k (IntKind.u64.wrap (Int.tdiv a0 128))).bind fun t733 => (if (strOfNums y730).size + t733.size ≤ 9223372036854775807 then (some ((strOfNums y730) ++ t733)) else (none))) = some r := by first | (rw [hy730]; with_reducible exact H) | (have H2_ := (Option.bind_some _ _).symm.trans H; rw [hy730]; with_reducible exact H2_) | (have H2_ := (Option.bind_some _ _).symm.trans H; with_reducible exact H2_) | with_reducible exact H | (rw [hy730]; exact H) | exact H
  have Ny730 := za.mk hy730
  clear hy730
  replace H := zdK.mp H
  obtain ⟨t733, A60, H⟩ := H
  replace H : (if (strOfNums y730).size + t733.size ≤ 9223372036854775807 then (some ((strOfNums y730) ++ t733)) else (none)) = some r := H
  have A6 := za.mk A60
  clear A60
  by_cases c7 : (strOfNums y730).size + t733.size ≤ 9223372036854775807
  ·rw [if_pos c7] at H
   have c7b0 := eq_true c7
   have c7b1 : decide ((strOfNums y730).size + t733.size ≤ 9223372036854775807) = true := decide_eq_true c7
   try have c7b2 : (9223372036854775807 < (strOfNums y730).size + t733.size) = False := eq_false (Nat.not_lt.2 c7)
   obtain rfl := Option.some.inj H
   go_enter Tryz.func72, Tryz.ntmps72
   try go_wp2
   refine Yv (n := 11) (S := fun w' => True) (ds := []) #[Y,Y,Y,Y,Y,Y,Y,Y,Y,Y,Y] (by kernel_rfl) rfl rfl trivial (fun hHeld => ?_); refine ZK zO.tab3 zO.bits3 (fun HT_ HW_ => ?_)
   first | (generalize hdrew_ : (World.drewN w nd).drew = w8 at hHeld ⊢; have n0_ : za (Below _ _ w8) := za.mk (by rw [← hdrew_]; exact zd (zb HB.out nd)); clear hdrew_; clear HB; have HB := n0_; clear n0_) | (have n0_ := za.mk (zd HB.out); clear HB; have HB := n0_; clear n0_; generalize w.drew = w8 at HB hHeld ⊢)
   refine yM (i := 0) (N := some 9) (v := ?_) (a' := ?_) #[O,Y,Y,Y,Y,Y,Y,Y,Y,Y,Y] rfl rfl (yG HT_.out (by kernel_rfl)) (fun _ _ _ h => h) (Or.inl ⟨by rfl, ?_⟩) ?_ ?_
   rotate_left
   ·intro w'
    go_simp
    with_reducible rfl
   rotate_left
   ·simp only [Act.put, zdG, zdH, zdI, zT, yc]
    rfl
   refine yM (i := 1) (N := some 10) (v := ?_) (a' := ?_) #[O,O,Y,Y,Y,Y,Y,Y,Y,Y,Y] rfl rfl (yG HT_.out (by kernel_rfl)) (fun _ _ _ h => h) (Or.inl ⟨by rfl, ?_⟩) ?_ ?_
   rotate_left
   ·intro w'
    go_simp
    with_reducible rfl
   rotate_left
   ·simp only [Act.put, zdG, zdH, zdI, zT, yc]
    rfl
   refine yM (i := 2) (N := some 11) (v := ?_) (a' := ?_) #[O,O,O,Y,Y,Y,Y,Y,Y,Y,Y] rfl rfl (yG HT_.out (by kernel_rfl)) (fun _ _ _ h => h) (Or.inl ⟨by rfl, ?_⟩) ?_ ?_
   rotate_left
   ·intro w'
    go_simp
    with_reducible rfl
   rotate_left
   ·simp only [Act.put, zdG, zdH, zdI, zT, yc]
    rfl
   refine yM (i := 3) (N := some 12) (v := ?_) (a' := ?_) #[O,O,O,O,Y,Y,Y,Y,Y,Y,Y] rfl rfl (yG HT_.out (by kernel_rfl)) (fun _ _ _ h => h) (Or.inl ⟨by rfl, ?_⟩) ?_ ?_
   rotate_left
   ·intro w'
    go_simp
    with_reducible rfl
   rotate_left
   ·simp only [Act.put, zdG, zdH, zdI, zT, yc]
    rfl
   refine yM (i := 6) (N := some 15) (v := ?_) (a' := ?_) #[O,O,O,O,Y,Y,O,Y,Y,Y,Y] rfl rfl (yG HT_.out (by kernel_rfl)) (fun _ _ _ h => h) (Or.inl ⟨by rfl, ?_⟩) ?_ ?_
   rotate_left
   ·intro w'
    go_simp
    with_reducible rfl
   rotate_left
   ·simp only [Act.put, zdG, zdH, zdI, zT, yc]
    rfl
   refine yM (i := 7) (N := some 16) (v := ?_) (a' := ?_) #[O,O,O,O,Y,Y,O,O,Y,Y,Y] rfl rfl (yG HT_.out (by kernel_rfl)) (fun _ _ _ h => h) (Or.inl ⟨by rfl, ?_⟩) ?_ ?_
   rotate_left
   ·intro w'
    go_simp
    with_reducible rfl
   rotate_left
   ·simp only [Act.put, zdG, zdH, zdI, zT, yc]
    rfl
   refine zcJ (σ := Value) 2 #[O,O,O,O,O,O,O,O,O,Y,Y] (fun s_ => [(13, s_), (14, .string (strOfNums y730)), (17, .string t733)]) (fun s_ w' => (Kd.R (Kd.int .u8) 5 w' w.heap.size (fun _ => True) s_ y730) ∧ (Below w.heap.size w w')) ?_ ?_
   rotate_left
   ·intro hCont
    refine two_ (i := 4) (j := 8) (Ni := some 13) (Nj := some 17) #[O,O,O,O,O,Y,O,O,Y,Y,Y] #[O,O,O,O,Y,Y,O,O,O,Y,Y] rfl rfl rfl rfl (JZ HT_.out (by kernel_rfl)) (by decide) (by decide) (fun K hK => ?_) (fun K hK => ?_)
    ·skip
     refine Kd.R_lit_step (Kd.int .u8) _ 5 ?hg (N := 13) ?hd (xs := ([(IntKind.u64.wrap ((Int.tmod a0 128) + 128)) % 256] : List Int)) (inner := [.int .u8 ((IntKind.u64.wrap ((Int.tmod a0 128) + 128)) % 256)]) (ok := fun _ => True) (okp := fun _ => True) ?hr ?hp (fun _ hk => hk) trivial (Below.refl _ _) (Nat.le_refl _) (by simp) ?_; (case hd => rfl); (case hg => rfl); (case hr => first | (go_simp; done) | (go_simp; rfl)); (case hp => exact (zX.one (show Kd.M (Kd.int .u8) _ _ _ ((IntKind.u64.wrap ((Int.tmod a0 128) + 128)) % 256) [.int .u8 ((IntKind.u64.wrap ((Int.tmod a0 128) + 128)) % 256)] from rfl) (zX.none _ _)))
     intro v731 w9 ho10 hb hg_ hnew_
     clear hg_ hnew_
     (first | rw [← Ny730.out] at ho10 | (simp only [Int.reduceToNat] at ho10; rw [← Ny730.out] at ho10))
     have n0_ := za.mk (Kd.R_lower ho10 (zF (by repeat (first | (with_reducible first | exact HB.out | apply zc | apply zb | apply zd) | exact HB.out))))
     have n1_ := za.mk (zp (by repeat (first | (with_reducible first | exact HB.out | apply zc | apply zb | apply zd) | exact HB.out)) hb)
     clear HB
     have HO732 := n0_
     have HB := n1_
     clear n0_ n1_
     clear hb ho10
     refine hK.out _ _ trivial (fun hHeld => ?_)
     clear hK K
     refine xh (a' := ?_) ?_ ?_
     rotate_left
     ·show Act.put _ (some 13) _ = _
      simp only [Act.put, zdG, zdH, zdI, zT, yc]
      rfl
     refine two_ (i := 5) (j := 8) (Ni := some 14) (Nj := some 17) #[O,O,O,O,O,O,O,O,Y,Y,Y] #[O,O,O,O,O,Y,O,O,O,Y,Y] rfl rfl rfl rfl (JZ HT_.out (by kernel_rfl)) (by decide) (by decide) (fun K hK => ?_) (fun K hK => ?_)
     ·skip
      have hcv11 := jQ (P := Tryz.prog) Tryz.underlying41 Tryz.underlying5 Tryz.underlying9 (Kd.own_of_R HO732.out)
      refine J9 (w1 := ?_) (v := ?_) (by rfl) rfl ?_ ?_
      rotate_left 2
      ·go_simp
       constructor
       ·rfl
       ·rfl
      clear hcv11
      refine hK.out _ _ trivial (fun hHeld => ?_)
      clear hK K
      refine xh (a' := ?_) ?_ ?_
      rotate_left
      ·show Act.put _ (some 14) _ = _
       simp only [Act.put, zdG, zdH, zdI, zT, yc]
       rfl
      refine jt (i := 8) (N := some 17) #[O,O,O,O,O,O,O,O,O,Y,Y] rfl rfl (qM HT_.out (by kernel_rfl)) (by decide) (fun K hK => ?_)
      refine jV Tryz.func72 (by kernel_rfl) rfl #[.int .u64 (IntKind.u64.wrap (Int.tdiv a0 128))] (by rfl) rfl rfl (by (try simp only [zdJ, List.map_cons, List.map_nil]); first | done | rfl | (simp only [List.length_drop, List.length_take]; rfl)) ?_
      with_reducible refine (ih k (by omega) (IntKind.u64.wrap (Int.tdiv a0 128)) t733 _ A6.out).mono ?_
      rintro e w12 ⟨rfl, hb⟩
      refine ⟨_, rfl, ?_⟩
      have n0_ := za.mk (Kd.R_below (by (with_reducible repeat (first | apply Kd.R_alloc | apply Kd.R_drewN | apply Kd.R_drew)); exact HO732.out) hb)
      have n1_ := za.mk (zp (by repeat (first | (with_reducible first | exact HB.out | apply zc | apply zb | apply zd) | exact HB.out)) hb)
      clear HO732
      clear HB
      have HO732 := n0_
      have HB := n1_
      clear n0_ n1_
      (try clear hb)
      (try clear hb2)
      (try clear hk)
      (try clear hi)
      refine hK.out _ _ trivial (fun hHeld => ?_)
      clear hK K
      refine xh (a' := ?_) ?_ ?_
      rotate_left
      ·show Act.put _ (some 17) _ = _
       simp only [Act.put, zdG, zdH, zdI, zT, yc]
       rfl
      exact xh (by simp only [vp, Act.put, zdG, zdH, zdI]) (hCont (v731) _ ⟨(by (with_reducible repeat (first | apply Kd.R_alloc | apply Kd.R_drewN | apply Kd.R_drew)); exact HO732.out), (by repeat (first | (with_reducible first | exact HB.out | apply zc | apply zb | apply zd) | exact HB.out))⟩)
     ·skip
      refine jV Tryz.func72 (by kernel_rfl) rfl #[.int .u64 (IntKind.u64.wrap (Int.tdiv a0 128))] (by rfl) rfl rfl (by (try simp only [zdJ, List.map_cons, List.map_nil]); first | done | rfl | (simp only [List.length_drop, List.length_take]; rfl)) ?_
      with_reducible refine (ih k (by omega) (IntKind.u64.wrap (Int.tdiv a0 128)) t733 _ A6.out).mono ?_
      rintro e w11 ⟨rfl, hb⟩
      refine ⟨_, rfl, ?_⟩
      have n0_ := za.mk (Kd.R_below (by (with_reducible repeat (first | apply Kd.R_alloc | apply Kd.R_drewN | apply Kd.R_drew)); exact HO732.out) hb)
      have n1_ := za.mk (zp (by repeat (first | (with_reducible first | exact HB.out | apply zc | apply zb | apply zd) | exact HB.out)) hb)
      clear HO732
      clear HB
      have HO732 := n0_
      have HB := n1_
      clear n0_ n1_
      (try clear hb)
      (try clear hb2)
      (try clear hk)
      (try clear hi)
      refine hK.out _ _ trivial (fun hHeld => ?_)
      clear hK K
      refine xh (a' := ?_) ?_ ?_
      rotate_left
      ·show Act.put _ (some 17) _ = _
       simp only [Act.put, zdG, zdH, zdI, zT, yc]
       rfl
      refine jt (i := 5) (N := some 14) #[O,O,O,O,O,O,O,O,O,Y,Y] rfl rfl (qM HT_.out (by kernel_rfl)) (by decide) (fun K hK => ?_)
      have hcv12 := jQ (P := Tryz.prog) Tryz.underlying41 Tryz.underlying5 Tryz.underlying9 (Kd.own_of_R HO732.out)
      refine J9 (w1 := ?_) (v := ?_) (by rfl) rfl ?_ ?_
      rotate_left 2
      ·go_simp
       constructor
       ·rfl
       ·rfl
      clear hcv12
      refine hK.out _ _ trivial (fun hHeld => ?_)
      clear hK K
      refine xh (a' := ?_) ?_ ?_
      rotate_left
      ·show Act.put _ (some 14) _ = _
       simp only [Act.put, zdG, zdH, zdI, zT, yc]
       rfl
      exact xh (by simp only [vp, Act.put, zdG, zdH, zdI]) (hCont (v731) _ ⟨(by (with_reducible repeat (first | apply Kd.R_alloc | apply Kd.R_drewN | apply Kd.R_drew)); exact HO732.out), (by repeat (first | (with_reducible first | exact HB.out | apply zc | apply zb | apply zd) | exact HB.out))⟩)
    ·skip
     refine jV Tryz.func72 (by kernel_rfl) rfl #[.int .u64 (IntKind.u64.wrap (Int.tdiv a0 128))] (by rfl) rfl rfl (by (try simp only [zdJ, List.map_cons, List.map_nil]); first | done | rfl | (simp only [List.length_drop, List.length_take]; rfl)) ?_
     with_reducible refine (ih k (by omega) (IntKind.u64.wrap (Int.tdiv a0 128)) t733 _ A6.out).mono ?_
     rintro e w9 ⟨rfl, hb⟩
     refine ⟨_, rfl, ?_⟩
     have n0_ := za.mk (zp (by repeat (first | (with_reducible first | exact HB.out | apply zc | apply zb | apply zd) | exact HB.out)) hb)
     clear HB
     have HB := n0_
     clear n0_
     (try clear hb)
     (try clear hb2)
     (try clear hk)
     (try clear hi)
     refine hK.out _ _ trivial (fun hHeld => ?_)
     clear hK K
     refine xh (a' := ?_) ?_ ?_
     rotate_left
     ·show Act.put _ (some 17) _ = _
      simp only [Act.put, zdG, zdH, zdI, zT, yc]
      rfl
     refine jt (i := 4) (N := some 13) #[O,O,O,O,O,Y,O,O,O,Y,Y] rfl rfl (qM HT_.out (by kernel_rfl)) (by decide) (fun K hK => ?_)
     refine Kd.R_lit_step (Kd.int .u8) _ 5 ?hg (N := 13) ?hd (xs := ([(IntKind.u64.wrap ((Int.tmod a0 128) + 128)) % 256] : List Int)) (inner := [.int .u8 ((IntKind.u64.wrap ((Int.tmod a0 128) + 128)) % 256)]) (ok := fun _ => True) (okp := fun _ => True) ?hr ?hp (fun _ hk => hk) trivial (Below.refl _ _) (Nat.le_refl _) (by simp) ?_; (case hd => rfl); (case hg => rfl); (case hr => first | (go_simp; done) | (go_simp; rfl)); (case hp => exact (zX.one (show Kd.M (Kd.int .u8) _ _ _ ((IntKind.u64.wrap ((Int.tmod a0 128) + 128)) % 256) [.int .u8 ((IntKind.u64.wrap ((Int.tmod a0 128) + 128)) % 256)] from rfl) (zX.none _ _)))
     intro v731 w10 ho11 hb hg_ hnew_
     clear hg_ hnew_
     (first | rw [← Ny730.out] at ho11 | (simp only [Int.reduceToNat] at ho11; rw [← Ny730.out] at ho11))
     have n0_ := za.mk (Kd.R_lower ho11 (zF (by repeat (first | (with_reducible first | exact HB.out | apply zc | apply zb | apply zd) | exact HB.out))))
     have n1_ := za.mk (zp (by repeat (first | (with_reducible first | exact HB.out | apply zc | apply zb | apply zd) | exact HB.out)) hb)
     clear HB
     have HO732 := n0_
     have HB := n1_
     clear n0_ n1_
     clear hb ho11
     refine hK.out _ _ trivial (fun hHeld => ?_)
     clear hK K
     refine xh (a' := ?_) ?_ ?_
     rotate_left
     ·show Act.put _ (some 13) _ = _
      simp only [Act.put, zdG, zdH, zdI, zT, yc]
      rfl
     refine jt (i := 5) (N := some 14) #[O,O,O,O,O,O,O,O,O,Y,Y] rfl rfl (qM HT_.out (by kernel_rfl)) (by decide) (fun K hK => ?_)
     have hcv12 := jQ (P := Tryz.prog) Tryz.underlying41 Tryz.underlying5 Tryz.underlying9 (Kd.own_of_R HO732.out)
     refine J9 (w1 := ?_) (v := ?_) (by rfl) rfl ?_ ?_
     rotate_left 2
     ·go_simp
      constructor
      ·rfl
      ·rfl
     clear hcv12
     refine hK.out _ _ trivial (fun hHeld => ?_)
     clear hK K
     refine xh (a' := ?_) ?_ ?_
     rotate_left
     ·show Act.put _ (some 14) _ = _
      simp only [Act.put, zdG, zdH, zdI, zT, yc]
      rfl
     exact xh (by simp only [vp, Act.put, zdG, zdH, zdI]) (hCont (v731) _ ⟨(by (with_reducible repeat (first | apply Kd.R_alloc | apply Kd.R_drewN | apply Kd.R_drew)); exact HO732.out), (by repeat (first | (with_reducible first | exact HB.out | apply zc | apply zb | apply zd) | exact HB.out))⟩)
   rintro v731 w13 ⟨h0_, h1_⟩
   have n0_ : za (Kd.R (Kd.int .u8) 5 w13 w.heap.size (fun _ => True) v731 y730) := ⟨h0_⟩
   have n1_ : za (Below w.heap.size w w13) := ⟨h1_⟩
   clear HB
   clear h0_ h1_
   have HO732 := n0_
   have HB := n1_
   clear n0_ n1_
   have hHeld := trivial
   refine xh (a' := ?_) ?_ ?_
   rotate_left
   ·simp only [vp, Act.put, zdG, zdH, zdI]
    rfl
   refine yM (i := 9) (N := some 18) (v := ?_) (a' := ?_) #[O,O,O,O,O,O,O,O,O,O,Y] rfl rfl (yG HT_.out (by kernel_rfl)) (fun _ _ _ h => h) (Or.inl ⟨by rfl, ?_⟩) ?_ ?_
   rotate_left
   ·intro w'
    go_simp
    with_reducible rfl
   rotate_left
   ·simp only [Act.put, zdG, zdH, zdI, zT, yc]
    rfl
   refine yM (i := 10) (N := some 2) (v := ?_) (a' := ?_) #[O,O,O,O,O,O,O,O,O,O,O] rfl rfl (yG HT_.out (by kernel_rfl)) (fun _ _ _ h => h) (Or.inl ⟨by rfl, ?_⟩) ?_ ?_
   rotate_left
   ·intro w'
    go_simp
    with_reducible rfl
   rotate_left
   ·simp only [Act.put, zdG, zdH, zdI, zT, yc]
    rfl
   refine YK (YA HT_.out (by kernel_rfl)) ?_
   try go_wp2
   go_ret
   exact ⟨by first | rfl | (simp [zl, zk] <;> rfl) | (simp [*, zl, zk] <;> rfl), by repeat (first | (with_reducible first | exact HB.out | apply zc | apply zb | apply zd) | exact HB.out)⟩
  ·rw [if_neg c7] at H
   exact absurd H (by simp)
def xZ.f (k : Nat) (a0 : Int) : Option (ByteArray) := if a0 < 0 then ((zO.f k (IntKind.u64.wrap ((IntKind.u64.wrap ((IntKind.u64.wrap (wrap64 (-(wrap64 (a0 + 1))))) * 2)) + 1))).bind fun t734 => (some t734)) else ((zO.f k (IntKind.u64.wrap ((IntKind.u64.wrap (a0)) * 2))).bind fun t735 => (some t735))
theorem xZ.calls (k : Nat) (a0 : Int) (r : ByteArray) (w : World) (h : xZ.f k a0 = some r) :
  Calls Tryz.prog 30 #[.int .i64 a0] w fun e w' => e = .returned (.string r) ∧ Below w.heap.size w w' := by
 have HB := za.mk (Below.refl w.heap.size w)
 have H : (if a0 < 0 then ((zO.f k (IntKind.u64.wrap ((IntKind.u64.wrap ((IntKind.u64.wrap (wrap64 (-(wrap64 (a0 + 1))))) * 2)) + 1))).bind fun t734 => (some t734)) else ((zO.f k (IntKind.u64.wrap ((IntKind.u64.wrap (a0)) * 2))).bind fun t735 => (some t735))) = some r := h
 clear h
 by_cases c2 : a0 < 0
 ·rw [if_pos c2] at H
  have c2b0 : decide (a0 < 0) = true := decide_eq_true c2
  clear c2
  replace H := zdK.mp H
  obtain ⟨t734, A30, H⟩ := H
  replace H : (some t734) = some r := H
  have A3 := za.mk A30
  clear A30
  obtain rfl := Option.some.inj H
  go_enter Tryz.func30, Tryz.ntmps30
  go_wp2_with (first | ((with_reducible refine zr (f := 72) rfl ?_); refine zL (some 11) rfl rfl Tryz.func72 (by kernel_rfl) rfl #[.int .u64 (IntKind.u64.wrap ((IntKind.u64.wrap ((IntKind.u64.wrap (wrap64 (-(wrap64 (a0 + 1))))) * 2)) + 1))] rfl (by (try simp only [zdJ, List.map_cons, List.map_nil]); first | done | rfl | (simp only [List.length_drop, List.length_take]; rfl)) ?_; (with_reducible refine (zO.calls k (IntKind.u64.wrap ((IntKind.u64.wrap ((IntKind.u64.wrap (wrap64 (-(wrap64 (a0 + 1))))) * 2)) + 1)) t734 _ A3.out).mono ?_); rintro e w4 ⟨rfl, hb⟩; refine ⟨_, rfl, ?_⟩; have n0_ := za.mk (zp (by repeat (first | (with_reducible first | exact HB.out | apply zc | apply zb | apply zd) | exact HB.out)) hb); clear HB; have HB := n0_; clear n0_; (try clear hb); (try clear hb2); (try clear hk); (try clear hi)))
  go_ret
  exact ⟨by first | rfl | (simp [zl, zk] <;> rfl) | (simp [*, zl, zk] <;> rfl), by repeat (first | (with_reducible first | exact HB.out | apply zc | apply zb | apply zd) | exact HB.out)⟩
 ·rw [if_neg c2] at H
  have c2b0 : decide (a0 < 0) = false := decide_eq_false c2
  clear c2
  replace H := zdK.mp H
  obtain ⟨t735, A50, H⟩ := H
  replace H : (some t735) = some r := H
  have A5 := za.mk A50
  clear A50
  obtain rfl := Option.some.inj H
  go_enter Tryz.func30, Tryz.ntmps30
  go_wp2_with (first | ((with_reducible refine zr (f := 72) rfl ?_); refine zL (some 15) rfl rfl Tryz.func72 (by kernel_rfl) rfl #[.int .u64 (IntKind.u64.wrap ((IntKind.u64.wrap (a0)) * 2))] rfl (by (try simp only [zdJ, List.map_cons, List.map_nil]); first | done | rfl | (simp only [List.length_drop, List.length_take]; rfl)) ?_; (with_reducible refine (zO.calls k (IntKind.u64.wrap ((IntKind.u64.wrap (a0)) * 2)) t735 _ A5.out).mono ?_); rintro e w6 ⟨rfl, hb⟩; refine ⟨_, rfl, ?_⟩; have n0_ := za.mk (zp (by repeat (first | (with_reducible first | exact HB.out | apply zc | apply zb | apply zd) | exact HB.out)) hb); clear HB; have HB := n0_; clear n0_; (try clear hb); (try clear hb2); (try clear hk); (try clear hi)))
  go_ret
  exact ⟨by first | rfl | (simp [zl, zk] <;> rfl) | (simp [*, zl, zk] <;> rfl), by repeat (first | (with_reducible first | exact HB.out | apply zc | apply zb | apply zd) | exact HB.out)⟩
theorem jC (n : Int) (h0 : -9223372036854775808 ≤ n) (h1 : n ≤ 9223372036854775807) : yf.f n = some (yn n) := by
 unfold yf.f
 rw [if_pos ⟨h0, h1⟩]
theorem zbv (c : Nat) (l : List Nat) : jj (c :: l) = (c : Int) :: jj l := rfl
theorem Vl (f : Nat) (hf : f ≤ 20) : ∀ (k u : Nat), f ≤ k → u < 18446744073709551616 → u < 128 ^ (f + 1) → zO.f (k + 1) (u : Int) = some (strOfNums (jj (jN (f + 1) u))) := by
 induction f with
 | zero =>
  intro k u hk h64 hu
  have hz : u < 128 := by simpa using hu
  have e : (u : Int) % 256 = (u : Int) := by omega
  rw [zO.f, jN, if_pos (by omega), if_pos hz, e]
  rfl
 | succ f ih =>
  intro k u hk h64 hu
  obtain ⟨k, rfl⟩ : ∃ m, k = m + 1 := ⟨k - 1, by omega⟩
  rw [zO.f, jN]
  by_cases h : u < 128
  ·rw [if_pos (by omega), if_pos h]
   have e : (u : Int) % 256 = (u : Int) := by omega
   rw [e]
   rfl
  ·have e1 : IntKind.u64.wrap (Int.tdiv (u : Int) 128) = ((u / 128 : Nat) : Int) := by
    rw [Int.tdiv_eq_ediv_of_nonneg (by omega), qm]
    omega
   have e2 : IntKind.u64.wrap (Int.tmod (u : Int) 128 + 128) % 256 = ((u % 128 + 128 : Nat) : Int) := by
    rw [Int.tmod_eq_emod_of_nonneg (by omega), qm]
    omega
   have hd : u / 128 < 128 ^ (f + 1) := by
    rw [Nat.pow_succ] at hu
    exact Nat.div_lt_of_lt_mul (by rw [Nat.mul_comm]; exact hu)
   have hi := ih (by omega) k (u / 128) (by omega) (by omega) hd
   have hl := XB (f + 1) (u / 128)
   rw [if_neg (by omega), if_neg h, e1, e2]
   rw [zC rfl, zC hi, if_pos]
   ·rw [zbv, ← vz]
    rfl
   ·rw [strOfNums_size, strOfNums_size, jj, List.length_map]
    simp only [List.length_cons, List.length_nil]
    omega
theorem Qv (n : Int) (h0 : -9223372036854775808 ≤ n) (h1 : n ≤ 9223372036854775807) (k : Nat) (hk : 10 ≤ k) : xZ.f k n = some (yn n) := by
 obtain ⟨k, rfl⟩ : ∃ m, k = m + 1 := ⟨k - 1, by omega⟩
 have hz := zaK n h0 h1
 have e128 : (128 : Nat) ^ (9 + 1) = 1180591620717411303424 := by decide
 have hd := Vl 9 (by omega) k (zig n) (by omega) hz (by rw [e128]; omega)
 unfold xZ.f
 by_cases hn : n < 0
 ·have e : IntKind.u64.wrap ((IntKind.u64.wrap ((IntKind.u64.wrap (wrap64 (-(wrap64 (n + 1))))) * 2)) + 1) = ((zig n : Nat) : Int) := by
   rw [xo (i := n + 1) (by omega) (by omega), xo (by omega) (by omega), qm, qm, qm, zig, if_pos hn]
   omega
  rw [if_pos hn, e, zC hd]
  rfl
 ·rw [if_neg hn, VK n hn h1, zC hd]
  rfl
def jZ (s : ByteArray) : ByteArray × Int := if 4096 < s.size then (⟨#[]⟩, 4) else (yn (s.size : Int) ++ s, 0)
def jp {α : Type} (T : α → ByteArray × Int) : List α → ByteArray → ByteArray × Int
 | [], acc => (acc, 0)
 | x :: l, acc => if (T x).2 = 0 then jp T l (acc ++ (T x).1) else (⟨#[]⟩, (T x).2)
theorem jW (s : ByteArray) : (jZ s).1.size ≤ 4106 := by
 unfold jZ
 split
 ·exact Nat.zero_le _
 ·have := zE (s.size : Int)
  rw [ByteArray.size_append]
  omega
theorem Xj (s : ByteArray) (hs : s.size ≤ 140737488351232) : y9.f s = some (jZ s) := by
 unfold y9.f jZ
 by_cases h : 4096 < s.size
 ·rw [if_pos (by omega), if_pos h]
 ·have := zE (s.size : Int)
  rw [if_neg (by omega), if_neg h, zC (jC _ (by omega) (by omega)), if_pos (by omega)]
theorem X3 {α : Type} (T : α → Option (ByteArray × Int)) (R : α → ByteArray × Int) (M : Nat) (hM : M ≤ 100000) (l : List α) : ∀ acc : List Int, (∀ x ∈ l, T x = some (R x) ∧ (R x).1.size ≤ M) → acc.length + M * l.length ≤ 140737488355328 →
  jU T l acc = some (jp R l (strOfNums acc)) := by
 induction l with
 | nil => intro acc _ _; rfl
 | cons x l ih =>
  intro acc h hb
  obtain ⟨h1, h2⟩ := h x List.mem_cons_self
  rw [List.length_cons, Nat.mul_succ] at hb
  rw [jU, zC h1, jp]
  by_cases he : (R x).2 = 0
  ·rw [if_pos he, if_pos he, if_pos (by omega), ih _ (fun y hy => h y (List.mem_cons_of_mem _ hy)) (by rw [zdN, yy]; omega), vz, xc]
  ·rw [if_neg he, if_neg he]
def qd (l : List Int) : ByteArray × Int := if 256 < l.length then (⟨#[]⟩, 4) else jp (fun n => (yn n, 0)) l (yn (l.length : Int))
def vl (l : List ByteArray) : ByteArray × Int := if 256 < l.length then (⟨#[]⟩, 4) else jp jZ l (yn (l.length : Int))
theorem X9 {n : Int} (h : (Lit.int .i64 n).wf = true) : -9223372036854775808 ≤ n ∧ n ≤ 9223372036854775807 := by
 have m1 : IntKind.i64.min = -9223372036854775808 := rfl
 have m2 : IntKind.i64.max = 9223372036854775807 := rfl
 simp only [Lit.wf, Bool.and_eq_true, decide_eq_true_eq] at h
 omega
theorem JF (l : List Int) (h : ∀ n ∈ l, (Lit.int .i64 n).wf = true) : xK.f l = some (qd l) := by
 unfold xK.f qd
 by_cases hl : 256 < l.length
 ·rw [if_pos hl, if_pos hl]
 ·have := zE (l.length : Int)
  rw [if_neg hl, if_neg hl, zC (jC _ (by omega) (by omega)), X3 _ (fun n => (yn n, (0 : Int))) 10 (by omega) l _ (fun n hn => ?_) (by rw [yy]; omega), xc]
  have hb := X9 (h n hn)
  exact ⟨by simp only [jC n hb.1 hb.2, Option.map_some], zE n⟩
theorem V0 (l : List ByteArray) (h : ∀ s ∈ l, s.size ≤ 140737488351232) : qK.f l = some (vl l) := by
 unfold qK.f vl
 by_cases hl : 256 < l.length
 ·rw [if_pos hl, if_pos hl]
 ·have := zE (l.length : Int)
  rw [if_neg hl, if_neg hl, zC (jC _ (by omega) (by omega)), X3 _ jZ 4106 (by omega) l _ (fun s hs => ⟨Xj s (h s hs), jW s⟩) (by rw [yy]; omega), xc]
def yi.f (a0 : Int) (a1 : Int) (a2 : Int) : Option (Bool) := if a0 ≥ a1 then (some (decide (a0 ≤ a2))) else (some false)
theorem yi.calls (a0 : Int) (a1 : Int) (a2 : Int) (r : Bool) (w : World) (h : yi.f a0 a1 a2 = some r) :
  Calls Tryz.prog 170 #[.int .i64 a0, .int .i64 a1, .int .i64 a2] w fun e w' => e = .returned (.bool r) ∧ zi w w' := by
 have H : (if a0 ≥ a1 then (some (decide (a0 ≤ a2))) else (some false)) = some r := h
 clear h
 by_cases c4 : a0 ≥ a1
 ·rw [if_pos c4] at H
  have c4b0 : decide (a1 ≤ a0) = true := decide_eq_true c4
  clear c4
  obtain rfl := Option.some.inj H
  go_enter Tryz.func170, Tryz.ntmps170
  go_wp2
  go_ret
  exact ⟨by first | rfl | (simp; done) | (simp [*]; done), by repeat (first | exact zi.refl _ | apply zi.step)⟩
 ·rw [if_neg c4] at H
  have c4b0 : decide (a1 ≤ a0) = false := decide_eq_false c4
  clear c4
  obtain rfl := Option.some.inj H
  go_enter Tryz.func170, Tryz.ntmps170
  go_wp2
  go_ret
  exact ⟨by first | rfl | (simp; done) | (simp [*]; done), by repeat (first | exact zi.refl _ | apply zi.step)⟩
def vM.f (k : Nat) (a0 : Int) (a1 : Int) (a2 : ByteArray) : Option (Bool) := (yi.f a0 0 5).bind fun t316 => (if t316 = true then ((yi.f a1 1 1099511627776).bind fun t317 => (if t317 = true then ((yR.f k a2).bind fun t318 => (some t318)) else (some false))) else (some false))
theorem vM.calls (k : Nat) (a0 : Int) (a1 : Int) (a2 : ByteArray) (r : Bool) (w : World) (h : vM.f k a0 a1 a2 = some r) :
  Calls Tryz.prog 169 #[.int .i64 a0, .int .i64 a1, .string a2] w fun e w' => e = .returned (.bool r) ∧ Below w.heap.size w w' := by
 have HB := za.mk (Below.refl w.heap.size w)
 have H : ((yi.f a0 0 5).bind fun t316 => (if t316 = true then ((yi.f a1 1 1099511627776).bind fun t317 => (if t317 = true then ((yR.f k a2).bind fun t318 => (some t318)) else (some false))) else (some false))) = some r := h
 clear h
 replace H := zdK.mp H
 obtain ⟨t316, A40, H⟩ := H
 replace H : (if t316 = true then ((yi.f a1 1 1099511627776).bind fun t317 => (if t317 = true then ((yR.f k a2).bind fun t318 => (some t318)) else (some false))) else (some false)) = some r := H
 have A4 := za.mk A40
 clear A40
 by_cases c5 : t316 = true
 ·subst c5
  have H1 : ((yi.f a1 1 1099511627776).bind fun t317 => (if t317 = true then ((yR.f k a2).bind fun t318 => (some t318)) else (some false))) = some r := by rw [if_pos rfl] at H; exact H
  clear H
  have H := H1
  clear H1
  replace H := zdK.mp H
  obtain ⟨t317, A60, H⟩ := H
  replace H : (if t317 = true then ((yR.f k a2).bind fun t318 => (some t318)) else (some false)) = some r := H
  have A6 := za.mk A60
  clear A60
  by_cases c7 : t317 = true
  ·subst c7
   have H1 : ((yR.f k a2).bind fun t318 => (some t318)) = some r := by rw [if_pos rfl] at H; exact H
   clear H
   have H := H1
   clear H1
   replace H := zdK.mp H
   obtain ⟨t318, A80, H⟩ := H
   replace H : (some t318) = some r := H
   have A8 := za.mk A80
   clear A80
   obtain rfl := Option.some.inj H
   go_enter Tryz.func169, Tryz.ntmps169
   go_wp2_with (first | ((with_reducible refine zr (f := 170) rfl ?_); refine zL (some 8) rfl rfl Tryz.func170 (by kernel_rfl) rfl #[.int .i64 a0, .int .i64 0, .int .i64 5] rfl (by (try simp only [zdJ, List.map_cons, List.map_nil]); first | done | rfl | (simp only [List.length_drop, List.length_take]; rfl)) ?_; (with_reducible refine (yi.calls a0 0 5 true _ A4.out).mono ?_); rintro e w' ⟨rfl, ⟨nd, rfl⟩⟩; refine ⟨_, rfl, ?_⟩) | (go_at_call 170; (with_reducible refine (yi.calls a1 1 1099511627776 true _ A6.out).mono ?_); rintro e w' ⟨rfl, ⟨nd, rfl⟩⟩) | (go_at_call 166; (with_reducible refine (yR.calls k a2 t318 _ A8.out).mono ?_); rintro e w9 ⟨rfl, hb⟩; have n0_ := za.mk (zp (by repeat (first | (with_reducible first | exact HB.out | apply zc | apply zb | apply zd) | exact HB.out)) hb); clear HB; have HB := n0_; clear n0_; (try clear hb); (try clear hb2); (try clear hk); (try clear hi)))
   go_ret
   exact ⟨by first | rfl | (simp [zl, zk] <;> rfl) | (simp [*, zl, zk] <;> rfl), by repeat (first | (with_reducible first | exact HB.out | apply zc | apply zb | apply zd) | exact HB.out)⟩
  ·replace c7 := zdM.mpr c7
   subst c7
   have H1 : (some false) = some r := by rw [if_neg (show ¬ (false = true) by decide)] at H; exact H
   clear H
   have H := H1
   clear H1
   obtain rfl := Option.some.inj H
   go_enter Tryz.func169, Tryz.ntmps169
   go_wp2_with (first | ((with_reducible refine zr (f := 170) rfl ?_); refine zL (some 8) rfl rfl Tryz.func170 (by kernel_rfl) rfl #[.int .i64 a0, .int .i64 0, .int .i64 5] rfl (by (try simp only [zdJ, List.map_cons, List.map_nil]); first | done | rfl | (simp only [List.length_drop, List.length_take]; rfl)) ?_; (with_reducible refine (yi.calls a0 0 5 true _ A4.out).mono ?_); rintro e w' ⟨rfl, ⟨nd, rfl⟩⟩; refine ⟨_, rfl, ?_⟩) | (go_at_call 170; (with_reducible refine (yi.calls a1 1 1099511627776 false _ A6.out).mono ?_); rintro e w' ⟨rfl, ⟨nd, rfl⟩⟩))
   go_ret
   exact ⟨by first | rfl | (simp [zl, zk] <;> rfl) | (simp [*, zl, zk] <;> rfl), by repeat (first | (with_reducible first | exact HB.out | apply zc | apply zb | apply zd) | exact HB.out)⟩
 ·replace c5 := zdM.mpr c5
  subst c5
  have H1 : (some false) = some r := by rw [if_neg (show ¬ (false = true) by decide)] at H; exact H
  clear H
  have H := H1
  clear H1
  obtain rfl := Option.some.inj H
  go_enter Tryz.func169, Tryz.ntmps169
  go_wp2_with (first | ((with_reducible refine zr (f := 170) rfl ?_); refine zL (some 8) rfl rfl Tryz.func170 (by kernel_rfl) rfl #[.int .i64 a0, .int .i64 0, .int .i64 5] rfl (by (try simp only [zdJ, List.map_cons, List.map_nil]); first | done | rfl | (simp only [List.length_drop, List.length_take]; rfl)) ?_; (with_reducible refine (yi.calls a0 0 5 false _ A4.out).mono ?_); rintro e w' ⟨rfl, ⟨nd, rfl⟩⟩; refine ⟨_, rfl, ?_⟩))
  go_ret
  exact ⟨by first | rfl | (simp [zl, zk] <;> rfl) | (simp [*, zl, zk] <;> rfl), by repeat (first | (with_reducible first | exact HB.out | apply zc | apply zb | apply zd) | exact HB.out)⟩
def zW.l0 : Nat → List Int → Int → List Int → Int → Int → Option (Bool)
 | 0, _, _, _, _, _ => none
 | k + 1, x0, x1, x7, x8, x9 => if x9 < x8 then (if 0 ≤ x9 then (if x9 < (x7.length : Int) then ((yi.f (rd x7 x9) (-1099511627776) 1099511627776).bind fun t320 => (if t320 = true then (zW.l0 k x0 x1 x7 x8 (wrap64 (x9 + 1))) else (some false))) else (none)) else (none)) else (some (decide ((x0.length : Int) ≤ x1)))
def zW.f (k : Nat) (l0 : List Int) (a1 : Int) : Option (Bool) := zW.l0 k l0 a1 l0 (l0.length : Int) 0
theorem zW.mono_l : ∀ k, (∀ y0 y1 y2 y3 y4, LeO (zW.l0 k y0 y1 y2 y3 y4) (zW.l0 (k + 1) y0 y1 y2 y3 y4))
 | 0 => fun _ _ _ _ _ r h => by simp [zW.l0] at h
 | k + 1 => by
  have ih0 := zW.mono_l k
  ·intro y0 y1 y2 y3 y4
   unfold zW.l0
   repeat' first
   | (with_reducible exact ih0 _ _ _ _ _)
   | (with_reducible exact LeO.refl _)
   | (with_reducible exact LeO.none _)
   | (with_reducible refine LeO.ite ?_ ?_)
   | (with_reducible refine LeO.bind ?_ (fun _ => ?_))
   | exact ih0 _ _ _ _ _
   | exact LeO.none _
   | refine LeO.ite ?_ ?_
   | refine LeO.bind ?_ (fun _ => ?_)
theorem zW.mono : ∀ a0 a1 k, LeO (zW.f k a0 a1) (zW.f (k + 1) a0 a1) := by
 intro a0 a1 k
 have ih0 := zW.mono_l k
 unfold zW.f
 repeat' first
   | (with_reducible exact ih0 _ _ _ _ _)
   | (with_reducible exact LeO.refl _)
   | (with_reducible exact LeO.none _)
   | (with_reducible refine LeO.ite ?_ ?_)
   | (with_reducible refine LeO.bind ?_ (fun _ => ?_))
   | exact ih0 _ _ _ _ _
   | exact LeO.none _
   | refine LeO.ite ?_ ?_
   | refine LeO.bind ?_ (fun _ => ?_)
theorem zW.calls (k : Nat) (A0 : Option Addr) (c0 : Nat) (l0 : List Int) (a1 : Int) (r : Bool) (w : World) (hr0 : Kd.C (Kd.int .i64) w A0 l0.length l0) (hc0 : l0.length ≤ c0) (h : zW.f k l0 a1 = some r) :
  Calls Tryz.prog 171 #[.slice A0 l0.length c0, .int .i64 a1] w fun e w' => e = .returned (.bool r) ∧ zi w w' := by
 have HR0 := za.mk hr0
 have HC0 := za.mk hc0
 clear hr0 hc0
 have H : (zW.l0 k l0 a1 l0 (l0.length : Int) 0) = some r := h
 clear h
 have H' := za.mk H
 clear H
 go_enter Tryz.func171, Tryz.ntmps171
 go_wp2
 go_loopg [9] k (fun kq v9 w' => ∃ (x9_1 : Int), v9 = .int .i64 x9_1 ∧ za (zW.l0 kq l0 a1 l0 (l0.length : Int) x9_1 = some r) ∧ za (kq ≤ k) ∧ zi w w')
 case atStart => exact ⟨(0), (by first | rfl | (simp; done) | (simp [*]; done)), H', ⟨Nat.le_refl _⟩, by repeat (first | exact zi.refl _ | apply zi.step)⟩
 case round =>
  clear H'
  try clear c1
  try clear p2
  obtain ⟨x9_1, rfl, HA, HK1, ⟨m1, rfl⟩⟩ := hrel
  cases gk with
  | zero => exact absurd HA.out (by simp [zW.l0])
  | succ k1 =>
   have H := HA.out
   clear HA
   simp only [zW.l0] at H
   by_cases c3 : x9_1 < (l0.length : Int)
   ·rw [if_pos c3] at H
    have c3b0 : decide (x9_1 < (l0.length : Int)) = true := decide_eq_true c3
    clear c3
    by_cases c4 : 0 ≤ x9_1
    ·rw [if_pos c4] at H
     have c4b0 : decide (0 ≤ x9_1) = true := decide_eq_true c4
     clear c4
     by_cases c5 : x9_1 < (l0.length : Int)
     ·rw [if_pos c5] at H
      have c5b0 : decide (x9_1 < (l0.length : Int)) = true := decide_eq_true c5
      clear c5
      replace H := zdK.mp H
      obtain ⟨t320, A60, H⟩ := H
      replace H : (if t320 = true then (zW.l0 k1 l0 a1 l0 (l0.length : Int) (wrap64 (x9_1 + 1))) else (some false)) = some r := H
      have A6 := za.mk A60
      clear A60
      by_cases c7 : t320 = true
      ·subst c7
       have H1 : (zW.l0 k1 l0 a1 l0 (l0.length : Int) (wrap64 (x9_1 + 1))) = some r := by rw [if_pos rfl] at H; exact H
       clear H
       have H := H1
       clear H1
       have H' := za.mk H
       clear H
       have p319 : 0 ≤ (x9_1 : Int) := of_decide_eq_true (by first | (with_reducible assumption) | assumption)
       have q319 : x9_1 < (l0.length : Int) := of_decide_eq_true (by first | (with_reducible assumption) | assumption)
       obtain ⟨ad319, e319, hx319_0⟩ := Kd.at_int HR0.out x9_1 p319 q319
       cases e319
       replace p319 := eq_true p319
       replace q319 := eq_true q319
       go_wp2_with (first | ((with_reducible refine zr (f := 170) rfl ?_); refine zL (some 14) rfl rfl Tryz.func170 (by kernel_rfl) rfl #[.int .i64 (rd l0 x9_1), .int .i64 (-1099511627776), .int .i64 1099511627776] rfl (by (try simp only [zdJ, List.map_cons, List.map_nil]); first | done | rfl | (simp only [List.length_drop, List.length_take]; rfl)) ?_; (with_reducible refine (yi.calls (rd l0 x9_1) (-1099511627776) 1099511627776 true _ A6.out).mono ?_); rintro e w' ⟨rfl, ⟨nd, rfl⟩⟩; refine ⟨_, rfl, ?_⟩))
       go_roundg k1
       case measure => have := HK1.out; omega
       case rel => exact ⟨(wrap64 (x9_1 + 1)), (by first | rfl | (simp; done) | (simp [*]; done)), H', ⟨by have := HK1.out; omega⟩, by repeat (first | exact zi.refl _ | apply zi.step)⟩
      ·replace c7 := zdM.mpr c7
       subst c7
       have H1 : (some false) = some r := by rw [if_neg (show ¬ (false = true) by decide)] at H; exact H
       clear H
       have H := H1
       clear H1
       obtain rfl := Option.some.inj H
       have p319 : 0 ≤ (x9_1 : Int) := of_decide_eq_true (by first | (with_reducible assumption) | assumption)
       have q319 : x9_1 < (l0.length : Int) := of_decide_eq_true (by first | (with_reducible assumption) | assumption)
       obtain ⟨ad319, e319, hx319_0⟩ := Kd.at_int HR0.out x9_1 p319 q319
       cases e319
       replace p319 := eq_true p319
       replace q319 := eq_true q319
       go_wp2_with (first | ((with_reducible refine zr (f := 170) rfl ?_); refine zL (some 14) rfl rfl Tryz.func170 (by kernel_rfl) rfl #[.int .i64 (rd l0 x9_1), .int .i64 (-1099511627776), .int .i64 1099511627776] rfl (by (try simp only [zdJ, List.map_cons, List.map_nil]); first | done | rfl | (simp only [List.length_drop, List.length_take]; rfl)) ?_; (with_reducible refine (yi.calls (rd l0 x9_1) (-1099511627776) 1099511627776 false _ A6.out).mono ?_); rintro e w' ⟨rfl, ⟨nd, rfl⟩⟩; refine ⟨_, rfl, ?_⟩))
       go_ret
       exact ⟨by first | rfl | (simp; done) | (simp [*]; done), by repeat (first | exact zi.refl _ | apply zi.step)⟩
     ·rw [if_neg c5] at H
      exact absurd H (by simp)
    ·rw [if_neg c4] at H
     exact absurd H (by simp)
   ·rw [if_neg c3] at H
    have c3b0 : decide (x9_1 < (l0.length : Int)) = false := decide_eq_false c3
    clear c3
    obtain rfl := Option.some.inj H
    go_wp2
    go_ret
    exact ⟨by first | rfl | (simp; done) | (simp [*]; done), by repeat (first | exact zi.refl _ | apply zi.step)⟩
def yI.f (k : Nat) (a0_0 : Int) (l0_1 : List Int) : Option (Bool) := (yi.f a0_0 0 7).bind fun t322 => (if t322 = true then ((zW.f k l0_1 6).bind fun t323 => (some t323)) else (some false))
theorem yI.mono : ∀ a0 a1 k, LeO (yI.f k a0 a1) (yI.f (k + 1) a0 a1) := by
 intro a0 a1 k
 unfold yI.f
 repeat' first
   | (with_reducible exact zW.mono _ _ _)
   | (with_reducible exact LeO.refl _)
   | (with_reducible exact LeO.none _)
   | (with_reducible refine LeO.ite ?_ ?_)
   | (with_reducible refine LeO.bind ?_ (fun _ => ?_))
   | exact zW.mono _ _ _
   | exact LeO.none _
   | refine LeO.ite ?_ ?_
   | refine LeO.bind ?_ (fun _ => ?_)
theorem yI.calls (k : Nat) (a0_0 : Int) (A0_1 : Option Addr) (c0_1 : Nat) (l0_1 : List Int) (r : Bool) (w : World) (hr0_1 : Kd.C (Kd.int .i64) w A0_1 l0_1.length l0_1) (hc0_1 : l0_1.length ≤ c0_1) (h : yI.f k a0_0 l0_1 = some r) :
  Calls Tryz.prog 172 #[.agg #[.int .i64 a0_0, .slice A0_1 l0_1.length c0_1]] w fun e w' => e = .returned (.bool r) ∧ Below w.heap.size w w' := by
 have hu108 := Tryz.underlying108
 have HR0_1 := za.mk hr0_1
 have HC0_1 := za.mk hc0_1
 clear hr0_1 hc0_1
 have HB := za.mk (Below.refl w.heap.size w)
 have H : ((yi.f a0_0 0 7).bind fun t322 => (if t322 = true then ((zW.f k l0_1 6).bind fun t323 => (some t323)) else (some false))) = some r := h
 clear h
 replace H := zdK.mp H
 obtain ⟨t322, A20, H⟩ := H
 replace H : (if t322 = true then ((zW.f k l0_1 6).bind fun t323 => (some t323)) else (some false)) = some r := H
 have A2 := za.mk A20
 clear A20
 by_cases c3 : t322 = true
 ·subst c3
  have H1 : ((zW.f k l0_1 6).bind fun t323 => (some t323)) = some r := by rw [if_pos rfl] at H; exact H
  clear H
  have H := H1
  clear H1
  replace H := zdK.mp H
  obtain ⟨t323, A40, H⟩ := H
  replace H : (some t323) = some r := H
  have A4 := za.mk A40
  clear A40
  obtain rfl := Option.some.inj H
  go_enter Tryz.func172, Tryz.ntmps172
  go_wp2_with (first | ((with_reducible refine zN (N := 1) rfl ?_); refine yp ?hg (N := 1) ?hd (cs := #[.int .i64 a0_0, .slice A0_1 l0_1.length c0_1]) (t := 108) ?hr ?_; (case hd => rfl); (case hg => rfl); (case hr => first | (go_simp; done) | (go_simp; rfl)); intro gb321 hg w5 hbox hb; have n0_ := za.mk (zp (by repeat (first | (with_reducible first | exact HB.out | apply zc | apply zb | apply zd) | exact HB.out)) hb); have n1_ := za.mk (hbox); have n2_ := za.mk ((by rw [hg]; exact (zF (by repeat (first | (with_reducible first | exact HB.out | apply zc | apply zb | apply zd) | exact HB.out))) : w.heap.size ≤ gb321)); have n3_ := za.mk ((by rw [hg]; exact (zF (by repeat (first | (with_reducible first | exact HB.out | apply zc | apply zb | apply zd) | exact HB.out))) : w.heap.size ≤ gb321)); clear HB; have HB := n0_; have BK321 := n1_; have GW321 := n2_; have GE321 := n3_; clear n0_ n1_ n2_ n3_; clear hb hbox hg; have hcz6_0 : w5.cell? ⟨gb321, 0, none⟩ = some (.int .i64 a0_0) := (zm BK321.out 0).trans rfl; have hcz6_1 : w5.cell? ⟨gb321, 1, none⟩ = some (.slice A0_1 l0_1.length c0_1) := (zm BK321.out 1).trans rfl; have hfz6_0 := zn BK321.out 0; have hfz6_1 := zn BK321.out 1) | ((with_reducible refine zr (f := 170) rfl ?_); refine zL (some 5) rfl rfl Tryz.func170 (by kernel_rfl) rfl #[.int .i64 a0_0, .int .i64 0, .int .i64 7] rfl (by (try simp only [zdJ, List.map_cons, List.map_nil]); first | done | rfl | (simp only [List.length_drop, List.length_take]; rfl)) ?_; (with_reducible refine (yi.calls a0_0 0 7 true _ A2.out).mono ?_); rintro e w' ⟨rfl, ⟨nd, rfl⟩⟩; refine ⟨_, rfl, ?_⟩) | (go_at_call 171; (with_reducible refine (zW.calls k _ _ l0_1 6 t323 _ ?side1 ?side2 A4.out).mono ?_); (case side1 => repeat (first | exact (Kd.C_below HR0_1.out (by repeat (first | (with_reducible first | exact HB.out | apply zc | apply zb | apply zd | refine zv ?_ GE321.out) | exact HB.out))) | (with_reducible refine Kd.C_alloc ?_ _) | (with_reducible refine Kd.C_drewN ?_ _) | (with_reducible refine Kd.C_drew ?_))); (case side2 => exact HC0_1.out); rintro e w' ⟨rfl, ⟨nd, rfl⟩⟩))
  go_ret
  exact ⟨by first | rfl | (simp [zl, zk] <;> rfl) | (simp [*, zl, zk] <;> rfl), by repeat (first | (with_reducible first | exact HB.out | apply zc | apply zb | apply zd | refine zv ?_ GE321.out) | exact HB.out)⟩
 ·replace c3 := zdM.mpr c3
  subst c3
  have H1 : (some false) = some r := by rw [if_neg (show ¬ (false = true) by decide)] at H; exact H
  clear H
  have H := H1
  clear H1
  obtain rfl := Option.some.inj H
  go_enter Tryz.func172, Tryz.ntmps172
  go_wp2_with (first | ((with_reducible refine zN (N := 1) rfl ?_); refine yp ?hg (N := 1) ?hd (cs := #[.int .i64 a0_0, .slice A0_1 l0_1.length c0_1]) (t := 108) ?hr ?_; (case hd => rfl); (case hg => rfl); (case hr => first | (go_simp; done) | (go_simp; rfl)); intro gb321 hg w7 hbox hb; have n0_ := za.mk (zp (by repeat (first | (with_reducible first | exact HB.out | apply zc | apply zb | apply zd) | exact HB.out)) hb); have n1_ := za.mk (hbox); have n2_ := za.mk ((by rw [hg]; exact (zF (by repeat (first | (with_reducible first | exact HB.out | apply zc | apply zb | apply zd) | exact HB.out))) : w.heap.size ≤ gb321)); have n3_ := za.mk ((by rw [hg]; exact (zF (by repeat (first | (with_reducible first | exact HB.out | apply zc | apply zb | apply zd) | exact HB.out))) : w.heap.size ≤ gb321)); clear HB; have HB := n0_; have BK321 := n1_; have GW321 := n2_; have GE321 := n3_; clear n0_ n1_ n2_ n3_; clear hb hbox hg; have hcz8_0 : w7.cell? ⟨gb321, 0, none⟩ = some (.int .i64 a0_0) := (zm BK321.out 0).trans rfl; have hcz8_1 : w7.cell? ⟨gb321, 1, none⟩ = some (.slice A0_1 l0_1.length c0_1) := (zm BK321.out 1).trans rfl; have hfz8_0 := zn BK321.out 0; have hfz8_1 := zn BK321.out 1) | ((with_reducible refine zr (f := 170) rfl ?_); refine zL (some 5) rfl rfl Tryz.func170 (by kernel_rfl) rfl #[.int .i64 a0_0, .int .i64 0, .int .i64 7] rfl (by (try simp only [zdJ, List.map_cons, List.map_nil]); first | done | rfl | (simp only [List.length_drop, List.length_take]; rfl)) ?_; (with_reducible refine (yi.calls a0_0 0 7 false _ A2.out).mono ?_); rintro e w' ⟨rfl, ⟨nd, rfl⟩⟩; refine ⟨_, rfl, ?_⟩))
  go_ret
  exact ⟨by first | rfl | (simp [zl, zk] <;> rfl) | (simp [*, zl, zk] <;> rfl), by repeat (first | (with_reducible first | exact HB.out | apply zc | apply zb | apply zd | refine zv ?_ GE321.out) | exact HB.out)⟩
def vq.f (k : Nat) (a0_0 : Int) (a0_1 : Int) (l0_2 : List Int) : Option (Bool) := (yI.f k a0_0 l0_2).bind fun t344 => (if t344 = true then ((yi.f a0_1 0 1099511627776).bind fun t345 => (some t345)) else (some false))
theorem vq.calls (k : Nat) (a0_0 : Int) (a0_1 : Int) (A0_2 : Option Addr) (c0_2 : Nat) (l0_2 : List Int) (r : Bool) (w : World) (hr0_2 : Kd.C (Kd.int .i64) w A0_2 l0_2.length l0_2) (hc0_2 : l0_2.length ≤ c0_2) (h : vq.f k a0_0 a0_1 l0_2 = some r) :
  Calls Tryz.prog 173 #[.agg #[.int .i64 a0_0, .int .i64 a0_1, .slice A0_2 l0_2.length c0_2]] w fun e w' => e = .returned (.bool r) ∧ Below w.heap.size w w' := by
 have hu84 := Tryz.underlying84
 have hu108 := Tryz.underlying108
 have HR0_2 := za.mk hr0_2
 have HC0_2 := za.mk hc0_2
 clear hr0_2 hc0_2
 have HB := za.mk (Below.refl w.heap.size w)
 have H : ((yI.f k a0_0 l0_2).bind fun t344 => (if t344 = true then ((yi.f a0_1 0 1099511627776).bind fun t345 => (some t345)) else (some false))) = some r := h
 clear h
 replace H := zdK.mp H
 obtain ⟨t344, A20, H⟩ := H
 replace H : (if t344 = true then ((yi.f a0_1 0 1099511627776).bind fun t345 => (some t345)) else (some false)) = some r := H
 have A2 := za.mk A20
 clear A20
 by_cases c3 : t344 = true
 ·subst c3
  have H1 : ((yi.f a0_1 0 1099511627776).bind fun t345 => (some t345)) = some r := by rw [if_pos rfl] at H; exact H
  clear H
  have H := H1
  clear H1
  replace H := zdK.mp H
  obtain ⟨t345, A40, H⟩ := H
  replace H : (some t345) = some r := H
  have A4 := za.mk A40
  clear A40
  obtain rfl := Option.some.inj H
  go_enter Tryz.func173, Tryz.ntmps173
  go_wp2_with (first | ((with_reducible refine zN (N := 1) rfl ?_); refine yp ?hg (N := 1) ?hd (cs := #[.int .i64 a0_0, .int .i64 a0_1, .slice A0_2 l0_2.length c0_2]) (t := 84) ?hr ?_; (case hd => rfl); (case hg => rfl); (case hr => first | (go_simp; done) | (go_simp; rfl)); intro gb343 hg w5 hbox hb; have n0_ := za.mk (zp (by repeat (first | (with_reducible first | exact HB.out | apply zc | apply zb | apply zd) | exact HB.out)) hb); have n1_ := za.mk (hbox); have n2_ := za.mk ((by rw [hg]; exact (zF (by repeat (first | (with_reducible first | exact HB.out | apply zc | apply zb | apply zd) | exact HB.out))) : w.heap.size ≤ gb343)); have n3_ := za.mk ((by rw [hg]; exact (zF (by repeat (first | (with_reducible first | exact HB.out | apply zc | apply zb | apply zd) | exact HB.out))) : w.heap.size ≤ gb343)); clear HB; have HB := n0_; have BK343 := n1_; have GW343 := n2_; have GE343 := n3_; clear n0_ n1_ n2_ n3_; clear hb hbox hg; have hcz6_0 : w5.cell? ⟨gb343, 0, none⟩ = some (.int .i64 a0_0) := (zm BK343.out 0).trans rfl; have hcz6_1 : w5.cell? ⟨gb343, 1, none⟩ = some (.int .i64 a0_1) := (zm BK343.out 1).trans rfl; have hcz6_2 : w5.cell? ⟨gb343, 2, none⟩ = some (.slice A0_2 l0_2.length c0_2) := (zm BK343.out 2).trans rfl; have hfz6_0 := zn BK343.out 0; have hfz6_1 := zn BK343.out 1; have hfz6_2 := zn BK343.out 2) | ((with_reducible refine zr (f := 172) rfl ?_); refine zL (some 8) rfl rfl Tryz.func172 (by kernel_rfl) rfl #[.agg #[.int .i64 a0_0, .slice A0_2 l0_2.length c0_2]] rfl (by (try simp only [zdJ, List.map_cons, List.map_nil]); first | done | rfl | (simp only [List.length_drop, List.length_take]; rfl)) ?_; (with_reducible refine (yI.calls k a0_0 _ _ l0_2 true _ ?side1 ?side2 A2.out).mono ?_); (case side1 => repeat (first | exact (Kd.C_below HR0_2.out HB.out) | (with_reducible refine Kd.C_alloc ?_ _) | (with_reducible refine Kd.C_drewN ?_ _) | (with_reducible refine Kd.C_drew ?_))); (case side2 => exact HC0_2.out); rintro e w7 ⟨rfl, hb⟩; refine ⟨_, rfl, ?_⟩; have n0_ := za.mk (zZ (g := gb343) (o := .cells #[.int .i64 a0_0, .int .i64 a0_1, .slice A0_2 l0_2.length c0_2] 84 (0, 0)) (by (with_reducible repeat (first | refine zS ?_ _ | refine zV ?_ | refine zR ?_ _)); exact BK343.out) hb); have n1_ := za.mk (zp (by repeat (first | (with_reducible first | exact HB.out | apply zc | apply zb | apply zd | refine zv ?_ GE343.out) | exact HB.out)) hb); clear BK343; clear HB; have BK343 := n0_; have HB := n1_; clear n0_ n1_; (try clear hb); (try clear hb2); (try clear hk); (try clear hi); have hcz8_0 : w7.cell? ⟨gb343, 0, none⟩ = some (.int .i64 a0_0) := (zm BK343.out 0).trans rfl; have hcz8_1 : w7.cell? ⟨gb343, 1, none⟩ = some (.int .i64 a0_1) := (zm BK343.out 1).trans rfl; have hcz8_2 : w7.cell? ⟨gb343, 2, none⟩ = some (.slice A0_2 l0_2.length c0_2) := (zm BK343.out 2).trans rfl; have hfz8_0 := zn BK343.out 0; have hfz8_1 := zn BK343.out 1; have hfz8_2 := zn BK343.out 2) | (go_at_call 170; (with_reducible refine (yi.calls a0_1 0 1099511627776 t345 _ A4.out).mono ?_); rintro e w' ⟨rfl, ⟨nd, rfl⟩⟩))
  go_ret
  exact ⟨by first | rfl | (simp [zl, zk] <;> rfl) | (simp [*, zl, zk] <;> rfl), by repeat (first | (with_reducible first | exact HB.out | apply zc | apply zb | apply zd | refine zv ?_ GE343.out) | exact HB.out)⟩
 ·replace c3 := zdM.mpr c3
  subst c3
  have H1 : (some false) = some r := by rw [if_neg (show ¬ (false = true) by decide)] at H; exact H
  clear H
  have H := H1
  clear H1
  obtain rfl := Option.some.inj H
  go_enter Tryz.func173, Tryz.ntmps173
  go_wp2_with (first | ((with_reducible refine zN (N := 1) rfl ?_); refine yp ?hg (N := 1) ?hd (cs := #[.int .i64 a0_0, .int .i64 a0_1, .slice A0_2 l0_2.length c0_2]) (t := 84) ?hr ?_; (case hd => rfl); (case hg => rfl); (case hr => first | (go_simp; done) | (go_simp; rfl)); intro gb343 hg w9 hbox hb; have n0_ := za.mk (zp (by repeat (first | (with_reducible first | exact HB.out | apply zc | apply zb | apply zd) | exact HB.out)) hb); have n1_ := za.mk (hbox); have n2_ := za.mk ((by rw [hg]; exact (zF (by repeat (first | (with_reducible first | exact HB.out | apply zc | apply zb | apply zd) | exact HB.out))) : w.heap.size ≤ gb343)); have n3_ := za.mk ((by rw [hg]; exact (zF (by repeat (first | (with_reducible first | exact HB.out | apply zc | apply zb | apply zd) | exact HB.out))) : w.heap.size ≤ gb343)); clear HB; have HB := n0_; have BK343 := n1_; have GW343 := n2_; have GE343 := n3_; clear n0_ n1_ n2_ n3_; clear hb hbox hg; have hcz10_0 : w9.cell? ⟨gb343, 0, none⟩ = some (.int .i64 a0_0) := (zm BK343.out 0).trans rfl; have hcz10_1 : w9.cell? ⟨gb343, 1, none⟩ = some (.int .i64 a0_1) := (zm BK343.out 1).trans rfl; have hcz10_2 : w9.cell? ⟨gb343, 2, none⟩ = some (.slice A0_2 l0_2.length c0_2) := (zm BK343.out 2).trans rfl; have hfz10_0 := zn BK343.out 0; have hfz10_1 := zn BK343.out 1; have hfz10_2 := zn BK343.out 2) | ((with_reducible refine zr (f := 172) rfl ?_); refine zL (some 8) rfl rfl Tryz.func172 (by kernel_rfl) rfl #[.agg #[.int .i64 a0_0, .slice A0_2 l0_2.length c0_2]] rfl (by (try simp only [zdJ, List.map_cons, List.map_nil]); first | done | rfl | (simp only [List.length_drop, List.length_take]; rfl)) ?_; (with_reducible refine (yI.calls k a0_0 _ _ l0_2 false _ ?side1 ?side2 A2.out).mono ?_); (case side1 => repeat (first | exact (Kd.C_below HR0_2.out HB.out) | (with_reducible refine Kd.C_alloc ?_ _) | (with_reducible refine Kd.C_drewN ?_ _) | (with_reducible refine Kd.C_drew ?_))); (case side2 => exact HC0_2.out); rintro e w11 ⟨rfl, hb⟩; refine ⟨_, rfl, ?_⟩; have n0_ := za.mk (zZ (g := gb343) (o := .cells #[.int .i64 a0_0, .int .i64 a0_1, .slice A0_2 l0_2.length c0_2] 84 (0, 0)) (by (with_reducible repeat (first | refine zS ?_ _ | refine zV ?_ | refine zR ?_ _)); exact BK343.out) hb); have n1_ := za.mk (zp (by repeat (first | (with_reducible first | exact HB.out | apply zc | apply zb | apply zd | refine zv ?_ GE343.out) | exact HB.out)) hb); clear BK343; clear HB; have BK343 := n0_; have HB := n1_; clear n0_ n1_; (try clear hb); (try clear hb2); (try clear hk); (try clear hi)))
  go_ret
  exact ⟨by first | rfl | (simp [zl, zk] <;> rfl) | (simp [*, zl, zk] <;> rfl), by repeat (first | (with_reducible first | exact HB.out | apply zc | apply zb | apply zd | refine zv ?_ GE343.out) | exact HB.out)⟩
def wiB (n a b : Int) : Bool := decide (a ≤ n ∧ n ≤ b)
theorem jB (n a b : Int) : yi.f n a b = some (wiB n a b) := by
 unfold yi.f wiB
 by_cases h : n ≥ a
 ·rw [if_pos h]
  exact congrArg some (decide_eq_decide.mpr ⟨fun h2 => ⟨h, h2⟩, fun h2 => h2.2⟩)
 ·rw [if_neg h, decide_eq_false (fun h2 => h h2.1)]
def vB (n : Int) : Bool := wiB n (-1099511627776) 1099511627776
def xB {α : Type} (P : α → Bool) (R : α → α → Bool) : Option α → List α → Bool
 | _, [] => true
 | none, x :: l => P x && xB P R (some x) l
 | some p, x :: l => P x && (R p x && xB P R (some x) l)
def vP {α : Type} (l : List α) (i : Nat) : Option α := if i = 0 then none else l[i - 1]?
theorem zar {α : Type} (l : List α) (i : Nat) (h : i < l.length) : vP l (i + 1) = some l[i] := by
 unfold vP
 rw [if_neg (by omega), Nat.add_sub_cancel]
 exact List.getElem?_eq_getElem h
theorem zat {α : Type} (l : List α) (i : Nat) (h : 0 < i) (h2 : i < l.length) : vP l i = some (l[i - 1]'(by omega)) := by
 unfold vP
 rw [if_neg (by omega)]
 exact List.getElem?_eq_getElem _
theorem vJ {α : Type} (l : List α) : vP l 0 = none := if_pos rfl
theorem zay (l : List Int) (hl : l.length ≤ 9223372036854775807) (m : Int) (d : Nat) : ∀ (k i : Nat), i + d = l.length → d + 1 ≤ k → zW.l0 k l m l (l.length : Int) (i : Int) = some ((l.drop i).all vB && decide ((l.length : Int) ≤ m)) := by
 induction d with
 | zero =>
  intro k i hi hk
  obtain ⟨k, rfl⟩ : ∃ k', k = k' + 1 := ⟨k - 1, by omega⟩
  rw [zW.l0, if_neg (by omega), List.drop_eq_nil_of_le (by omega)]
  rfl
 | succ d ih =>
  intro k i hi hk
  obtain ⟨k, rfl⟩ : ∃ k', k = k' + 1 := ⟨k - 1, by omega⟩
  have hs := ih k (i + 1) (by omega) (by omega)
  rw [zW.l0, if_pos (by omega), if_pos (by omega), if_pos (by omega), XS l i (by omega), zC (jB _ _ _), (List.drop_eq_getElem_cons (by omega) : l.drop i = l[i] :: l.drop (i + 1)), List.all_cons, z4 (by omega) (by omega)]
  show (if vB l[i] = true then _ else _) = _
  cases hb : vB l[i] with
  | true => rw [if_pos rfl, Bool.true_and]; exact hs
  | false => rw [if_neg (by decide), Bool.false_and, Bool.false_and]
def js (l : List Int) (m : Int) : Bool := l.all vB && decide ((l.length : Int) ≤ m)
theorem XC (l : List Int) (hl : l.length ≤ 9223372036854775807) (m : Int) (k : Nat) (hk : l.length + 1 ≤ k) : zW.f k l m = some (js l m) := by
 unfold zW.f js
 exact zay l hl m l.length k 0 (by omega) hk
def vX (c s : Int) (st : ByteArray) : Bool := wiB c 0 5 && (wiB s 1 1099511627776 && xq st)
theorem zbJ (c s : Int) (st : ByteArray) (k : Nat) (hk : 300 ≤ k) : vM.f k c s st = some (vX c s st) := by
 unfold vM.f vX
 rw [zC (jB _ _ _)]
 cases wiB c 0 5 with
 | false => rfl
 | true =>
  rw [if_pos rfl, zC (jB _ _ _), Bool.true_and]
  cases wiB s 1 1099511627776 with
  | false => rfl
  | true => rw [if_pos rfl, zC (XG st k hk), Bool.true_and]
def jo (c s : Int) (st : ByteArray) (r : Int) (l : List Int) (x : Int) : Bool := vX c s st && (wiB r 0 11 && (js l 4 && wiB x (-1) 1099511627776))
def evB (e : S108) : Bool := wiB e.f0 0 7 && js e.f1 6
theorem X1 (a : Int) (l : List Int) (hl : l.length ≤ 9223372036854775807) (k : Nat) (hk : l.length + 1 ≤ k) : yI.f k a l = some (wiB a 0 7 && js l 6) := by
 unfold yI.f
 rw [zC (jB _ _ _)]
 cases wiB a 0 7 with
 | false => rfl
 | true => rw [if_pos rfl, zC (XC l hl 6 k hk), Bool.true_and]
def ju (l : List S108) : Bool := l.all evB && decide ((l.length : Int) ≤ 3)
def Qs (s : S84) : Bool := wiB s.f0 0 7 && (js s.f2 6 && wiB s.f1 0 1099511627776)
theorem zak (a v : Int) (l : List Int) (hl : l.length ≤ 9223372036854775807) (k : Nat) (hk : l.length + 1 ≤ k) : vq.f k a v l = some (wiB a 0 7 && (js l 6 && wiB v 0 1099511627776)) := by
 unfold vq.f
 rw [zC (X1 a l hl k hk)]
 cases wiB a 0 7 with
 | false => rfl
 | true =>
  rw [Bool.true_and, Bool.true_and]
  cases js l 6 with
  | false => rfl
  | true => rw [if_pos rfl, zC (jB _ _ _), Bool.true_and]
def itB (x : S86) : Bool := xq x.f0 && Qs x.f1
def itR (p x : S86) : Bool := jR (bl p.f0) (bl x.f0)
def Yq (x : S77) : Bool := wiB x.f0 1 1099511627776 && wiB x.f1 0 63
def YJ (p x : S77) : Bool := !decide (x.f0 ≤ p.f0)
theorem ZX {α : Type} (P : α → Bool) (R : α → α → Bool) (l : List α) (i : Nat) (h : i < l.length) (j : Nat) (hj : j = i - 1) (hjl : j < l.length) : xB P R (vP l i) (l.drop i) = ((P l[i] && (!decide ((0 : Int) < (i : Int)) || R l[j] l[i])) && xB P R (vP l (i + 1)) (l.drop (i + 1))) := by
 rw [List.drop_eq_getElem_cons h, zar l i h]
 subst hj
 by_cases h0 : i = 0
 ·subst h0
  rw [vJ]
  simp [xB]
 ·rw [zat l i (by omega) h, xB, decide_eq_true (by omega : (0 : Int) < (i : Int)), Bool.and_assoc]
  rfl
theorem Yp {α : Type} (P : α → Bool) (R : α → α → Bool) (l : List α) (i : Nat) (h : l.length ≤ i) (q : Option α) : xB P R q (l.drop i) = true := by
 rw [List.drop_eq_nil_of_le h]
 cases q <;> rfl
theorem xE {a b c : Int} {w : World} {t : Bool} (h : wiB a b c = t) : Calls Tryz.prog 170 #[.int .i64 a, .int .i64 b, .int .i64 c] w fun e w' => e = .returned (.bool t) ∧ Below w.heap.size w w' := qq (yi.calls a b c t w (h ▸ jB a b c))
theorem Ve {s : ByteArray} {w : World} {t : Bool} (h : xq s = t) : Calls Tryz.prog 166 #[.string s] w fun e w' => e = .returned (.bool t) ∧ Below w.heap.size w w' := yR.calls 300 s t w (h ▸ XG s 300 (Nat.le_refl _))
theorem zc0 {s : S84} {A : Option Addr} {c : Nat} {w : World} {t : Bool} (hr : (Kd.int .i64).C w A s.f2.length s.f2) (hl : s.f2.length ≤ c) (h : Qs s = t) : Calls Tryz.prog 173 #[.agg #[.int .i64 s.f0, .int .i64 s.f1, .slice A s.f2.length c]] w fun e w' => e = .returned (.bool t) ∧ Below w.heap.size w w' :=
 vq.calls (s.f2.length + 1) _ _ _ _ _ _ _ hr hl (h ▸ zak _ _ _ hr.2.1 _ (Nat.le_refl _))
theorem zdu {c q : Int} {s : ByteArray} {w : World} {t : Bool} (h : vX c q s = t) : Calls Tryz.prog 169 #[.int .i64 c, .int .i64 q, .string s] w fun e w' => e = .returned (.bool t) ∧ Below w.heap.size w w' := vM.calls 300 _ _ _ _ _ (h ▸ zbJ c q s 300 (Nat.le_refl _))
theorem zbX {l : List Int} {m : Int} {A : Option Addr} {c : Nat} {w : World} {t : Bool} (hr : (Kd.int .i64).C w A l.length l) (hl : l.length ≤ c) (h : js l m = t) : Calls Tryz.prog 171 #[.slice A l.length c, .int .i64 m] w fun e w' => e = .returned (.bool t) ∧ Below w.heap.size w w' :=
 qq (zW.calls (l.length + 1) _ _ _ _ _ _ hr hl (h ▸ XC _ hr.2.1 _ _ (Nat.le_refl _)))
def xR (l : List S86) : Bool := xB itB itR none l && decide ((l.length : Int) ≤ 64)
def jD.f (_k : Nat) (l : List S86) : Option Bool := some (xR l)
theorem Xf {l : List S86} {A : Option Addr} {c : Nat} {w : World} (hr : k86.C w A l.length l) : Calls Tryz.prog 140 #[.slice A l.length c] w fun e w' => e = .returned (.bool (xR l)) ∧ Below w.heap.size w w' := by
 have HR := za.mk hr
 have HLEN := za.mk hr.2.1
 have HS := Sat.nil w
 unfold xR
 generalize hg : xB itB itR none l = g
 have HG := za.mk hg
 clear hr hg
 go_enter Tryz.func140, Tryz.ntmps140
 go_wp2
 have HZ := za.mk HS
 clear HS
 go_loopg [7] l.length (fun kq vi wr => ∃ i : Nat, vi = .int .i64 i ∧ za (i + kq = l.length) ∧ za (xB itB itR (vP l i) (l.drop i) = g) ∧ za (Sat [] w wr [] []))
 case atStart => exact ⟨0, rfl, ⟨by simp⟩, ⟨by rw [vJ, List.drop_zero]; exact HG.out⟩, HZ⟩
 case round =>
  clear HZ HG
  obtain ⟨i, rfl, HK, HO, HT⟩ := hrel
  have HS := HT.out
  clear HT
  have hil : i ≤ l.length := by have := HK.out; omega
  by_cases hlt : i < l.length
  ·obtain ⟨ad, A3, c3, e0, x0, x1, x2, x3, hll, hin⟩ := vW HR.out (i : Int) (by omega) (by omega)
   subst e0
   have hd1 : xD l ((i : Nat) : Int) = l[i] := by simp [xD, hlt]
   obtain ⟨j, hj⟩ : ∃ j, j = i - 1 := ⟨_, rfl⟩
   have hjl : j < l.length := by omega
   obtain ⟨ad2, _, _, e2, p0, -⟩ := vW HR.out (j : Int) (by omega) (by omega)
   obtain rfl : ad = ad2 := by injection e2
   have hd2 : xD l ((j : Nat) : Int) = l[j] := by simp [xD, hjl]
   have ho := HO.out
   rw [ZX itB itR l i hlt j hj hjl] at ho
   rw [Int.toNat_natCast] at x0 x1 x2 x3 p0
   rw [hd1] at x0 x1 x2 x3 hll hin
   rw [hd2] at p0
   generalize l[i] = y at ho x0 x1 x2 x3 hll hin
   generalize l[j] = z at ho p0
   have b0 : (0 : Int) ≤ (i : Int) := by omega
   have b1 : (i : Int) < (l.length : Int) := by omega
   have b2 : (0 : Int) ≤ (j : Int) := by omega
   have b3 : (j : Int) < (l.length : Int) := by omega
   replace x0 := HS.at_ x0
   replace x1 := HS.at_ x1
   replace x2 := HS.at_ x2
   replace x3 := HS.at_ x3
   have j2 : 0 < i → wrap64 ((i : Int) - 1) = (j : Int) := fun h0 => by rw [xo (by omega) (by have := HLEN.out; omega)]; omega
   unfold itB itR at ho
   rw [← JS] at ho
   generalize hu : xq y.f0 = u at ho
   have HU := za.mk hu
   generalize hv : Qs y.f1 = v at ho
   have HV := za.mk hv
   generalize hp : decide ((0 : Int) < (i : Int)) = p at ho
   generalize ht : Op.bytesLess z.f0.toList y.f0.toList = t at ho
   have HI := za.mk hin
   have HL := za.mk hll
   clear hin hll
   clear hd1 hd2 HO e2 hj hjl
   clear hu
   clear hv
   go_upto_region 4 with ((first | ((with_reducible refine gB rfl ?_); refine zz HS ?_) | ((with_reducible refine gA rfl ?_); refine zt HS ?_) | ((with_reducible refine gS rfl ?_); refine zu HS ?_)); clear HS; (try clear hc); intros; rename_i HS; have hc := HS.lk; simp only [Lk, LkC, Value.cells, List.toList_toArray, Nat.reduceAdd, Nat.zero_add, and_true, zf, zg, ze, zh] at HS hc)
   clear x0 x1 x2 x3
   obtain ⟨gx, rfl⟩ := HS.hd
   cases u
   case' true => cases v
   case' true.true => cases p
   case' true.true.true => cases t
   all_goals
    clear hc
    first
    | (have j4 := of_decide_eq_true hp; have j5 : decide (0 < i) = true := decide_eq_true (by omega); replace j2 := j2 (by omega); have j3 := (zT _).trans j2)
    | (have j4 := of_decide_eq_false hp; have j5 : decide (0 < i) = false := decide_eq_false (by omega))
    | skip
    replace HS := HS.drewN 1
    refine jx (.op 0 0 12 (.op 1 0 13 (.op 2 2 14 (.op 3 1 15 (.op 4 1 16 (.op 5 0 17 (.op 6 0 18 (.op 7 2 19 (.op 8 1 20 (.op 9 1 21 (.op 10 1 22 (.op 11 1 23 (.op 12 1 24 (.op 13 1 25 (.op 14 0 26 (.op 15 0 27 (.op 16 1 28 (.op 17 1 29 (.op 18 1 30 (.op 19 1 31 (.op 20 1 32 (.op 21 0 33 (.op 22 1 34 (.op 23 1 35 (.op 24 1 36 .nil))))))))))))))))))))))))) [] (fun W => Lk W [(gx, [.string y.f0, .int .i64 y.f1.f0, .int .i64 y.f1.f1, .slice A3 y.f1.f2.length c3], 86)] ∧ W.cell? (ad.add (j * 4)) = some (.string z.f0)) ((fun _ H => ⟨H.lk, H.at_ p0⟩) _ HS) (fun hS => ?_)
    (repeat (first | refine RT.tk ?_ | refine RT.tn ?_ | refine RT.pu ?_ | refine RT.pn ?_ | refine RT.n2 ?_ | (refine RT.o1 ?_; refine xU HS (fun _ H => ⟨H.lk, H.at_ p0⟩) (Ve HU.out) ?_; clear HS hS; intro w_ hS HS; refine RT.nm ?_) | (refine RT.o1 ?_; refine xU HS (fun _ H => ⟨H.lk, H.at_ p0⟩) (zc0 (Kd.C_below HI.out HS.below) HL.out HV.out) ?_; clear HS hS; intro w_ hS HS; refine RT.nm ?_)))
    refine RT.nil ?_
    clear hS p0
    go_wp2
    first
    | (go_ret; exact ⟨by rw [← ho]; rfl, HS.below⟩)
    | (go_roundg (l.length - (i + 1)); (case measure => have := HK.out; omega); (case rel => exact ⟨i + 1, by have h_ : wrap64 ((i : Int) + 1) = ((i + 1 : Nat) : Int) := z4 (by omega) (by have := HLEN.out; omega); first | (rw [h_]) | (simp only [h_]) | rfl, ⟨by have := HK.out; omega⟩, ⟨ho⟩, ⟨HS.off (.cons _ (List.Sublist.refl _))⟩⟩))
  ·have ho := HO.out
   rw [Yp _ _ _ _ (by omega)] at ho
   subst ho
   obtain rfl : i = l.length := by omega
   clear HO
   go_wp2
   go_ret
   exact ⟨rfl, HS.below⟩
theorem jD.calls (k : Nat) (A : Option Addr) (c : Nat) (l : List S86) (r : Bool) (w : World) (hr : k86.C w A l.length l) (_hl : l.length ≤ c) (h : jD.f k l = some r) : Calls Tryz.prog 140 #[.slice A l.length c] w fun e w' => e = .returned (.bool r) ∧ Below w.heap.size w w' := by
 injection h with h
 subst h
 exact Xf hr
def yC.f (a0 : Bool) (l1 : List Int) : Option (ByteArray × Int) := if a0 = true then (some (strOfNums l1, 0)) else (some ((⟨#[]⟩ : ByteArray), 2))
theorem yC.calls (a0 : Bool) (A1 : Option Addr) (c1 : Nat) (l1 : List Int) (r1 : ByteArray) (r2 : Int) (w : World) (hr1 : Kd.C (Kd.int .u8) w A1 l1.length l1) (hc1 : l1.length ≤ c1) (h : yC.f a0 l1 = some (r1, r2)) :
  Calls Tryz.prog 132 #[.bool a0, .slice A1 l1.length c1] w fun e w' => e = .returned (.tuple #[.string r1, .int .i64 r2]) ∧ zi w w' := by
 have HR1 := za.mk hr1
 have HC1 := za.mk hc1
 clear hr1 hc1
 have H : (if a0 = true then (some (strOfNums l1, 0)) else (some ((⟨#[]⟩ : ByteArray), 2))) = some (r1, r2) := h
 clear h
 by_cases c3 : a0 = true
 ·subst c3
  have H1 : (some (strOfNums l1, 0)) = some (r1, r2) := by rw [if_pos rfl] at H; exact H
  clear H
  have H := H1
  clear H1
  simp only [Option.some.injEq, Prod.mk.injEq] at H
  obtain ⟨rfl, rfl⟩ := H
  have hcv4 := Kd.C_string (P := Tryz.prog) (A := A1) (c := c1) Tryz.underlying41 Tryz.underlying5 Tryz.underlying9 HR1.out
  go_enter Tryz.func132, Tryz.ntmps132
  go_wp2
  go_ret2
  exact ⟨by first | rfl | (simp; done) | (simp [*]; done), by repeat (first | exact zi.refl _ | apply zi.step)⟩
 ·replace c3 := zdM.mpr c3
  subst c3
  have H1 : (some ((⟨#[]⟩ : ByteArray), 2)) = some (r1, r2) := by rw [if_neg (show ¬ (false = true) by decide)] at H; exact H
  clear H
  have H := H1
  clear H1
  simp only [Option.some.injEq, Prod.mk.injEq] at H
  obtain ⟨rfl, rfl⟩ := H
  go_enter Tryz.func132, Tryz.ntmps132
  go_wp2
  go_ret2
  exact ⟨by first | rfl | (simp; done) | (simp [*]; done), by repeat (first | exact zi.refl _ | apply zi.step)⟩
def xp.f (k : Nat) (l0 : List (S86)) : Option (ByteArray × Int) := (jD.f k l0).bind fun t359 => ((yr.f k ([] : List Int) l0).bind fun t360 => ((yC.f t359 t360).bind fun bt363 => (some (bt363.1, bt363.2))))
theorem xp.calls (k : Nat) (A0 : Option Addr) (c0 : Nat) (l0 : List (S86)) (r1 : ByteArray) (r2 : Int) (w : World) (hr0 : Kd.C k86 w A0 l0.length l0) (hc0 : l0.length ≤ c0) (h : xp.f k l0 = some (r1, r2)) :
  Calls Tryz.prog 105 #[.slice A0 l0.length c0] w fun e w' => e = .returned (.tuple #[.string r1, .int .i64 r2]) ∧ Below w.heap.size w w' := by
 have HR0 := za.mk hr0
 have HC0 := za.mk hc0
 clear hr0 hc0
 have HB := za.mk (Below.refl w.heap.size w)
 have H : ((jD.f k l0).bind fun t359 => ((yr.f k ([] : List Int) l0).bind fun t360 => ((yC.f t359 t360).bind fun bt363 => (some (bt363.1, bt363.2))))) = some (r1, r2) := h
 clear h
 replace H := zdK.mp H
 obtain ⟨t359, A20, H⟩ := H
 replace H : ((yr.f k ([] : List Int) l0).bind fun t360 => ((yC.f t359 t360).bind fun bt363 => (some (bt363.1, bt363.2)))) = some (r1, r2) := H
 have A2 := za.mk A20
 clear A20
 replace H := zdK.mp H
 obtain ⟨t360, A30, H⟩ := H
 replace H : ((yC.f t359 t360).bind fun bt363 => (some (bt363.1, bt363.2))) = some (r1, r2) := H
 have A3 := za.mk A30
 clear A30
 replace H := zdK.mp H
 obtain ⟨⟨t363, t364⟩, A40, H⟩ := H
 replace H : (some (t363, t364)) = some (r1, r2) := H
 have A4 := za.mk A40
 clear A40
 simp only [Option.some.injEq, Prod.mk.injEq] at H
 obtain ⟨rfl, rfl⟩ := H
 go_enter Tryz.func105, Tryz.ntmps105
 go_wp2_with (first | ((with_reducible refine zr (f := 140) rfl ?_); refine zL (some 5) rfl rfl Tryz.func140 (by kernel_rfl) rfl #[.slice A0 l0.length c0] rfl (by (try simp only [zdJ, List.map_cons, List.map_nil]); first | done | rfl | (simp only [List.length_drop, List.length_take]; rfl)) ?_; (with_reducible refine (jD.calls k _ _ l0 t359 _ ?side1 ?side2 A2.out).mono ?_); (case side1 => repeat (first | exact HR0.out | (with_reducible refine Kd.C_alloc ?_ _) | (with_reducible refine Kd.C_drewN ?_ _) | (with_reducible refine Kd.C_drew ?_))); (case side2 => exact HC0.out); rintro e w5 ⟨rfl, hb⟩; refine ⟨_, rfl, ?_⟩; have n0_ := za.mk (zp (by repeat (first | (with_reducible first | exact HB.out | apply zc | apply zb | apply zd) | exact HB.out)) hb); clear HB; have HB := n0_; clear n0_; (try clear hb); (try clear hb2); (try clear hk); (try clear hi)) | ((with_reducible refine zr (f := 141) rfl ?_); refine zL (some 7) rfl rfl Tryz.func141 (by kernel_rfl) rfl #[.slice none 0 0, .slice A0 l0.length c0, .func (Fn.func 142) #[] #[]] rfl (by (try simp only [zdJ, List.map_cons, List.map_nil]); first | done | rfl | (simp only [List.length_drop, List.length_take]; rfl)) ?_; (refine (yr.calls k (fun k_ => some k_ = (.slice none 0 0 : Value).ownBlock) (.slice none 0 0) ([] : List Int) _ _ l0 t360 w _ ?side1 ?side2 ?side3 ?side4 A3.out).mono ?_); (case side1 => repeat (first | (with_reducible first | exact HB.out | apply zc | apply zb | apply zd) | exact HB.out)); (case side2 => exact Kd.R_nil _ _ _ _ _); (case side3 => exact Kd.C_kept_came zci HR0.out (by repeat (first | (with_reducible first | exact HB.out | apply zc | apply zb | apply zd) | exact HB.out)) (fun k_ hs_ => (fun e_ => by simp [Value.ownBlock] at e_) hs_)); (case side4 => exact HC0.out); rintro e w6 ⟨v361, rfl, ho0, hb, hkp⟩; refine ⟨_, rfl, ?_⟩; have n0_ := za.mk (Kd.R_mono (ok' := fun k_ => True) ho0 (fun k_ hk_ => trivial)); have n1_ := za.mk (hb); clear HB; have HO362 := n0_; have HB := n1_; clear n0_ n1_; (try clear hb); (try clear hkp); (try clear ho0); obtain ⟨Ao7, co7, eo7⟩ := Kd.R_slice HO362.out; subst eo7) | ((with_reducible refine zr (f := 132) rfl ?_); refine zL (some 8) rfl rfl Tryz.func132 (by kernel_rfl) rfl #[.bool t359, .slice Ao7 t360.length co7] rfl (by (try simp only [zdJ, List.map_cons, List.map_nil]); first | done | rfl | (simp only [List.length_drop, List.length_take]; rfl)) ?_; (with_reducible refine (yC.calls t359 _ _ t360 t363 t364 _ ?side1 ?side2 A4.out).mono ?_); (case side1 => repeat (first | exact (Kd.R_reads' HO362.out).2.2 | (with_reducible refine Kd.C_alloc ?_ _) | (with_reducible refine Kd.C_drewN ?_ _) | (with_reducible refine Kd.C_drew ?_))); (case side2 => exact (Kd.R_reads' HO362.out).2.1); rintro e w' ⟨rfl, ⟨nd, rfl⟩⟩; refine ⟨_, rfl, ?_⟩))
 go_ret2
 exact ⟨by first | rfl | (simp [zl, zk] <;> rfl) | (simp [*, zl, zk] <;> rfl), by repeat (first | (with_reducible first | exact HB.out | apply zc | apply zb | apply zd) | exact HB.out)⟩
def yY (l : List S77) : Bool := xB Yq YJ none l && decide ((l.length : Int) ≤ 32)
def qI.f (_k : Nat) (l : List S77) : Option Bool := some (yY l)
theorem Yf {l : List S77} {A : Option Addr} {c : Nat} {w : World} (hr : k77.C w A l.length l) : Calls Tryz.prog 143 #[.slice A l.length c] w fun e w' => e = .returned (.bool (yY l)) ∧ Below w.heap.size w w' := by
 have HR := za.mk hr
 have HLEN := za.mk hr.2.1
 have HS := Sat.nil w
 unfold yY
 generalize hg : xB Yq YJ none l = g
 have HG := za.mk hg
 clear hr hg
 go_enter Tryz.func143, Tryz.ntmps143
 go_wp2
 have HZ := za.mk HS
 clear HS
 go_loopg [7] l.length (fun kq vi wr => ∃ i : Nat, vi = .int .i64 i ∧ za (i + kq = l.length) ∧ za (xB Yq YJ (vP l i) (l.drop i) = g) ∧ za (Sat [] w wr [] []))
 case atStart => exact ⟨0, rfl, ⟨by simp⟩, ⟨by rw [vJ, List.drop_zero]; exact HG.out⟩, HZ⟩
 case round =>
  clear HZ HG
  obtain ⟨i, rfl, HK, HO, HT⟩ := hrel
  have HS := HT.out
  clear HT
  have hil : i ≤ l.length := by have := HK.out; omega
  by_cases hlt : i < l.length
  ·obtain ⟨ad, e0, x0, x1⟩ := vr HR.out (i : Int) (by omega) (by omega)
   subst e0
   have hd1 : yv l ((i : Nat) : Int) = l[i] := by simp [yv, hlt]
   obtain ⟨j, hj⟩ : ∃ j, j = i - 1 := ⟨_, rfl⟩
   have hjl : j < l.length := by omega
   obtain ⟨ad2, e2, p0, -⟩ := vr HR.out (j : Int) (by omega) (by omega)
   obtain rfl : ad = ad2 := by injection e2
   have hd2 : yv l ((j : Nat) : Int) = l[j] := by simp [yv, hjl]
   have ho := HO.out
   rw [ZX Yq YJ l i hlt j hj hjl] at ho
   rw [Int.toNat_natCast] at x0 x1 p0
   rw [hd1] at x0 x1
   rw [hd2] at p0
   generalize l[i] = y at ho x0 x1
   generalize l[j] = z at ho p0
   have b0 : (0 : Int) ≤ (i : Int) := by omega
   have b1 : (i : Int) < (l.length : Int) := by omega
   have b2 : (0 : Int) ≤ (j : Int) := by omega
   have b3 : (j : Int) < (l.length : Int) := by omega
   replace x0 := HS.at_ x0
   replace x1 := HS.at_ x1
   have j2 : 0 < i → wrap64 ((i : Int) - 1) = (j : Int) := fun h0 => by rw [xo (by omega) (by have := HLEN.out; omega)]; omega
   unfold Yq YJ at ho
   generalize hu : wiB y.f0 1 1099511627776 = u at ho
   have HU := za.mk hu
   generalize hv : wiB y.f1 0 63 = v at ho
   have HV := za.mk hv
   generalize hp : decide ((0 : Int) < (i : Int)) = p at ho
   generalize ht : decide (y.f0 ≤ z.f0) = t at ho
   clear hd1 hd2 HO e2 hj hjl
   clear hu
   clear hv
   go_upto_region 4 with ((first | ((with_reducible refine gB rfl ?_); refine zz HS ?_) | ((with_reducible refine gA rfl ?_); refine zt HS ?_) | ((with_reducible refine gS rfl ?_); refine zu HS ?_)); clear HS; (try clear hc); intros; rename_i HS; have hc := HS.lk; simp only [Lk, LkC, Value.cells, List.toList_toArray, Nat.reduceAdd, Nat.zero_add, and_true, zf, zg, ze, zh] at HS hc)
   clear x0 x1
   obtain ⟨gx, rfl⟩ := HS.hd
   cases u
   case' true => cases v
   case' true.true => cases p
   case' true.true.true => cases t
   all_goals
    clear hc
    first
    | (have j4 := of_decide_eq_true hp; have j5 : decide (0 < i) = true := decide_eq_true (by omega); replace j2 := j2 (by omega); have j3 := (zT _).trans j2)
    | (have j4 := of_decide_eq_false hp; have j5 : decide (0 < i) = false := decide_eq_false (by omega))
    | skip
    replace HS := HS.drewN 1
    refine jx (.op 0 0 12 (.op 1 0 13 (.op 2 2 14 (.op 3 1 15 (.op 4 1 16 (.op 5 0 17 (.op 6 0 18 (.op 7 2 19 (.op 8 1 20 (.op 9 1 21 (.op 10 1 22 (.op 11 1 23 (.op 12 1 24 (.op 13 1 25 (.op 14 0 26 (.op 15 0 27 (.op 16 1 28 (.op 17 1 29 (.op 18 1 30 (.op 19 1 31 (.op 20 1 32 (.op 21 0 33 (.op 22 1 34 (.op 23 1 35 (.op 24 1 36 .nil))))))))))))))))))))))))) [] (fun W => Lk W [(gx, [.int .i64 y.f0, .int .i64 y.f1], 77)] ∧ W.cell? (ad.add (j * 2)) = some (.int .i64 z.f0)) ((fun _ H => ⟨H.lk, H.at_ p0⟩) _ HS) (fun hS => ?_)
    (repeat (first | refine RT.tk ?_ | refine RT.tn ?_ | refine RT.pu ?_ | refine RT.pn ?_ | refine RT.n2 ?_ | (refine RT.o1 ?_; refine xU HS (fun _ H => ⟨H.lk, H.at_ p0⟩) (xE HU.out) ?_; clear HS hS; intro w_ hS HS; refine RT.nm ?_) | (refine RT.o1 ?_; refine xU HS (fun _ H => ⟨H.lk, H.at_ p0⟩) (xE HV.out) ?_; clear HS hS; intro w_ hS HS; refine RT.nm ?_)))
    refine RT.nil ?_
    clear hS p0
    go_wp2
    first
    | (go_ret; exact ⟨by rw [← ho]; rfl, HS.below⟩)
    | (go_roundg (l.length - (i + 1)); (case measure => have := HK.out; omega); (case rel => exact ⟨i + 1, by have h_ : wrap64 ((i : Int) + 1) = ((i + 1 : Nat) : Int) := z4 (by omega) (by have := HLEN.out; omega); first | (rw [h_]) | (simp only [h_]) | rfl, ⟨by have := HK.out; omega⟩, ⟨ho⟩, ⟨HS.off (.cons _ (List.Sublist.refl _))⟩⟩))
  ·have ho := HO.out
   rw [Yp _ _ _ _ (by omega)] at ho
   subst ho
   obtain rfl : i = l.length := by omega
   clear HO
   go_wp2
   go_ret
   exact ⟨rfl, HS.below⟩
theorem qI.calls (k : Nat) (A : Option Addr) (c : Nat) (l : List S77) (r : Bool) (w : World) (hr : k77.C w A l.length l) (_hl : l.length ≤ c) (h : qI.f k l = some r) : Calls Tryz.prog 143 #[.slice A l.length c] w fun e w' => e = .returned (.bool r) ∧ Below w.heap.size w w' := by
 injection h with h
 subst h
 exact Yf hr
def xA.f (k : Nat) (l0 : List Int) (a1_0 : Int) (a1_1 : Int) : Option (List Int) := (zw.f k l0 (([a1_0, a1_1] : List Int))).bind fun t369 => (some t369)
theorem xA.calls (k : Nat) (P0_ : Nat → Prop) (u9000_ : Value) (l0 : List Int) (a1_0 : Int) (a1_1 : Int) (r : List Int) (w0 w : World) (hB : Below w0.heap.size w0 w) (ho0 : Kd.R (Kd.int .u8) 5 w w0.heap.size P0_ u9000_ l0) (h : xA.f k l0 a1_0 a1_1 = some r) :
  Calls Tryz.prog 145 #[u9000_, .agg #[.int .i64 a1_0, .int .i64 a1_1]] w fun e w' => ∃ v0_ : Value, e = .returned (v0_) ∧ Kd.R (Kd.int .u8) 5 w' w0.heap.size (fun k_ => (P0_ k_ ∨ w.heap.size ≤ k_)) v0_ r ∧ Below w0.heap.size w0 w' ∧ zj w w' (fun k_ => P0_ k_) := by
 have hu77 := Tryz.underlying77
 have HO0 := za.mk (show Kd.R (Kd.int .u8) 5 w w0.heap.size (fun k_ => (P0_ k_ ∨ w.heap.size ≤ k_)) u9000_ l0 from Kd.R_mono ho0 (fun k_ hk => (.inl hk)))
 have HK := za.mk (zj.refl w (fun k_ => P0_ k_))
 have HW0 := za.mk hB.size
 have HB := za.mk hB
 clear hB
 have H : ((zw.f k l0 (([a1_0, a1_1] : List Int))).bind fun t369 => (some t369)) = some r := h
 clear h
 obtain ⟨y366, hy366⟩ : ∃ y_ : List Int, y_ = (([a1_0, a1_1] : List Int)) := ⟨_, rfl⟩
 replace H : ((zw.f k l0 y366).bind fun t369 => (some t369)) = some r := by first | (rw [hy366]; with_reducible exact H) | (have H2_ := (Option.bind_some _ _).symm.trans H; rw [hy366]; with_reducible exact H2_) | (have H2_ := (Option.bind_some _ _).symm.trans H; with_reducible exact H2_) | with_reducible exact H | (rw [hy366]; exact H) | exact H
 have Ny366 := za.mk hy366
 clear hy366
 replace H := zdK.mp H
 obtain ⟨t369, A30, H⟩ := H
 replace H : (some t369) = some r := H
 have A3 := za.mk A30
 clear A30
 obtain rfl := Option.some.inj H
 go_enter Tryz.func145, Tryz.ntmps145
 go_wp2_with (first | ((with_reducible refine zN (N := 3) rfl ?_); refine yp ?hg (N := 3) ?hd (cs := #[.int .i64 a1_0, .int .i64 a1_1]) (t := 77) ?hr ?_; (case hd => rfl); (case hg => rfl); (case hr => first | (go_simp; done) | (go_simp; rfl)); intro gb365 hg w4 hbox hb; have n0_ := za.mk (Kd.R_below (by (with_reducible repeat (first | apply Kd.R_alloc | apply Kd.R_drewN | apply Kd.R_drew)); exact HO0.out) hb); have n1_ := za.mk (zj.below (S := (fun k_ => P0_ k_)) (by repeat (first | (with_reducible first | exact HK.out | apply zj.alloc | apply zj.drewN | apply zj.drew) | exact HK.out)) hb); have n2_ := za.mk (zp (by repeat (first | (with_reducible first | exact HB.out | apply zc | apply zb | apply zd) | exact HB.out)) hb); have n3_ := za.mk (hbox); have n4_ := za.mk ((by rw [hg]; exact (by first | exact HK.out.1 | exact (show zj w _ (fun k_ => P0_ k_) from by repeat (first | (with_reducible first | exact HK.out | apply zj.alloc | apply zj.drewN | apply zj.drew) | exact HK.out)).1) : w.heap.size ≤ gb365)); have n5_ := za.mk ((by rw [hg]; exact (zF (by repeat (first | (with_reducible first | exact HB.out | apply zc | apply zb | apply zd) | exact HB.out))) : w0.heap.size ≤ gb365)); clear HO0; clear HK; clear HB; have HO0 := n0_; have HK := n1_; have HB := n2_; have BK365 := n3_; have GW365 := n4_; have GE365 := n5_; clear n0_ n1_ n2_ n3_ n4_ n5_; clear hb hbox hg; have hcz5_0 : w4.cell? ⟨gb365, 0, none⟩ = some (.int .i64 a1_0) := (zm BK365.out 0).trans rfl; have hcz5_1 : w4.cell? ⟨gb365, 1, none⟩ = some (.int .i64 a1_1) := (zm BK365.out 1).trans rfl; have hfz5_0 := zn BK365.out 0; have hfz5_1 := zn BK365.out 1) | ((with_reducible refine zN (N := 10) rfl ?_); refine Kd.R_lit (Kd.int .i64) _ 3 ?hg (N := 10) ?hd (xs := ([a1_0, a1_1] : List Int)) (inner := [.int .i64 a1_0, .int .i64 a1_1]) (ok := fun _ => True) (okp := fun _ => True) ?hr ?hp (fun _ hk => hk) trivial (Below.refl _ _) (Nat.le_refl _) (by simp) ?_; (case hd => rfl); (case hg => rfl); (case hr => first | (go_simp; done) | (go_simp; rfl)); (case hp => exact (zX.one (show Kd.M (Kd.int .i64) _ _ _ a1_0 [.int .i64 a1_0] from rfl) (zX.one (show Kd.M (Kd.int .i64) _ _ _ a1_1 [.int .i64 a1_1] from rfl) (zX.none _ _)))); intro v367 w6 ho7 hb hg_ hnew_; clear hg_ hnew_; (first | rw [← Ny366.out] at ho7 | (simp only [Int.reduceToNat] at ho7; rw [← Ny366.out] at ho7)); have n0_ := za.mk (Kd.R_below (by (with_reducible repeat (first | apply Kd.R_alloc | apply Kd.R_drewN | apply Kd.R_drew)); exact HO0.out) hb); have n1_ := za.mk (Kd.R_lower (Kd.R_newM (M := fun k_ => (P0_ k_ ∨ w.heap.size ≤ k_)) ho7 (by first | exact HK.out.1 | exact (show zj w _ (fun k_ => P0_ k_) from by repeat (first | (with_reducible first | exact HK.out | apply zj.alloc | apply zj.drewN | apply zj.drew | refine zj.setCell ?_ (.inr GW365.out) _) | exact HK.out)).1) (fun k_ h_ => .inr h_)) (zF (by repeat (first | (with_reducible first | exact HB.out | apply zc | apply zb | apply zd | refine zv ?_ GE365.out) | exact HB.out)))); have n2_ := za.mk (zZ (g := gb365) (o := .cells #[.int .i64 a1_0, .int .i64 a1_1] 77 (0, 0)) (by (with_reducible repeat (first | refine zS ?_ _ | refine zV ?_ | refine zR ?_ _)); exact BK365.out) hb); have n3_ := za.mk (zj.below (S := (fun k_ => P0_ k_)) (by repeat (first | (with_reducible first | exact HK.out | apply zj.alloc | apply zj.drewN | apply zj.drew | refine zj.setCell ?_ (.inr GW365.out) _) | exact HK.out)) hb); have n4_ := za.mk (zp (by repeat (first | (with_reducible first | exact HB.out | apply zc | apply zb | apply zd | refine zv ?_ GE365.out) | exact HB.out)) hb); clear HO0; clear BK365; clear HK; clear HB; have HO0 := n0_; have HO368 := n1_; have BK365 := n2_; have HK := n3_; have HB := n4_; clear n0_ n1_ n2_ n3_ n4_; clear hb ho7; obtain ⟨Ao8, co8, eo8⟩ := Kd.R_slice HO0.out; subst eo8; obtain ⟨Ao9, co9, eo9⟩ := Kd.R_slice HO368.out; subst eo9) | ((with_reducible refine zr (f := 134) rfl ?_); refine zL (some 11) rfl rfl Tryz.func134 (by kernel_rfl) rfl #[.slice Ao8 l0.length co8, .slice Ao9 y366.length co9] rfl (by (try simp only [zdJ, List.map_cons, List.map_nil]); first | done | rfl | (simp only [List.length_drop, List.length_take]; rfl)) ?_; (with_reducible refine (zw.calls k (fun k_ => some k_ = (.slice Ao8 l0.length co8 : Value).ownBlock) (.slice Ao8 l0.length co8) l0 _ _ y366 t369 w0 _ ?side1 ?side2 ?side3 ?side4 A3.out).mono ?_); (case side1 => repeat (first | (with_reducible first | exact HB.out | apply zc | apply zb | apply zd | refine zv ?_ GE365.out) | exact HB.out)); (case side2 => exact Kd.R_tight rfl HO0.out); (case side3 => exact Kd.C_kept_own ((Kd.R_apart' HO368.out (Kd.R_typed HO0.out) (by decide))) (fun k_ hk_ hs_ => (hk_.2) hs_)); (case side4 => exact (Kd.R_reads' HO368.out).2.1); rintro e w10 ⟨v370, rfl, ho0, hb, hkp⟩; refine ⟨_, rfl, ?_⟩; have n0_ := za.mk (jF (by (with_reducible repeat (first | refine zS ?_ _ | refine zV ?_ | refine zR ?_ _)); exact BK365.out) hkp (fun hs_ => (fun e_ => (Kd.R_ne HO0.out BK365.out (by decide)) e_) hs_)); have n1_ := za.mk (Kd.R_mono (ok' := fun k_ => (P0_ k_ ∨ w.heap.size ≤ k_)) (Kd.R_keptB ((Kd.R_apart' HO368.out (Kd.R_typed HO0.out) (by decide))) hkp (fun k_ hk_ hs_ => (hk_.2) hs_)) (fun k_ hk_ => hk_.1.1.1)); have n2_ := za.mk (Kd.R_mono (ok' := fun k_ => (P0_ k_ ∨ w.heap.size ≤ k_)) ho0 (fun k_ hk_ => Or.elim hk_ (fun hs_ => (HO0.out.1 k_ (hs_).symm)) (fun hn_ => (.inr (Nat.le_trans (by first | exact HK.out.1 | exact (show zj w _ (fun k_ => P0_ k_) from by repeat (first | (with_reducible first | exact HK.out | apply zj.alloc | apply zj.drewN | apply zj.drew | refine zj.setCell ?_ (.inr GW365.out) _) | exact HK.out)).1) hn_))))); have n3_ := za.mk (zj.then_ (S := (fun k_ => P0_ k_)) (by repeat (first | (with_reducible first | exact HK.out | apply zj.alloc | apply zj.drewN | apply zj.drew | refine zj.setCell ?_ (.inr GW365.out) _) | exact HK.out)) hkp (fun k_ hs_ => (fun e_ => (HO0.out.1 k_ e_.symm)) hs_)); have n4_ := za.mk (hb); clear BK365; clear HO368; clear HK; clear HB; clear HO0; have BK365 := n0_; have HO368 := n1_; have HO371 := n2_; have HK := n3_; have HB := n4_; clear n0_ n1_ n2_ n3_ n4_; (try clear hb); (try clear hkp); (try clear ho0)))
 go_ret
 exact ⟨_, by first | rfl | (simp [zl, zk] <;> rfl) | (simp [*, zl, zk] <;> rfl), by (with_reducible repeat (first | apply Kd.R_alloc | apply Kd.R_drewN | apply Kd.R_drew)); exact HO371.out, by repeat (first | (with_reducible first | exact HB.out | apply zc | apply zb | apply zd | refine zv ?_ GE365.out) | exact HB.out), by repeat (first | (with_reducible first | exact HK.out | apply zj.alloc | apply zj.drewN | apply zj.drew | refine zj.setCell ?_ (.inr GW365.out) _) | exact HK.out)⟩
def zx.l0 : Nat → List Int → List (S77) → Int → Int → Option (List Int)
 | 0, _, _, _, _ => none
 | k + 1, x0, x14, x15, x16 => if x16 < x15 then (if 0 ≤ x16 then (if x16 < (x14.length : Int) then ((xA.f k x0 ((yv x14 x16).f0) ((yv x14 x16).f1)).bind fun t380 => (zx.l0 k t380 x14 x15 (wrap64 (x16 + 1)))) else (none)) else (none)) else (some x0)
def zx.f (k : Nat) (l0 : List Int) (l1 : List (S77))  : Option (List Int) := (zw.f k l0 (([(l1.length : Int)] : List Int))).bind fun t375 => (zx.l0 k t375 l1 (l1.length : Int) 0)
theorem zx.calls (k : Nat) (P0_ : Nat → Prop) (u9000_ : Value) (l0 : List Int) (A1 : Option Addr) (c1 : Nat) (l1 : List (S77))  (r : List Int) (w0 w : World) (hB : Below w0.heap.size w0 w) (ho0 : Kd.R (Kd.int .u8) 5 w w0.heap.size P0_ u9000_ l0) (hr1 : ∀ W_, zj w W_ (fun k_ => P0_ k_) → Kd.C k77 W_ A1 l1.length l1) (hc1 : l1.length ≤ c1) (h : zx.f k l0 l1 = some r) :
  Calls Tryz.prog 144 #[u9000_, .slice A1 l1.length c1, .func (Fn.func 145) #[] #[]] w fun e w' => ∃ v0_ : Value, e = .returned (v0_) ∧ Kd.R (Kd.int .u8) 5 w' w0.heap.size (fun k_ => (P0_ k_ ∨ w.heap.size ≤ k_)) v0_ r ∧ Below w0.heap.size w0 w' ∧ zj w w' (fun k_ => P0_ k_) := by
 have hu77 := Tryz.underlying77
 have HO0 := za.mk (show Kd.R (Kd.int .u8) 5 w w0.heap.size (fun k_ => (P0_ k_ ∨ w.heap.size ≤ k_)) u9000_ l0 from Kd.R_mono ho0 (fun k_ hk => (.inl hk)))
 have HR1 := za.mk hr1
 have HC1 := za.mk hc1
 clear hr1 hc1
 have HK := za.mk (zj.refl w (fun k_ => P0_ k_))
 have HW0 := za.mk hB.size
 have HB := za.mk hB
 clear hB
 have H : ((zw.f k l0 (([(l1.length : Int)] : List Int))).bind fun t375 => (zx.l0 k t375 l1 (l1.length : Int) 0)) = some r := h
 clear h
 obtain ⟨y372, hy372⟩ : ∃ y_ : List Int, y_ = (([(l1.length : Int)] : List Int)) := ⟨_, rfl⟩
 replace H : ((zw.f k l0 y372).bind fun t375 => (zx.l0 k t375 l1 (l1.length : Int) 0)) = some r := by first | (rw [hy372]; with_reducible exact H) | (have H2_ := (Option.bind_some _ _).symm.trans H; rw [hy372]; with_reducible exact H2_) | (have H2_ := (Option.bind_some _ _).symm.trans H; with_reducible exact H2_) | with_reducible exact H | (rw [hy372]; exact H) | exact H
 have Ny372 := za.mk hy372
 clear hy372
 replace H := zdK.mp H
 obtain ⟨t375, A40, H⟩ := H
 replace H : (zx.l0 k t375 l1 (l1.length : Int) 0) = some r := H
 have A4 := za.mk A40
 clear A40
 have H' := za.mk H
 clear H
 go_enter Tryz.func144, Tryz.ntmps144
 go_wp2_with (first | ((with_reducible refine zN (N := 12) rfl ?_); refine Kd.R_lit (Kd.int .i64) _ 3 ?hg (N := 12) ?hd (xs := ([(l1.length : Int)] : List Int)) (inner := [.int .i64 (l1.length : Int)]) (ok := fun _ => True) (okp := fun _ => True) ?hr ?hp (fun _ hk => hk) trivial (Below.refl _ _) (Nat.le_refl _) (by simp) ?_; (case hd => rfl); (case hg => rfl); (case hr => first | (go_simp; done) | (go_simp; rfl)); (case hp => exact (zX.one (show Kd.M (Kd.int .i64) _ _ _ (l1.length : Int) [.int .i64 (l1.length : Int)] from rfl) (zX.none _ _))); intro v373 w5 ho6 hb hg_ hnew_; clear hg_ hnew_; (first | rw [← Ny372.out] at ho6 | (simp only [Int.reduceToNat] at ho6; rw [← Ny372.out] at ho6)); have n0_ := za.mk (Kd.R_below (by (with_reducible repeat (first | apply Kd.R_alloc | apply Kd.R_drewN | apply Kd.R_drew)); exact HO0.out) hb); have n1_ := za.mk (Kd.R_lower (Kd.R_newM (M := fun k_ => (P0_ k_ ∨ w.heap.size ≤ k_)) ho6 (by first | exact HK.out.1 | exact (show zj w _ (fun k_ => P0_ k_) from by repeat (first | (with_reducible first | exact HK.out | apply zj.alloc | apply zj.drewN | apply zj.drew) | exact HK.out)).1) (fun k_ h_ => .inr h_)) (zF (by repeat (first | (with_reducible first | exact HB.out | apply zc | apply zb | apply zd) | exact HB.out)))); have n2_ := za.mk (zj.below (S := (fun k_ => P0_ k_)) (by repeat (first | (with_reducible first | exact HK.out | apply zj.alloc | apply zj.drewN | apply zj.drew) | exact HK.out)) hb); have n3_ := za.mk (zp (by repeat (first | (with_reducible first | exact HB.out | apply zc | apply zb | apply zd) | exact HB.out)) hb); clear HO0; clear HK; clear HB; have HO0 := n0_; have HO374 := n1_; have HK := n2_; have HB := n3_; clear n0_ n1_ n2_ n3_; clear hb ho6; obtain ⟨Ao7, co7, eo7⟩ := Kd.R_slice HO0.out; subst eo7; obtain ⟨Ao8, co8, eo8⟩ := Kd.R_slice HO374.out; subst eo8) | ((with_reducible refine zr (f := 134) rfl ?_); refine zL (some 13) rfl rfl Tryz.func134 (by kernel_rfl) rfl #[.slice Ao7 l0.length co7, .slice Ao8 y372.length co8] rfl (by (try simp only [zdJ, List.map_cons, List.map_nil]); first | done | rfl | (simp only [List.length_drop, List.length_take]; rfl)) ?_; (with_reducible refine (zw.calls k (fun k_ => some k_ = (.slice Ao7 l0.length co7 : Value).ownBlock) (.slice Ao7 l0.length co7) l0 _ _ y372 t375 w0 _ ?side1 ?side2 ?side3 ?side4 A4.out).mono ?_); (case side1 => repeat (first | (with_reducible first | exact HB.out | apply zc | apply zb | apply zd) | exact HB.out)); (case side2 => exact Kd.R_tight rfl HO0.out); (case side3 => exact Kd.C_kept_own ((Kd.R_apart' HO374.out (Kd.R_typed HO0.out) (by decide))) (fun k_ hk_ hs_ => (hk_.2) hs_)); (case side4 => exact (Kd.R_reads' HO374.out).2.1); rintro e w9 ⟨v376, rfl, ho0, hb, hkp⟩; refine ⟨_, rfl, ?_⟩; have n0_ := za.mk (Kd.R_mono (ok' := fun k_ => (P0_ k_ ∨ w.heap.size ≤ k_)) (Kd.R_keptB ((Kd.R_apart' HO374.out (Kd.R_typed HO0.out) (by decide))) hkp (fun k_ hk_ hs_ => (hk_.2) hs_)) (fun k_ hk_ => hk_.1.1.1)); have n1_ := za.mk (Kd.R_mono (ok' := fun k_ => (P0_ k_ ∨ w.heap.size ≤ k_)) ho0 (fun k_ hk_ => Or.elim hk_ (fun hs_ => (HO0.out.1 k_ (hs_).symm)) (fun hn_ => (.inr (Nat.le_trans (by first | exact HK.out.1 | exact (show zj w _ (fun k_ => P0_ k_) from by repeat (first | (with_reducible first | exact HK.out | apply zj.alloc | apply zj.drewN | apply zj.drew) | exact HK.out)).1) hn_))))); have n2_ := za.mk (zj.then_ (S := (fun k_ => P0_ k_)) (by repeat (first | (with_reducible first | exact HK.out | apply zj.alloc | apply zj.drewN | apply zj.drew) | exact HK.out)) hkp (fun k_ hs_ => (fun e_ => (HO0.out.1 k_ e_.symm)) hs_)); have n3_ := za.mk (hb); clear HO374; clear HK; clear HB; clear HO0; have HO374 := n0_; have HO377 := n1_; have HK := n2_; have HB := n3_; clear n0_ n1_ n2_ n3_; (try clear hb); (try clear hkp); (try clear ho0)))
 go_loopg [0, 16] k (fun kq v0 v16 w' => ∃ (x0_1 : List Int) (x16_1 : Int), v16 = .int .i64 x16_1 ∧ za (zx.l0 kq x0_1 l1 (l1.length : Int) x16_1 = some r) ∧ za (kq ≤ k) ∧ za (Kd.R (Kd.int .u8) 5 w' w0.heap.size (fun k_ => (P0_ k_ ∨ w.heap.size ≤ k_)) v0 x0_1) ∧ za (zj w w' (fun k_ => P0_ k_)) ∧ za (Below w0.heap.size w0 w'))
 case atStart => exact ⟨(t375), (0), (by first | rfl | (simp; done) | (simp [*]; done)), H', ⟨Nat.le_refl _⟩, ⟨by (with_reducible repeat (first | apply Kd.R_alloc | apply Kd.R_drewN | apply Kd.R_drew)); exact HO377.out⟩, ⟨by repeat (first | (with_reducible first | exact HK.out | apply zj.alloc | apply zj.drewN | apply zj.drew) | exact HK.out)⟩, ⟨by repeat (first | (with_reducible first | exact HB.out | apply zc | apply zb | apply zd) | exact HB.out)⟩⟩
 case round =>
  clear H'
  try clear c1
  try clear p2
  try clear c9
  obtain ⟨x0_1, x16_1, rfl, HA, HK1, HO_0, HK, HB⟩ := hrel
  cases gk with
  | zero => exact absurd HA.out (by simp [zx.l0])
  | succ k1 =>
   have H := HA.out
   clear HA
   simp only [zx.l0] at H
   by_cases c10 : x16_1 < (l1.length : Int)
   ·rw [if_pos c10] at H
    have c10b0 : decide (x16_1 < (l1.length : Int)) = true := decide_eq_true c10
    clear c10
    by_cases c11 : 0 ≤ x16_1
    ·rw [if_pos c11] at H
     have c11b0 : decide (0 ≤ x16_1) = true := decide_eq_true c11
     clear c11
     by_cases c12 : x16_1 < (l1.length : Int)
     ·rw [if_pos c12] at H
      have c12b0 : decide (x16_1 < (l1.length : Int)) = true := decide_eq_true c12
      clear c12
      replace H := zdK.mp H
      obtain ⟨t380, A130, H⟩ := H
      replace H : (zx.l0 k1 t380 l1 (l1.length : Int) (wrap64 (x16_1 + 1))) = some r := H
      have A13 := za.mk A130
      clear A130
      have H' := za.mk H
      clear H
      have p378 : 0 ≤ (x16_1 : Int) := of_decide_eq_true (by first | (with_reducible assumption) | assumption)
      have q378 : x16_1 < (l1.length : Int) := of_decide_eq_true (by first | (with_reducible assumption) | assumption)
      obtain ⟨ad378, e378, hx378_0, hx378_1⟩ := vr (Kd.C_kept_now HR1.out HK.out) x16_1 p378 q378
      cases e378
      replace p378 := eq_true p378
      replace q378 := eq_true q378
      go_wp2_with (first | ((with_reducible refine zN (N := 8) rfl ?_); refine yp ?hg (N := 8) ?hd (cs := #[.int .i64 0, .int .i64 0]) (t := 77) ?hr ?_; (case hd => rfl); (case hg => rfl); (case hr => first | (go_simp; done) | (go_simp; rfl)); intro gb379 hg w14 hbox hb; have n0_ := za.mk (Kd.R_below (by (with_reducible repeat (first | apply Kd.R_alloc | apply Kd.R_drewN | apply Kd.R_drew)); exact HO_0.out) hb); have n1_ := za.mk (zj.below (S := (fun k_ => P0_ k_)) (by repeat (first | (with_reducible first | exact HK.out | apply zj.alloc | apply zj.drewN | apply zj.drew) | exact HK.out)) hb); have n2_ := za.mk (zp (by repeat (first | (with_reducible first | exact HB.out | apply zc | apply zb | apply zd) | exact HB.out)) hb); have n3_ := za.mk (hbox); have n4_ := za.mk ((by rw [hg]; exact (by first | exact HK.out.1 | exact (show zj w _ (fun k_ => P0_ k_) from by repeat (first | (with_reducible first | exact HK.out | apply zj.alloc | apply zj.drewN | apply zj.drew) | exact HK.out)).1) : w.heap.size ≤ gb379)); have n5_ := za.mk ((by rw [hg]; exact (zF (by repeat (first | (with_reducible first | exact HB.out | apply zc | apply zb | apply zd) | exact HB.out))) : w0.heap.size ≤ gb379)); clear HO_0; clear HK; clear HB; have HO_0 := n0_; have HK := n1_; have HB := n2_; have BK379 := n3_; have GW379 := n4_; have GE379 := n5_; clear n0_ n1_ n2_ n3_ n4_ n5_; clear hb hbox hg; have hcz15_0 : w14.cell? ⟨gb379, 0, none⟩ = some (.int .i64 0) := (zm BK379.out 0).trans rfl; have hcz15_1 : w14.cell? ⟨gb379, 1, none⟩ = some (.int .i64 0) := (zm BK379.out 1).trans rfl; have hfz15_0 := zn BK379.out 0; have hfz15_1 := zn BK379.out 1) | ((with_reducible refine vK (t := 77) (p := 8) rfl ?_); refine vm (t := 77) (p := 8) (v := ?vo_w16) (w1 := ((w14.setCell ⟨gb379, 0, none⟩ (.int .i64 ((yv l1 x16_1).f0))).setCell ⟨gb379, 1, none⟩ (.int .i64 ((yv l1 x16_1).f1)))) ?hg ?ho ?hn ?hr ?_; (case ho => rfl); (case hg => rfl); (case hn => rfl); (case hr => first | (go_simp; done) | (go_simp; rfl)); intro w16 hw; have n0_ : za (Kd.R (Kd.int .u8) 5 w16 w0.heap.size (fun k_ => (P0_ k_ ∨ w.heap.size ≤ k_)) u0 x0_1) := ⟨(by rw [hw]; exact (by (with_reducible repeat (first | apply Kd.R_alloc | apply Kd.R_drewN | apply Kd.R_drew)); exact Kd.R_mono (Kd.R_far (p := ⟨gb379, 1, none⟩) (Kd.R_far (p := ⟨gb379, 0, none⟩) (Kd.R_types HO_0.out BK379.out (by decide)) (fun _ hk => hk.2) (.int .i64 ((yv l1 x16_1).f0))) (fun _ hk => hk.2) (.int .i64 ((yv l1 x16_1).f1))) (fun _ hk => hk.1)))⟩; have n1_ : za (w16.heap[gb379]? = some (.cells #[.int .i64 ((yv l1 x16_1).f0), .int .i64 ((yv l1 x16_1).f1)] 77 (0, 0))) := ⟨(by rw [hw]; exact (by (with_reducible repeat (first | refine zS ?_ _ | refine zV ?_ | refine zR ?_ _)); refine yW (cs := #[.int .i64 ((yv l1 x16_1).f0), .int .i64 0]) ?_ 1 _ rfl; (with_reducible repeat (first | refine zS ?_ _ | refine zV ?_ | refine zR ?_ _)); refine yW (cs := #[.int .i64 0, .int .i64 0]) ?_ 0 _ rfl; (with_reducible repeat (first | refine zS ?_ _ | refine zV ?_ | refine zR ?_ _)); exact BK379.out))⟩; have n2_ : za (zj w w16 (fun k_ => P0_ k_)) := ⟨(by rw [hw]; exact (by repeat (first | (with_reducible first | exact HK.out | apply zj.alloc | apply zj.drewN | apply zj.drew | refine zj.setCell ?_ (.inr GW379.out) _) | exact HK.out)))⟩; have n3_ : za (Below w0.heap.size w0 w16) := ⟨(by rw [hw]; exact (by repeat (first | (with_reducible first | exact HB.out | apply zc | apply zb | apply zd | refine zv ?_ GE379.out) | exact HB.out)))⟩; clear hw; clear HO_0; clear BK379; clear HK; clear HB; have HO_0 := n0_; have BK379 := n1_; have HK := n2_; have HB := n3_; clear n0_ n1_ n2_ n3_; have hcz17_0 : w16.cell? ⟨gb379, 0, none⟩ = some (.int .i64 ((yv l1 x16_1).f0)) := (zm BK379.out 0).trans rfl; have hcz17_1 : w16.cell? ⟨gb379, 1, none⟩ = some (.int .i64 ((yv l1 x16_1).f1)) := (zm BK379.out 1).trans rfl; have hfz17_0 := zn BK379.out 0; have hfz17_1 := zn BK379.out 1; obtain ⟨Ao18, co18, eo18⟩ := Kd.R_slice HO_0.out; subst eo18) | ((with_reducible refine zN (N := 23) rfl ?_); refine vR (some 23) rfl rfl Tryz.func145 (by kernel_rfl) rfl #[.slice Ao18 x0_1.length co18, .agg #[.int .i64 ((yv l1 x16_1).f0), .int .i64 ((yv l1 x16_1).f1)]] rfl (by (try simp only [zdJ, List.map_cons, List.map_nil]); first | done | rfl | (simp only [List.length_drop, List.length_take]; rfl)) ?_; (with_reducible refine (xA.calls k1 (fun k_ => some k_ = (.slice Ao18 x0_1.length co18 : Value).ownBlock) (.slice Ao18 x0_1.length co18) x0_1 ((yv l1 x16_1).f0) ((yv l1 x16_1).f1) t380 w0 _ ?side1 ?side2 A13.out).mono ?_); (case side1 => repeat (first | (with_reducible first | exact HB.out | apply zc | apply zb | apply zd | refine zv ?_ GE379.out) | exact HB.out)); (case side2 => exact Kd.R_tight rfl HO_0.out); rintro e w19 ⟨v381, rfl, ho0, hb, hkp⟩; refine ⟨_, rfl, ?_⟩; have n0_ := za.mk (jF (by (with_reducible repeat (first | refine zS ?_ _ | refine zV ?_ | refine zR ?_ _)); exact BK379.out) hkp (fun hs_ => (fun e_ => (Kd.R_ne HO_0.out BK379.out (by decide)) e_) hs_)); have n1_ := za.mk (Kd.R_mono (ok' := fun k_ => (P0_ k_ ∨ w.heap.size ≤ k_)) ho0 (fun k_ hk_ => Or.elim hk_ (fun hs_ => (HO_0.out.1 k_ (hs_).symm)) (fun hn_ => (.inr (Nat.le_trans (by first | exact HK.out.1 | exact (show zj w _ (fun k_ => P0_ k_) from by repeat (first | (with_reducible first | exact HK.out | apply zj.alloc | apply zj.drewN | apply zj.drew | refine zj.setCell ?_ (.inr GW379.out) _) | exact HK.out)).1) hn_))))); have n2_ := za.mk (zj.then_ (S := (fun k_ => P0_ k_)) (by repeat (first | (with_reducible first | exact HK.out | apply zj.alloc | apply zj.drewN | apply zj.drew | refine zj.setCell ?_ (.inr GW379.out) _) | exact HK.out)) hkp (fun k_ hs_ => (fun e_ => (HO_0.out.1 k_ e_.symm)) hs_)); have n3_ := za.mk (hb); clear BK379; clear HK; clear HB; clear HO_0; have BK379 := n0_; have HO382 := n1_; have HK := n2_; have HB := n3_; clear n0_ n1_ n2_ n3_; (try clear hb); (try clear hkp); (try clear ho0)))
      go_roundg k1
      case measure => have := HK1.out; omega
      case rel => exact ⟨(t380), (wrap64 (x16_1 + 1)), (by first | rfl | (simp; done) | (simp [*]; done)), H', ⟨by have := HK1.out; omega⟩, ⟨by (with_reducible repeat (first | apply Kd.R_alloc | apply Kd.R_drewN | apply Kd.R_drew)); exact HO382.out⟩, ⟨by repeat (first | (with_reducible first | exact HK.out | apply zj.alloc | apply zj.drewN | apply zj.drew | refine zj.setCell ?_ (.inr GW379.out) _) | exact HK.out)⟩, ⟨by repeat (first | (with_reducible first | exact HB.out | apply zc | apply zb | apply zd | refine zv ?_ GE379.out) | exact HB.out)⟩⟩
     ·rw [if_neg c12] at H
      exact absurd H (by simp)
    ·rw [if_neg c11] at H
     exact absurd H (by simp)
   ·rw [if_neg c10] at H
    have c10b0 : decide (x16_1 < (l1.length : Int)) = false := decide_eq_false c10
    clear c10
    obtain rfl := Option.some.inj H
    go_wp2
    go_ret
    exact ⟨_, by first | rfl | (simp [zl, zk] <;> rfl) | (simp [*, zl, zk] <;> rfl), by (with_reducible repeat (first | apply Kd.R_alloc | apply Kd.R_drewN | apply Kd.R_drew)); exact HO_0.out, by repeat (first | (with_reducible first | exact HB.out | apply zc | apply zb | apply zd) | exact HB.out), by repeat (first | (with_reducible first | exact HK.out | apply zj.alloc | apply zj.drewN | apply zj.drew) | exact HK.out)⟩
def yQ.f (k : Nat) (l0 : List (S77)) : Option (ByteArray × Int) := (qI.f k l0).bind fun t383 => ((zx.f k ([] : List Int) l0).bind fun t384 => ((yC.f t383 t384).bind fun bt387 => (some (bt387.1, bt387.2))))
theorem yQ.calls (k : Nat) (A0 : Option Addr) (c0 : Nat) (l0 : List (S77)) (r1 : ByteArray) (r2 : Int) (w : World) (hr0 : Kd.C k77 w A0 l0.length l0) (hc0 : l0.length ≤ c0) (h : yQ.f k l0 = some (r1, r2)) :
  Calls Tryz.prog 106 #[.slice A0 l0.length c0] w fun e w' => e = .returned (.tuple #[.string r1, .int .i64 r2]) ∧ Below w.heap.size w w' := by
 have HR0 := za.mk hr0
 have HC0 := za.mk hc0
 clear hr0 hc0
 have HB := za.mk (Below.refl w.heap.size w)
 have H : ((qI.f k l0).bind fun t383 => ((zx.f k ([] : List Int) l0).bind fun t384 => ((yC.f t383 t384).bind fun bt387 => (some (bt387.1, bt387.2))))) = some (r1, r2) := h
 clear h
 replace H := zdK.mp H
 obtain ⟨t383, A20, H⟩ := H
 replace H : ((zx.f k ([] : List Int) l0).bind fun t384 => ((yC.f t383 t384).bind fun bt387 => (some (bt387.1, bt387.2)))) = some (r1, r2) := H
 have A2 := za.mk A20
 clear A20
 replace H := zdK.mp H
 obtain ⟨t384, A30, H⟩ := H
 replace H : ((yC.f t383 t384).bind fun bt387 => (some (bt387.1, bt387.2))) = some (r1, r2) := H
 have A3 := za.mk A30
 clear A30
 replace H := zdK.mp H
 obtain ⟨⟨t387, t388⟩, A40, H⟩ := H
 replace H : (some (t387, t388)) = some (r1, r2) := H
 have A4 := za.mk A40
 clear A40
 simp only [Option.some.injEq, Prod.mk.injEq] at H
 obtain ⟨rfl, rfl⟩ := H
 go_enter Tryz.func106, Tryz.ntmps106
 go_wp2_with (first | ((with_reducible refine zr (f := 143) rfl ?_); refine zL (some 5) rfl rfl Tryz.func143 (by kernel_rfl) rfl #[.slice A0 l0.length c0] rfl (by (try simp only [zdJ, List.map_cons, List.map_nil]); first | done | rfl | (simp only [List.length_drop, List.length_take]; rfl)) ?_; (with_reducible refine (qI.calls k _ _ l0 t383 _ ?side1 ?side2 A2.out).mono ?_); (case side1 => repeat (first | exact HR0.out | (with_reducible refine Kd.C_alloc ?_ _) | (with_reducible refine Kd.C_drewN ?_ _) | (with_reducible refine Kd.C_drew ?_))); (case side2 => exact HC0.out); rintro e w5 ⟨rfl, hb⟩; refine ⟨_, rfl, ?_⟩; have n0_ := za.mk (zp (by repeat (first | (with_reducible first | exact HB.out | apply zc | apply zb | apply zd) | exact HB.out)) hb); clear HB; have HB := n0_; clear n0_; (try clear hb); (try clear hb2); (try clear hk); (try clear hi)) | ((with_reducible refine zr (f := 144) rfl ?_); refine zL (some 7) rfl rfl Tryz.func144 (by kernel_rfl) rfl #[.slice none 0 0, .slice A0 l0.length c0, .func (Fn.func 145) #[] #[]] rfl (by (try simp only [zdJ, List.map_cons, List.map_nil]); first | done | rfl | (simp only [List.length_drop, List.length_take]; rfl)) ?_; (refine (zx.calls k (fun k_ => some k_ = (.slice none 0 0 : Value).ownBlock) (.slice none 0 0) ([] : List Int) _ _ l0 t384 w _ ?side1 ?side2 ?side3 ?side4 A3.out).mono ?_); (case side1 => repeat (first | (with_reducible first | exact HB.out | apply zc | apply zb | apply zd) | exact HB.out)); (case side2 => exact Kd.R_nil _ _ _ _ _); (case side3 => exact Kd.C_kept_came zca HR0.out (by repeat (first | (with_reducible first | exact HB.out | apply zc | apply zb | apply zd) | exact HB.out)) (fun k_ hs_ => (fun e_ => by simp [Value.ownBlock] at e_) hs_)); (case side4 => exact HC0.out); rintro e w6 ⟨v385, rfl, ho0, hb, hkp⟩; refine ⟨_, rfl, ?_⟩; have n0_ := za.mk (Kd.R_mono (ok' := fun k_ => True) ho0 (fun k_ hk_ => trivial)); have n1_ := za.mk (hb); clear HB; have HO386 := n0_; have HB := n1_; clear n0_ n1_; (try clear hb); (try clear hkp); (try clear ho0); obtain ⟨Ao7, co7, eo7⟩ := Kd.R_slice HO386.out; subst eo7) | ((with_reducible refine zr (f := 132) rfl ?_); refine zL (some 8) rfl rfl Tryz.func132 (by kernel_rfl) rfl #[.bool t383, .slice Ao7 t384.length co7] rfl (by (try simp only [zdJ, List.map_cons, List.map_nil]); first | done | rfl | (simp only [List.length_drop, List.length_take]; rfl)) ?_; (with_reducible refine (yC.calls t383 _ _ t384 t387 t388 _ ?side1 ?side2 A4.out).mono ?_); (case side1 => repeat (first | exact (Kd.R_reads' HO386.out).2.2 | (with_reducible refine Kd.C_alloc ?_ _) | (with_reducible refine Kd.C_drewN ?_ _) | (with_reducible refine Kd.C_drew ?_))); (case side2 => exact (Kd.R_reads' HO386.out).2.1); rintro e w' ⟨rfl, ⟨nd, rfl⟩⟩; refine ⟨_, rfl, ?_⟩))
 go_ret2
 exact ⟨by first | rfl | (simp [zl, zk] <;> rfl) | (simp [*, zl, zk] <;> rfl), by repeat (first | (with_reducible first | exact HB.out | apply zc | apply zb | apply zd) | exact HB.out)⟩
def vS.f (a0 : Int) : Option (Bool) := (yb.f a0 0 1099511627776).bind fun t293 => (some t293)
theorem vS.calls (a0 : Int) (r : Bool) (w : World) (h : vS.f a0 = some r) :
  Calls Tryz.prog 128 #[.int .i64 a0] w fun e w' => e = .returned (.bool r) ∧ zi w w' := by
 have H : ((yb.f a0 0 1099511627776).bind fun t293 => (some t293)) = some r := h
 clear h
 replace H := zdK.mp H
 obtain ⟨t293, A20, H⟩ := H
 replace H : (some t293) = some r := H
 have A2 := za.mk A20
 clear A20
 obtain rfl := Option.some.inj H
 go_enter Tryz.func128, Tryz.ntmps128
 go_wp2_with (first | ((with_reducible refine zr (f := 38) rfl ?_); refine zL (some 4) rfl rfl Tryz.func38 (by kernel_rfl) rfl #[.int .i64 a0, .int .i64 0, .int .i64 1099511627776] rfl (by (try simp only [zdJ, List.map_cons, List.map_nil]); first | done | rfl | (simp only [List.length_drop, List.length_take]; rfl)) ?_; (with_reducible refine (yb.calls a0 0 1099511627776 t293 _ A2.out).mono ?_); rintro e w' ⟨rfl, ⟨nd, rfl⟩⟩; refine ⟨_, rfl, ?_⟩))
 go_ret
 exact ⟨by first | rfl | (simp; done) | (simp [*]; done), by repeat (first | exact zi.refl _ | apply zi.step)⟩
def inB (a b c : Int) : Bool := decide (b ≤ a) && decide (a ≤ c)
theorem Q4 (a b c : Int) : yb.f a b c = some (inB a b c) := by
 unfold yb.f inB
 by_cases h : a ≥ b
 ·rw [if_pos h, decide_eq_true h]; rfl
 ·rw [if_neg h, decide_eq_false h]; rfl
theorem YT {a b c : Int} {w : World} {t : Bool} (h : inB a b c = t) : Calls Tryz.prog 38 #[.int .i64 a, .int .i64 b, .int .i64 c] w fun e w' => e = .returned (.bool t) ∧ zi w w' := yb.calls a b c t w (h ▸ Q4 a b c)
theorem ZZ {a : Int} {w : World} {t : Bool} (h : inB a 0 1099511627776 = t) : Calls Tryz.prog 128 #[.int .i64 a] w fun e w' => e = .returned (.bool t) ∧ zi w w' := vS.calls a t w (by unfold vS.f; rw [Q4, h]; rfl)
def VB (x : Fm) (r : Bool) : Prop := ∃ k s e, yu.f k x.f5 = some (s, e) ∧ r = ((e == 0) && (inB x.f3 0 1099511627776 && inB x.f4 1 1099511627776))
def zcP (x : Fm) (r : Bool) : Prop := r = inB x.f4 0 1099511627776
def VD (x : Fm) (r : Bool) : Prop := ∃ k s e k' t g, xp.f k x.f8 = some (s, e) ∧ yQ.f k' x.f9 = some (t, g) ∧ r = (inB x.f4 0 1099511627776 && ((e == 0) && (g == 0)))
theorem zas {x : Fm} {r : Bool} {w : World} {cs : List Value} (h : VB x r) (hx : FmC w x cs) : Calls Tryz.prog 95 #[.agg #[], .agg cs.toArray] w fun e w' => e = .returned (.bool r) ∧ Below w.heap.size w w' := by
 obtain ⟨v5, v6, v7, v8, v9, rfl, h5, h6, h7, h8, h9⟩ := hx
 obtain ⟨k, s, e, hq, rfl⟩ := h
 obtain ⟨A5, c5, rfl, l5, h5⟩ := h5
 have HS := Sat.nil w
 generalize hp : (e == 0) = p at *
 generalize hpl : inB x.f3 0 1099511627776 = q at *
 generalize ht : inB x.f4 1 1099511627776 = t at *
 replace h5 := za.mk h5
 replace hq := za.mk hq
 replace hpl := za.mk hpl
 replace ht := za.mk ht
 have hp2 : (e != 0) = !p := by rw [← hp]; rfl
 cases p
 case' true => cases q
 all_goals
  go_enter Tryz.func95, Tryz.ntmps95
  go_wp2_with ((first | ((with_reducible refine gB rfl ?_); refine zz HS ?_) | ((with_reducible refine gA rfl ?_); refine zt HS ?_) | ((with_reducible refine gS rfl ?_); refine zu HS ?_) | (go_at_call 127; refine HS.go (yu.calls _ _ _ _ _ _ _ (Kd.C_below h5.out HS.below) l5 hq.out) ?_) | (go_at_call 128; refine HS.go0 (ZZ hpl.out) ?_) | (go_at_call 38; refine HS.go0 (YT ht.out) ?_)); clear HS; (try clear hc); intros; rename_i HS; have hc := HS.lk; simp only [Lk, LkC, Value.cells, List.toList_toArray, Nat.reduceAdd, Nat.zero_add, and_true, zf, zg, ze, zh] at HS hc)
  go_ret
  exact ⟨rfl, HS.below⟩
theorem zcB {x : Fm} {r : Bool} {w : World} {cs : List Value} (h : zcP x r) (hx : FmC w x cs) : Calls Tryz.prog 97 #[.agg #[], .agg cs.toArray] w fun e w' => e = .returned (.bool r) ∧ Below w.heap.size w w' := by
 obtain ⟨v5, v6, v7, v8, v9, rfl, h5, h6, h7, h8, h9⟩ := hx
 obtain rfl := h
 have HS := Sat.nil w
 go_enter Tryz.func97, Tryz.ntmps97
 go_wp2_with ((first | ((with_reducible refine gB rfl ?_); refine zz HS ?_) | ((with_reducible refine gA rfl ?_); refine zt HS ?_) | ((with_reducible refine gS rfl ?_); refine zu HS ?_) | (go_at_call 128; refine HS.go0 (ZZ rfl) ?_)); clear HS; (try clear hc); intros; rename_i HS; have hc := HS.lk; simp only [Lk, LkC, Value.cells, List.toList_toArray, Nat.reduceAdd, Nat.zero_add, and_true, zf, zg, ze, zh] at HS hc)
 go_ret
 exact ⟨rfl, HS.below⟩
theorem zau {x : Fm} {r : Bool} {w : World} {cs : List Value} (h : VD x r) (hx : FmC w x cs) : Calls Tryz.prog 99 #[.agg #[], .agg cs.toArray] w fun e w' => e = .returned (.bool r) ∧ Below w.heap.size w w' := by
 obtain ⟨v5, v6, v7, v8, v9, rfl, h5, h6, h7, h8, h9⟩ := hx
 obtain ⟨k, s, e, k', t, g, hq, hv, rfl⟩ := h
 obtain ⟨A8, c8, rfl, l8, h8⟩ := h8
 obtain ⟨A9, c9, rfl, l9, h9⟩ := h9
 have HS := Sat.nil w
 generalize hp : (e == 0) = p at *
 generalize hu : (g == 0) = u at *
 generalize hpl : inB x.f4 0 1099511627776 = q at *
 replace h8 := za.mk h8
 replace h9 := za.mk h9
 replace hq := za.mk hq
 replace hv := za.mk hv
 replace hpl := za.mk hpl
 have hp2 : (e != 0) = !p := by rw [← hp]; rfl
 have hu2 : (g != 0) = !u := by rw [← hu]; rfl
 cases q
 case' true => cases p
 all_goals
  go_enter Tryz.func99, Tryz.ntmps99
  go_wp2_with ((first | ((with_reducible refine gB rfl ?_); refine zz HS ?_) | ((with_reducible refine gA rfl ?_); refine zt HS ?_) | ((with_reducible refine gS rfl ?_); refine zu HS ?_) | (go_at_call 105; refine HS.go (xp.calls _ _ _ _ _ _ _ (Kd.C_below h8.out HS.below) l8 hq.out) ?_) | (go_at_call 106; refine HS.go (yQ.calls _ _ _ _ _ _ _ (Kd.C_below h9.out HS.below) l9 hv.out) ?_) | (go_at_call 128; refine HS.go0 (ZZ hpl.out) ?_)); clear HS; (try clear hc); intros; rename_i HS; have hc := HS.lk; simp only [Lk, LkC, Value.cells, List.toList_toArray, Nat.reduceAdd, Nat.zero_add, and_true, zf, zg, ze, zh] at HS hc)
  go_ret
  exact ⟨rfl, HS.below⟩
def qD.f (_k : Nat) (a0 a1 : Int) (a2 : ByteArray) (a3 : Int) (l4 : List Int) (a5 : Int) : Option Bool := some (jo a0 a1 a2 a3 l4 a5)
theorem qD.mono : ∀ a0 a1 a2 a3 l4 a5 k, LeO (qD.f k a0 a1 a2 a3 l4 a5) (qD.f (k + 1) a0 a1 a2 a3 l4 a5) := fun _ _ _ _ _ _ _ => LeO.refl _
theorem qD.calls (k : Nat) (a0 a1 : Int) (a2 : ByteArray) (a3 : Int) (A4 : Option Addr) (c4 : Nat) (l4 : List Int) (a5 : Int) (r : Bool) (w : World) (hr : Kd.C (Kd.int .i64) w A4 l4.length l4) (hl : l4.length ≤ c4) (h : qD.f k a0 a1 a2 a3 l4 a5 = some r) :
  Calls Tryz.prog 136 #[.agg #[.int .i64 a0, .int .i64 a1, .string a2, .int .i64 a3, .slice A4 l4.length c4, .int .i64 a5]] w fun e w' => e = .returned (.bool r) ∧ Below w.heap.size w w' := by
 obtain rfl := Option.some.inj h
 clear h
 have HS := Sat.nil w
 have HR := za.mk hr
 have HL := za.mk hl
 clear hr hl
 unfold jo
 generalize gp : vX a0 a1 a2 = p
 replace gp := za.mk gp
 generalize gq : wiB a3 0 11 = q
 replace gq := za.mk gq
 generalize gu : js l4 4 = u
 replace gu := za.mk gu
 generalize gv : wiB a5 (-1) 1099511627776 = v
 replace gv := za.mk gv
 cases p
 case' true => cases q
 case' true.true => cases u
 all_goals
  go_enter Tryz.func136, Tryz.ntmps136
  go_wp2_with ((first | ((with_reducible refine gB rfl ?_); refine zz HS ?_) | ((with_reducible refine gA rfl ?_); refine zt HS ?_) | ((with_reducible refine gS rfl ?_); refine zu HS ?_) | (go_at_call 169; refine HS.go (zdu gp.out) ?_) | (go_at_call 170; refine HS.go (xE gq.out) ?_) | (go_at_call 171; refine HS.go (zbX (Kd.C_below HR.out HS.below) HL.out gu.out) ?_) | (go_at_call 170; refine HS.go (xE gv.out) ?_)); clear HS; (try clear hc); intros; rename_i HS; have hc := HS.lk; simp only [Lk, LkC, Value.cells, List.toList_toArray, Nat.reduceAdd, Nat.zero_add, and_true, zf, zg, ze, zh] at HS hc)
  go_ret
  exact ⟨by first | rfl | simp, HS.below⟩
def yT.f (k : Nat) (a0 : Int) (a1 : Int) (a2 : ByteArray) (a3 : Int) (l4 : List Int) (a5 : Int) : Option (ByteArray × Int) := (zw.f k [] [a0, a1]).bind fun t1 => ((qg.f t1 a2).bind fun t2 => ((zw.f k t2 [a3]).bind fun t3 => ((yF.f t3 l4).bind fun t4 => ((qD.f k a0 a1 a2 a3 l4 a5).bind fun t5 => ((zw.f k t4 [a5]).bind fun t6 => ((yC.f t5 t6).bind fun b => (some (b.1, b.2))))))))
theorem yT.mono : ∀ a0 a1 a2 a3 a4 a5 k, LeO (yT.f k a0 a1 a2 a3 a4 a5) (yT.f (k + 1) a0 a1 a2 a3 a4 a5) := fun _ _ _ _ _ _ _ =>
 LeO.bind (zw.mono _ _ _) (fun _ => LeO.bind (LeO.refl _) (fun _ => LeO.bind (zw.mono _ _ _) (fun _ => LeO.bind (LeO.refl _) (fun _ => LeO.bind (qD.mono _ _ _ _ _ _ _) (fun _ => LeO.bind (zw.mono _ _ _) (fun _ => LeO.refl _))))))
theorem yT.calls (k : Nat) (a0 : Int) (a1 : Int) (a2 : ByteArray) (a3 : Int) (A4 : Option Addr) (c4 : Nat) (l4 : List Int) (a5 : Int) (r1 : ByteArray) (r2 : Int) (w : World) (hr : Kd.C (Kd.int .i64) w A4 l4.length l4) (hl : l4.length ≤ c4) (h : yT.f k a0 a1 a2 a3 l4 a5 = some (r1, r2)) :
  Calls Tryz.prog 102 #[.agg #[.int .i64 a0, .int .i64 a1, .string a2, .int .i64 a3, .slice A4 l4.length c4, .int .i64 a5]] w fun e w' => e = .returned (.tuple #[.string r1, .int .i64 r2]) ∧ Below w.heap.size w w' := by
 unfold yT.f at h
 simp only [zdK] at h
 obtain ⟨t1, h1, t2, h2, t3, h3, t4, h4, t5, h5, t6, h6, ⟨b1, b2⟩, h7, h⟩ := h
 injection h with h
 injection h with e1 e2
 subst e1 e2
 replace h1 := za.mk h1
 replace h2 := za.mk h2
 replace h3 := za.mk h3
 replace h4 := za.mk h4
 replace h5 := za.mk h5
 replace h6 := za.mk h6
 replace h7 := za.mk h7
 replace hr := za.mk hr
 replace hl := za.mk hl
 have HS := (Sat.nil w).row (Ty.R (Kd.int .u8) 5 w.heap.size (.slice none 0 0) []) (Kd.R_nil _ _ _ _ _)
 go_enter Tryz.func102, Tryz.ntmps102
 go_wp2_with (first | ((first | ((with_reducible refine gB rfl ?_); refine zz HS ?_) | ((with_reducible refine gA rfl ?_); refine zt HS ?_) | ((with_reducible refine gS rfl ?_); refine zu HS ?_)); clear HS; (try clear hc); intros; rename_i HS; have hc := HS.lk; simp only [Lk, LkC, Value.cells, List.toList_toArray, Nat.reduceAdd, Nat.zero_add, and_true, zf, zg, ze, zh] at HS hc) | ((first | refine yE (.op 0 0 5 (.op 1 0 6 (.op 2 0 7 (.op 3 0 8 (.op 6 0 11 (.op 7 0 12 (.op 4 2 9 (.op 5 2 10 (.op 8 2 13 (.op 9 1 4 .nil)))))))))) [] HS (List.Sublist.refl _) ?_ | refine yE (.op 0 0 14 (.op 1 0 15 (.op 2 0 16 (.op 5 0 19 (.op 6 0 20 (.op 3 2 17 (.op 4 2 18 (.op 7 2 21 (.op 8 1 4 .nil))))))))) [] HS (List.Sublist.refl _) ?_ | refine yE (.op 0 0 22 (.op 2 0 24 (.op 3 0 25 (.op 4 0 26 (.two 1 23 5 27 (.op 5 2 27 (.op 6 2 28 (.op 7 2 29 (.op 8 1 30 (.op 9 1 31 (.op 10 1 2 (.op 11 1 3 .nil))))))) (.op 1 2 23 (.op 6 2 28 (.op 7 2 29 (.op 8 1 30 (.op 9 1 31 (.op 10 1 2 (.op 11 1 3 .nil)))))))))))) [] HS (List.Sublist.refl _) ?_); clear HS; (try clear hc); intro HS hS; (repeat' (first | refine RT.tk ?_ | refine RT.pu ?_ | refine RT.f2 ?_ ?_ | refine RT.o1 ?_ | (refine Yb (l := [a0, a1]) HS (List.Sublist.refl _) ?_ (by simp); clear HS; intro g_ w_ HS; refine RT.nm ?_) | (refine Yb (l := [a3]) HS (List.Sublist.refl _) ?_ (by simp); clear HS; intro g_ w_ HS; refine RT.nm ?_) | (refine Yb (l := [a5]) HS (List.Sublist.refl _) ?_ (by simp); clear HS; intro g_ w_ HS; refine RT.nm ?_) | (refine Qc HS (List.Sublist.refl _) (zw.calls k _ _ _ _ _ _ _ _ _ HS.below HS.bytes (HS.made) (Nat.le_refl _) h1.out) ?_; clear HS; intro A c w_ HS; refine RT.nm ?_) | (refine Qc HS (List.Sublist.refl _) (qg.calls _ _ _ _ _ _ _ HS.below HS.bytes h2.out) ?_; clear HS; intro A c w_ HS; refine RT.nm ?_) | (refine Qc HS (List.Sublist.refl _) (zw.calls k _ _ _ _ _ _ _ _ _ HS.below HS.bytes (HS.made) (Nat.le_refl _) h3.out) ?_; clear HS; intro A c w_ HS; refine RT.nm ?_) | (refine Qc HS (List.Sublist.refl _) (yF.calls _ _ _ _ _ _ _ _ _ HS.below HS.bytes (HS.came (Kd.heap_int .i64) hr.out) hl.out h4.out) ?_; clear HS; intro A c w_ HS; refine RT.nm ?_) | (refine xS HS (List.Sublist.refl _) (qD.calls k _ _ _ _ _ _ _ _ _ _ (Kd.C_below hr.out HS.below) hl.out h5.out) ?_; clear HS; intro w_ HS; refine RT.nm ?_) | (refine Qc HS (List.Sublist.refl _) (zw.calls k _ _ _ _ _ _ _ _ _ HS.below HS.bytes (HS.made) (Nat.le_refl _) h6.out) ?_; clear HS; intro A c w_ HS; refine RT.nm ?_) | (refine xS HS (List.Sublist.refl _) (qq (yC.calls _ _ _ _ _ _ _ HS.now.2.2 HS.now.2.1 h7.out)) ?_; clear HS; intro w_ HS; refine RT.nm ?_))); (all_goals clear hS); (all_goals have hc := HS.lk); (all_goals simp only [Lk, LkC, Value.cells, List.toList_toArray, Nat.reduceAdd, Nat.zero_add, and_true, zf, zg, ze, zh] at HS hc); (all_goals refine RT.nil ?_)))
 all_goals
  go_ret2
  exact ⟨rfl, HS.below⟩
def qx : Option Int → Int → Bool
 | none, _ => true
 | some s, n => decide (s < n)
def Jt (cl : Int) : Option Int → List S52 → Bool → Prop
 | _, [], r => r = true
 | p, y :: l, r => ∃ k s e, yT.f k y.f0 y.f1 y.f2 y.f3 y.f4 y.f5 = some (s, e) ∧ ((((e == 0) && ((y.f0 == cl) && qx p y.f1)) = false ∧ r = false) ∨ (((e == 0) && ((y.f0 == cl) && qx p y.f1)) = true ∧ Jt cl (some y.f1) l r))
def zaE (x : Fm) (r : Bool) : Prop := ∃ b, Jt x.f1 none x.f6 b ∧ r = (b && inB (x.f6.length : Int) 1 8)
theorem zaX {x : Fm} {r : Bool} {w : World} {cs : List Value} (h : zaE x r) (hx : FmC w x cs) : Calls Tryz.prog 96 #[.agg #[], .agg cs.toArray] w fun e w' => e = .returned (.bool r) ∧ Below w.heap.size w w' := by
 obtain ⟨v5, v6, v7, v8, v9, rfl, h5, h6, h7, h8, h9⟩ := hx
 obtain ⟨g, hg, rfl⟩ := h
 obtain ⟨A, c, rfl, hl, hr⟩ := h6
 have HR := za.mk hr
 have HLEN := za.mk hr.2.1
 have HG := za.mk hg
 have HS := Sat.nil w
 clear hr hg hl h5 h7 h8 h9
 go_enter Tryz.func96, Tryz.ntmps96
 go_wp2_with ((first | ((with_reducible refine gB rfl ?_); refine zz HS ?_) | ((with_reducible refine gA rfl ?_); refine zt HS ?_) | ((with_reducible refine gS rfl ?_); refine zu HS ?_)); clear HS; (try clear hc); intros; rename_i HS; have hc := HS.lk; simp only [Lk, LkC, Value.cells, List.toList_toArray, Nat.reduceAdd, Nat.zero_add, and_true, zf, zg, ze, zh] at HS hc)
 rename_i gz _ gf _ _ _
 have HZ := za.mk HS
 clear HS hc
 go_loopg [12] x.f6.length (fun kq vi wr => ∃ i : Nat, vi = .int .i64 i ∧ za (i + kq = x.f6.length) ∧ za (Jt x.f1 (if i = 0 then none else some (xf x.f6 ((i - 1 : Nat) : Int)).f1) (x.f6.drop i) g) ∧ za (Sat [] w wr [(gf, [.int .i64 x.f0, .int .i64 x.f1, .int .i64 x.f2, .int .i64 x.f3, .int .i64 x.f4, v5, .slice A x.f6.length c, v7, v8, v9], 28), (gz, [], 92)] []))
 case atStart => exact ⟨0, rfl, ⟨by simp⟩, ⟨by rw [if_pos rfl, List.drop_zero]; exact HG.out⟩, HZ⟩
 case round =>
  clear HZ HG
  obtain ⟨i, rfl, HK, HO, HT⟩ := hrel
  have HS := HT.out
  clear HT
  have hc := HS.lk; simp only [Lk, LkC, Value.cells, List.toList_toArray, Nat.reduceAdd, Nat.zero_add, and_true, zf, zg, ze, zh] at HS hc
  have hil : i ≤ x.f6.length := by have := HK.out; omega
  by_cases hlt : i < x.f6.length
  ·obtain ⟨ad, A4, c4, e0, x0, x1, x2, x3, x4, x5, hll, hin⟩ := ZE HR.out (i : Int) (by omega) (by omega)
   subst e0
   have hd1 : xf x.f6 ((i : Nat) : Int) = x.f6[i] := by simp [xf, hlt]
   have ho := HO.out
   rw [List.drop_eq_getElem_cons hlt] at ho
   rw [Int.toNat_natCast] at x0 x1 x2 x3 x4 x5
   rw [hd1] at x0 x1 x2 x3 x4 x5 hll hin
   obtain ⟨y, hy⟩ : ∃ y, y = x.f6[i] := ⟨_, rfl⟩
   rw [← hy] at ho x0 x1 x2 x3 x4 x5 hll hin
   obtain ⟨k, s, e, hp, ho⟩ := ho
   have HP := za.mk hp
   have HI := za.mk hin
   have HL := za.mk hll
   replace x0 := HS.at_ x0
   replace x1 := HS.at_ x1
   replace x2 := HS.at_ x2
   replace x3 := HS.at_ x3
   replace x4 := HS.at_ x4
   replace x5 := HS.at_ x5
   have HN : za ((some y.f1) = (if i + 1 = 0 then none else some (xf x.f6 ((i + 1 - 1 : Nat) : Int)).f1)) := ⟨by rw [if_neg (by omega), show i + 1 - 1 = i from rfl, hd1, ← hy]⟩
   have b0 : (0 : Int) ≤ (i : Int) := by omega
   have b1 : (i : Int) < (x.f6.length : Int) := by omega
   clear hp hin hll HO hy hd1
   generalize hp1 : (e == 0) = p at ho
   have hp2 : (e != 0) = !p := by rw [← hp1]; rfl
   generalize hq1 : (y.f0 == x.f1) = q at ho
   have hq2 : (y.f0 != x.f1) = !q := by rw [← hq1]; rfl
   go_upto_region 5 with ((first | ((with_reducible refine gB rfl ?_); refine zz HS ?_) | ((with_reducible refine gA rfl ?_); refine zt HS ?_) | ((with_reducible refine gS rfl ?_); refine zu HS ?_) | (go_at_call 102; refine HS.go (yT.calls k y.f0 y.f1 y.f2 y.f3 A4 c4 y.f4 y.f5 _ _ _ (Kd.C_below HI.out HS.below) HL.out HP.out) ?_)); clear HS; (try clear hc); intros; rename_i HS; have hc := HS.lk; simp only [Lk, LkC, Value.cells, List.toList_toArray, Nat.reduceAdd, Nat.zero_add, and_true, zf, zg, ze, zh] at HS hc)
   clear x0 x1 x2 x3 x4 x5
   obtain ⟨gx, rfl⟩ := HS.hd
   by_cases hi0 : i = 0
   ·rw [if_pos hi0] at ho
    have ht1 : qx none y.f1 = true := rfl
    rw [ht1] at ho
    have j4 : ¬ (0 : Int) < (i : Int) := by omega
    have j5 : decide (0 < i) = false := decide_eq_false (by omega)
    have j6 : decide ((0 : Int) < (i : Int)) = false := decide_eq_false (by omega)
    clear hi0
    cases p
    case' true => cases q
    all_goals
     clear hc
     replace HS := HS.drewN 1
     refine jx (.op 0 0 22 (.op 1 0 23 (.op 2 0 24 (.op 3 0 25 (.op 4 0 26 (.op 5 0 27 (.op 6 0 28 (.op 7 0 29 (.op 8 0 30 (.op 9 0 31 (.op 10 0 32 (.op 11 0 33 (.op 12 0 34 (.op 13 0 35 (.op 14 0 36 (.op 15 0 37 (.op 16 0 38 (.op 17 0 39 (.op 18 0 40 (.op 19 0 41 (.op 20 0 42 (.op 21 0 43 (.op 22 0 44 (.op 23 0 45 (.op 24 0 46 .nil))))))))))))))))))))))))) [] (fun W => Lk W [(gx, [.int .i64 y.f0, .int .i64 y.f1, .string y.f2, .int .i64 y.f3, .slice A4 y.f4.length c4, .int .i64 y.f5], 52), (gf, [.int .i64 x.f0, .int .i64 x.f1, .int .i64 x.f2, .int .i64 x.f3, .int .i64 x.f4, v5, .slice (some ad) x.f6.length c, v7, v8, v9], 28)]) ((fun w' H => (H.off (.cons_cons _ (.cons_cons _ (.cons _ .slnil)))).lk) _ HS) (fun hS => ?_)
     (repeat (first | refine RT.tk ?_ | refine RT.tn ?_ | refine RT.pu ?_ | refine RT.pn ?_))
     refine RT.nil ?_
     clear hS
     go_wp2
     first
     | (go_ret; exact ⟨by rcases ho with ⟨_, h_⟩ | ⟨h_, _⟩ <;> first | (rw [h_]; rfl) | (simp at h_; done), HS.below⟩)
     | (go_roundg (x.f6.length - (i + 1)); (case measure => have := HK.out; omega); (case rel => exact ⟨i + 1, by have h_ : wrap64 ((i : Int) + 1) = ((i + 1 : Nat) : Int) := z4 (by omega) (by have := HLEN.out; omega); first | (rw [h_]) | (simp only [h_]) | rfl, ⟨by have := HK.out; omega⟩, ⟨by rw [← HN.out]; rcases ho with ⟨h_, _⟩ | ⟨_, h_⟩ <;> first | exact h_ | (simp at h_; done)⟩, ⟨HS.off (.cons _ (List.Sublist.refl _))⟩⟩))
   ·rw [if_neg hi0] at ho
    obtain ⟨j, hij⟩ : ∃ j, i = j + 1 := ⟨i - 1, by omega⟩
    obtain ⟨ad2, _, _, e2, -, px, -⟩ := ZE HR.out (j : Int) (by omega) (by omega)
    obtain rfl : ad = ad2 := by injection e2
    rw [Int.toNat_natCast] at px
    rw [show i - 1 = j by omega] at ho
    generalize (xf x.f6 (j : Int)).f1 = sp at ho px
    have j0 : (0 : Int) ≤ (j : Int) := by omega
    have j1 : (j : Int) < (x.f6.length : Int) := by omega
    have j2 : wrap64 ((i : Int) - 1) = (j : Int) := by have := HLEN.out; rw [xo (by omega) (by omega)]; omega
    have j3 := (zT _).trans j2
    have j4 : (0 : Int) < (i : Int) := by omega
    have j5 : decide (0 < i) = true := decide_eq_true (by omega)
    have j6 : decide ((0 : Int) < (i : Int)) = true := decide_eq_true (by omega)
    generalize ht1 : qx (some sp) y.f1 = t at ho
    have ht2 : decide (y.f1 ≤ sp) = !t := by rw [← ht1, qx, Bool.eq_iff_iff]; simp
    clear e2 hi0 hij
    cases p
    case' true => cases q
    case' true.true => cases t
    all_goals
     clear hc
     replace HS := HS.drewN 1
     refine jx (.op 0 0 22 (.op 1 0 23 (.op 2 0 24 (.op 3 0 25 (.op 4 0 26 (.op 5 0 27 (.op 6 0 28 (.op 7 0 29 (.op 8 0 30 (.op 9 0 31 (.op 10 0 32 (.op 11 0 33 (.op 12 0 34 (.op 13 0 35 (.op 14 0 36 (.op 15 0 37 (.op 16 0 38 (.op 17 0 39 (.op 18 0 40 (.op 19 0 41 (.op 20 0 42 (.op 21 0 43 (.op 22 0 44 (.op 23 0 45 (.op 24 0 46 .nil))))))))))))))))))))))))) [] (fun W => Lk W [(gx, [.int .i64 y.f0, .int .i64 y.f1, .string y.f2, .int .i64 y.f3, .slice A4 y.f4.length c4, .int .i64 y.f5], 52), (gf, [.int .i64 x.f0, .int .i64 x.f1, .int .i64 x.f2, .int .i64 x.f3, .int .i64 x.f4, v5, .slice (some ad) x.f6.length c, v7, v8, v9], 28)] ∧ W.cell? ⟨(ad.add (j * 6)).block, (ad.add (j * 6)).off + 1, none⟩ = some (.int .i64 sp)) ((fun w' H => ⟨(H.off (.cons_cons _ (.cons_cons _ (.cons _ .slnil)))).lk, H.at_ px⟩) _ HS) (fun hS => ?_)
     (repeat (first | refine RT.tk ?_ | refine RT.tn ?_ | refine RT.pu ?_ | refine RT.pn ?_))
     refine RT.nil ?_
     clear hS px
     go_wp2
     first
     | (go_ret; exact ⟨by rcases ho with ⟨_, h_⟩ | ⟨h_, _⟩ <;> first | (rw [h_]; rfl) | (simp at h_; done), HS.below⟩)
     | (go_roundg (x.f6.length - (i + 1)); (case measure => have := HK.out; omega); (case rel => exact ⟨i + 1, by have h_ : wrap64 ((i : Int) + 1) = ((i + 1 : Nat) : Int) := z4 (by omega) (by have := HLEN.out; omega); first | (rw [h_]) | (simp only [h_]) | rfl, ⟨by have := HK.out; omega⟩, ⟨by rw [← HN.out]; rcases ho with ⟨h_, _⟩ | ⟨_, h_⟩ <;> first | exact h_ | (simp at h_; done)⟩, ⟨HS.off (.cons _ (List.Sublist.refl _))⟩⟩))
  ·obtain rfl : i = x.f6.length := by omega
   have ho := HO.out
   rw [List.drop_length] at ho
   obtain rfl : g = true := ho
   clear HO
   go_wp2_with ((first | (go_at_call 38; refine HS.go0 (YT rfl) ?_)); clear HS; (try clear hc); intros; rename_i HS; have hc := HS.lk; simp only [Lk, LkC, Value.cells, List.toList_toArray, Nat.reduceAdd, Nat.zero_add, and_true, zf, zg, ze, zh] at HS hc)
   go_ret
   exact ⟨rfl, HS.below⟩
def yl.f (k : Nat) (l0 : List Int) (a1_0 : Int) (l1_1 : List Int) : Option (List Int) := (zw.f k l0 (([a1_0] : List Int))).bind fun t331 => ((yF.f t331 l1_1).bind fun t334 => (some t334))
theorem yl.mono : ∀ a0 a1 a2 k, LeO (yl.f k a0 a1 a2) (yl.f (k + 1) a0 a1 a2) := by
 intro a0 a1 a2 k
 unfold yl.f
 repeat' first
   | (with_reducible exact zw.mono _ _ _)
   | (with_reducible exact LeO.refl _)
   | (with_reducible exact LeO.none _)
   | (with_reducible refine LeO.ite ?_ ?_)
   | (with_reducible refine LeO.bind ?_ (fun _ => ?_))
   | exact zw.mono _ _ _
   | exact LeO.none _
   | refine LeO.ite ?_ ?_
   | refine LeO.bind ?_ (fun _ => ?_)
def yl.T1 : Bool × List (List Nat × List Nat) := (true, [([], []), ([], []), ([1], [1]), ([2], [2]), ([0, 3], [0, 3]), ([], []), ([5], [5]), ([4, 6, 4], [4, 6]), ([7, 7, 0, 1, 2, 3, 4, 5, 6, 7], [7])])
def yl.B1 : List Nat := [0, 0, 2, 6, 15, 0, 32, 127, 255]
theorem yl.tab1 : qr .any (Ju Tryz.f139 1) = yl.T1 := by kernel_rfl
theorem yl.bits1 : vC yl.T1.2 yl.B1 = true := by kernel_rfl
theorem yl.calls (k : Nat) (P0_ : Nat → Prop) (u9000_ : Value) (l0 : List Int) (a1_0 : Int) (A1_1 : Option Addr) (c1_1 : Nat) (l1_1 : List Int) (r : List Int) (w0 w : World) (hB : Below w0.heap.size w0 w) (ho0 : Kd.R (Kd.int .u8) 5 w w0.heap.size P0_ u9000_ l0) (hr1_1 : ∀ W_, zj w W_ (fun k_ => P0_ k_) → Kd.C (Kd.int .i64) W_ A1_1 l1_1.length l1_1) (hc1_1 : l1_1.length ≤ c1_1) (h : yl.f k l0 a1_0 l1_1 = some r) :
  Calls Tryz.prog 139 #[u9000_, .agg #[.int .i64 a1_0, .slice A1_1 l1_1.length c1_1]] w fun e w' => ∃ v0_ : Value, e = .returned (v0_) ∧ Kd.R (Kd.int .u8) 5 w' w0.heap.size (fun k_ => (P0_ k_ ∨ w.heap.size ≤ k_)) v0_ r ∧ Below w0.heap.size w0 w' ∧ zj w w' (fun k_ => P0_ k_) := by
 have hu108 := Tryz.underlying108
 have HO0 := za.mk (show Kd.R (Kd.int .u8) 5 w w0.heap.size (fun k_ => (P0_ k_ ∨ w.heap.size ≤ k_)) u9000_ l0 from Kd.R_mono ho0 (fun k_ hk => (.inl hk)))
 have HR1_1 := za.mk hr1_1
 have HC1_1 := za.mk hc1_1
 clear hr1_1 hc1_1
 have HK := za.mk (zj.refl w (fun k_ => P0_ k_))
 have HW0 := za.mk hB.size
 have HB := za.mk hB
 clear hB
 have H : ((zw.f k l0 (([a1_0] : List Int))).bind fun t331 => ((yF.f t331 l1_1).bind fun t334 => (some t334))) = some r := h
 clear h
 obtain ⟨y328, hy328⟩ : ∃ y_ : List Int, y_ = (([a1_0] : List Int)) := ⟨_, rfl⟩
 replace H : ((zw.f k l0 y328).bind fun t331 => ((yF.f t331 l1_1).bind fun t334 => (some t334))) = some r := by first | (rw [hy328]; with_reducible exact H) | (have H2_ := (Option.bind_some _ _).symm.trans H; rw [hy328]; with_reducible exact H2_) | (have H2_ := (Option.bind_some _ _).symm.trans H; with_reducible exact H2_) | with_reducible exact H | (rw [hy328]; exact H) | exact H
 have Ny328 := za.mk hy328
 clear hy328
 replace H := zdK.mp H
 obtain ⟨t331, A30, H⟩ := H
 replace H : ((yF.f t331 l1_1).bind fun t334 => (some t334)) = some r := H
 have A3 := za.mk A30
 clear A30
 replace H := zdK.mp H
 obtain ⟨t334, A40, H⟩ := H
 replace H : (some t334) = some r := H
 have A4 := za.mk A40
 clear A40
 obtain rfl := Option.some.inj H
 go_enter Tryz.func139, Tryz.ntmps139
 try go_wp2_with (first | ((with_reducible refine zN (N := 3) rfl ?_); refine yp ?hg (N := 3) ?hd (cs := #[.int .i64 a1_0, .slice A1_1 l1_1.length c1_1]) (t := 108) ?hr ?_; (case hd => rfl); (case hg => rfl); (case hr => first | (go_simp; done) | (go_simp; rfl)); intro gb327 hg w5 hbox hb; have n0_ := za.mk (Kd.R_below (by (with_reducible repeat (first | apply Kd.R_alloc | apply Kd.R_drewN | apply Kd.R_drew)); exact HO0.out) hb); have n1_ := za.mk (zj.below (S := (fun k_ => P0_ k_)) (by repeat (first | (with_reducible first | exact HK.out | apply zj.alloc | apply zj.drewN | apply zj.drew) | exact HK.out)) hb); have n2_ := za.mk (zp (by repeat (first | (with_reducible first | exact HB.out | apply zc | apply zb | apply zd) | exact HB.out)) hb); have n3_ := za.mk (hbox); have n4_ := za.mk ((by rw [hg]; exact (by first | exact HK.out.1 | exact (show zj w _ (fun k_ => P0_ k_) from by repeat (first | (with_reducible first | exact HK.out | apply zj.alloc | apply zj.drewN | apply zj.drew) | exact HK.out)).1) : w.heap.size ≤ gb327)); have n5_ := za.mk ((by rw [hg]; exact (zF (by repeat (first | (with_reducible first | exact HB.out | apply zc | apply zb | apply zd) | exact HB.out))) : w0.heap.size ≤ gb327)); clear HO0; clear HK; clear HB; have HO0 := n0_; have HK := n1_; have HB := n2_; have BK327 := n3_; have GW327 := n4_; have GE327 := n5_; clear n0_ n1_ n2_ n3_ n4_ n5_; clear hb hbox hg))
 have n0_ := za.mk (Kd.R_drew HO0.out)
 have n1_ := za.mk (zV BK327.out)
 have n2_ := za.mk (zj.drew HK.out)
 have n3_ := za.mk (zd HB.out)
 clear HO0
 clear BK327
 clear HK
 clear HB
 have HO0 := n0_
 have BK327 := n1_
 have HK := n2_
 have HB := n3_
 clear n0_ n1_ n2_ n3_
 refine Yv (n := 9) (S := fun w' => w'.cell? ⟨gb327, 0, none⟩ = some (.int .i64 a1_0) ∧ w'.cell? ⟨gb327, 1, none⟩ = some (.slice A1_1 l1_1.length c1_1)) (ds := []) #[Y,Y,Y,Y,Y,Y,Y,Y,Y] (by kernel_rfl) rfl rfl ⟨(zm BK327.out 0).trans rfl, (zm BK327.out 1).trans rfl⟩ (fun hHeld => ?_); refine ZK yl.tab1 yl.bits1 (fun HT_ HW_ => ?_)
 generalize w5.drew = w6 at HO0 BK327 HK HB hHeld ⊢
 refine yM (i := 0) (N := some 5) (v := ?_) (a' := ?_) #[O,Y,Y,Y,Y,Y,Y,Y,Y] rfl rfl (yG HT_.out (by kernel_rfl)) (fun _ _ _ h => h) (Or.inl ⟨by rfl, ?_⟩) ?_ ?_
 rotate_left
 ·intro w'
  go_simp
  with_reducible rfl
 rotate_left
 ·simp only [Act.put, zdG, zdH, zdI, zT, yc]
  rfl
 refine yM (i := 1) (N := some 6) (v := ?_) (a' := ?_) #[O,O,Y,Y,Y,Y,Y,Y,Y] rfl rfl (yG HT_.out (by kernel_rfl)) (fun _ _ _ h => h) (Or.inl ⟨by rfl, ?_⟩) ?_ ?_
 rotate_left
 ·intro w'
  go_simp
  with_reducible rfl
 rotate_left
 ·simp only [Act.put, zdG, zdH, zdI, zT, yc]
  rfl
 refine yM (i := 5) (N := some 10) (v := ?_) (a' := ?_) #[O,O,Y,Y,Y,O,Y,Y,Y] rfl rfl (yG HT_.out (by kernel_rfl)) (fun _ _ _ h => h) (Or.inl ⟨by rfl, ?_⟩) ?_ ?_
 rotate_left
 ·intro w'
  go_simp
  with_reducible rfl
 rotate_left
 ·simp only [Act.put, zdG, zdH, zdI, zT, yc]
  rfl
 refine take_ (i := 2) (N := some 7) (v := ?_) (a' := ?_) #[O,O,O,Y,Y,O,Y,Y,Y] rfl rfl (Zo HT_.out HW_.out (by kernel_rfl)) (fun _ _ _ h => h) (Or.inl ⟨by rfl, ?_⟩) hHeld ?_ ?_
 rotate_left
 ·rintro w' ⟨s0, s1⟩
  go_simp
  with_reducible rfl
 rotate_left
 ·simp only [Act.put, zdG, zdH, zdI, zT, yc]
  rfl
 refine take_ (i := 6) (N := some 11) (v := ?_) (a' := ?_) #[O,O,O,Y,Y,O,O,Y,Y] rfl rfl (Zo HT_.out HW_.out (by kernel_rfl)) (fun _ _ _ h => h) (Or.inl ⟨by rfl, ?_⟩) hHeld ?_ ?_
 rotate_left
 ·rintro w' ⟨s0, s1⟩
  go_simp
  with_reducible rfl
 rotate_left
 ·simp only [Act.put, zdG, zdH, zdI, zT, yc]
  rfl
 refine jt (i := 3) (N := some 8) #[O,O,O,O,Y,O,O,Y,Y] rfl rfl (qM HT_.out (by kernel_rfl)) (by decide) (fun K hK => ?_)
 refine Kd.R_lit_step (Kd.int .i64) _ 3 ?hg (N := 8) ?hd (xs := ([a1_0] : List Int)) (inner := [.int .i64 a1_0]) (ok := fun _ => True) (okp := fun _ => True) ?hr ?hp (fun _ hk => hk) trivial (Below.refl _ _) (Nat.le_refl _) (by simp) ?_; (case hd => rfl); (case hg => rfl); (case hr => first | (go_simp; done) | (go_simp; rfl)); (case hp => exact (zX.one (show Kd.M (Kd.int .i64) _ _ _ a1_0 [.int .i64 a1_0] from rfl) (zX.none _ _)))
 intro v329 w7 ho8 hb hg_ hnew_
 clear hg_ hnew_
 (first | rw [← Ny328.out] at ho8 | (simp only [Int.reduceToNat] at ho8; rw [← Ny328.out] at ho8))
 have n0_ := za.mk (Kd.R_below (by (with_reducible repeat (first | apply Kd.R_alloc | apply Kd.R_drewN | apply Kd.R_drew)); exact HO0.out) hb)
 have n1_ := za.mk (Kd.R_lower (Kd.R_newM (M := fun k_ => (P0_ k_ ∨ w.heap.size ≤ k_)) ho8 (by first | exact HK.out.1 | exact (show zj w _ (fun k_ => P0_ k_) from by repeat (first | (with_reducible first | exact HK.out | apply zj.alloc | apply zj.drewN | apply zj.drew | refine zj.setCell ?_ (.inr GW327.out) _) | exact HK.out)).1) (fun k_ h_ => .inr h_)) (zF (by repeat (first | (with_reducible first | exact HB.out | apply zc | apply zb | apply zd | refine zv ?_ GE327.out) | exact HB.out))))
 have n2_ := za.mk (zZ (g := gb327) (o := .cells #[.int .i64 a1_0, .slice A1_1 l1_1.length c1_1] 108 (0, 0)) (by (with_reducible repeat (first | refine zS ?_ _ | refine zV ?_ | refine zR ?_ _)); exact BK327.out) hb)
 have n3_ := za.mk (zj.below (S := (fun k_ => P0_ k_)) (by repeat (first | (with_reducible first | exact HK.out | apply zj.alloc | apply zj.drewN | apply zj.drew | refine zj.setCell ?_ (.inr GW327.out) _) | exact HK.out)) hb)
 have n4_ := za.mk (zp (by repeat (first | (with_reducible first | exact HB.out | apply zc | apply zb | apply zd | refine zv ?_ GE327.out) | exact HB.out)) hb)
 clear HO0
 clear BK327
 clear HK
 clear HB
 have HO0 := n0_
 have HO330 := n1_
 have BK327 := n2_
 have HK := n3_
 have HB := n4_
 clear n0_ n1_ n2_ n3_ n4_
 clear hb ho8
 obtain ⟨Ao9, co9, eo9⟩ := Kd.R_slice HO0.out
 (first | subst eo9 | (injection eo9 with f1_ f2_ f3_; have f4_ := f1_.symm; have f5_ := f3_.symm; clear f1_ f2_ f3_; subst f4_; subst f5_))
 obtain ⟨Ao10, co10, eo10⟩ := Kd.R_slice HO330.out
 (first | subst eo10 | (injection eo10 with f1_ f2_ f3_; have f4_ := f1_.symm; have f5_ := f3_.symm; clear f1_ f2_ f3_; subst f4_; subst f5_))
 refine hK.out _ _ ⟨(zm BK327.out 0).trans rfl, (zm BK327.out 1).trans rfl⟩ (fun hHeld => ?_)
 clear hK K
 refine xh (a' := ?_) ?_ ?_
 rotate_left
 ·show Act.put _ (some 8) _ = _
  simp only [Act.put, zdG, zdH, zdI, zT, yc]
  rfl
 refine jt (i := 4) (N := some 9) #[O,O,O,O,O,O,O,Y,Y] rfl rfl (qM HT_.out (by kernel_rfl)) (by decide) (fun K hK => ?_)
 refine jV Tryz.func134 (by kernel_rfl) rfl #[.slice Ao9 l0.length co9, .slice Ao10 y328.length co10] (by rfl) rfl rfl (by (try simp only [zdJ, List.map_cons, List.map_nil]); first | done | rfl | (simp only [List.length_drop, List.length_take]; rfl)) ?_
 with_reducible refine (zw.calls k (fun k_ => some k_ = (.slice Ao9 l0.length co9 : Value).ownBlock) (.slice Ao9 l0.length co9) l0 _ _ y328 t331 w0 _ ?side1 ?side2 ?side3 ?side4 A3.out).mono ?_
 (case side1 => repeat (first | (with_reducible first | exact HB.out | apply zc | apply zb | apply zd | refine zv ?_ GE327.out) | exact HB.out))
 (case side2 => exact Kd.R_tight rfl HO0.out)
 (case side3 => exact Kd.C_kept_own ((Kd.R_apart' HO330.out (Kd.R_typed HO0.out) (by decide))) (fun k_ hk_ hs_ => (hk_.2) hs_))
 (case side4 => exact (Kd.R_reads' HO330.out).2.1)
 rintro e w11 ⟨v332, rfl, ho0, hb, hkp⟩
 refine ⟨_, rfl, ?_⟩
 have n0_ := za.mk (jF (by (with_reducible repeat (first | refine zS ?_ _ | refine zV ?_ | refine zR ?_ _)); exact BK327.out) hkp (fun hs_ => (fun e_ => (Kd.R_ne HO0.out BK327.out (by decide)) e_) hs_))
 have n1_ := za.mk (Kd.R_mono (ok' := fun k_ => (P0_ k_ ∨ w.heap.size ≤ k_)) (Kd.R_keptB ((Kd.R_apart' HO330.out (Kd.R_typed HO0.out) (by decide))) hkp (fun k_ hk_ hs_ => (hk_.2) hs_)) (fun k_ hk_ => hk_.1.1.1))
 have n2_ := za.mk (Kd.R_mono (ok' := fun k_ => (P0_ k_ ∨ w.heap.size ≤ k_)) ho0 (fun k_ hk_ => Or.elim hk_ (fun hs_ => (HO0.out.1 k_ (hs_).symm)) (fun hn_ => (.inr (Nat.le_trans (by first | exact HK.out.1 | exact (show zj w _ (fun k_ => P0_ k_) from by repeat (first | (with_reducible first | exact HK.out | apply zj.alloc | apply zj.drewN | apply zj.drew | refine zj.setCell ?_ (.inr GW327.out) _) | exact HK.out)).1) hn_)))))
 have n3_ := za.mk (zj.then_ (S := (fun k_ => P0_ k_)) (by repeat (first | (with_reducible first | exact HK.out | apply zj.alloc | apply zj.drewN | apply zj.drew | refine zj.setCell ?_ (.inr GW327.out) _) | exact HK.out)) hkp (fun k_ hs_ => (fun e_ => (HO0.out.1 k_ e_.symm)) hs_))
 have n4_ := za.mk (hb)
 clear BK327
 clear HO330
 clear HK
 clear HB
 clear HO0
 have BK327 := n0_
 have HO330 := n1_
 have HO333 := n2_
 have HK := n3_
 have HB := n4_
 clear n0_ n1_ n2_ n3_ n4_
 (try clear hb)
 (try clear hkp)
 (try clear ho0)
 obtain ⟨Ao12, co12, eo12⟩ := Kd.R_slice HO333.out
 (first | subst eo12 | (injection eo12 with f1_ f2_ f3_; have f4_ := f1_.symm; have f5_ := f3_.symm; clear f1_ f2_ f3_; subst f4_; subst f5_))
 refine hK.out _ _ ⟨(zm BK327.out 0).trans rfl, (zm BK327.out 1).trans rfl⟩ (fun hHeld => ?_)
 clear hK K
 refine xh (a' := ?_) ?_ ?_
 rotate_left
 ·show Act.put _ (some 9) _ = _
  simp only [Act.put, zdG, zdH, zdI, zT, yc]
  rfl
 refine jt (i := 7) (N := some 12) #[O,O,O,O,O,O,O,O,Y] rfl rfl (qM HT_.out (by kernel_rfl)) (by decide) (fun K hK => ?_)
 refine jV Tryz.func135 (by kernel_rfl) rfl #[.slice Ao12 t331.length co12, .slice A1_1 l1_1.length c1_1] (by rfl) rfl rfl (by (try simp only [zdJ, List.map_cons, List.map_nil]); first | done | rfl | (simp only [List.length_drop, List.length_take]; rfl)) ?_
 with_reducible refine (yF.calls (fun k_ => some k_ = (.slice Ao12 t331.length co12 : Value).ownBlock) (.slice Ao12 t331.length co12) t331 _ _ l1_1 t334 w0 _ ?side1 ?side2 ?side3 ?side4 A4.out).mono ?_
 (case side1 => repeat (first | (with_reducible first | exact HB.out | apply zc | apply zb | apply zd | refine zv ?_ GE327.out) | exact HB.out))
 (case side2 => exact Kd.R_tight rfl HO333.out)
 (case side3 => exact Kd.C_kept_call HR1_1.out (by repeat (first | (with_reducible first | exact HK.out | apply zj.alloc | apply zj.drewN | apply zj.drew | refine zj.setCell ?_ (.inr GW327.out) _) | exact HK.out)) (fun k_ hs_ => (fun e_ => (HO333.out.1 k_ e_.symm)) hs_))
 (case side4 => exact HC1_1.out)
 rintro e w13 ⟨v335, rfl, ho0, hb, hkp⟩
 refine ⟨_, rfl, ?_⟩
 have n0_ := za.mk (jF (by (with_reducible repeat (first | refine zS ?_ _ | refine zV ?_ | refine zR ?_ _)); exact BK327.out) hkp (fun hs_ => (fun e_ => (Kd.R_ne HO333.out BK327.out (by decide)) e_) hs_))
 have n1_ := za.mk (Kd.R_mono (ok' := fun k_ => (P0_ k_ ∨ w.heap.size ≤ k_)) (Kd.R_keptB ((Kd.R_apart' HO330.out (Kd.R_typed HO333.out) (by decide))) hkp (fun k_ hk_ hs_ => (hk_.2) hs_)) (fun k_ hk_ => hk_.1.1))
 have n2_ := za.mk (Kd.R_mono (ok' := fun k_ => (P0_ k_ ∨ w.heap.size ≤ k_)) ho0 (fun k_ hk_ => Or.elim hk_ (fun hs_ => (HO333.out.1 k_ (hs_).symm)) (fun hn_ => (.inr (Nat.le_trans (by first | exact HK.out.1 | exact (show zj w _ (fun k_ => P0_ k_) from by repeat (first | (with_reducible first | exact HK.out | apply zj.alloc | apply zj.drewN | apply zj.drew | refine zj.setCell ?_ (.inr GW327.out) _) | exact HK.out)).1) hn_)))))
 have n3_ := za.mk (zj.then_ (S := (fun k_ => P0_ k_)) (by repeat (first | (with_reducible first | exact HK.out | apply zj.alloc | apply zj.drewN | apply zj.drew | refine zj.setCell ?_ (.inr GW327.out) _) | exact HK.out)) hkp (fun k_ hs_ => (fun e_ => (HO333.out.1 k_ e_.symm)) hs_))
 have n4_ := za.mk (hb)
 clear BK327
 clear HO330
 clear HK
 clear HB
 clear HO333
 have BK327 := n0_
 have HO330 := n1_
 have HO336 := n2_
 have HK := n3_
 have HB := n4_
 clear n0_ n1_ n2_ n3_ n4_
 (try clear hb)
 (try clear hkp)
 (try clear ho0)
 refine hK.out _ _ ⟨(zm BK327.out 0).trans rfl, (zm BK327.out 1).trans rfl⟩ (fun hHeld => ?_)
 clear hK K
 refine xh (a' := ?_) ?_ ?_
 rotate_left
 ·show Act.put _ (some 12) _ = _
  simp only [Act.put, zdG, zdH, zdI, zT, yc]
  rfl
 refine yM (i := 8) (N := some 4) (v := ?_) (a' := ?_) #[O,O,O,O,O,O,O,O,O] rfl rfl (yG HT_.out (by kernel_rfl)) (fun _ _ _ h => h) (Or.inl ⟨by rfl, ?_⟩) ?_ ?_
 rotate_left
 ·intro w'
  go_simp
  with_reducible rfl
 rotate_left
 ·simp only [Act.put, zdG, zdH, zdI, zT, yc]
  rfl
 refine YK (YA HT_.out (by kernel_rfl)) ?_
 try go_wp2
 go_ret
 exact ⟨_, by first | rfl | (simp [zl, zk] <;> rfl) | (simp [*, zl, zk] <;> rfl), by (with_reducible repeat (first | apply Kd.R_alloc | apply Kd.R_drewN | apply Kd.R_drew)); exact HO336.out, by repeat (first | (with_reducible first | exact HB.out | apply zc | apply zb | apply zd | refine zv ?_ GE327.out) | exact HB.out), by repeat (first | (with_reducible first | exact HK.out | apply zj.alloc | apply zj.drewN | apply zj.drew | refine zj.setCell ?_ (.inr GW327.out) _) | exact HK.out)⟩
def zU.f (k : Nat) (l0 : List Int) (l1 : List S108) : Option (List Int) := (zw.f k l0 (([(l1.length : Int)] : List Int))).bind fun t => xX (fun acc x => yl.f k acc x.f0 x.f1) l1 t
theorem zU.mono : ∀ a0 a1 k, LeO (zU.f k a0 a1) (zU.f (k + 1) a0 a1) := by
 intro a0 a1 k
 unfold zU.f
 exact LeO.bind (zw.mono _ _ _) (fun t => V5 (fun acc x => yl.mono _ _ _ _) _ _)
theorem zU.calls (k : Nat) (P0_ : Nat → Prop) (u9000_ : Value) (l0 : List Int) (A1 : Option Addr) (c1 : Nat) (l1 : List (S108)) (r : List Int) (w0 w : World) (hB : Below w0.heap.size w0 w) (ho0 : Kd.R (Kd.int .u8) 5 w w0.heap.size P0_ u9000_ l0) (hr1 : ∀ W_, zj w W_ (fun k_ => P0_ k_) → Kd.C k108 W_ A1 l1.length l1) (hc1 : l1.length ≤ c1) (h : zU.f k l0 l1 = some r) :
  Calls Tryz.prog 138 #[u9000_, .slice A1 l1.length c1, .func (Fn.func 139) #[] #[]] w fun e w' => ∃ v0_ : Value, e = .returned (v0_) ∧ Kd.R (Kd.int .u8) 5 w' w0.heap.size (fun k_ => (P0_ k_ ∨ w.heap.size ≤ k_)) v0_ r ∧ Below w0.heap.size w0 w' ∧ zj w w' (fun k_ => P0_ k_) := by
 have HLEN := za.mk (hr1 w (zj.refl _ _)).2.1
 have HBLK : za (0 < l1.length → ∃ ad, A1 = some ad ∧ ad.block < w.heap.size ∧ ¬ P0_ ad.block) := ⟨fun hn => Qf hr1 hn (by decide)⟩
 have HO0 := za.mk (show Kd.R (Kd.int .u8) 5 w w0.heap.size (fun k_ => (P0_ k_ ∨ w.heap.size ≤ k_)) u9000_ l0 from Kd.R_mono ho0 (fun k_ hk => (.inl hk)))
 have HR1 := za.mk hr1
 have HC1 := za.mk hc1
 clear hr1 hc1 ho0
 have HK := za.mk (zj.refl w (fun k_ => P0_ k_))
 have HB := za.mk hB
 clear hB
 unfold zU.f at h
 rw [zdK] at h
 obtain ⟨t0, ht0, h⟩ := h
 have A4 := za.mk ht0
 have H' := za.mk h
 clear ht0 h
 obtain ⟨y391, hy391⟩ : ∃ y_ : List Int, y_ = (([(l1.length : Int)] : List Int)) := ⟨_, rfl⟩
 have Ny391 := za.mk hy391
 have A4 := za.mk (show zw.f k l0 y391 = some t0 by rw [hy391]; exact A4.out)
 clear hy391
 go_enter Tryz.func138, Tryz.ntmps138
 go_wp2_with (first | ((with_reducible refine zN (N := 12) rfl ?_); refine Kd.R_lit (Kd.int .i64) _ 3 ?hg (N := 12) ?hd (xs := ([(l1.length : Int)] : List Int)) (inner := [.int .i64 (l1.length : Int)]) (ok := fun _ => True) (okp := fun _ => True) ?hr ?hp (fun _ hk => hk) trivial (Below.refl _ _) (Nat.le_refl _) (by simp) ?_; (case hd => rfl); (case hg => rfl); (case hr => first | (go_simp; done) | (go_simp; rfl)); (case hp => exact (zX.one (show Kd.M (Kd.int .i64) _ _ _ (l1.length : Int) [.int .i64 (l1.length : Int)] from rfl) (zX.none _ _))); intro v392 w5 ho6 hb hg_ hnew_; clear hg_ hnew_; (first | rw [← Ny391.out] at ho6 | (simp only [Int.reduceToNat] at ho6; rw [← Ny391.out] at ho6)); have n0_ := za.mk (Kd.R_below HO0.out hb); have n1_ := za.mk (Kd.R_lower (Kd.R_newM (M := (fun k_ => (P0_ k_ ∨ w.heap.size ≤ k_))) ho6 HK.out.1 (fun k_ h_ => .inr h_)) HB.out.size); have n2_ := za.mk (zj.below (S := (fun k_ => P0_ k_)) (by repeat (first | (with_reducible first | exact HK.out | apply zj.alloc | apply zj.drewN | apply zj.drew) | exact HK.out)) hb); have n3_ := za.mk (zp (by repeat (first | (with_reducible first | exact HB.out | apply zc | apply zb | apply zd) | exact HB.out)) hb); clear HO0; clear HK; clear HB; have HO0 := n0_; have HO393 := n1_; have HK := n2_; have HB := n3_; clear n0_ n1_ n2_ n3_; clear hb ho6; obtain ⟨Ao7, co7, eo7⟩ := Kd.R_slice HO0.out; subst eo7; obtain ⟨Ao8, co8, eo8⟩ := Kd.R_slice HO393.out; subst eo8) | ((with_reducible refine zr (f := 134) rfl ?_); refine zL (some 13) rfl rfl Tryz.func134 (by kernel_rfl) rfl #[.slice Ao7 l0.length co7, .slice Ao8 y391.length co8] rfl (by (try simp only [zdJ, List.map_cons, List.map_nil]); first | done | rfl) ?_; (with_reducible refine (zw.calls k (fun k_ => some k_ = (.slice Ao7 l0.length co7 : Value).ownBlock) (.slice Ao7 l0.length co7) l0 _ _ y391 t0 w0 _ ?side1 ?side2 ?side3 ?side4 A4.out).mono ?_); (case side1 => exact HB.out); (case side2 => exact Kd.R_tight rfl HO0.out); (case side3 => exact Kd.C_kept_own ((Kd.R_apart' HO393.out (Kd.R_typed HO0.out) (by decide))) (fun k_ hk_ hs_ => (hk_.2) hs_)); (case side4 => exact (Kd.R_reads' HO393.out).2.1); rintro e w9 ⟨v395, rfl, ho0, hb, hkp⟩; refine ⟨_, rfl, ?_⟩; have n1_ := za.mk (Kd.R_mono (ok' := (fun k_ => (P0_ k_ ∨ w.heap.size ≤ k_))) ho0 (fun k_ hk_ => Or.elim hk_ (fun hs_ => (HO0.out.1 k_ (hs_).symm)) (fun hn_ => (.inr (Nat.le_trans HK.out.1 hn_))))); have n2_ := za.mk (zj.then_ (S := (fun k_ => P0_ k_)) HK.out hkp (fun k_ hs_ => (fun e_ => (HO0.out.1 k_ e_.symm)) hs_)); have n3_ := za.mk (hb); clear HO393; clear HK; clear HB; clear HO0; have HO396 := n1_; have HK := n2_; have HB := n3_; clear n1_ n2_ n3_; (try clear hb); (try clear hkp); (try clear ho0)))
 go_loopg [0, 16] l1.length (fun kq v0 v16 w' => ∃ (xs : List Int) (i : Nat), v16 = .int .i64 i ∧ za (i + kq = l1.length) ∧ za (xX (fun acc x => yl.f k acc x.f0 x.f1) (l1.drop i) xs = some r) ∧ za (Kd.R (Kd.int .u8) 5 w' w0.heap.size (fun k_ => (P0_ k_ ∨ w.heap.size ≤ k_)) v0 xs) ∧ za (zj w w' (fun k_ => P0_ k_)) ∧ za (Below w0.heap.size w0 w'))
 case atStart => exact ⟨t0, 0, rfl, ⟨by simp⟩, ⟨by rw [List.drop_zero]; exact H'.out⟩, HO396, HK, HB⟩
 case round =>
  clear H'
  obtain ⟨xs, i, rfl, HI, HA, HO_0, HK, HB⟩ := hrel
  by_cases hlt : i < l1.length
  ·have ho := HA.out
   rw [List.drop_eq_getElem_cons hlt, xX, zdK] at ho
   obtain ⟨t1, ht1, ho⟩ := ho
   have A13 := za.mk ht1
   have H2 := za.mk ho
   clear ht1 ho HA
   have hq : (i : Int).toNat = i := Int.toNat_natCast i
   have hrd : yq l1 (i : Int) = l1[i] := by simp [yq, hlt]
   obtain ⟨ad, Ai, ci, ea, hx0, hx1, hl, hC⟩ := qR (HR1.out _ HK.out) (i : Int) (by omega) (by omega)
   rw [hrd, hq] at hx0 hx1
   rw [hrd] at hl
   obtain ⟨ad2, ea2, hblt, hnp⟩ := HBLK.out (by omega)
   cases ea.symm.trans ea2
   have HIN : za (∀ (g_ : Nat → Prop) (W_ : World), (∀ k_, g_ k_ → (P0_ k_ ∨ w.heap.size ≤ k_)) → zj wr W_ g_ → Kd.C (Kd.int .i64) W_ Ai l1[i].f1.length l1[i].f1) := ⟨fun g_ W_ hg hk => by
    obtain ⟨ad', Ai', ci', ea', hx0', hx1', hl', hC'⟩ := qR (HR1.out W_ (HK.out.then_ hk (fun k_ h_ => hg k_ h_))) (i : Int) (by omega) (by omega)
    rw [hrd, hq] at hx0' hx1'
    cases ea.symm.trans ea'
    have hne : ¬ g_ ad.block := fun h_ => Or.elim (hg _ h_) hnp (fun h2 => by omega)
    have hq2 := QT hx1 hk (by first | exact hne | (rw [vF]; exact hne) | (show ¬ g_ (Addr.add _ _).block; rw [vF]; exact hne))
    rw [hx1'] at hq2
    injection hq2 with hq2
    injection hq2 with hq2 _ _
    subst hq2
    rw [hrd] at hC'
    exact hC'⟩
   have HL := za.mk hl
   clear hl hC HBLK
   cases ea
   clear ea2
   obtain ⟨x, hx⟩ : ∃ x, x = l1[i] := ⟨_, rfl⟩
   rw [← hx] at A13 HL HIN hx0 hx1
   clear hx hrd hq
   go_wp2_with (first | ((with_reducible refine zN (N := 8) rfl ?_); refine yp ?hg (N := 8) ?hd (cs := #[.int .i64 0, .slice none 0 0]) (t := 108) ?hr ?_; (case hd => rfl); (case hg => rfl); (case hr => first | (go_simp; done) | (go_simp; rfl)); intro gb hg w14 hbox hb; have n0_ := za.mk (Kd.R_below HO_0.out hb); have n1_ := za.mk (zj.below (S := (fun k_ => P0_ k_)) HK.out hb); have n2_ := za.mk (zp HB.out hb); have n3_ := za.mk hbox; have n4_ := za.mk (by rw [hg]; exact HK.out.1 : w.heap.size ≤ gb); have n5_ := za.mk (by rw [hg]; exact HB.out.size : w0.heap.size ≤ gb); have n6_ := za.mk (fun (g_ : Nat → Prop) (W_ : World) (hg_ : ∀ k_, g_ k_ → (P0_ k_ ∨ w.heap.size ≤ k_)) (hk_ : zj w14 W_ g_) => HIN.out g_ W_ hg_ ((zj.of_below hb g_).then_ hk_ (fun _ h_ => .inl h_))); clear HO_0; clear HK; clear HB; clear HIN; have HO_0 := n0_; have HK := n1_; have HB := n2_; have BK := n3_; have GW := n4_; have GE := n5_; have HIN := n6_; clear n0_ n1_ n2_ n3_ n4_ n5_ n6_; clear hb hbox hg; have hcz_0 : w14.cell? ⟨gb, 0, none⟩ = some (.int .i64 0) := (zm BK.out 0).trans rfl; have hfz_0 := zn BK.out 0; have hcz_1 : w14.cell? ⟨gb, 1, none⟩ = some (.slice none 0 0) := (zm BK.out 1).trans rfl; have hfz_1 := zn BK.out 1) | ((with_reducible refine vK (t := 108) (p := 8) rfl ?_); refine vm (t := 108) (p := 8) (v := ?vo_w16) (w1 := ((w14.setCell ⟨gb, 0, none⟩ (.int .i64 x.f0)).setCell ⟨gb, 1, none⟩ (.slice Ai x.f1.length ci))) ?hg ?ho ?hn ?hr ?_; (case ho => rfl); (case hg => rfl); (case hn => rfl); (case hr => first | (go_simp; done) | (go_simp; rfl)); intro w16 hw; have n0_ : za (Kd.R (Kd.int .u8) 5 w16 w0.heap.size (fun k_ => (P0_ k_ ∨ w.heap.size ≤ k_)) u0 xs) := ⟨(by rw [hw]; exact (Kd.R_mono (Kd.R_far (p := ⟨gb, 1, none⟩) (Kd.R_far (p := ⟨gb, 0, none⟩) (Kd.R_types HO_0.out BK.out (by decide)) (fun _ hk => hk.2) (.int .i64 x.f0)) (fun _ hk => hk.2) (.slice Ai x.f1.length ci)) (fun _ hk => hk.1)))⟩; have n1_ : za (w16.heap[gb]? = some (.cells #[.int .i64 x.f0, .slice Ai x.f1.length ci] 108 (0, 0))) := ⟨(by rw [hw]; exact (yW (cs' := #[.int .i64 x.f0, .slice Ai x.f1.length ci]) (yW (cs' := #[.int .i64 x.f0, .slice none 0 0]) (BK.out) 0 _ rfl) 1 _ rfl))⟩; have n2_ : za (zj w w16 (fun k_ => P0_ k_)) := ⟨(by rw [hw]; exact (zj.setCell (p := ⟨gb, 1, none⟩) (zj.setCell (p := ⟨gb, 0, none⟩) (HK.out) (.inr GW.out) _) (.inr GW.out) _))⟩; have n3_ : za (Below w0.heap.size w0 w16) := ⟨(by rw [hw]; exact (zv (g := gb) (j := 1) (zv (g := gb) (j := 0) (HB.out) GE.out) GE.out))⟩; have n4_ : za (zj w14 w16 (fun k_ => k_ = gb)) := ⟨(by rw [hw]; exact (zj.setCell (p := ⟨gb, 1, none⟩) (zj.setCell (p := ⟨gb, 0, none⟩) (zj.refl w14 (fun k_ => k_ = gb)) (.inl rfl) _) (.inl rfl) _))⟩; have n5_ := za.mk (fun (g_ : Nat → Prop) (W_ : World) (hg_ : ∀ k_, g_ k_ → (P0_ k_ ∨ w.heap.size ≤ k_)) (hk_ : zj w16 W_ g_) => HIN.out (fun k_ => k_ = gb ∨ g_ k_) W_ (fun k_ h_ => h_.elim (fun e_ => .inr (by rw [e_]; exact GW.out)) (hg_ k_)) ((n4_.out.mono (fun _ h_ => .inl h_)).then_ hk_ (fun _ h_ => .inl (.inr h_)))); clear hw; clear HO_0; clear BK; clear HK; clear HB; clear HIN; have HO_0 := n0_; have BK := n1_; have HK := n2_; have HB := n3_; have HIN := n5_; clear n0_ n1_ n2_ n3_ n4_ n5_; clear hcz_0 hfz_0; clear hcz_1 hfz_1; have hcz_0 : w16.cell? ⟨gb, 0, none⟩ = some (.int .i64 x.f0) := (zm BK.out 0).trans rfl; have hfz_0 := zn BK.out 0; have hcz_1 : w16.cell? ⟨gb, 1, none⟩ = some (.slice Ai x.f1.length ci) := (zm BK.out 1).trans rfl; have hfz_1 := zn BK.out 1; obtain ⟨Ao18, co18, eo18⟩ := Kd.R_slice HO_0.out; subst eo18) | ((with_reducible refine zN (N := 23) rfl ?_); refine vR (some 23) rfl rfl Tryz.func139 (by kernel_rfl) rfl #[.slice Ao18 xs.length co18, .agg #[.int .i64 x.f0, .slice Ai x.f1.length ci]] rfl (by (try simp only [zdJ, List.map_cons, List.map_nil]); first | done | rfl) ?_; (with_reducible refine (yl.calls k (fun k_ => some k_ = (.slice Ao18 xs.length co18 : Value).ownBlock) (.slice Ao18 xs.length co18) xs x.f0 Ai ci x.f1 t1 w0 _ ?side1 ?side2 ?side3 HL.out A13.out).mono ?_); (case side1 => exact HB.out); (case side2 => exact Kd.R_tight rfl HO_0.out); (case side3 => exact fun W_ hk_ => HIN.out _ W_ (fun k_ e_ => HO_0.out.1 k_ e_.symm) hk_); rintro e w19 ⟨v400, rfl, ho0, hb, hkp⟩; refine ⟨_, rfl, ?_⟩; have n1_ := za.mk (Kd.R_mono (ok' := (fun k_ => (P0_ k_ ∨ w.heap.size ≤ k_))) ho0 (fun k_ hk_ => Or.elim hk_ (fun hs_ => (HO_0.out.1 k_ (hs_).symm)) (fun hn_ => (.inr (Nat.le_trans HK.out.1 hn_))))); have n2_ := za.mk (zj.then_ (S := (fun k_ => P0_ k_)) HK.out hkp (fun k_ hs_ => (fun e_ => (HO_0.out.1 k_ e_.symm)) hs_)); have n3_ := za.mk (hb); clear BK; clear HK; clear HB; clear HO_0; have HO401 := n1_; have HK := n2_; have HB := n3_; clear n1_ n2_ n3_; (try clear hb); (try clear hkp); (try clear ho0)))
   go_roundg (l1.length - (i + 1))
   case measure => have := HI.out; omega
   case rel => exact ⟨t1, i + 1, (by have h_ : wrap64 ((i : Int) + 1) = ((i + 1 : Nat) : Int) := z4 (by omega) (by have := HLEN.out; omega); first | (rw [h_]) | (simp only [h_])), ⟨by omega⟩, H2, HO401, HK, HB⟩
  ·obtain rfl : i = l1.length := by have := HI.out; omega
   have ho := HA.out
   rw [List.drop_length, xX] at ho
   obtain rfl := Option.some.inj ho
   go_wp2
   go_ret
   exact ⟨_, rfl, HO_0.out, HB.out, HK.out⟩
def z2.l0 : Nat → List (S108) → List (S108) → Int → Int → Option (Bool)
 | 0, _, _, _, _ => none
 | k + 1, x0, x5, x6, x7 => if x7 < x6 then (if 0 ≤ x7 then (if x7 < (x5.length : Int) then ((yI.f k ((yq x5 x7).f0) ((yq x5 x7).f1)).bind fun t326 => (if t326 = true then (z2.l0 k x0 x5 x6 (wrap64 (x7 + 1))) else (some false))) else (none)) else (none)) else (some (decide ((x0.length : Int) ≤ 3)))
def z2.f (k : Nat) (l0 : List (S108)) : Option (Bool) := z2.l0 k l0 l0 (l0.length : Int) 0
theorem z2.mono_l : ∀ k, (∀ y0 y1 y2 y3, LeO (z2.l0 k y0 y1 y2 y3) (z2.l0 (k + 1) y0 y1 y2 y3))
 | 0 => fun _ _ _ _ r h => by simp [z2.l0] at h
 | k + 1 => by
  have ih0 := z2.mono_l k
  ·intro y0 y1 y2 y3
   unfold z2.l0
   repeat' first
   | (with_reducible exact ih0 _ _ _ _)
   | (with_reducible exact yI.mono _ _ _)
   | (with_reducible exact LeO.refl _)
   | (with_reducible exact LeO.none _)
   | (with_reducible refine LeO.ite ?_ ?_)
   | (with_reducible refine LeO.bind ?_ (fun _ => ?_))
   | exact ih0 _ _ _ _
   | exact yI.mono _ _ _
   | exact LeO.none _
   | refine LeO.ite ?_ ?_
   | refine LeO.bind ?_ (fun _ => ?_)
theorem z2.mono : ∀ a0 k, LeO (z2.f k a0) (z2.f (k + 1) a0) := by
 intro a0 k
 have ih0 := z2.mono_l k
 unfold z2.f
 repeat' first
   | (with_reducible exact ih0 _ _ _ _)
   | (with_reducible exact yI.mono _ _ _)
   | (with_reducible exact LeO.refl _)
   | (with_reducible exact LeO.none _)
   | (with_reducible refine LeO.ite ?_ ?_)
   | (with_reducible refine LeO.bind ?_ (fun _ => ?_))
   | exact ih0 _ _ _ _
   | exact yI.mono _ _ _
   | exact LeO.none _
   | refine LeO.ite ?_ ?_
   | refine LeO.bind ?_ (fun _ => ?_)
theorem z2.calls (k : Nat) (A0 : Option Addr) (c0 : Nat) (l0 : List (S108)) (r : Bool) (w : World) (hr0 : Kd.C k108 w A0 l0.length l0) (hc0 : l0.length ≤ c0) (h : z2.f k l0 = some r) :
  Calls Tryz.prog 137 #[.slice A0 l0.length c0] w fun e w' => e = .returned (.bool r) ∧ Below w.heap.size w w' := by
 have hu108 := Tryz.underlying108
 have HR0 := za.mk hr0
 have HC0 := za.mk hc0
 clear hr0 hc0
 have HB := za.mk (Below.refl w.heap.size w)
 have H : (z2.l0 k l0 l0 (l0.length : Int) 0) = some r := h
 clear h
 have H' := za.mk H
 clear H
 go_enter Tryz.func137, Tryz.ntmps137
 go_wp2
 go_loopg [7] k (fun kq v7 w' => ∃ (x7_1 : Int), v7 = .int .i64 x7_1 ∧ za (z2.l0 kq l0 l0 (l0.length : Int) x7_1 = some r) ∧ za (kq ≤ k) ∧ za (Below w.heap.size w w'))
 case atStart => exact ⟨(0), (by first | rfl | (simp; done) | (simp [*]; done)), H', ⟨Nat.le_refl _⟩, ⟨by repeat (first | (with_reducible first | exact HB.out | apply zc | apply zb | apply zd) | exact HB.out)⟩⟩
 case round =>
  clear H'
  try clear c1
  obtain ⟨x7_1, rfl, HA, HK1, HB⟩ := hrel
  cases gk with
  | zero => exact absurd HA.out (by simp [z2.l0])
  | succ k1 =>
   have H := HA.out
   clear HA
   simp only [z2.l0] at H
   by_cases c2 : x7_1 < (l0.length : Int)
   ·rw [if_pos c2] at H
    have c2b0 : decide (x7_1 < (l0.length : Int)) = true := decide_eq_true c2
    clear c2
    by_cases c3 : 0 ≤ x7_1
    ·rw [if_pos c3] at H
     have c3b0 : decide (0 ≤ x7_1) = true := decide_eq_true c3
     clear c3
     by_cases c4 : x7_1 < (l0.length : Int)
     ·rw [if_pos c4] at H
      have c4b0 : decide (x7_1 < (l0.length : Int)) = true := decide_eq_true c4
      clear c4
      replace H := zdK.mp H
      obtain ⟨t326, A50, H⟩ := H
      replace H : (if t326 = true then (z2.l0 k1 l0 l0 (l0.length : Int) (wrap64 (x7_1 + 1))) else (some false)) = some r := H
      have A5 := za.mk A50
      clear A50
      by_cases c6 : t326 = true
      ·subst c6
       have H1 : (z2.l0 k1 l0 l0 (l0.length : Int) (wrap64 (x7_1 + 1))) = some r := by rw [if_pos rfl] at H; exact H
       clear H
       have H := H1
       clear H1
       have H' := za.mk H
       clear H
       have p324 : 0 ≤ (x7_1 : Int) := of_decide_eq_true (by first | (with_reducible assumption) | assumption)
       have q324 : x7_1 < (l0.length : Int) := of_decide_eq_true (by first | (with_reducible assumption) | assumption)
       obtain ⟨ad324, A324_1, c324_1, e324, hx324_0, hx324_1, hl324_1, hi324_1⟩ := qR HR0.out x7_1 p324 q324
       cases e324
       replace hx324_0 := (HB.out.cell (zdL w _ hx324_0)).trans hx324_0
       replace hx324_1 := (HB.out.cell (zdL w _ hx324_1)).trans hx324_1
       have HR324_1 := za.mk hi324_1
       have HC324_1 := za.mk hl324_1
       clear hi324_1 hl324_1
       replace p324 := eq_true p324
       replace q324 := eq_true q324
       go_wp2_with (first | ((with_reducible refine zN (N := 4) rfl ?_); refine yp ?hg (N := 4) ?hd (cs := #[.int .i64 0, .slice none 0 0]) (t := 108) ?hr ?_; (case hd => rfl); (case hg => rfl); (case hr => first | (go_simp; done) | (go_simp; rfl)); intro gb325 hg w7 hbox hb; have n0_ := za.mk (zp (by repeat (first | (with_reducible first | exact HB.out | apply zc | apply zb | apply zd) | exact HB.out)) hb); have n1_ := za.mk (hbox); have n2_ := za.mk ((by rw [hg]; exact (zF (by repeat (first | (with_reducible first | exact HB.out | apply zc | apply zb | apply zd) | exact HB.out))) : w.heap.size ≤ gb325)); have n3_ := za.mk ((by rw [hg]; exact (zF (by repeat (first | (with_reducible first | exact HB.out | apply zc | apply zb | apply zd) | exact HB.out))) : w.heap.size ≤ gb325)); clear HB; have HB := n0_; have BK325 := n1_; have GW325 := n2_; have GE325 := n3_; clear n0_ n1_ n2_ n3_; clear hb hbox hg; have hcz8_0 : w7.cell? ⟨gb325, 0, none⟩ = some (.int .i64 0) := (zm BK325.out 0).trans rfl; have hcz8_1 : w7.cell? ⟨gb325, 1, none⟩ = some (.slice none 0 0) := (zm BK325.out 1).trans rfl; have hfz8_0 := zn BK325.out 0; have hfz8_1 := zn BK325.out 1) | ((with_reducible refine zr (f := 172) rfl ?_); refine zL (some 12) rfl rfl Tryz.func172 (by kernel_rfl) rfl #[.agg #[.int .i64 ((yq l0 x7_1).f0), .slice A324_1 ((yq l0 x7_1).f1).length c324_1]] rfl (by (try simp only [zdJ, List.map_cons, List.map_nil]); first | done | rfl | (simp only [List.length_drop, List.length_take]; rfl)) ?_; (with_reducible refine (yI.calls k1 ((yq l0 x7_1).f0) _ _ ((yq l0 x7_1).f1) true _ ?side1 ?side2 A5.out).mono ?_); (case side1 => exact Kd.C_below HR324_1.out (by repeat (first | (with_reducible first | exact HB.out | apply zc | apply zb | apply zd | refine zv ?_ GE325.out) | exact HB.out))); (case side2 => exact HC324_1.out); rintro e w9 ⟨rfl, hb⟩; refine ⟨_, rfl, ?_⟩; have n0_ := za.mk (zZ (g := gb325) (o := .cells #[.int .i64 ((yq l0 x7_1).f0), .slice A324_1 ((yq l0 x7_1).f1).length c324_1] 108 (0, 0)) (by (with_reducible repeat (first | refine zS ?_ _ | refine zV ?_ | refine zR ?_ _)); refine yW (cs := #[.int .i64 ((yq l0 x7_1).f0), .slice none 0 0]) ?_ 1 _ rfl; (with_reducible repeat (first | refine zS ?_ _ | refine zV ?_ | refine zR ?_ _)); refine yW (cs := #[.int .i64 0, .slice none 0 0]) ?_ 0 _ rfl; (with_reducible repeat (first | refine zS ?_ _ | refine zV ?_ | refine zR ?_ _)); exact BK325.out) hb); have n1_ := za.mk (zp (by repeat (first | (with_reducible first | exact HB.out | apply zc | apply zb | apply zd | refine zv ?_ GE325.out) | exact HB.out)) hb); clear BK325; clear HB; have BK325 := n0_; have HB := n1_; clear n0_ n1_; (try clear hb); (try clear hb2); (try clear hk); (try clear hi)))
       go_roundg k1
       case measure => have := HK1.out; omega
       case rel => exact ⟨(wrap64 (x7_1 + 1)), (by first | rfl | (simp; done) | (simp [*]; done)), H', ⟨by have := HK1.out; omega⟩, ⟨by repeat (first | (with_reducible first | exact HB.out | apply zc | apply zb | apply zd | refine zv ?_ GE325.out) | exact HB.out)⟩⟩
      ·replace c6 := zdM.mpr c6
       subst c6
       have H1 : (some false) = some r := by rw [if_neg (show ¬ (false = true) by decide)] at H; exact H
       clear H
       have H := H1
       clear H1
       obtain rfl := Option.some.inj H
       have p324 : 0 ≤ (x7_1 : Int) := of_decide_eq_true (by first | (with_reducible assumption) | assumption)
       have q324 : x7_1 < (l0.length : Int) := of_decide_eq_true (by first | (with_reducible assumption) | assumption)
       obtain ⟨ad324, A324_1, c324_1, e324, hx324_0, hx324_1, hl324_1, hi324_1⟩ := qR HR0.out x7_1 p324 q324
       cases e324
       replace hx324_0 := (HB.out.cell (zdL w _ hx324_0)).trans hx324_0
       replace hx324_1 := (HB.out.cell (zdL w _ hx324_1)).trans hx324_1
       have HR324_1 := za.mk hi324_1
       have HC324_1 := za.mk hl324_1
       clear hi324_1 hl324_1
       replace p324 := eq_true p324
       replace q324 := eq_true q324
       go_wp2_with (first | ((with_reducible refine zN (N := 4) rfl ?_); refine yp ?hg (N := 4) ?hd (cs := #[.int .i64 0, .slice none 0 0]) (t := 108) ?hr ?_; (case hd => rfl); (case hg => rfl); (case hr => first | (go_simp; done) | (go_simp; rfl)); intro gb325 hg w10 hbox hb; have n0_ := za.mk (zp (by repeat (first | (with_reducible first | exact HB.out | apply zc | apply zb | apply zd) | exact HB.out)) hb); have n1_ := za.mk (hbox); have n2_ := za.mk ((by rw [hg]; exact (zF (by repeat (first | (with_reducible first | exact HB.out | apply zc | apply zb | apply zd) | exact HB.out))) : w.heap.size ≤ gb325)); have n3_ := za.mk ((by rw [hg]; exact (zF (by repeat (first | (with_reducible first | exact HB.out | apply zc | apply zb | apply zd) | exact HB.out))) : w.heap.size ≤ gb325)); clear HB; have HB := n0_; have BK325 := n1_; have GW325 := n2_; have GE325 := n3_; clear n0_ n1_ n2_ n3_; clear hb hbox hg; have hcz11_0 : w10.cell? ⟨gb325, 0, none⟩ = some (.int .i64 0) := (zm BK325.out 0).trans rfl; have hcz11_1 : w10.cell? ⟨gb325, 1, none⟩ = some (.slice none 0 0) := (zm BK325.out 1).trans rfl; have hfz11_0 := zn BK325.out 0; have hfz11_1 := zn BK325.out 1) | ((with_reducible refine zr (f := 172) rfl ?_); refine zL (some 12) rfl rfl Tryz.func172 (by kernel_rfl) rfl #[.agg #[.int .i64 ((yq l0 x7_1).f0), .slice A324_1 ((yq l0 x7_1).f1).length c324_1]] rfl (by (try simp only [zdJ, List.map_cons, List.map_nil]); first | done | rfl | (simp only [List.length_drop, List.length_take]; rfl)) ?_; (with_reducible refine (yI.calls k1 ((yq l0 x7_1).f0) _ _ ((yq l0 x7_1).f1) false _ ?side1 ?side2 A5.out).mono ?_); (case side1 => exact Kd.C_below HR324_1.out (by repeat (first | (with_reducible first | exact HB.out | apply zc | apply zb | apply zd | refine zv ?_ GE325.out) | exact HB.out))); (case side2 => exact HC324_1.out); rintro e w12 ⟨rfl, hb⟩; refine ⟨_, rfl, ?_⟩; have n0_ := za.mk (zZ (g := gb325) (o := .cells #[.int .i64 ((yq l0 x7_1).f0), .slice A324_1 ((yq l0 x7_1).f1).length c324_1] 108 (0, 0)) (by (with_reducible repeat (first | refine zS ?_ _ | refine zV ?_ | refine zR ?_ _)); refine yW (cs := #[.int .i64 ((yq l0 x7_1).f0), .slice none 0 0]) ?_ 1 _ rfl; (with_reducible repeat (first | refine zS ?_ _ | refine zV ?_ | refine zR ?_ _)); refine yW (cs := #[.int .i64 0, .slice none 0 0]) ?_ 0 _ rfl; (with_reducible repeat (first | refine zS ?_ _ | refine zV ?_ | refine zR ?_ _)); exact BK325.out) hb); have n1_ := za.mk (zp (by repeat (first | (with_reducible first | exact HB.out | apply zc | apply zb | apply zd | refine zv ?_ GE325.out) | exact HB.out)) hb); clear BK325; clear HB; have BK325 := n0_; have HB := n1_; clear n0_ n1_; (try clear hb); (try clear hb2); (try clear hk); (try clear hi)))
       go_ret
       exact ⟨by first | rfl | (simp [zl, zk] <;> rfl) | (simp [*, zl, zk] <;> rfl), by repeat (first | (with_reducible first | exact HB.out | apply zc | apply zb | apply zd | refine zv ?_ GE325.out) | exact HB.out)⟩
     ·rw [if_neg c4] at H
      exact absurd H (by simp)
    ·rw [if_neg c3] at H
     exact absurd H (by simp)
   ·rw [if_neg c2] at H
    have c2b0 : decide (x7_1 < (l0.length : Int)) = false := decide_eq_false c2
    clear c2
    obtain rfl := Option.some.inj H
    go_wp2
    go_ret
    exact ⟨by first | rfl | (simp [zl, zk] <;> rfl) | (simp [*, zl, zk] <;> rfl), by repeat (first | (with_reducible first | exact HB.out | apply zc | apply zb | apply zd) | exact HB.out)⟩
def yJ.f (k : Nat) (l0 : List (S108)) : Option (ByteArray × Int) := (z2.f k l0).bind fun t337 => ((zU.f k ([] : List Int) l0).bind fun t338 => ((yC.f t337 t338).bind fun bt341 => (some (bt341.1, bt341.2))))
theorem yJ.mono : ∀ a0 k, LeO (yJ.f k a0) (yJ.f (k + 1) a0) := by
 intro a0 k
 unfold yJ.f
 repeat' first
   | (with_reducible exact zU.mono _ _ _)
   | (with_reducible exact z2.mono _ _)
   | (with_reducible exact LeO.refl _)
   | (with_reducible exact LeO.none _)
   | (with_reducible refine LeO.ite ?_ ?_)
   | (with_reducible refine LeO.bind ?_ (fun _ => ?_))
   | exact zU.mono _ _ _
   | exact z2.mono _ _
   | exact LeO.none _
   | refine LeO.ite ?_ ?_
   | refine LeO.bind ?_ (fun _ => ?_)
theorem yJ.calls (k : Nat) (A0 : Option Addr) (c0 : Nat) (l0 : List (S108)) (r1 : ByteArray) (r2 : Int) (w : World) (hr0 : Kd.C k108 w A0 l0.length l0) (hc0 : l0.length ≤ c0) (h : yJ.f k l0 = some (r1, r2)) :
  Calls Tryz.prog 104 #[.slice A0 l0.length c0] w fun e w' => e = .returned (.tuple #[.string r1, .int .i64 r2]) ∧ Below w.heap.size w w' := by
 have HR0 := za.mk hr0
 have HC0 := za.mk hc0
 clear hr0 hc0
 have HB := za.mk (Below.refl w.heap.size w)
 have H : ((z2.f k l0).bind fun t337 => ((zU.f k ([] : List Int) l0).bind fun t338 => ((yC.f t337 t338).bind fun bt341 => (some (bt341.1, bt341.2))))) = some (r1, r2) := h
 clear h
 replace H := zdK.mp H
 obtain ⟨t337, A20, H⟩ := H
 replace H : ((zU.f k ([] : List Int) l0).bind fun t338 => ((yC.f t337 t338).bind fun bt341 => (some (bt341.1, bt341.2)))) = some (r1, r2) := H
 have A2 := za.mk A20
 clear A20
 replace H := zdK.mp H
 obtain ⟨t338, A30, H⟩ := H
 replace H : ((yC.f t337 t338).bind fun bt341 => (some (bt341.1, bt341.2))) = some (r1, r2) := H
 have A3 := za.mk A30
 clear A30
 replace H := zdK.mp H
 obtain ⟨⟨t341, t342⟩, A40, H⟩ := H
 replace H : (some (t341, t342)) = some (r1, r2) := H
 have A4 := za.mk A40
 clear A40
 simp only [Option.some.injEq, Prod.mk.injEq] at H
 obtain ⟨rfl, rfl⟩ := H
 go_enter Tryz.func104, Tryz.ntmps104
 go_wp2_with (first | ((with_reducible refine zr (f := 137) rfl ?_); refine zL (some 5) rfl rfl Tryz.func137 (by kernel_rfl) rfl #[.slice A0 l0.length c0] rfl (by (try simp only [zdJ, List.map_cons, List.map_nil]); first | done | rfl | (simp only [List.length_drop, List.length_take]; rfl)) ?_; (with_reducible refine (z2.calls k _ _ l0 t337 _ ?side1 ?side2 A2.out).mono ?_); (case side1 => repeat (first | exact HR0.out | (with_reducible refine Kd.C_alloc ?_ _) | (with_reducible refine Kd.C_drewN ?_ _) | (with_reducible refine Kd.C_drew ?_))); (case side2 => exact HC0.out); rintro e w5 ⟨rfl, hb⟩; refine ⟨_, rfl, ?_⟩; have n0_ := za.mk (zp (by repeat (first | (with_reducible first | exact HB.out | apply zc | apply zb | apply zd) | exact HB.out)) hb); clear HB; have HB := n0_; clear n0_; (try clear hb); (try clear hb2); (try clear hk); (try clear hi)) | ((with_reducible refine zr (f := 138) rfl ?_); refine zL (some 7) rfl rfl Tryz.func138 (by kernel_rfl) rfl #[.slice none 0 0, .slice A0 l0.length c0, .func (Fn.func 139) #[] #[]] rfl (by (try simp only [zdJ, List.map_cons, List.map_nil]); first | done | rfl | (simp only [List.length_drop, List.length_take]; rfl)) ?_; (refine (zU.calls k (fun k_ => some k_ = (.slice none 0 0 : Value).ownBlock) (.slice none 0 0) ([] : List Int) _ _ l0 t338 w _ ?side1 ?side2 ?side3 ?side4 A3.out).mono ?_); (case side1 => repeat (first | (with_reducible first | exact HB.out | apply zc | apply zb | apply zd) | exact HB.out)); (case side2 => exact Kd.R_nil _ _ _ _ _); (case side3 => exact Kd.C_kept_came zaO HR0.out (by repeat (first | (with_reducible first | exact HB.out | apply zc | apply zb | apply zd) | exact HB.out)) (fun k_ hs_ => (fun e_ => by simp [Value.ownBlock] at e_) hs_)); (case side4 => exact HC0.out); rintro e w6 ⟨v339, rfl, ho0, hb, hkp⟩; refine ⟨_, rfl, ?_⟩; have n0_ := za.mk (Kd.R_mono (ok' := fun k_ => True) ho0 (fun k_ hk_ => trivial)); have n1_ := za.mk (hb); clear HB; have HO340 := n0_; have HB := n1_; clear n0_ n1_; (try clear hb); (try clear hkp); (try clear ho0); obtain ⟨Ao7, co7, eo7⟩ := Kd.R_slice HO340.out; subst eo7) | ((with_reducible refine zr (f := 132) rfl ?_); refine zL (some 8) rfl rfl Tryz.func132 (by kernel_rfl) rfl #[.bool t337, .slice Ao7 t338.length co7] rfl (by (try simp only [zdJ, List.map_cons, List.map_nil]); first | done | rfl | (simp only [List.length_drop, List.length_take]; rfl)) ?_; (with_reducible refine (yC.calls t337 _ _ t338 t341 t342 _ ?side1 ?side2 A4.out).mono ?_); (case side1 => repeat (first | exact (Kd.R_reads' HO340.out).2.2 | (with_reducible refine Kd.C_alloc ?_ _) | (with_reducible refine Kd.C_drewN ?_ _) | (with_reducible refine Kd.C_drew ?_))); (case side2 => exact (Kd.R_reads' HO340.out).2.1); rintro e w' ⟨rfl, ⟨nd, rfl⟩⟩; refine ⟨_, rfl, ?_⟩))
 go_ret2
 exact ⟨by first | rfl | (simp [zl, zk] <;> rfl) | (simp [*, zl, zk] <;> rfl), by repeat (first | (with_reducible first | exact HB.out | apply zc | apply zb | apply zd) | exact HB.out)⟩
end Go.Proofs.YtepipnpfggnadaaGreat.Q
