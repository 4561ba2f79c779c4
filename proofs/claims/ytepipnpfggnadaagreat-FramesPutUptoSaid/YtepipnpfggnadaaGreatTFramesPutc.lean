/- Texts of this session laid together (shrink.py): what the claim's law rests on. -/
import Derived.Below
import Derived.Deep.Draws
import Derived.Deep.AppendLies
import Derived.Maps.AppendAt
import Derived.OwnWalk
import Derived.Laws.BytesArg
import Derived.Laws.MakeOwn
import Derived.Laws.OwnMore
import Derived.Deep.OwnRows
import Derived.Tactics
import Derived.Lib.ConvBytes
import Derived.Laws.Slices
import Derived.WalkKit
import Derived.KernelRfl
import Derived.RowKit3
import Derived.Deep.LoopGhost
import Derived.Deep.QuietTactic
import Derived.BigQuiet
import Derived.WideLaws
import Derived.Deep.DeepCutAuto
import Derived.Deep.CutBlock
import Derived.Deep.RegionHeld3
import Derived.Laws.Rows
import Derived.Lib.AppendStr
import Derived.ArgAppend
import Derived.Laws.IdiomCopy
import Derived.RowKit
import Derived.OrdersHeld
import Derived.Laws.BitsLemmas
import Derived.Laws.StructEq
import Derived.Test.YtepipnpfggnadaaGreatProg
import Derived.WalkMore
import Derived.Lib.Strings
import Derived.Test.YtepipnpfggnadaaGreatTFramesPutb
set_option linter.unusedVariables false
set_option linter.unusedSimpArgs false
set_option maxRecDepth 100000
set_option maxHeartbeats 8000000
open Bool renaming true → O, false → Y
open List renaming setIfInBounds_toArray → zdG
open List renaming set_cons_zero → zdH
open List renaming set_cons_succ → zdI
open List renaming map_toArray → zdJ
open Option renaming bind_eq_some_iff → zdK
open Go.World renaming block_lt_of_cell? → zdL
open Bool renaming eq_false_iff → zdM
open List renaming length_append → zdN
namespace Go.Proofs.YtepipnpfggnadaaGreat.Q
open Go.RowKit Go.Proofs.YtepipnpfggnadaaGreatW.PrintWords Go.Proofs.YtepipnpfggnadaaGreatW.PrintLast Go.Proofs.YtepipnpfggnadaaGreatW.PrintMore
theorem YW (x : Int) (s : ByteArray) (e2 : Int) (w : World) (h : (yf.f x).map (fun t => (t, (0 : Int))) = some (s, e2)) :
  Calls Tryz.prog 180 #[.int .i64 x] w fun e w' => e = .returned (.tuple #[.string s, .int .i64 e2]) ∧ Below w.heap.size w w' := by
 rw [Option.map_eq_some_iff] at h
 obtain ⟨t, ht, h⟩ := h
 simp only [Prod.mk.injEq] at h
 obtain ⟨rfl, rfl⟩ := h
 exact jy.calls x t 0 w (by unfold jy.f; rw [zC ht])
theorem zaH (k : Nat) (A : Option Addr) (c : Nat) (l : List Int) (t0 : ByteArray) (r1 : ByteArray) (r2 : Int) (w : World) (hr : Kd.C (Kd.int .i64) w A l.length l) (hc : l.length ≤ c) (hl : l.length ≤ 256) (ht : yf.f (l.length : Int) = some t0) (h0 : t0.size ≤ 140737488351232) (h : jU (fun x => (yf.f x).map (fun t => (t, (0 : Int)))) l (bytesOf t0) = some (r1, r2)) :
  Calls Tryz.prog 179 #[.slice A l.length c, .func (Fn.func 180) #[] #[]] w fun e w' => e = .returned (.tuple #[.string r1, .int .i64 r2]) ∧ Below w.heap.size w w' := by
 have HT := za.mk ht
 have HL := za.mk h
 have HR := za.mk hr
 have hcv := fun W : World => Lib.run_convert_string_bytes (P := Tryz.prog) W 9 41 5 t0 Tryz.underlying9 Tryz.underlying41 Tryz.underlying5
 clear ht h hr
 obtain ⟨i0, hi, hz0, hz1, hz2⟩ := info_parts Jw
 go_enter Tryz.func179, Tryz.ntmps179
 go_wp2_with (first | (go_at_call 57; refine (yf.calls (l.length : Int) t0 _ HT.out).mono ?_; rintro e w1 ⟨rfl, hb⟩; have HB1 := za.mk hb; have HM1 := za.mk (yL.of_bytes w1 w.heap.size 5 t0 HB1.out.size (by simp only [maxLen]; omega)); have HB2 := za.mk (qE HB1.out HB1.out.size 5 t0)))
 have hcv0 := za.mk hcv
 clear hcv
 go_loopg [6, 20] l.length (fun kq vb vi wr => ∃ (i : Nat) (xs : List Int), vi = .int .i64 i ∧ za (i + kq = l.length) ∧ za (jU (fun x => (yf.f x).map (fun t => (t, (0 : Int)))) (l.drop i) xs = some (r1, r2)) ∧ za (yL wr w.heap.size 5 vb (yH .u8 xs)) ∧ za (Below w.heap.size w wr))
 case atStart => exact ⟨0, bytesOf t0, rfl, ⟨by simp⟩, ⟨by rw [List.drop_zero]; exact HL.out⟩, ⟨by rw [← qo]; exact HM1.out⟩, HB2⟩
 case round =>
  clear HB2 HM1
  obtain ⟨i, xs, rfl, HK, HO, HM, HB⟩ := hrel
  have hil : i ≤ l.length := by have := HK.out; omega
  by_cases hlt : i < l.length
  ·obtain ⟨ad, ea, hcell⟩ := Kd.at_int HR.out (i : Int) (by omega) (by omega)
   cases ea
   replace hcell := (HB.out.cell (zdL w _ hcell)).trans hcell
   rw [Int.toNat_natCast] at hcell
   obtain ⟨x, hx⟩ : ∃ x, x = rd l (i : Int) := ⟨_, rfl⟩
   rw [← hx] at hcell
   have ho := HO.out
   rw [List.drop_eq_getElem_cons hlt, jU, zdK] at ho
   rw [XS l i hlt] at hx
   rw [← hx] at ho
   obtain ⟨⟨s, e2⟩, hs, ho⟩ := ho
   have HS := za.mk hs
   have HO2 := za.mk ho
   clear hs ho hx HO
   by_cases he : e2 = 0
   ·subst he
    have ho := HO2.out
    rw [if_pos rfl] at ho
    by_cases hfit : xs.length + s.size ≤ 140737488355328
    ·rw [if_pos hfit] at ho
     have HO3 := za.mk ho
     have HF := za.mk hfit
     clear ho HO2 hfit
     go_wp2_with (first
      | (go_at_call 180; refine (YW x s 0 _ HS.out).mono ?_; rintro e w2 ⟨rfl, hb⟩; have HB3 := za.mk (Below.trans HB.out (hb.mono HB.out.size)); have HM3 := za.mk (HM.out.below hb); clear hb HB HM)
      | ((with_reducible refine zN (N := 35) rfl ?_); refine yU _ rfl (.tmp 33) (.tmp 34) 41 9 rfl w.heap.size 5 i0 Tryz.underlying41 Tryz.underlying9 hi hz0 hz1 hz2 _ (yH .u8 xs) rfl HM3.out s rfl (by rw [xL]; exact HF.out) HB3.out.size ?_; intro v1 w3 hm1 hg1; rw [jv] at hm1; have HM4 := za.mk hm1; have HB4 := za.mk (HB3.out.grown hg1 HB3.out.size (fun k hk => HM3.out.base_le k hk)); clear hm1 hg1))
     go_roundg (l.length - (i + 1))
     case measure => have := HK.out; omega
     case rel => exact ⟨i + 1, xs ++ bytesOf s, by go_num, ⟨by omega⟩, HO3, HM4, HB4⟩
    ·rw [if_neg hfit] at ho
     cases ho
   ·have ho := HO2.out
    rw [if_neg he] at ho
    simp only [Option.some.injEq, Prod.mk.injEq] at ho
    obtain ⟨rfl, rfl⟩ := ho
    go_wp2_with (go_at_call 180; refine (YW x s e2 _ HS.out).mono ?_; rintro e w2 ⟨rfl, hb⟩; have HB3 := za.mk (Below.trans HB.out (hb.mono HB.out.size)); clear hb)
    go_ret2
    exact ⟨rfl, HB3.out⟩
  ·obtain rfl : i = l.length := by omega
   have ho := HO.out
   rw [List.drop_length, jU] at ho
   simp only [Option.some.injEq, Prod.mk.injEq] at ho
   obtain ⟨hs, rfl⟩ := ho
   have hcs := yL.to_string (P := Tryz.prog) Tryz.underlying41 Tryz.underlying5 Tryz.underlying9 HM.out
   rw [hs] at hcs
   clear hs
   go_wp2
   go_ret2
   exact ⟨rfl, HB.out⟩
def xK.f (l : List Int) : Option (ByteArray × Int) :=
 if 256 < l.length then some (⟨#[]⟩, 4) else (yf.f (l.length : Int)).bind fun t => jU (fun x => (yf.f x).map (fun t => (t, (0 : Int)))) l (bytesOf t)
set_option maxHeartbeats 1000000 in
theorem xK.calls (A : Option Addr) (c : Nat) (l : List Int) (r1 : ByteArray) (r2 : Int) (w : World) (hr : Kd.C (Kd.int .i64) w A l.length l) (hc : l.length ≤ c) (h : xK.f l = some (r1, r2)) :
  Calls Tryz.prog 168 #[.slice A l.length c] w fun e w' => e = .returned (.tuple #[.string r1, .int .i64 r2]) ∧ Below w.heap.size w w' := by
 have hbig : 256 < l.length → Calls Tryz.prog 179 #[.slice A l.length c, .func (Fn.func 180) #[] #[]] w fun e w' => e = .returned (.tuple #[.string ⟨#[]⟩, .int .i64 4]) ∧ Below w.heap.size w w' := by
  intro hb
  go_enter Tryz.func179, Tryz.ntmps179
  go_wp2
  go_ret2
  exact ⟨rfl, Below.refl _ _⟩
 have HC : za (Calls Tryz.prog 179 #[.slice A l.length c, .func (Fn.func 180) #[] #[]] w fun e w' => e = .returned (.tuple #[.string r1, .int .i64 r2]) ∧ Below w.heap.size w w') := by
  unfold xK.f at h
  by_cases hb : 256 < l.length
  ·rw [if_pos hb] at h
   simp only [Option.some.injEq, Prod.mk.injEq] at h
   obtain ⟨rfl, rfl⟩ := h
   exact ⟨hbig hb⟩
  ·rw [if_neg hb, zdK] at h
   obtain ⟨t, ht, h⟩ := h
   have hz : t.size ≤ 140737488351232 := by
    unfold yf.f at ht
    split at ht
    ·obtain rfl := Option.some.inj ht
     have := zE (l.length : Int)
     omega
    ·cases ht
   exact ⟨zaH 0 A c l t r1 r2 w hr hc (by omega) ht hz h⟩
 clear hbig h hr
 go_enter Tryz.func168, Tryz.ntmps168
 go_wp2_with (go_at_call 179; refine HC.out.mono ?_; rintro e w1 ⟨rfl, hb⟩; have HB := za.mk hb; clear hb)
 go_ret2
 exact ⟨rfl, HB.out⟩
attribute [local go_sem] jM jJ vE vD jm jl jL jO
def yF.f (l0 : List Int) (l1 : List Int) : Option (List Int) := (xK.f l1).bind fun bt304 => (if l0.length + bt304.1.size < 140737488355328 then (some (l0 ++ bytesOf bt304.1)) else (none))
theorem yF.calls (P0_ : Nat → Prop) (u9000_ : Value) (l0 : List Int) (A1 : Option Addr) (c1 : Nat) (l1 : List Int) (r : List Int) (w0 w : World) (hB : Below w0.heap.size w0 w) (ho0 : Kd.R (Kd.int .u8) 5 w w0.heap.size P0_ u9000_ l0) (hr1 : ∀ W_, zj w W_ (fun k_ => P0_ k_) → Kd.C (Kd.int .i64) W_ A1 l1.length l1) (hc1 : l1.length ≤ c1) (h : yF.f l0 l1 = some r) :
  Calls Tryz.prog 135 #[u9000_, .slice A1 l1.length c1] w fun e w' => ∃ v0_ : Value, e = .returned (v0_) ∧ Kd.R (Kd.int .u8) 5 w' w0.heap.size (fun k_ => (P0_ k_ ∨ w.heap.size ≤ k_)) v0_ r ∧ Below w0.heap.size w0 w' ∧ zj w w' (fun k_ => P0_ k_) := by
 have HO0 := za.mk (show Kd.R (Kd.int .u8) 5 w w0.heap.size (fun k_ => (P0_ k_ ∨ w.heap.size ≤ k_)) u9000_ l0 from Kd.R_mono ho0 (fun k_ hk => (.inl hk)))
 have HR1 := za.mk hr1
 have HC1 := za.mk hc1
 clear hr1 hc1
 have HK := za.mk (zj.refl w (fun k_ => P0_ k_))
 have HW0 := za.mk hB.size
 have HB := za.mk hB
 clear hB
 have H : ((xK.f l1).bind fun bt304 => (if l0.length + bt304.1.size < 140737488355328 then (some (l0 ++ bytesOf bt304.1)) else (none))) = some r := h
 clear h
 replace H := zdK.mp H
 obtain ⟨⟨t304, t305⟩, A30, H⟩ := H
 replace H : (if l0.length + t304.size < 140737488355328 then (some (l0 ++ bytesOf t304)) else (none)) = some r := H
 have A3 := za.mk A30
 clear A30
 by_cases c4 : l0.length + t304.size < 140737488355328
 ·rw [if_pos c4] at H
  have LMc4 := za.mk c4
  clear c4
  obtain ⟨y306, hy306⟩ : ∃ y_ : List Int, y_ = (l0 ++ bytesOf t304) := ⟨_, rfl⟩
  replace H : (some y306) = some r := by first | (rw [hy306]; with_reducible exact H) | (have H2_ := (Option.bind_some _ _).symm.trans H; rw [hy306]; with_reducible exact H2_) | (have H2_ := (Option.bind_some _ _).symm.trans H; with_reducible exact H2_) | with_reducible exact H | (rw [hy306]; exact H) | exact H
  have Ny306 := za.mk hy306
  clear hy306
  obtain rfl := Option.some.inj H
  go_enter Tryz.func135, Tryz.ntmps135
  go_wp2_with (first | ((with_reducible refine zr (f := 168) rfl ?_); refine zL (some 9) rfl rfl Tryz.func168 (by kernel_rfl) rfl #[.slice A1 l1.length c1] rfl (by (try simp only [zdJ, List.map_cons, List.map_nil]); first | done | rfl | (simp only [List.length_drop, List.length_take]; rfl)) ?_; (with_reducible refine (xK.calls _ _ l1 t304 t305 _ ?side1 ?side2 A3.out).mono ?_); (case side1 => exact Kd.C_kept_now HR1.out (by repeat (first | (with_reducible first | exact HK.out | apply zj.alloc | apply zj.drewN | apply zj.drew) | exact HK.out))); (case side2 => exact HC1.out); rintro e w5 ⟨rfl, hb⟩; refine ⟨_, rfl, ?_⟩; have n0_ := za.mk (Kd.R_below (by (with_reducible repeat (first | apply Kd.R_alloc | apply Kd.R_drewN | apply Kd.R_drew)); exact HO0.out) hb); have n1_ := za.mk (zj.below (S := (fun k_ => P0_ k_)) (by repeat (first | (with_reducible first | exact HK.out | apply zj.alloc | apply zj.drewN | apply zj.drew) | exact HK.out)) hb); have n2_ := za.mk (zp (by repeat (first | (with_reducible first | exact HB.out | apply zc | apply zb | apply zd) | exact HB.out)) hb); clear HO0; clear HK; clear HB; have HO0 := n0_; have HK := n1_; have HB := n2_; clear n0_ n1_ n2_; (try clear hb); (try clear hb2); (try clear hk); (try clear hi)) | (at_builtin; refine jT (w0 := w0) w0.heap.size rfl (.tmp 12) _ 41 9 5 rfl Tryz.underlying41 Tryz.underlying9 XT u9000_ l0 t304 rfl rfl ?aO ?aB ?aS ?aL ?_; (case aB => exact (by repeat (first | (with_reducible first | exact HB.out | apply zc | apply zb | apply zd) | exact HB.out))); (case aO => exact (Kd.own_of_R (by (with_reducible repeat (first | apply Kd.R_alloc | apply Kd.R_drewN | apply Kd.R_drew)); exact HO0.out))); (case aS => exact (zF (by repeat (first | (with_reducible first | exact HB.out | apply zc | apply zb | apply zd) | exact HB.out)))); (case aL => have := LMc4.out; omega); intro v307 w6 ho0 hb hg hat; have ho := Kd.R_of_own (h1 := fun _ => rfl) (ok := (fun k_ => (P0_ k_ ∨ w.heap.size ≤ k_))) ho0 (fun k_ hk_ => Or.elim hat (fun h1_ => HO0.out.1 k_ (h1_.symm.trans hk_)) (fun h2_ => (fun k_ hk => (.inr (Nat.le_trans (by first | exact HK.out.1 | exact (show zj w _ (fun k_ => P0_ k_) from by repeat (first | (with_reducible first | exact HK.out | apply zj.alloc | apply zj.drewN | apply zj.drew) | exact HK.out)).1) hk))) k_ (by obtain ⟨b_, hb_, hl_⟩ := h2_; rw [hb_] at hk_; cases hk_; exact hl_))); clear ho0; rw [← Ny306.out] at ho; change Kd.R (Kd.int .u8) 5 w6 w0.heap.size (fun k_ => (P0_ k_ ∨ w.heap.size ≤ k_)) v307 y306 at ho; have n0_ := za.mk (hb); have n1_ := za.mk (zj.of_grown (S := (fun k_ => P0_ k_)) hg (by repeat (first | (with_reducible first | exact HK.out | apply zj.alloc | apply zj.drewN | apply zj.drew) | exact HK.out)) (fun k_ e_ => (HO0.out.1 k_ e_))); have n2_ := za.mk (ho); clear HB; clear HK; clear HO0; have HB := n0_; have HK := n1_; have HO308 := n2_; clear n0_ n1_ n2_; clear ho hb hg hat))
  go_ret
  exact ⟨_, by first | rfl | (simp [zl, zk] <;> rfl) | (simp [*, zl, zk] <;> rfl), by (with_reducible repeat (first | apply Kd.R_alloc | apply Kd.R_drewN | apply Kd.R_drew)); exact HO308.out, by repeat (first | (with_reducible first | exact HB.out | apply zc | apply zb | apply zd) | exact HB.out), by repeat (first | (with_reducible first | exact HK.out | apply zj.alloc | apply zj.drewN | apply zj.drew) | exact HK.out)⟩
 ·rw [if_neg c4] at H
  exact absurd H (by simp)
def yx.f (k : Nat) (l0 : List Int) (a1_0 : ByteArray) (a1_1 : Int) (a1_2 : Int) (l1_3 : List Int) : Option (List Int) := (qg.f l0 a1_0).bind fun t347 => ((zw.f k t347 (([a1_1, a1_2] : List Int))).bind fun t353 => ((yF.f t353 l1_3).bind fun t356 => (some t356)))
def yx.T1 : Bool × List (List Nat × List Nat) := (true, [([], []), ([], []), ([1], [1]), ([0, 2], [0, 2]), ([], []), ([4], [4]), ([5], [5]), ([], []), ([7], [7]), ([8], [8]), ([6, 9], [6, 9]), ([3, 10, 3], [3, 10]), ([], []), ([12], [12]), ([13], [13]), ([11, 14, 11], [11, 14]), ([15, 15, 0, 1, 2, 3, 4, 5, 6, 7, 8, 9, 10, 11, 12, 13, 14, 15], [15])])
def yx.B1 : List Nat := [0, 0, 2, 7, 0, 16, 48, 0, 128, 384, 1008, 2047, 0, 4096, 12288, 32767, 65535]
theorem yx.tab1 : qr .any (Ju Tryz.f142 1) = yx.T1 := by kernel_rfl
theorem yx.bits1 : vC yx.T1.2 yx.B1 = true := by kernel_rfl
theorem yx.calls (k : Nat) (P0_ : Nat → Prop) (u9000_ : Value) (l0 : List Int) (a1_0 : ByteArray) (a1_1 : Int) (a1_2 : Int) (A1_3 : Option Addr) (c1_3 : Nat) (l1_3 : List Int) (r : List Int) (w0 w : World) (hB : Below w0.heap.size w0 w) (ho0 : Kd.R (Kd.int .u8) 5 w w0.heap.size P0_ u9000_ l0) (hr1_3 : ∀ W_, zj w W_ (fun k_ => P0_ k_) → Kd.C (Kd.int .i64) W_ A1_3 l1_3.length l1_3) (hc1_3 : l1_3.length ≤ c1_3) (h : yx.f k l0 a1_0 a1_1 a1_2 l1_3 = some r) :
  Calls Tryz.prog 142 #[u9000_, .agg #[.string a1_0, .int .i64 a1_1, .int .i64 a1_2, .slice A1_3 l1_3.length c1_3]] w fun e w' => ∃ v0_ : Value, e = .returned (v0_) ∧ Kd.R (Kd.int .u8) 5 w' w0.heap.size (fun k_ => (P0_ k_ ∨ w.heap.size ≤ k_)) v0_ r ∧ Below w0.heap.size w0 w' ∧ zj w w' (fun k_ => P0_ k_) := by
 have hu86 := Tryz.underlying86
 have HO0 := za.mk (show Kd.R (Kd.int .u8) 5 w w0.heap.size (fun k_ => (P0_ k_ ∨ w.heap.size ≤ k_)) u9000_ l0 from Kd.R_mono ho0 (fun k_ hk => (.inl hk)))
 have HR1_3 := za.mk hr1_3
 have HC1_3 := za.mk hc1_3
 clear hr1_3 hc1_3
 have HK := za.mk (zj.refl w (fun k_ => P0_ k_))
 have HW0 := za.mk hB.size
 have HB := za.mk hB
 clear hB
 have H : ((qg.f l0 a1_0).bind fun t347 => ((zw.f k t347 (([a1_1, a1_2] : List Int))).bind fun t353 => ((yF.f t353 l1_3).bind fun t356 => (some t356)))) = some r := h
 clear h
 replace H := zdK.mp H
 obtain ⟨t347, A30, H⟩ := H
 replace H : ((zw.f k t347 (([a1_1, a1_2] : List Int))).bind fun t353 => ((yF.f t353 l1_3).bind fun t356 => (some t356))) = some r := H
 have A3 := za.mk A30
 clear A30
 obtain ⟨y350, hy350⟩ : ∃ y_ : List Int, y_ = (([a1_1, a1_2] : List Int)) := ⟨_, rfl⟩
 replace H : ((zw.f k t347 y350).bind fun t353 => ((yF.f t353 l1_3).bind fun t356 => (some t356))) = some r := by first | (rw [hy350]; with_reducible exact H) | (have H2_ := (Option.bind_some _ _).symm.trans H; rw [hy350]; with_reducible exact H2_) | (have H2_ := (Option.bind_some _ _).symm.trans H; with_reducible exact H2_) | with_reducible exact H | (rw [hy350]; exact H) | exact H
 have Ny350 := za.mk hy350
 clear hy350
 replace H := zdK.mp H
 obtain ⟨t353, A40, H⟩ := H
 replace H : ((yF.f t353 l1_3).bind fun t356 => (some t356)) = some r := H
 have A4 := za.mk A40
 clear A40
 replace H := zdK.mp H
 obtain ⟨t356, A50, H⟩ := H
 replace H : (some t356) = some r := H
 have A5 := za.mk A50
 clear A50
 obtain rfl := Option.some.inj H
 go_enter Tryz.func142, Tryz.ntmps142
 try go_wp2_with (first | ((with_reducible refine zN (N := 3) rfl ?_); refine yp ?hg (N := 3) ?hd (cs := #[.string a1_0, .int .i64 a1_1, .int .i64 a1_2, .slice A1_3 l1_3.length c1_3]) (t := 86) ?hr ?_; (case hd => rfl); (case hg => rfl); (case hr => first | (go_simp; done) | (go_simp; rfl)); intro gb346 hg w6 hbox hb; have n0_ := za.mk (Kd.R_below (by (with_reducible repeat (first | apply Kd.R_alloc | apply Kd.R_drewN | apply Kd.R_drew)); exact HO0.out) hb); have n1_ := za.mk (zj.below (S := (fun k_ => P0_ k_)) (by repeat (first | (with_reducible first | exact HK.out | apply zj.alloc | apply zj.drewN | apply zj.drew) | exact HK.out)) hb); have n2_ := za.mk (zp (by repeat (first | (with_reducible first | exact HB.out | apply zc | apply zb | apply zd) | exact HB.out)) hb); have n3_ := za.mk (hbox); have n4_ := za.mk ((by rw [hg]; exact (by first | exact HK.out.1 | exact (show zj w _ (fun k_ => P0_ k_) from by repeat (first | (with_reducible first | exact HK.out | apply zj.alloc | apply zj.drewN | apply zj.drew) | exact HK.out)).1) : w.heap.size ≤ gb346)); have n5_ := za.mk ((by rw [hg]; exact (zF (by repeat (first | (with_reducible first | exact HB.out | apply zc | apply zb | apply zd) | exact HB.out))) : w0.heap.size ≤ gb346)); clear HO0; clear HK; clear HB; have HO0 := n0_; have HK := n1_; have HB := n2_; have BK346 := n3_; have GW346 := n4_; have GE346 := n5_; clear n0_ n1_ n2_ n3_ n4_ n5_; clear hb hbox hg; obtain ⟨Ao7, co7, eo7⟩ := Kd.R_slice HO0.out; subst eo7))
 have n0_ := za.mk (Kd.R_drew HO0.out)
 have n1_ := za.mk (zV BK346.out)
 have n2_ := za.mk (zj.drew HK.out)
 have n3_ := za.mk (zd HB.out)
 clear HO0
 clear BK346
 clear HK
 clear HB
 have HO0 := n0_
 have BK346 := n1_
 have HK := n2_
 have HB := n3_
 clear n0_ n1_ n2_ n3_
 refine Yv (n := 17) (S := fun w' => w'.cell? ⟨gb346, 0, none⟩ = some (.string a1_0) ∧ w'.cell? ⟨gb346, 1, none⟩ = some (.int .i64 a1_1) ∧ w'.cell? ⟨gb346, 2, none⟩ = some (.int .i64 a1_2) ∧ w'.cell? ⟨gb346, 3, none⟩ = some (.slice A1_3 l1_3.length c1_3)) (ds := []) #[Y,Y,Y,Y,Y,Y,Y,Y,Y,Y,Y,Y,Y,Y,Y,Y,Y] (by kernel_rfl) rfl rfl ⟨(zm BK346.out 0).trans rfl, (zm BK346.out 1).trans rfl, (zm BK346.out 2).trans rfl, (zm BK346.out 3).trans rfl⟩ (fun hHeld => ?_); refine ZK yx.tab1 yx.bits1 (fun HT_ HW_ => ?_)
 generalize w6.drew = w8 at HO0 BK346 HK HB hHeld ⊢
 refine yM (i := 0) (N := some 5) (v := ?_) (a' := ?_) #[O,Y,Y,Y,Y,Y,Y,Y,Y,Y,Y,Y,Y,Y,Y,Y,Y] rfl rfl (yG HT_.out (by kernel_rfl)) (fun _ _ _ h => h) (Or.inl ⟨by rfl, ?_⟩) ?_ ?_
 rotate_left
 ·intro w'
  go_simp
  with_reducible rfl
 rotate_left
 ·simp only [Act.put, zdG, zdH, zdI, zT, yc]
  rfl
 refine yM (i := 1) (N := some 6) (v := ?_) (a' := ?_) #[O,O,Y,Y,Y,Y,Y,Y,Y,Y,Y,Y,Y,Y,Y,Y,Y] rfl rfl (yG HT_.out (by kernel_rfl)) (fun _ _ _ h => h) (Or.inl ⟨by rfl, ?_⟩) ?_ ?_
 rotate_left
 ·intro w'
  go_simp
  with_reducible rfl
 rotate_left
 ·simp only [Act.put, zdG, zdH, zdI, zT, yc]
  rfl
 refine yM (i := 4) (N := some 9) (v := ?_) (a' := ?_) #[O,O,Y,Y,O,Y,Y,Y,Y,Y,Y,Y,Y,Y,Y,Y,Y] rfl rfl (yG HT_.out (by kernel_rfl)) (fun _ _ _ h => h) (Or.inl ⟨by rfl, ?_⟩) ?_ ?_
 rotate_left
 ·intro w'
  go_simp
  with_reducible rfl
 rotate_left
 ·simp only [Act.put, zdG, zdH, zdI, zT, yc]
  rfl
 refine yM (i := 5) (N := some 10) (v := ?_) (a' := ?_) #[O,O,Y,Y,O,O,Y,Y,Y,Y,Y,Y,Y,Y,Y,Y,Y] rfl rfl (yG HT_.out (by kernel_rfl)) (fun _ _ _ h => h) (Or.inl ⟨by rfl, ?_⟩) ?_ ?_
 rotate_left
 ·intro w'
  go_simp
  with_reducible rfl
 rotate_left
 ·simp only [Act.put, zdG, zdH, zdI, zT, yc]
  rfl
 refine yM (i := 7) (N := some 12) (v := ?_) (a' := ?_) #[O,O,Y,Y,O,O,Y,O,Y,Y,Y,Y,Y,Y,Y,Y,Y] rfl rfl (yG HT_.out (by kernel_rfl)) (fun _ _ _ h => h) (Or.inl ⟨by rfl, ?_⟩) ?_ ?_
 rotate_left
 ·intro w'
  go_simp
  with_reducible rfl
 rotate_left
 ·simp only [Act.put, zdG, zdH, zdI, zT, yc]
  rfl
 refine yM (i := 8) (N := some 13) (v := ?_) (a' := ?_) #[O,O,Y,Y,O,O,Y,O,O,Y,Y,Y,Y,Y,Y,Y,Y] rfl rfl (yG HT_.out (by kernel_rfl)) (fun _ _ _ h => h) (Or.inl ⟨by rfl, ?_⟩) ?_ ?_
 rotate_left
 ·intro w'
  go_simp
  with_reducible rfl
 rotate_left
 ·simp only [Act.put, zdG, zdH, zdI, zT, yc]
  rfl
 refine yM (i := 12) (N := some 17) (v := ?_) (a' := ?_) #[O,O,Y,Y,O,O,Y,O,O,Y,Y,Y,O,Y,Y,Y,Y] rfl rfl (yG HT_.out (by kernel_rfl)) (fun _ _ _ h => h) (Or.inl ⟨by rfl, ?_⟩) ?_ ?_
 rotate_left
 ·intro w'
  go_simp
  with_reducible rfl
 rotate_left
 ·simp only [Act.put, zdG, zdH, zdI, zT, yc]
  rfl
 refine yM (i := 13) (N := some 18) (v := ?_) (a' := ?_) #[O,O,Y,Y,O,O,Y,O,O,Y,Y,Y,O,O,Y,Y,Y] rfl rfl (yG HT_.out (by kernel_rfl)) (fun _ _ _ h => h) (Or.inl ⟨by rfl, ?_⟩) ?_ ?_
 rotate_left
 ·intro w'
  go_simp
  with_reducible rfl
 rotate_left
 ·simp only [Act.put, zdG, zdH, zdI, zT, yc]
  rfl
 refine take_ (i := 2) (N := some 7) (v := ?_) (a' := ?_) #[O,O,O,Y,O,O,Y,O,O,Y,Y,Y,O,O,Y,Y,Y] rfl rfl (Zo HT_.out HW_.out (by kernel_rfl)) (fun _ _ _ h => h) (Or.inl ⟨by rfl, ?_⟩) hHeld ?_ ?_
 rotate_left
 ·rintro w' ⟨s0, s1, s2, s3⟩
  go_simp
  with_reducible rfl
 rotate_left
 ·simp only [Act.put, zdG, zdH, zdI, zT, yc]
  rfl
 refine take_ (i := 6) (N := some 11) (v := ?_) (a' := ?_) #[O,O,O,Y,O,O,O,O,O,Y,Y,Y,O,O,Y,Y,Y] rfl rfl (Zo HT_.out HW_.out (by kernel_rfl)) (fun _ _ _ h => h) (Or.inl ⟨by rfl, ?_⟩) hHeld ?_ ?_
 rotate_left
 ·rintro w' ⟨s0, s1, s2, s3⟩
  go_simp
  with_reducible rfl
 rotate_left
 ·simp only [Act.put, zdG, zdH, zdI, zT, yc]
  rfl
 refine take_ (i := 9) (N := some 14) (v := ?_) (a' := ?_) #[O,O,O,Y,O,O,O,O,O,O,Y,Y,O,O,Y,Y,Y] rfl rfl (Zo HT_.out HW_.out (by kernel_rfl)) (fun _ _ _ h => h) (Or.inl ⟨by rfl, ?_⟩) hHeld ?_ ?_
 rotate_left
 ·rintro w' ⟨s0, s1, s2, s3⟩
  go_simp
  with_reducible rfl
 rotate_left
 ·simp only [Act.put, zdG, zdH, zdI, zT, yc]
  rfl
 refine take_ (i := 14) (N := some 19) (v := ?_) (a' := ?_) #[O,O,O,Y,O,O,O,O,O,O,Y,Y,O,O,O,Y,Y] rfl rfl (Zo HT_.out HW_.out (by kernel_rfl)) (fun _ _ _ h => h) (Or.inl ⟨by rfl, ?_⟩) hHeld ?_ ?_
 rotate_left
 ·rintro w' ⟨s0, s1, s2, s3⟩
  go_simp
  with_reducible rfl
 rotate_left
 ·simp only [Act.put, zdG, zdH, zdI, zT, yc]
  rfl
 refine zcJ (σ := Value × Value) 3 #[O,O,O,O,O,O,O,O,O,O,O,Y,O,O,O,Y,Y] (fun s_ => [(8, s_.1), (15, s_.2)]) (fun s_ w' => (w'.cell? ⟨gb346, 0, none⟩ = some (.string a1_0) ∧ w'.cell? ⟨gb346, 1, none⟩ = some (.int .i64 a1_1) ∧ w'.cell? ⟨gb346, 2, none⟩ = some (.int .i64 a1_2) ∧ w'.cell? ⟨gb346, 3, none⟩ = some (.slice A1_3 l1_3.length c1_3)) ∧ (Kd.R (Kd.int .u8) 5 w' w0.heap.size (fun k_ => (P0_ k_ ∨ w.heap.size ≤ k_)) s_.1 t347) ∧ (Kd.R (Kd.int .i64) 3 w' w0.heap.size (fun k_ => (P0_ k_ ∨ w.heap.size ≤ k_)) s_.2 y350) ∧ (w'.heap[gb346]? = some (.cells #[.string a1_0, .int .i64 a1_1, .int .i64 a1_2, .slice A1_3 l1_3.length c1_3] 86 (0, 0))) ∧ (zj w w' (fun k_ => P0_ k_)) ∧ (Below w0.heap.size w0 w')) ?_ ?_
 rotate_left
 ·intro hCont
  refine two_ (i := 3) (j := 10) (Ni := some 8) (Nj := some 15) #[O,O,O,O,O,O,O,O,O,O,Y,Y,O,O,O,Y,Y] #[O,O,O,Y,O,O,O,O,O,O,O,Y,O,O,O,Y,Y] rfl rfl rfl rfl (JZ HT_.out (by kernel_rfl)) (by decide) (by decide) (fun K hK => ?_) (fun K hK => ?_)
  ·skip
   refine jV Tryz.func133 (by kernel_rfl) rfl #[.slice Ao7 l0.length co7, .string a1_0] (by rfl) rfl rfl (by (try simp only [zdJ, List.map_cons, List.map_nil]); first | done | rfl | (simp only [List.length_drop, List.length_take]; rfl)) ?_
   with_reducible refine (qg.calls (fun k_ => some k_ = (.slice Ao7 l0.length co7 : Value).ownBlock) (.slice Ao7 l0.length co7) l0 a1_0 t347 w0 _ ?side1 ?side2 A3.out).mono ?_
   (case side1 => repeat (first | (with_reducible first | exact HB.out | apply zc | apply zb | apply zd | refine zv ?_ GE346.out) | exact HB.out))
   (case side2 => exact Kd.R_tight rfl HO0.out)
   rintro e w9 ⟨v348, rfl, ho0, hb, hkp⟩
   refine ⟨_, rfl, ?_⟩
   have n0_ := za.mk (jF (by (with_reducible repeat (first | refine zS ?_ _ | refine zV ?_ | refine zR ?_ _)); exact BK346.out) hkp (fun hs_ => (fun e_ => (Kd.R_ne HO0.out BK346.out (by decide)) e_) hs_))
   have n1_ := za.mk (Kd.R_mono (ok' := fun k_ => (P0_ k_ ∨ w.heap.size ≤ k_)) ho0 (fun k_ hk_ => Or.elim hk_ (fun hs_ => (HO0.out.1 k_ (hs_).symm)) (fun hn_ => (.inr (Nat.le_trans (by first | exact HK.out.1 | exact (show zj w _ (fun k_ => P0_ k_) from by repeat (first | (with_reducible first | exact HK.out | apply zj.alloc | apply zj.drewN | apply zj.drew | refine zj.setCell ?_ (.inr GW346.out) _) | exact HK.out)).1) hn_)))))
   have n2_ := za.mk (zj.then_ (S := (fun k_ => P0_ k_)) (by repeat (first | (with_reducible first | exact HK.out | apply zj.alloc | apply zj.drewN | apply zj.drew | refine zj.setCell ?_ (.inr GW346.out) _) | exact HK.out)) hkp (fun k_ hs_ => (fun e_ => (HO0.out.1 k_ e_.symm)) hs_))
   have n3_ := za.mk (hb)
   clear BK346
   clear HK
   clear HB
   clear HO0
   have BK346 := n0_
   have HO349 := n1_
   have HK := n2_
   have HB := n3_
   clear n0_ n1_ n2_ n3_
   (try clear hb)
   (try clear hkp)
   (try clear ho0)
   refine hK.out _ _ ⟨(zm BK346.out 0).trans rfl, (zm BK346.out 1).trans rfl, (zm BK346.out 2).trans rfl, (zm BK346.out 3).trans rfl⟩ (fun hHeld => ?_)
   clear hK K
   refine xh (a' := ?_) ?_ ?_
   rotate_left
   ·show Act.put _ (some 8) _ = _
    simp only [Act.put, zdG, zdH, zdI, zT, yc]
    rfl
   refine jt (i := 10) (N := some 15) #[O,O,O,O,O,O,O,O,O,O,O,Y,O,O,O,Y,Y] rfl rfl (qM HT_.out (by kernel_rfl)) (by decide) (fun K hK => ?_)
   refine Kd.R_lit_step (Kd.int .i64) _ 3 ?hg (N := 15) ?hd (xs := ([a1_1, a1_2] : List Int)) (inner := [.int .i64 a1_1, .int .i64 a1_2]) (ok := fun _ => True) (okp := fun _ => True) ?hr ?hp (fun _ hk => hk) trivial (Below.refl _ _) (Nat.le_refl _) (by simp) ?_; (case hd => rfl); (case hg => rfl); (case hr => first | (go_simp; done) | (go_simp; rfl)); (case hp => exact (zX.one (show Kd.M (Kd.int .i64) _ _ _ a1_1 [.int .i64 a1_1] from rfl) (zX.one (show Kd.M (Kd.int .i64) _ _ _ a1_2 [.int .i64 a1_2] from rfl) (zX.none _ _))))
   intro v351 w10 ho11 hb hg_ hnew_
   clear hg_ hnew_
   (first | rw [← Ny350.out] at ho11 | (simp only [Int.reduceToNat] at ho11; rw [← Ny350.out] at ho11))
   have n0_ := za.mk (Kd.R_below (by (with_reducible repeat (first | apply Kd.R_alloc | apply Kd.R_drewN | apply Kd.R_drew)); exact HO349.out) hb)
   have n1_ := za.mk (Kd.R_lower (Kd.R_newM (M := fun k_ => (P0_ k_ ∨ w.heap.size ≤ k_)) ho11 (by first | exact HK.out.1 | exact (show zj w _ (fun k_ => P0_ k_) from by repeat (first | (with_reducible first | exact HK.out | apply zj.alloc | apply zj.drewN | apply zj.drew | refine zj.setCell ?_ (.inr GW346.out) _) | exact HK.out)).1) (fun k_ h_ => .inr h_)) (zF (by repeat (first | (with_reducible first | exact HB.out | apply zc | apply zb | apply zd | refine zv ?_ GE346.out) | exact HB.out))))
   have n2_ := za.mk (zZ (g := gb346) (o := .cells #[.string a1_0, .int .i64 a1_1, .int .i64 a1_2, .slice A1_3 l1_3.length c1_3] 86 (0, 0)) (by (with_reducible repeat (first | refine zS ?_ _ | refine zV ?_ | refine zR ?_ _)); exact BK346.out) hb)
   have n3_ := za.mk (zj.below (S := (fun k_ => P0_ k_)) (by repeat (first | (with_reducible first | exact HK.out | apply zj.alloc | apply zj.drewN | apply zj.drew | refine zj.setCell ?_ (.inr GW346.out) _) | exact HK.out)) hb)
   have n4_ := za.mk (zp (by repeat (first | (with_reducible first | exact HB.out | apply zc | apply zb | apply zd | refine zv ?_ GE346.out) | exact HB.out)) hb)
   clear HO349
   clear BK346
   clear HK
   clear HB
   have HO349 := n0_
   have HO352 := n1_
   have BK346 := n2_
   have HK := n3_
   have HB := n4_
   clear n0_ n1_ n2_ n3_ n4_
   clear hb ho11
   refine hK.out _ _ ⟨(zm BK346.out 0).trans rfl, (zm BK346.out 1).trans rfl, (zm BK346.out 2).trans rfl, (zm BK346.out 3).trans rfl⟩ (fun hHeld => ?_)
   clear hK K
   refine xh (a' := ?_) ?_ ?_
   rotate_left
   ·show Act.put _ (some 15) _ = _
    simp only [Act.put, zdG, zdH, zdI, zT, yc]
    rfl
   exact xh (by simp only [vp, Act.put, zdG, zdH, zdI]) (hCont (v348, v351) _ ⟨hHeld, (by (with_reducible repeat (first | apply Kd.R_alloc | apply Kd.R_drewN | apply Kd.R_drew)); exact HO349.out), (by (with_reducible repeat (first | apply Kd.R_alloc | apply Kd.R_drewN | apply Kd.R_drew)); exact Kd.R_mono HO352.out (fun _ hk => hk.1)), (by (with_reducible repeat (first | refine zS ?_ _ | refine zV ?_ | refine zR ?_ _)); exact BK346.out), (by repeat (first | (with_reducible first | exact HK.out | apply zj.alloc | apply zj.drewN | apply zj.drew | refine zj.setCell ?_ (.inr GW346.out) _) | exact HK.out)), (by repeat (first | (with_reducible first | exact HB.out | apply zc | apply zb | apply zd | refine zv ?_ GE346.out) | exact HB.out))⟩)
  ·skip
   refine Kd.R_lit_step (Kd.int .i64) _ 3 ?hg (N := 15) ?hd (xs := ([a1_1, a1_2] : List Int)) (inner := [.int .i64 a1_1, .int .i64 a1_2]) (ok := fun _ => True) (okp := fun _ => True) ?hr ?hp (fun _ hk => hk) trivial (Below.refl _ _) (Nat.le_refl _) (by simp) ?_; (case hd => rfl); (case hg => rfl); (case hr => first | (go_simp; done) | (go_simp; rfl)); (case hp => exact (zX.one (show Kd.M (Kd.int .i64) _ _ _ a1_1 [.int .i64 a1_1] from rfl) (zX.one (show Kd.M (Kd.int .i64) _ _ _ a1_2 [.int .i64 a1_2] from rfl) (zX.none _ _))))
   intro v351 w9 ho10 hb hg_ hnew_
   clear hg_ hnew_
   (first | rw [← Ny350.out] at ho10 | (simp only [Int.reduceToNat] at ho10; rw [← Ny350.out] at ho10))
   have n0_ := za.mk (Kd.R_below (by (with_reducible repeat (first | apply Kd.R_alloc | apply Kd.R_drewN | apply Kd.R_drew)); exact HO0.out) hb)
   have n1_ := za.mk (Kd.R_lower (Kd.R_newM (M := fun k_ => (P0_ k_ ∨ w.heap.size ≤ k_)) ho10 (by first | exact HK.out.1 | exact (show zj w _ (fun k_ => P0_ k_) from by repeat (first | (with_reducible first | exact HK.out | apply zj.alloc | apply zj.drewN | apply zj.drew | refine zj.setCell ?_ (.inr GW346.out) _) | exact HK.out)).1) (fun k_ h_ => .inr h_)) (zF (by repeat (first | (with_reducible first | exact HB.out | apply zc | apply zb | apply zd | refine zv ?_ GE346.out) | exact HB.out))))
   have n2_ := za.mk (zZ (g := gb346) (o := .cells #[.string a1_0, .int .i64 a1_1, .int .i64 a1_2, .slice A1_3 l1_3.length c1_3] 86 (0, 0)) (by (with_reducible repeat (first | refine zS ?_ _ | refine zV ?_ | refine zR ?_ _)); exact BK346.out) hb)
   have n3_ := za.mk (zj.below (S := (fun k_ => P0_ k_)) (by repeat (first | (with_reducible first | exact HK.out | apply zj.alloc | apply zj.drewN | apply zj.drew | refine zj.setCell ?_ (.inr GW346.out) _) | exact HK.out)) hb)
   have n4_ := za.mk (zp (by repeat (first | (with_reducible first | exact HB.out | apply zc | apply zb | apply zd | refine zv ?_ GE346.out) | exact HB.out)) hb)
   clear HO0
   clear BK346
   clear HK
   clear HB
   have HO0 := n0_
   have HO352 := n1_
   have BK346 := n2_
   have HK := n3_
   have HB := n4_
   clear n0_ n1_ n2_ n3_ n4_
   clear hb ho10
   refine hK.out _ _ ⟨(zm BK346.out 0).trans rfl, (zm BK346.out 1).trans rfl, (zm BK346.out 2).trans rfl, (zm BK346.out 3).trans rfl⟩ (fun hHeld => ?_)
   clear hK K
   refine xh (a' := ?_) ?_ ?_
   rotate_left
   ·show Act.put _ (some 15) _ = _
    simp only [Act.put, zdG, zdH, zdI, zT, yc]
    rfl
   refine jt (i := 3) (N := some 8) #[O,O,O,O,O,O,O,O,O,O,O,Y,O,O,O,Y,Y] rfl rfl (qM HT_.out (by kernel_rfl)) (by decide) (fun K hK => ?_)
   refine jV Tryz.func133 (by kernel_rfl) rfl #[.slice Ao7 l0.length co7, .string a1_0] (by rfl) rfl rfl (by (try simp only [zdJ, List.map_cons, List.map_nil]); first | done | rfl | (simp only [List.length_drop, List.length_take]; rfl)) ?_
   with_reducible refine (qg.calls (fun k_ => some k_ = (.slice Ao7 l0.length co7 : Value).ownBlock) (.slice Ao7 l0.length co7) l0 a1_0 t347 w0 _ ?side1 ?side2 A3.out).mono ?_
   (case side1 => repeat (first | (with_reducible first | exact HB.out | apply zc | apply zb | apply zd | refine zv ?_ GE346.out) | exact HB.out))
   (case side2 => exact Kd.R_tight rfl HO0.out)
   rintro e w11 ⟨v348, rfl, ho0, hb, hkp⟩
   refine ⟨_, rfl, ?_⟩
   have n0_ := za.mk (jF (by (with_reducible repeat (first | refine zS ?_ _ | refine zV ?_ | refine zR ?_ _)); exact BK346.out) hkp (fun hs_ => (fun e_ => (Kd.R_ne HO0.out BK346.out (by decide)) e_) hs_))
   have n1_ := za.mk (Kd.R_mono (ok' := fun k_ => (P0_ k_ ∨ w.heap.size ≤ k_)) (Kd.R_keptB ((Kd.R_apart' HO352.out (Kd.R_typed HO0.out) (by decide))) hkp (fun k_ hk_ hs_ => (hk_.2) hs_)) (fun k_ hk_ => hk_.1.1.1))
   have n2_ := za.mk (Kd.R_mono (ok' := fun k_ => (P0_ k_ ∨ w.heap.size ≤ k_)) ho0 (fun k_ hk_ => Or.elim hk_ (fun hs_ => (HO0.out.1 k_ (hs_).symm)) (fun hn_ => (.inr (Nat.le_trans (by first | exact HK.out.1 | exact (show zj w _ (fun k_ => P0_ k_) from by repeat (first | (with_reducible first | exact HK.out | apply zj.alloc | apply zj.drewN | apply zj.drew | refine zj.setCell ?_ (.inr GW346.out) _) | exact HK.out)).1) hn_)))))
   have n3_ := za.mk (zj.then_ (S := (fun k_ => P0_ k_)) (by repeat (first | (with_reducible first | exact HK.out | apply zj.alloc | apply zj.drewN | apply zj.drew | refine zj.setCell ?_ (.inr GW346.out) _) | exact HK.out)) hkp (fun k_ hs_ => (fun e_ => (HO0.out.1 k_ e_.symm)) hs_))
   have n4_ := za.mk (hb)
   clear BK346
   clear HO352
   clear HK
   clear HB
   clear HO0
   have BK346 := n0_
   have HO352 := n1_
   have HO349 := n2_
   have HK := n3_
   have HB := n4_
   clear n0_ n1_ n2_ n3_ n4_
   (try clear hb)
   (try clear hkp)
   (try clear ho0)
   refine hK.out _ _ ⟨(zm BK346.out 0).trans rfl, (zm BK346.out 1).trans rfl, (zm BK346.out 2).trans rfl, (zm BK346.out 3).trans rfl⟩ (fun hHeld => ?_)
   clear hK K
   refine xh (a' := ?_) ?_ ?_
   rotate_left
   ·show Act.put _ (some 8) _ = _
    simp only [Act.put, zdG, zdH, zdI, zT, yc]
    rfl
   exact xh (by simp only [vp, Act.put, zdG, zdH, zdI]) (hCont (v348, v351) _ ⟨hHeld, (by (with_reducible repeat (first | apply Kd.R_alloc | apply Kd.R_drewN | apply Kd.R_drew)); exact HO349.out), (by (with_reducible repeat (first | apply Kd.R_alloc | apply Kd.R_drewN | apply Kd.R_drew)); exact HO352.out), (by (with_reducible repeat (first | refine zS ?_ _ | refine zV ?_ | refine zR ?_ _)); exact BK346.out), (by repeat (first | (with_reducible first | exact HK.out | apply zj.alloc | apply zj.drewN | apply zj.drew | refine zj.setCell ?_ (.inr GW346.out) _) | exact HK.out)), (by repeat (first | (with_reducible first | exact HB.out | apply zc | apply zb | apply zd | refine zv ?_ GE346.out) | exact HB.out))⟩)
 rintro ⟨v348, v351⟩ w12 ⟨hS_, h0_, h1_, h2_, h3_, h4_⟩
 have n0_ : za (Kd.R (Kd.int .u8) 5 w12 w0.heap.size (fun k_ => (P0_ k_ ∨ w.heap.size ≤ k_)) v348 t347) := ⟨h0_⟩
 have n1_ : za (Kd.R (Kd.int .i64) 3 w12 w0.heap.size (fun k_ => (P0_ k_ ∨ w.heap.size ≤ k_)) v351 y350) := ⟨h1_⟩
 have n2_ : za (w12.heap[gb346]? = some (.cells #[.string a1_0, .int .i64 a1_1, .int .i64 a1_2, .slice A1_3 l1_3.length c1_3] 86 (0, 0))) := ⟨h2_⟩
 have n3_ : za (zj w w12 (fun k_ => P0_ k_)) := ⟨h3_⟩
 have n4_ : za (Below w0.heap.size w0 w12) := ⟨h4_⟩
 clear HO0
 clear BK346
 clear HK
 clear HB
 clear h0_ h1_ h2_ h3_ h4_
 have HO349 := n0_
 have HO352 := n1_
 have BK346 := n2_
 have HK := n3_
 have HB := n4_
 clear n0_ n1_ n2_ n3_ n4_
 have hHeld : w12.cell? ⟨gb346, 0, none⟩ = some (.string a1_0) ∧ w12.cell? ⟨gb346, 1, none⟩ = some (.int .i64 a1_1) ∧ w12.cell? ⟨gb346, 2, none⟩ = some (.int .i64 a1_2) ∧ w12.cell? ⟨gb346, 3, none⟩ = some (.slice A1_3 l1_3.length c1_3) := hS_
 obtain ⟨Ao13, co13, eo13⟩ := Kd.R_slice HO349.out
 (first | subst eo13 | (injection eo13 with f1_ f2_ f3_; have f4_ := f1_.symm; have f5_ := f3_.symm; clear f1_ f2_ f3_; subst f4_; subst f5_))
 obtain ⟨Ao14, co14, eo14⟩ := Kd.R_slice HO352.out
 (first | subst eo14 | (injection eo14 with f1_ f2_ f3_; have f4_ := f1_.symm; have f5_ := f3_.symm; clear f1_ f2_ f3_; subst f4_; subst f5_))
 refine xh (a' := ?_) ?_ ?_
 rotate_left
 ·simp only [vp, Act.put, zdG, zdH, zdI]
  rfl
 refine jt (i := 11) (N := some 16) #[O,O,O,O,O,O,O,O,O,O,O,O,O,O,O,Y,Y] rfl rfl (qM HT_.out (by kernel_rfl)) (by decide) (fun K hK => ?_)
 refine jV Tryz.func134 (by kernel_rfl) rfl #[.slice Ao13 t347.length co13, .slice Ao14 y350.length co14] (by rfl) rfl rfl (by (try simp only [zdJ, List.map_cons, List.map_nil]); first | done | rfl | (simp only [List.length_drop, List.length_take]; rfl)) ?_
 with_reducible refine (zw.calls k (fun k_ => some k_ = (.slice Ao13 t347.length co13 : Value).ownBlock) (.slice Ao13 t347.length co13) t347 _ _ y350 t353 w0 _ ?side1 ?side2 ?side3 ?side4 A4.out).mono ?_
 (case side1 => repeat (first | (with_reducible first | exact HB.out | apply zc | apply zb | apply zd | refine zv ?_ GE346.out) | exact HB.out))
 (case side2 => exact Kd.R_tight rfl HO349.out)
 (case side3 => exact Kd.C_kept_own ((Kd.R_apart' HO352.out (Kd.R_typed HO349.out) (by decide))) (fun k_ hk_ hs_ => (hk_.2) hs_))
 (case side4 => exact (Kd.R_reads' HO352.out).2.1)
 rintro e w15 ⟨v354, rfl, ho0, hb, hkp⟩
 refine ⟨_, rfl, ?_⟩
 have n0_ := za.mk (jF (by (with_reducible repeat (first | refine zS ?_ _ | refine zV ?_ | refine zR ?_ _)); exact BK346.out) hkp (fun hs_ => (fun e_ => (Kd.R_ne HO349.out BK346.out (by decide)) e_) hs_))
 have n1_ := za.mk (Kd.R_mono (ok' := fun k_ => (P0_ k_ ∨ w.heap.size ≤ k_)) (Kd.R_keptB ((Kd.R_apart' HO352.out (Kd.R_typed HO349.out) (by decide))) hkp (fun k_ hk_ hs_ => (hk_.2) hs_)) (fun k_ hk_ => hk_.1.1))
 have n2_ := za.mk (Kd.R_mono (ok' := fun k_ => (P0_ k_ ∨ w.heap.size ≤ k_)) ho0 (fun k_ hk_ => Or.elim hk_ (fun hs_ => (HO349.out.1 k_ (hs_).symm)) (fun hn_ => (.inr (Nat.le_trans (by first | exact HK.out.1 | exact (show zj w _ (fun k_ => P0_ k_) from by repeat (first | (with_reducible first | exact HK.out | apply zj.alloc | apply zj.drewN | apply zj.drew | refine zj.setCell ?_ (.inr GW346.out) _) | exact HK.out)).1) hn_)))))
 have n3_ := za.mk (zj.then_ (S := (fun k_ => P0_ k_)) (by repeat (first | (with_reducible first | exact HK.out | apply zj.alloc | apply zj.drewN | apply zj.drew | refine zj.setCell ?_ (.inr GW346.out) _) | exact HK.out)) hkp (fun k_ hs_ => (fun e_ => (HO349.out.1 k_ e_.symm)) hs_))
 have n4_ := za.mk (hb)
 clear BK346
 clear HO352
 clear HK
 clear HB
 clear HO349
 have BK346 := n0_
 have HO352 := n1_
 have HO355 := n2_
 have HK := n3_
 have HB := n4_
 clear n0_ n1_ n2_ n3_ n4_
 (try clear hb)
 (try clear hkp)
 (try clear ho0)
 obtain ⟨Ao16, co16, eo16⟩ := Kd.R_slice HO355.out
 (first | subst eo16 | (injection eo16 with f1_ f2_ f3_; have f4_ := f1_.symm; have f5_ := f3_.symm; clear f1_ f2_ f3_; subst f4_; subst f5_))
 refine hK.out _ _ ⟨(zm BK346.out 0).trans rfl, (zm BK346.out 1).trans rfl, (zm BK346.out 2).trans rfl, (zm BK346.out 3).trans rfl⟩ (fun hHeld => ?_)
 clear hK K
 refine xh (a' := ?_) ?_ ?_
 rotate_left
 ·show Act.put _ (some 16) _ = _
  simp only [Act.put, zdG, zdH, zdI, zT, yc]
  rfl
 refine jt (i := 15) (N := some 20) #[O,O,O,O,O,O,O,O,O,O,O,O,O,O,O,O,Y] rfl rfl (qM HT_.out (by kernel_rfl)) (by decide) (fun K hK => ?_)
 refine jV Tryz.func135 (by kernel_rfl) rfl #[.slice Ao16 t353.length co16, .slice A1_3 l1_3.length c1_3] (by rfl) rfl rfl (by (try simp only [zdJ, List.map_cons, List.map_nil]); first | done | rfl | (simp only [List.length_drop, List.length_take]; rfl)) ?_
 with_reducible refine (yF.calls (fun k_ => some k_ = (.slice Ao16 t353.length co16 : Value).ownBlock) (.slice Ao16 t353.length co16) t353 _ _ l1_3 t356 w0 _ ?side1 ?side2 ?side3 ?side4 A5.out).mono ?_
 (case side1 => repeat (first | (with_reducible first | exact HB.out | apply zc | apply zb | apply zd | refine zv ?_ GE346.out) | exact HB.out))
 (case side2 => exact Kd.R_tight rfl HO355.out)
 (case side3 => exact Kd.C_kept_call HR1_3.out (by repeat (first | (with_reducible first | exact HK.out | apply zj.alloc | apply zj.drewN | apply zj.drew | refine zj.setCell ?_ (.inr GW346.out) _) | exact HK.out)) (fun k_ hs_ => (fun e_ => (HO355.out.1 k_ e_.symm)) hs_))
 (case side4 => exact HC1_3.out)
 rintro e w17 ⟨v357, rfl, ho0, hb, hkp⟩
 refine ⟨_, rfl, ?_⟩
 have n0_ := za.mk (jF (by (with_reducible repeat (first | refine zS ?_ _ | refine zV ?_ | refine zR ?_ _)); exact BK346.out) hkp (fun hs_ => (fun e_ => (Kd.R_ne HO355.out BK346.out (by decide)) e_) hs_))
 have n1_ := za.mk (Kd.R_mono (ok' := fun k_ => (P0_ k_ ∨ w.heap.size ≤ k_)) (Kd.R_keptB ((Kd.R_apart' HO352.out (Kd.R_typed HO355.out) (by decide))) hkp (fun k_ hk_ hs_ => (hk_.2) hs_)) (fun k_ hk_ => hk_.1.1))
 have n2_ := za.mk (Kd.R_mono (ok' := fun k_ => (P0_ k_ ∨ w.heap.size ≤ k_)) ho0 (fun k_ hk_ => Or.elim hk_ (fun hs_ => (HO355.out.1 k_ (hs_).symm)) (fun hn_ => (.inr (Nat.le_trans (by first | exact HK.out.1 | exact (show zj w _ (fun k_ => P0_ k_) from by repeat (first | (with_reducible first | exact HK.out | apply zj.alloc | apply zj.drewN | apply zj.drew | refine zj.setCell ?_ (.inr GW346.out) _) | exact HK.out)).1) hn_)))))
 have n3_ := za.mk (zj.then_ (S := (fun k_ => P0_ k_)) (by repeat (first | (with_reducible first | exact HK.out | apply zj.alloc | apply zj.drewN | apply zj.drew | refine zj.setCell ?_ (.inr GW346.out) _) | exact HK.out)) hkp (fun k_ hs_ => (fun e_ => (HO355.out.1 k_ e_.symm)) hs_))
 have n4_ := za.mk (hb)
 clear BK346
 clear HO352
 clear HK
 clear HB
 clear HO355
 have BK346 := n0_
 have HO352 := n1_
 have HO358 := n2_
 have HK := n3_
 have HB := n4_
 clear n0_ n1_ n2_ n3_ n4_
 (try clear hb)
 (try clear hkp)
 (try clear ho0)
 refine hK.out _ _ ⟨(zm BK346.out 0).trans rfl, (zm BK346.out 1).trans rfl, (zm BK346.out 2).trans rfl, (zm BK346.out 3).trans rfl⟩ (fun hHeld => ?_)
 clear hK K
 refine xh (a' := ?_) ?_ ?_
 rotate_left
 ·show Act.put _ (some 20) _ = _
  simp only [Act.put, zdG, zdH, zdI, zT, yc]
  rfl
 refine yM (i := 16) (N := some 4) (v := ?_) (a' := ?_) #[O,O,O,O,O,O,O,O,O,O,O,O,O,O,O,O,O] rfl rfl (yG HT_.out (by kernel_rfl)) (fun _ _ _ h => h) (Or.inl ⟨by rfl, ?_⟩) ?_ ?_
 rotate_left
 ·intro w'
  go_simp
  with_reducible rfl
 rotate_left
 ·simp only [Act.put, zdG, zdH, zdI, zT, yc]
  rfl
 refine YK (YA HT_.out (by kernel_rfl)) ?_
 try go_wp2
 go_ret
 exact ⟨_, by first | rfl | (simp [zl, zk] <;> rfl) | (simp [*, zl, zk] <;> rfl), by (with_reducible repeat (first | apply Kd.R_alloc | apply Kd.R_drewN | apply Kd.R_drew)); exact HO358.out, by repeat (first | (with_reducible first | exact HB.out | apply zc | apply zb | apply zd | refine zv ?_ GE346.out) | exact HB.out), by repeat (first | (with_reducible first | exact HK.out | apply zj.alloc | apply zj.drewN | apply zj.drew | refine zj.setCell ?_ (.inr GW346.out) _) | exact HK.out)⟩
def yr.f (k : Nat) (l0 : List Int) (l1 : List S86) : Option (List Int) := (zw.f k l0 (([(l1.length : Int)] : List Int))).bind fun t => xX (fun acc x => yx.f k acc x.f0 x.f1.f0 x.f1.f1 x.f1.f2) l1 t
theorem yr.calls (k : Nat) (P0_ : Nat → Prop) (u9000_ : Value) (l0 : List Int) (A1 : Option Addr) (c1 : Nat) (l1 : List (S86)) (r : List Int) (w0 w : World) (hB : Below w0.heap.size w0 w) (ho0 : Kd.R (Kd.int .u8) 5 w w0.heap.size P0_ u9000_ l0) (hr1 : ∀ W_, zj w W_ (fun k_ => P0_ k_) → Kd.C k86 W_ A1 l1.length l1) (hc1 : l1.length ≤ c1) (h : yr.f k l0 l1 = some r) :
  Calls Tryz.prog 141 #[u9000_, .slice A1 l1.length c1, .func (Fn.func 142) #[] #[]] w fun e w' => ∃ v0_ : Value, e = .returned (v0_) ∧ Kd.R (Kd.int .u8) 5 w' w0.heap.size (fun k_ => (P0_ k_ ∨ w.heap.size ≤ k_)) v0_ r ∧ Below w0.heap.size w0 w' ∧ zj w w' (fun k_ => P0_ k_) := by
 have HLEN := za.mk (hr1 w (zj.refl _ _)).2.1
 have HBLK : za (0 < l1.length → ∃ ad, A1 = some ad ∧ ad.block < w.heap.size ∧ ¬ P0_ ad.block) := ⟨fun hn => Qf hr1 hn (by decide)⟩
 have HO0 := za.mk (show Kd.R (Kd.int .u8) 5 w w0.heap.size (fun k_ => (P0_ k_ ∨ w.heap.size ≤ k_)) u9000_ l0 from Kd.R_mono ho0 (fun k_ hk => (.inl hk)))
 have HR1 := za.mk hr1
 have HC1 := za.mk hc1
 clear hr1 hc1 ho0
 have HK := za.mk (zj.refl w (fun k_ => P0_ k_))
 have HB := za.mk hB
 clear hB
 unfold yr.f at h
 rw [zdK] at h
 obtain ⟨t0, ht0, h⟩ := h
 have A4 := za.mk ht0
 have H' := za.mk h
 clear ht0 h
 obtain ⟨y391, hy391⟩ : ∃ y_ : List Int, y_ = (([(l1.length : Int)] : List Int)) := ⟨_, rfl⟩
 have Ny391 := za.mk hy391
 have A4 := za.mk (show zw.f k l0 y391 = some t0 by rw [hy391]; exact A4.out)
 clear hy391
 go_enter Tryz.func141, Tryz.ntmps141
 go_wp2_with (first | ((with_reducible refine zN (N := 12) rfl ?_); refine Kd.R_lit (Kd.int .i64) _ 3 ?hg (N := 12) ?hd (xs := ([(l1.length : Int)] : List Int)) (inner := [.int .i64 (l1.length : Int)]) (ok := fun _ => True) (okp := fun _ => True) ?hr ?hp (fun _ hk => hk) trivial (Below.refl _ _) (Nat.le_refl _) (by simp) ?_; (case hd => rfl); (case hg => rfl); (case hr => first | (go_simp; done) | (go_simp; rfl)); (case hp => exact (zX.one (show Kd.M (Kd.int .i64) _ _ _ (l1.length : Int) [.int .i64 (l1.length : Int)] from rfl) (zX.none _ _))); intro v392 w5 ho6 hb hg_ hnew_; clear hg_ hnew_; (first | rw [← Ny391.out] at ho6 | (simp only [Int.reduceToNat] at ho6; rw [← Ny391.out] at ho6)); have n0_ := za.mk (Kd.R_below HO0.out hb); have n1_ := za.mk (Kd.R_lower (Kd.R_newM (M := (fun k_ => (P0_ k_ ∨ w.heap.size ≤ k_))) ho6 HK.out.1 (fun k_ h_ => .inr h_)) HB.out.size); have n2_ := za.mk (zj.below (S := (fun k_ => P0_ k_)) (by repeat (first | (with_reducible first | exact HK.out | apply zj.alloc | apply zj.drewN | apply zj.drew) | exact HK.out)) hb); have n3_ := za.mk (zp (by repeat (first | (with_reducible first | exact HB.out | apply zc | apply zb | apply zd) | exact HB.out)) hb); clear HO0; clear HK; clear HB; have HO0 := n0_; have HO393 := n1_; have HK := n2_; have HB := n3_; clear n0_ n1_ n2_ n3_; clear hb ho6; obtain ⟨Ao7, co7, eo7⟩ := Kd.R_slice HO0.out; subst eo7; obtain ⟨Ao8, co8, eo8⟩ := Kd.R_slice HO393.out; subst eo8) | ((with_reducible refine zr (f := 134) rfl ?_); refine zL (some 13) rfl rfl Tryz.func134 (by kernel_rfl) rfl #[.slice Ao7 l0.length co7, .slice Ao8 y391.length co8] rfl (by (try simp only [zdJ, List.map_cons, List.map_nil]); first | done | rfl) ?_; (with_reducible refine (zw.calls k (fun k_ => some k_ = (.slice Ao7 l0.length co7 : Value).ownBlock) (.slice Ao7 l0.length co7) l0 _ _ y391 t0 w0 _ ?side1 ?side2 ?side3 ?side4 A4.out).mono ?_); (case side1 => exact HB.out); (case side2 => exact Kd.R_tight rfl HO0.out); (case side3 => exact Kd.C_kept_own ((Kd.R_apart' HO393.out (Kd.R_typed HO0.out) (by decide))) (fun k_ hk_ hs_ => (hk_.2) hs_)); (case side4 => exact (Kd.R_reads' HO393.out).2.1); rintro e w9 ⟨v395, rfl, ho0, hb, hkp⟩; refine ⟨_, rfl, ?_⟩; have n1_ := za.mk (Kd.R_mono (ok' := (fun k_ => (P0_ k_ ∨ w.heap.size ≤ k_))) ho0 (fun k_ hk_ => Or.elim hk_ (fun hs_ => (HO0.out.1 k_ (hs_).symm)) (fun hn_ => (.inr (Nat.le_trans HK.out.1 hn_))))); have n2_ := za.mk (zj.then_ (S := (fun k_ => P0_ k_)) HK.out hkp (fun k_ hs_ => (fun e_ => (HO0.out.1 k_ e_.symm)) hs_)); have n3_ := za.mk (hb); clear HO393; clear HK; clear HB; clear HO0; have HO396 := n1_; have HK := n2_; have HB := n3_; clear n1_ n2_ n3_; (try clear hb); (try clear hkp); (try clear ho0)))
 go_loopg [0, 16] l1.length (fun kq v0 v16 w' => ∃ (xs : List Int) (i : Nat), v16 = .int .i64 i ∧ za (i + kq = l1.length) ∧ za (xX (fun acc x => yx.f k acc x.f0 x.f1.f0 x.f1.f1 x.f1.f2) (l1.drop i) xs = some r) ∧ za (Kd.R (Kd.int .u8) 5 w' w0.heap.size (fun k_ => (P0_ k_ ∨ w.heap.size ≤ k_)) v0 xs) ∧ za (zj w w' (fun k_ => P0_ k_)) ∧ za (Below w0.heap.size w0 w'))
 case atStart => exact ⟨t0, 0, rfl, ⟨by simp⟩, ⟨by rw [List.drop_zero]; exact H'.out⟩, HO396, HK, HB⟩
 case round =>
  clear H'
  obtain ⟨xs, i, rfl, HI, HA, HO_0, HK, HB⟩ := hrel
  by_cases hlt : i < l1.length
  ·have ho := HA.out
   rw [List.drop_eq_getElem_cons hlt, xX, zdK] at ho
   obtain ⟨t1, ht1, ho⟩ := ho
   have A13 := za.mk ht1
   have H2 := za.mk ho
   clear ht1 ho HA
   have hq : (i : Int).toNat = i := Int.toNat_natCast i
   have hrd : xD l1 (i : Int) = l1[i] := by simp [xD, hlt]
   obtain ⟨ad, Ai, ci, ea, hx0, hx1, hx2, hx3, hl, hC⟩ := vW (HR1.out _ HK.out) (i : Int) (by omega) (by omega)
   rw [hrd, hq] at hx0 hx1 hx2 hx3
   rw [hrd] at hl
   obtain ⟨ad2, ea2, hblt, hnp⟩ := HBLK.out (by omega)
   cases ea.symm.trans ea2
   have HIN : za (∀ (g_ : Nat → Prop) (W_ : World), (∀ k_, g_ k_ → (P0_ k_ ∨ w.heap.size ≤ k_)) → zj wr W_ g_ → Kd.C (Kd.int .i64) W_ Ai l1[i].f1.f2.length l1[i].f1.f2) := ⟨fun g_ W_ hg hk => by
    obtain ⟨ad', Ai', ci', ea', hx0', hx1', hx2', hx3', hl', hC'⟩ := vW (HR1.out W_ (HK.out.then_ hk (fun k_ h_ => hg k_ h_))) (i : Int) (by omega) (by omega)
    rw [hrd, hq] at hx0' hx1' hx2' hx3'
    cases ea.symm.trans ea'
    have hne : ¬ g_ ad.block := fun h_ => Or.elim (hg _ h_) hnp (fun h2 => by omega)
    have hq2 := QT hx3 hk (by first | exact hne | (rw [vF]; exact hne) | (show ¬ g_ (Addr.add _ _).block; rw [vF]; exact hne))
    rw [hx3'] at hq2
    injection hq2 with hq2
    injection hq2 with hq2 _ _
    subst hq2
    rw [hrd] at hC'
    exact hC'⟩
   have HL := za.mk hl
   clear hl hC HBLK
   cases ea
   clear ea2
   obtain ⟨x, hx⟩ : ∃ x, x = l1[i] := ⟨_, rfl⟩
   rw [← hx] at A13 HL HIN hx0 hx1 hx2 hx3
   clear hx hrd hq
   go_wp2_with (first | ((with_reducible refine zN (N := 8) rfl ?_); refine yp ?hg (N := 8) ?hd (cs := #[.string ⟨#[]⟩, .int .i64 0, .int .i64 0, .slice none 0 0]) (t := 86) ?hr ?_; (case hd => rfl); (case hg => rfl); (case hr => first | (go_simp; done) | (go_simp; rfl)); intro gb hg w14 hbox hb; have n0_ := za.mk (Kd.R_below HO_0.out hb); have n1_ := za.mk (zj.below (S := (fun k_ => P0_ k_)) HK.out hb); have n2_ := za.mk (zp HB.out hb); have n3_ := za.mk hbox; have n4_ := za.mk (by rw [hg]; exact HK.out.1 : w.heap.size ≤ gb); have n5_ := za.mk (by rw [hg]; exact HB.out.size : w0.heap.size ≤ gb); have n6_ := za.mk (fun (g_ : Nat → Prop) (W_ : World) (hg_ : ∀ k_, g_ k_ → (P0_ k_ ∨ w.heap.size ≤ k_)) (hk_ : zj w14 W_ g_) => HIN.out g_ W_ hg_ ((zj.of_below hb g_).then_ hk_ (fun _ h_ => .inl h_))); clear HO_0; clear HK; clear HB; clear HIN; have HO_0 := n0_; have HK := n1_; have HB := n2_; have BK := n3_; have GW := n4_; have GE := n5_; have HIN := n6_; clear n0_ n1_ n2_ n3_ n4_ n5_ n6_; clear hb hbox hg; have hcz_0 : w14.cell? ⟨gb, 0, none⟩ = some (.string ⟨#[]⟩) := (zm BK.out 0).trans rfl; have hfz_0 := zn BK.out 0; have hcz_1 : w14.cell? ⟨gb, 1, none⟩ = some (.int .i64 0) := (zm BK.out 1).trans rfl; have hfz_1 := zn BK.out 1; have hcz_2 : w14.cell? ⟨gb, 2, none⟩ = some (.int .i64 0) := (zm BK.out 2).trans rfl; have hfz_2 := zn BK.out 2; have hcz_3 : w14.cell? ⟨gb, 3, none⟩ = some (.slice none 0 0) := (zm BK.out 3).trans rfl; have hfz_3 := zn BK.out 3) | ((with_reducible refine vK (t := 86) (p := 8) rfl ?_); refine vm (t := 86) (p := 8) (v := ?vo_w16) (w1 := ((((w14.setCell ⟨gb, 0, none⟩ (.string x.f0)).setCell ⟨gb, 1, none⟩ (.int .i64 x.f1.f0)).setCell ⟨gb, 2, none⟩ (.int .i64 x.f1.f1)).setCell ⟨gb, 3, none⟩ (.slice Ai x.f1.f2.length ci))) ?hg ?ho ?hn ?hr ?_; (case ho => rfl); (case hg => rfl); (case hn => rfl); (case hr => first | (go_simp; done) | (go_simp; rfl)); intro w16 hw; have n0_ : za (Kd.R (Kd.int .u8) 5 w16 w0.heap.size (fun k_ => (P0_ k_ ∨ w.heap.size ≤ k_)) u0 xs) := ⟨(by rw [hw]; exact (Kd.R_mono (Kd.R_far (p := ⟨gb, 3, none⟩) (Kd.R_far (p := ⟨gb, 2, none⟩) (Kd.R_far (p := ⟨gb, 1, none⟩) (Kd.R_far (p := ⟨gb, 0, none⟩) (Kd.R_types HO_0.out BK.out (by decide)) (fun _ hk => hk.2) (.string x.f0)) (fun _ hk => hk.2) (.int .i64 x.f1.f0)) (fun _ hk => hk.2) (.int .i64 x.f1.f1)) (fun _ hk => hk.2) (.slice Ai x.f1.f2.length ci)) (fun _ hk => hk.1)))⟩; have n1_ : za (w16.heap[gb]? = some (.cells #[.string x.f0, .int .i64 x.f1.f0, .int .i64 x.f1.f1, .slice Ai x.f1.f2.length ci] 86 (0, 0))) := ⟨(by rw [hw]; exact (yW (cs' := #[.string x.f0, .int .i64 x.f1.f0, .int .i64 x.f1.f1, .slice Ai x.f1.f2.length ci]) (yW (cs' := #[.string x.f0, .int .i64 x.f1.f0, .int .i64 x.f1.f1, .slice none 0 0]) (yW (cs' := #[.string x.f0, .int .i64 x.f1.f0, .int .i64 0, .slice none 0 0]) (yW (cs' := #[.string x.f0, .int .i64 0, .int .i64 0, .slice none 0 0]) (BK.out) 0 _ rfl) 1 _ rfl) 2 _ rfl) 3 _ rfl))⟩; have n2_ : za (zj w w16 (fun k_ => P0_ k_)) := ⟨(by rw [hw]; exact (zj.setCell (p := ⟨gb, 3, none⟩) (zj.setCell (p := ⟨gb, 2, none⟩) (zj.setCell (p := ⟨gb, 1, none⟩) (zj.setCell (p := ⟨gb, 0, none⟩) (HK.out) (.inr GW.out) _) (.inr GW.out) _) (.inr GW.out) _) (.inr GW.out) _))⟩; have n3_ : za (Below w0.heap.size w0 w16) := ⟨(by rw [hw]; exact (zv (g := gb) (j := 3) (zv (g := gb) (j := 2) (zv (g := gb) (j := 1) (zv (g := gb) (j := 0) (HB.out) GE.out) GE.out) GE.out) GE.out))⟩; have n4_ : za (zj w14 w16 (fun k_ => k_ = gb)) := ⟨(by rw [hw]; exact (zj.setCell (p := ⟨gb, 3, none⟩) (zj.setCell (p := ⟨gb, 2, none⟩) (zj.setCell (p := ⟨gb, 1, none⟩) (zj.setCell (p := ⟨gb, 0, none⟩) (zj.refl w14 (fun k_ => k_ = gb)) (.inl rfl) _) (.inl rfl) _) (.inl rfl) _) (.inl rfl) _))⟩; have n5_ := za.mk (fun (g_ : Nat → Prop) (W_ : World) (hg_ : ∀ k_, g_ k_ → (P0_ k_ ∨ w.heap.size ≤ k_)) (hk_ : zj w16 W_ g_) => HIN.out (fun k_ => k_ = gb ∨ g_ k_) W_ (fun k_ h_ => h_.elim (fun e_ => .inr (by rw [e_]; exact GW.out)) (hg_ k_)) ((n4_.out.mono (fun _ h_ => .inl h_)).then_ hk_ (fun _ h_ => .inl (.inr h_)))); clear hw; clear HO_0; clear BK; clear HK; clear HB; clear HIN; have HO_0 := n0_; have BK := n1_; have HK := n2_; have HB := n3_; have HIN := n5_; clear n0_ n1_ n2_ n3_ n4_ n5_; clear hcz_0 hfz_0; clear hcz_1 hfz_1; clear hcz_2 hfz_2; clear hcz_3 hfz_3; have hcz_0 : w16.cell? ⟨gb, 0, none⟩ = some (.string x.f0) := (zm BK.out 0).trans rfl; have hfz_0 := zn BK.out 0; have hcz_1 : w16.cell? ⟨gb, 1, none⟩ = some (.int .i64 x.f1.f0) := (zm BK.out 1).trans rfl; have hfz_1 := zn BK.out 1; have hcz_2 : w16.cell? ⟨gb, 2, none⟩ = some (.int .i64 x.f1.f1) := (zm BK.out 2).trans rfl; have hfz_2 := zn BK.out 2; have hcz_3 : w16.cell? ⟨gb, 3, none⟩ = some (.slice Ai x.f1.f2.length ci) := (zm BK.out 3).trans rfl; have hfz_3 := zn BK.out 3; obtain ⟨Ao18, co18, eo18⟩ := Kd.R_slice HO_0.out; subst eo18) | ((with_reducible refine zN (N := 23) rfl ?_); refine vR (some 23) rfl rfl Tryz.func142 (by kernel_rfl) rfl #[.slice Ao18 xs.length co18, .agg #[.string x.f0, .int .i64 x.f1.f0, .int .i64 x.f1.f1, .slice Ai x.f1.f2.length ci]] rfl (by (try simp only [zdJ, List.map_cons, List.map_nil]); first | done | rfl) ?_; (with_reducible refine (yx.calls k (fun k_ => some k_ = (.slice Ao18 xs.length co18 : Value).ownBlock) (.slice Ao18 xs.length co18) xs x.f0 x.f1.f0 x.f1.f1 Ai ci x.f1.f2 t1 w0 _ ?side1 ?side2 ?side3 HL.out A13.out).mono ?_); (case side1 => exact HB.out); (case side2 => exact Kd.R_tight rfl HO_0.out); (case side3 => exact fun W_ hk_ => HIN.out _ W_ (fun k_ e_ => HO_0.out.1 k_ e_.symm) hk_); rintro e w19 ⟨v400, rfl, ho0, hb, hkp⟩; refine ⟨_, rfl, ?_⟩; have n1_ := za.mk (Kd.R_mono (ok' := (fun k_ => (P0_ k_ ∨ w.heap.size ≤ k_))) ho0 (fun k_ hk_ => Or.elim hk_ (fun hs_ => (HO_0.out.1 k_ (hs_).symm)) (fun hn_ => (.inr (Nat.le_trans HK.out.1 hn_))))); have n2_ := za.mk (zj.then_ (S := (fun k_ => P0_ k_)) HK.out hkp (fun k_ hs_ => (fun e_ => (HO_0.out.1 k_ e_.symm)) hs_)); have n3_ := za.mk (hb); clear BK; clear HK; clear HB; clear HO_0; have HO401 := n1_; have HK := n2_; have HB := n3_; clear n1_ n2_ n3_; (try clear hb); (try clear hkp); (try clear ho0)))
   go_roundg (l1.length - (i + 1))
   case measure => have := HI.out; omega
   case rel => exact ⟨t1, i + 1, (by have h_ : wrap64 ((i : Int) + 1) = ((i + 1 : Nat) : Int) := z4 (by omega) (by have := HLEN.out; omega); first | (rw [h_]) | (simp only [h_])), ⟨by omega⟩, H2, HO401, HK, HB⟩
  ·obtain rfl : i = l1.length := by have := HI.out; omega
   have ho := HA.out
   rw [List.drop_length, xX] at ho
   obtain rfl := Option.some.inj ho
   go_wp2
   go_ret
   exact ⟨_, rfl, HO_0.out, HB.out, HK.out⟩
def yj.l0 : Nat → ByteArray → Int → List ByteArray → ByteArray → Int → Option (List ByteArray)
 | 0, _, _, _, _, _ => none
 | k + 1, x0, x1, x5, x6, x7 => if x7 < (x0.size : Int) then (if 0 ≤ x7 then (if (bt x0 x7) = x1 then (if x5.length < 8796093022208 then (yj.l0 k x0 x1 (x5 ++ [x6]) (⟨#[]⟩ : ByteArray) (wrap64 (x7 + 1))) else (none)) else (if x7 ≤ (wrap64 (x7 + 1)) then (if (wrap64 (x7 + 1)) ≤ (x0.size : Int) then (if x6.size + (x0.extract (x7 : Int).toNat ((wrap64 (x7 + 1)) : Int).toNat).size ≤ 9223372036854775807 then (yj.l0 k x0 x1 x5 (x6 ++ (x0.extract (x7 : Int).toNat ((wrap64 (x7 + 1)) : Int).toNat)) (wrap64 (x7 + 1))) else (none)) else (none)) else (none))) else (none)) else (if x5.length < 8796093022208 then (some (x5 ++ [x6])) else (none))
def yj.f (k : Nat) (a0 : ByteArray) (a1 : Int) : Option (List ByteArray) := yj.l0 k a0 a1 ([] : List ByteArray) (⟨#[]⟩ : ByteArray) 0
theorem yj.calls (k : Nat) (a0 : ByteArray) (a1 : Int) (r : List ByteArray) (w : World) (h : yj.f k a0 a1 = some r) :
  Calls Tryz.prog 146 #[.string a0, .int .u8 a1] w fun e w' => ∃ v0_ : Value, e = .returned (v0_) ∧ Kd.R Kd.string 9 w' w.heap.size (fun _ => True) v0_ r ∧ Below w.heap.size w w' := by
 have HB := za.mk (Below.refl w.heap.size w)
 have H : (yj.l0 k a0 a1 ([] : List ByteArray) (⟨#[]⟩ : ByteArray) 0) = some r := h
 clear h
 have H' := za.mk H
 clear H
 go_enter Tryz.func146, Tryz.ntmps146
 go_wp2
 go_loopg [5, 6, 7] k (fun kq v5 v6 v7 w' => ∃ (x5_1 : List ByteArray) (x6_1 : ByteArray) (x7_1 : Int), v6 = .string x6_1 ∧ v7 = .int .i64 x7_1 ∧ za (yj.l0 kq a0 a1 x5_1 x6_1 x7_1 = some r) ∧ za (kq ≤ k) ∧ za (Kd.R Kd.string 9 w' w.heap.size (fun _ => True) v5 x5_1) ∧ za (Below w.heap.size w w'))
 case atStart => exact ⟨(([] : List ByteArray)), ((⟨#[]⟩ : ByteArray)), (0), (by first | rfl | (simp; done) | (simp [*]; done)), (by first | rfl | (simp; done) | (simp [*]; done)), H', ⟨Nat.le_refl _⟩, ⟨by first | exact Kd.R_nil _ _ _ _ _ | exact Kd.N_nil _ _ _ _ _ | exact Kd.V_nil _ _ _ _ _ | exact Kd.Q_nil _ _ _ _ _ | exact Kd.S_nil _ _ _ _ _⟩, ⟨by repeat (first | (with_reducible first | exact HB.out | apply zc | apply zb | apply zd) | exact HB.out)⟩⟩
 case round =>
  clear H'
  try clear c1
  try clear p2
  obtain ⟨x5_1, x6_1, x7_1, rfl, rfl, HA, HK1, HO_5, HB⟩ := hrel
  cases gk with
  | zero => exact absurd HA.out (by simp [yj.l0])
  | succ k1 =>
   have H := HA.out
   clear HA
   simp only [yj.l0] at H
   by_cases c3 : x7_1 < (a0.size : Int)
   ·rw [if_pos c3] at H
    have c3b0 : decide (x7_1 < (a0.size : Int)) = true := decide_eq_true c3
    clear c3
    by_cases c4 : 0 ≤ x7_1
    ·rw [if_pos c4] at H
     have c4b0 : decide (0 ≤ x7_1) = true := decide_eq_true c4
     clear c4
     by_cases c6 : (bt a0 x7_1) = a1
     ·rw [if_pos c6] at H
      have c6b0 : ((bt a0 x7_1) == a1) = true := beq_iff_eq.mpr c6
      have c6b1 : ((bt a0 x7_1) != a1) = false := bne_eq_false_iff_eq.mpr c6
      clear c6
      by_cases c7 : x5_1.length < 8796093022208
      ·rw [if_pos c7] at H
       have LMc7 := za.mk c7
       clear c7
       obtain ⟨y642, hy642⟩ : ∃ y_ : List ByteArray, y_ = (x5_1 ++ [x6_1]) := ⟨_, rfl⟩
       replace H : (yj.l0 k1 a0 a1 y642 (⟨#[]⟩ : ByteArray) (wrap64 (x7_1 + 1))) = some r := by first | (rw [hy642]; with_reducible exact H) | (have H2_ := (Option.bind_some _ _).symm.trans H; rw [hy642]; with_reducible exact H2_) | (have H2_ := (Option.bind_some _ _).symm.trans H; with_reducible exact H2_) | with_reducible exact H | (rw [hy642]; exact H) | exact H
       have Ny642 := za.mk hy642
       clear hy642
       have H' := za.mk H
       clear H
       have p5 : 0 ≤ (x7_1 : Int) := of_decide_eq_true (by first | (with_reducible assumption) | assumption)
       have q5 : x7_1 < (a0.size : Int) := of_decide_eq_true (by first | (with_reducible assumption) | assumption)
       have hx5 := xg a0 x7_1
       replace p5 := eq_true p5
       replace q5 := eq_true q5
       go_wp2_with (first | ((with_reducible refine jH (b := .append) (xs := #[.tmp 19, .tmp 21]) rfl ?_); at_builtin; refine Kd.R_append Kd.string (w0 := w) w.heap.size rfl (.tmp 19) (.tmp 21) 22 9 (.string ⟨#[]⟩) 16 rfl Tryz.underlying22 Js rfl (by decide) (by omega) u5 x5_1 x6_1 [.string x6_1] (fun _ => True) (fun _ => False) rfl rfl ?aP (fun _ hk => hk.elim) ?aF ?aO ?aB ?aS ?aL ?_; (case aP => exact rfl); (case aB => exact (by repeat (first | (with_reducible first | exact HB.out | apply zc | apply zb | apply zd) | exact HB.out))); (case aF => exact (fun _ _ => trivial)); (case aO => exact (by (with_reducible repeat (first | apply Kd.R_alloc | apply Kd.R_drewN | apply Kd.R_drew)); exact HO_5.out)); (case aS => exact (zF (by repeat (first | (with_reducible first | exact HB.out | apply zc | apply zb | apply zd) | exact HB.out)))); (case aL => have := LMc7.out; omega); intro v643 w8 ho hb hg hat; rw [← Ny642.out] at ho; have n0_ := za.mk (hb); have n1_ := za.mk (ho); clear HB; clear HO_5; have HB := n0_; have HO644 := n1_; clear n0_ n1_; clear ho hb hg hat))
       go_roundg k1
       case measure => have := HK1.out; omega
       case rel => exact ⟨(y642), ((⟨#[]⟩ : ByteArray)), (wrap64 (x7_1 + 1)), (by first | rfl | (simp; done) | (simp [*]; done)), (by first | rfl | (simp; done) | (simp [*]; done)), H', ⟨by have := HK1.out; omega⟩, ⟨by (with_reducible repeat (first | apply Kd.R_alloc | apply Kd.R_drewN | apply Kd.R_drew)); exact HO644.out⟩, ⟨by repeat (first | (with_reducible first | exact HB.out | apply zc | apply zb | apply zd) | exact HB.out)⟩⟩
      ·rw [if_neg c7] at H
       exact absurd H (by simp)
     ·rw [if_neg c6] at H
      have c6b0 : ((bt a0 x7_1) == a1) = false := beq_eq_false_iff_ne.mpr c6
      have c6b1 : ((bt a0 x7_1) != a1) = true := bne_iff_ne.mpr c6
      have c9b0 := eq_true (of_decide_eq_true (by first | (with_reducible assumption) | assumption) : 0 ≤ x7_1)
      by_cases c10 : x7_1 ≤ (wrap64 (x7_1 + 1))
      ·rw [if_pos c10] at H
       have c10b0 := eq_true c10
       have c10b1 : decide (x7_1 ≤ (wrap64 (x7_1 + 1))) = true := decide_eq_true c10
       by_cases c11 : (wrap64 (x7_1 + 1)) ≤ (a0.size : Int)
       ·rw [if_pos c11] at H
        have c11b0 := eq_true c11
        have c11b1 : decide ((wrap64 (x7_1 + 1)) ≤ (a0.size : Int)) = true := decide_eq_true c11
        by_cases c12 : x6_1.size + (a0.extract (x7_1 : Int).toNat ((wrap64 (x7_1 + 1)) : Int).toNat).size ≤ 9223372036854775807
        ·rw [if_pos c12] at H
         have c12b0 := eq_true c12
         have c12b1 : decide (x6_1.size + (a0.extract (x7_1 : Int).toNat ((wrap64 (x7_1 + 1)) : Int).toNat).size ≤ 9223372036854775807) = true := decide_eq_true c12
         try have c12b2 : (9223372036854775807 < x6_1.size + (a0.extract (x7_1 : Int).toNat ((wrap64 (x7_1 + 1)) : Int).toNat).size) = False := eq_false (Nat.not_lt.2 c12)
         have H' := za.mk H
         clear H
         have p5 : 0 ≤ (x7_1 : Int) := of_decide_eq_true (by first | (with_reducible assumption) | assumption)
         have q5 : x7_1 < (a0.size : Int) := of_decide_eq_true (by first | (with_reducible assumption) | assumption)
         have hx5 := xg a0 x7_1
         replace p5 := eq_true p5
         replace q5 := eq_true q5
         go_wp2
         go_roundg k1
         case measure => have := HK1.out; omega
         case rel => exact ⟨(x5_1), (x6_1 ++ (a0.extract (x7_1 : Int).toNat ((wrap64 (x7_1 + 1)) : Int).toNat)), (wrap64 (x7_1 + 1)), (by first | rfl | (simp; done) | (simp [*]; done)), (by first | rfl | (simp; done) | (simp [*]; done)), H', ⟨by have := HK1.out; omega⟩, ⟨by (with_reducible repeat (first | apply Kd.R_alloc | apply Kd.R_drewN | apply Kd.R_drew)); exact HO_5.out⟩, ⟨by repeat (first | (with_reducible first | exact HB.out | apply zc | apply zb | apply zd) | exact HB.out)⟩⟩
        ·rw [if_neg c12] at H
         exact absurd H (by simp)
       ·rw [if_neg c11] at H
        exact absurd H (by simp)
      ·rw [if_neg c10] at H
       exact absurd H (by simp)
    ·rw [if_neg c4] at H
     exact absurd H (by simp)
   ·rw [if_neg c3] at H
    have c3b0 : decide (x7_1 < (a0.size : Int)) = false := decide_eq_false c3
    clear c3
    by_cases c13 : x5_1.length < 8796093022208
    ·rw [if_pos c13] at H
     have LMc13 := za.mk c13
     clear c13
     obtain ⟨y645, hy645⟩ : ∃ y_ : List ByteArray, y_ = (x5_1 ++ [x6_1]) := ⟨_, rfl⟩
     replace H : (some y645) = some r := by first | (rw [hy645]; with_reducible exact H) | (have H2_ := (Option.bind_some _ _).symm.trans H; rw [hy645]; with_reducible exact H2_) | (have H2_ := (Option.bind_some _ _).symm.trans H; with_reducible exact H2_) | with_reducible exact H | (rw [hy645]; exact H) | exact H
     have Ny645 := za.mk hy645
     clear hy645
     obtain rfl := Option.some.inj H
     go_wp2_with (first | ((with_reducible refine jH (b := .append) (xs := #[.tmp 30, .tmp 32]) rfl ?_); at_builtin; refine Kd.R_append Kd.string (w0 := w) w.heap.size rfl (.tmp 30) (.tmp 32) 22 9 (.string ⟨#[]⟩) 16 rfl Tryz.underlying22 Js rfl (by decide) (by omega) u5 x5_1 x6_1 [.string x6_1] (fun _ => True) (fun _ => False) rfl rfl ?aP (fun _ hk => hk.elim) ?aF ?aO ?aB ?aS ?aL ?_; (case aP => exact rfl); (case aB => exact (by repeat (first | (with_reducible first | exact HB.out | apply zc | apply zb | apply zd) | exact HB.out))); (case aF => exact (fun _ _ => trivial)); (case aO => exact (by (with_reducible repeat (first | apply Kd.R_alloc | apply Kd.R_drewN | apply Kd.R_drew)); exact HO_5.out)); (case aS => exact (zF (by repeat (first | (with_reducible first | exact HB.out | apply zc | apply zb | apply zd) | exact HB.out)))); (case aL => have := LMc13.out; omega); intro v646 w14 ho hb hg hat; rw [← Ny645.out] at ho; have n0_ := za.mk (hb); have n1_ := za.mk (ho); clear HB; clear HO_5; have HB := n0_; have HO647 := n1_; clear n0_ n1_; clear ho hb hg hat))
     go_ret
     exact ⟨_, by first | rfl | (simp [zl, zk] <;> rfl) | (simp [*, zl, zk] <;> rfl), by (with_reducible repeat (first | apply Kd.R_alloc | apply Kd.R_drewN | apply Kd.R_drew)); exact HO647.out, by repeat (first | (with_reducible first | exact HB.out | apply zc | apply zb | apply zd) | exact HB.out)⟩
    ·rw [if_neg c13] at H
     exact absurd H (by simp)
def yN.f (k : Nat) (a0 : ByteArray) : Option (List ByteArray) := (yj.f k a0 47).bind fun t648 => (some t648)
theorem yN.calls (k : Nat) (a0 : ByteArray) (r : List ByteArray) (w : World) (h : yN.f k a0 = some r) :
  Calls Tryz.prog 109 #[.string a0] w fun e w' => ∃ v0_ : Value, e = .returned (v0_) ∧ Kd.R Kd.string 9 w' w.heap.size (fun _ => True) v0_ r ∧ Below w.heap.size w w' := by
 have HB := za.mk (Below.refl w.heap.size w)
 have H : ((yj.f k a0 47).bind fun t648 => (some t648)) = some r := h
 clear h
 replace H := zdK.mp H
 obtain ⟨t648, A20, H⟩ := H
 replace H : (some t648) = some r := H
 have A2 := za.mk A20
 clear A20
 obtain rfl := Option.some.inj H
 go_enter Tryz.func109, Tryz.ntmps109
 go_wp2_with (first | ((with_reducible refine zr (f := 146) rfl ?_); refine zL (some 4) rfl rfl Tryz.func146 (by kernel_rfl) rfl #[.string a0, .int .u8 47] rfl (by (try simp only [zdJ, List.map_cons, List.map_nil]); first | done | rfl | (simp only [List.length_drop, List.length_take]; rfl)) ?_; (with_reducible refine (yj.calls k a0 47 t648 _ A2.out).mono ?_); rintro e w3 ⟨v649, rfl, ho0, hb⟩; refine ⟨_, rfl, ?_⟩; have n0_ := za.mk (Kd.R_lower ho0 (zF (by repeat (first | (with_reducible first | exact HB.out | apply zc | apply zb | apply zd) | exact HB.out)))); have n1_ := za.mk (zp (by repeat (first | (with_reducible first | exact HB.out | apply zc | apply zb | apply zd) | exact HB.out)) hb); clear HB; have HO650 := n0_; have HB := n1_; clear n0_ n1_; (try clear hb); (try clear hb2); (try clear hk); (try clear hi); (try clear ho0)))
 go_ret
 exact ⟨_, by first | rfl | (simp [zl, zk] <;> rfl) | (simp [*, zl, zk] <;> rfl), by (with_reducible repeat (first | apply Kd.R_alloc | apply Kd.R_drewN | apply Kd.R_drew)); exact HO650.out, by repeat (first | (with_reducible first | exact HB.out | apply zc | apply zb | apply zd) | exact HB.out)⟩
theorem zbM (l : List Nat) (i : Nat) (h : i < l.length) : l.getD i 0 = l[i] := by simp [List.getD, h]
theorem JJ (s : ByteArray) (i : Nat) (h : i < s.size) : bt s (i : Int) = (((bl s).getD i 0 : Nat) : Int) := by
 rw [ZQ s i h, zbM _ _ (by rw [yo]; exact h)]
theorem zaL (s : ByteArray) (a b c : Nat) (h1 : a ≤ b) (h2 : b ≤ c) (h3 : c ≤ s.size) : s.extract a b ++ s.extract b c = s.extract a c := by
 apply vI
 rw [ZI, qV, qV, qV]
 have hl : (bl s).length = s.size := yo s
 generalize bl s = l at hl ⊢
 have e1 : l.take b = (l.take c).take b := by rw [List.take_take, Nat.min_eq_left h2]
 rw [e1]
 have hm : (l.take c).length = c := by rw [List.length_take]; omega
 generalize l.take c = m at hm ⊢
 have e2 : m = m.take b ++ m.drop b := (List.take_append_drop b m).symm
 have e3 : m.drop a = (m.take b ++ m.drop b).drop a := by rw [List.take_append_drop]
 rw [e3, List.drop_append_of_le_length (by rw [List.length_take]; omega)]
def vA (s : ByteArray) : Nat → Nat → List ByteArray
 | 0, a => [s.extract a s.size]
 | d + 1, a => if (bl s).getD (s.size - (d + 1)) 0 = 47 then s.extract a (s.size - (d + 1)) :: vA s d (s.size - d) else vA s d a
def qj (s : ByteArray) : List ByteArray := vA s s.size 0
theorem zbZ (s : ByteArray) (d : Nat) : ∀ a, 1 ≤ (vA s d a).length ∧ (vA s d a).length ≤ d + 1 := by
 induction d with
 | zero => intro a; exact ⟨Nat.le_refl _, Nat.le_refl _⟩
 | succ d ih =>
  intro a
  rw [vA]
  split
  ·have := ih (s.size - d)
   rw [List.length_cons]
   omega
  ·have := ih a
   omega
theorem Yk (s : ByteArray) : 1 ≤ (qj s).length ∧ (qj s).length ≤ s.size + 1 := zbZ s s.size 0
theorem zct (s : ByteArray) (hs : s.size ≤ 8796093022000) (d : Nat) : ∀ (k i a : Nat) (acc : List ByteArray), i + d = s.size → a ≤ i → acc.length ≤ i → d + 1 ≤ k → yw.l0 k s acc (a : Int) (s.size : Int) (i : Int) = some (acc ++ vA s d a) := by
 induction d with
 | zero =>
  intro k i a acc hi ha hl hk
  obtain ⟨k, rfl⟩ : ∃ k', k = k' + 1 := ⟨k - 1, by omega⟩
  rw [yw.l0, if_neg (by omega), if_pos (by omega), if_pos (by omega), if_pos (by omega), vA, Int.toNat_natCast]
 | succ d ih =>
  intro k i a acc hi ha hl hk
  obtain ⟨k, rfl⟩ : ∃ k', k = k' + 1 := ⟨k - 1, by omega⟩
  have e : s.size - (d + 1) = i := by omega
  have e2 : s.size - d = i + 1 := by omega
  rw [yw.l0, if_pos (by omega), if_pos (by omega), if_pos (by omega), JJ s i (by omega), vA, e, e2]
  by_cases h : (bl s).getD i 0 = 47
  ·rw [if_pos (by omega), if_pos (by omega), if_pos (by omega), if_pos (by omega), if_pos (by omega), if_pos h, z4 (by omega) (by omega), Int.toNat_natCast, Int.toNat_natCast]
   have := ih k (i + 1) (i + 1) (acc ++ [s.extract a i]) (by omega) (Nat.le_refl _) (by simp; omega) (by omega)
   rw [List.append_assoc] at this
   exact this
  ·rw [if_neg (by omega), if_neg h, z4 (by omega) (by omega)]
   exact ih k (i + 1) a acc (by omega) (by omega) (by omega) (by omega)
theorem Qh (s : ByteArray) (hs : s.size ≤ 8796093022000) (k : Nat) (hk : s.size + 1 ≤ k) : yw.f k s = some (qj s) := by
 have := zct s hs s.size k 0 0 [] (by omega) (Nat.le_refl _) (Nat.le_refl _) hk
 rw [List.nil_append] at this
 exact this
theorem zb9 (s : ByteArray) (hs : s.size ≤ 8796093022000) (d : Nat) : ∀ (k i a : Nat) (acc : List ByteArray), i + d = s.size → a ≤ i → acc.length ≤ i → d + 1 ≤ k → yj.l0 k s 47 acc (s.extract a i) (i : Int) = some (acc ++ vA s d a) := by
 induction d with
 | zero =>
  intro k i a acc hi ha hl hk
  obtain ⟨k, rfl⟩ : ∃ k', k = k' + 1 := ⟨k - 1, by omega⟩
  have e : i = s.size := by omega
  rw [yj.l0, if_neg (by omega), if_pos (by omega), vA, e]
 | succ d ih =>
  intro k i a acc hi ha hl hk
  obtain ⟨k, rfl⟩ : ∃ k', k = k' + 1 := ⟨k - 1, by omega⟩
  have e : s.size - (d + 1) = i := by omega
  have e2 : s.size - d = i + 1 := by omega
  rw [yj.l0, if_pos (by omega), if_pos (by omega), JJ s i (by omega), vA, e, e2]
  by_cases h : (bl s).getD i 0 = 47
  ·rw [if_pos (by omega), if_pos (by omega), if_pos h, z4 (by omega) (by omega)]
   have := ih k (i + 1) (i + 1) (acc ++ [s.extract a i]) (by omega) (Nat.le_refl _) (by simp; omega) (by omega)
   rw [List.append_assoc] at this
   have e3 : s.extract (i + 1) (i + 1) = (⟨#[]⟩ : ByteArray) := by
    apply vI
    rw [qV, List.drop_eq_nil_of_le (by rw [List.length_take]; omega)]
    rfl
   rw [e3] at this
   exact this
  ·have hz : (s.extract a i).size ≤ s.size := by
    rw [← yo, qV, List.length_drop, List.length_take, yo]
    omega
   have hz2 : (s.extract i (i + 1)).size ≤ s.size := by
    rw [← yo, qV, List.length_drop, List.length_take, yo]
    omega
   have e4 : ((i : Int) + 1).toNat = i + 1 := by omega
   rw [if_neg (by omega), if_neg h, z4 (by omega) (by omega), if_pos (by omega), if_pos (by omega), Int.toNat_natCast, e4, if_pos (by omega), zaL s a i (i + 1) ha (by omega) (by omega)]
   exact ih k (i + 1) a acc (by omega) (by omega) (by omega) (by omega)
theorem Y1 (s : ByteArray) (hs : s.size ≤ 8796093022000) (k : Nat) (hk : s.size + 1 ≤ k) : yN.f k s = some (qj s) := by
 have h0 : yj.f k s 47 = some (qj s) := by
  have := zb9 s hs s.size k 0 0 [] (by omega) (Nat.le_refl _) (Nat.le_refl _) hk
  have e3 : s.extract 0 0 = (⟨#[]⟩ : ByteArray) := by
   apply vI
   rw [qV, List.drop_eq_nil_of_le (by rw [List.length_take]; omega)]
   rfl
  rw [List.nil_append, e3] at this
  exact this
 unfold yN.f
 rw [zC h0]
def xH.f (k : Nat) (a0 : Int) (a1 : Int) (a2 : ByteArray) : Option (Bool) := (zD.f k a2).bind fun t309 => (some t309)
theorem xH.calls (k : Nat) (a0 : Int) (a1 : Int) (a2 : ByteArray) (r : Bool) (w : World) (h : xH.f k a0 a1 a2 = some r) :
  Calls Tryz.prog 178 #[.int .i64 a0, .int .i64 a1, .string a2] w fun e w' => e = .returned (.bool r) ∧ zi w w' := by
 have H : ((zD.f k a2).bind fun t309 => (some t309)) = some r := h
 clear h
 replace H := zdK.mp H
 obtain ⟨t309, A40, H⟩ := H
 replace H : (some t309) = some r := H
 have A4 := za.mk A40
 clear A40
 obtain rfl := Option.some.inj H
 go_enter Tryz.func178, Tryz.ntmps178
 go_wp2_with (first | ((with_reducible refine zr (f := 177) rfl ?_); refine zL (some 8) rfl rfl Tryz.func177 (by kernel_rfl) rfl #[.string a2] rfl (by (try simp only [zdJ, List.map_cons, List.map_nil]); first | done | rfl | (simp only [List.length_drop, List.length_take]; rfl)) ?_; (with_reducible refine (zD.calls k a2 t309 _ A4.out).mono ?_); rintro e w' ⟨rfl, ⟨nd, rfl⟩⟩; refine ⟨_, rfl, ?_⟩))
 go_ret
 exact ⟨by first | rfl | (simp; done) | (simp [*]; done), by repeat (first | exact zi.refl _ | apply zi.step)⟩
def zB.l0 : Nat → List ByteArray → List ByteArray → Int → Int → Option (Bool)
 | 0, _, _, _, _ => none
 | k + 1, x5, x13, x14, x15 => if x15 < x14 then (if 0 ≤ x15 then (if x15 < (x13.length : Int) then ((xH.f k x15 (x5.length : Int) (ym ByteArray.empty x13 x15)).bind fun t314 => (if t314 = true then (zB.l0 k x5 x13 x14 (wrap64 (x15 + 1))) else (some false))) else (none)) else (none)) else (some (decide ((x5.length : Int) ≤ 4)))
def zB.f (k : Nat) (a0 : ByteArray)  : Option (Bool) := if (a0.size : Int) > 32 then (some false) else ((yw.f k a0).bind fun t310 => (zB.l0 k t310 t310 (t310.length : Int) 0))
theorem zB.calls (k : Nat) (a0 : ByteArray)  (r : Bool) (w : World) (h : zB.f k a0 = some r) :
  Calls Tryz.prog 175 #[.string a0, .func (Fn.func 178) #[] #[]] w fun e w' => e = .returned (.bool r) ∧ Below w.heap.size w w' := by
 have HB := za.mk (Below.refl w.heap.size w)
 have H : (if (a0.size : Int) > 32 then (some false) else ((yw.f k a0).bind fun t310 => (zB.l0 k t310 t310 (t310.length : Int) 0))) = some r := h
 clear h
 by_cases c3 : (a0.size : Int) > 32
 ·rw [if_pos c3] at H
  have c3b0 : decide (32 < (a0.size : Int)) = true := decide_eq_true c3
  have c3b1 : decide (32 < a0.size) = true := decide_eq_true (by omega)
  clear c3
  obtain rfl := Option.some.inj H
  go_enter Tryz.func175, Tryz.ntmps175
  go_wp2
  go_ret
  exact ⟨by first | rfl | (simp [zl, zk] <;> rfl) | (simp [*, zl, zk] <;> rfl), by repeat (first | (with_reducible first | exact HB.out | apply zc | apply zb | apply zd) | exact HB.out)⟩
 ·rw [if_neg c3] at H
  have c3b0 : decide (32 < (a0.size : Int)) = false := decide_eq_false c3
  have c3b1 : decide (32 < a0.size) = false := decide_eq_false (by omega)
  clear c3
  replace H := zdK.mp H
  obtain ⟨t310, A40, H⟩ := H
  replace H : (zB.l0 k t310 t310 (t310.length : Int) 0) = some r := H
  have A4 := za.mk A40
  clear A40
  have H' := za.mk H
  clear H
  go_enter Tryz.func175, Tryz.ntmps175
  go_wp2_with (first | ((with_reducible refine zr (f := 182) rfl ?_); refine zL (some 12) rfl rfl Tryz.func182 (by kernel_rfl) rfl #[.string a0] rfl (by (try simp only [zdJ, List.map_cons, List.map_nil]); first | done | rfl | (simp only [List.length_drop, List.length_take]; rfl)) ?_; (with_reducible refine (yw.calls k a0 t310 _ A4.out).mono ?_); rintro e w5 ⟨v311, rfl, ho0, hb⟩; refine ⟨_, rfl, ?_⟩; have n0_ := za.mk (Kd.R_lower ho0 (zF (by repeat (first | (with_reducible first | exact HB.out | apply zc | apply zb | apply zd) | exact HB.out)))); have n1_ := za.mk (zp (by repeat (first | (with_reducible first | exact HB.out | apply zc | apply zb | apply zd) | exact HB.out)) hb); clear HB; have HO312 := n0_; have HB := n1_; clear n0_ n1_; (try clear hb); (try clear hb2); (try clear hk); (try clear hi); (try clear ho0); obtain ⟨Ao6, co6, eo6⟩ := Kd.R_slice HO312.out; subst eo6))
  go_loopg [15] k (fun kq v15 w' => ∃ (x15_1 : Int), v15 = .int .i64 x15_1 ∧ za (zB.l0 kq t310 t310 (t310.length : Int) x15_1 = some r) ∧ za (kq ≤ k) ∧ za (Kd.R Kd.string 9 w' w.heap.size (fun _ => True) (.slice Ao6 t310.length co6) t310) ∧ za (Kd.R Kd.string 9 w' w.heap.size (fun _ => True) (.slice Ao6 t310.length co6) t310) ∧ za (Below w.heap.size w w'))
  case atStart => exact ⟨(0), (by first | rfl | (simp; done) | (simp [*]; done)), H', ⟨Nat.le_refl _⟩, ⟨by (with_reducible repeat (first | apply Kd.R_alloc | apply Kd.R_drewN | apply Kd.R_drew)); exact HO312.out⟩, ⟨by (with_reducible repeat (first | apply Kd.R_alloc | apply Kd.R_drewN | apply Kd.R_drew)); exact HO312.out⟩, ⟨by repeat (first | (with_reducible first | exact HB.out | apply zc | apply zb | apply zd) | exact HB.out)⟩⟩
  case round =>
   clear H'
   try clear c1
   try clear p2
   try clear c3
   try clear c3b0
   try clear c3b1
   obtain ⟨x15_1, rfl, HA, HK1, HO_5, HO_13, HB⟩ := hrel
   cases gk with
   | zero => exact absurd HA.out (by simp [zB.l0])
   | succ k1 =>
    have H := HA.out
    clear HA
    simp only [zB.l0] at H
    by_cases c7 : x15_1 < (t310.length : Int)
    ·rw [if_pos c7] at H
     have c7b0 : decide (x15_1 < (t310.length : Int)) = true := decide_eq_true c7
     clear c7
     by_cases c8 : 0 ≤ x15_1
     ·rw [if_pos c8] at H
      have c8b0 : decide (0 ≤ x15_1) = true := decide_eq_true c8
      clear c8
      by_cases c9 : x15_1 < (t310.length : Int)
      ·rw [if_pos c9] at H
       have c9b0 : decide (x15_1 < (t310.length : Int)) = true := decide_eq_true c9
       clear c9
       replace H := zdK.mp H
       obtain ⟨t314, A100, H⟩ := H
       replace H : (if t314 = true then (zB.l0 k1 t310 t310 (t310.length : Int) (wrap64 (x15_1 + 1))) else (some false)) = some r := H
       have A10 := za.mk A100
       clear A100
       by_cases c11 : t314 = true
       ·subst c11
        have H1 : (zB.l0 k1 t310 t310 (t310.length : Int) (wrap64 (x15_1 + 1))) = some r := by rw [if_pos rfl] at H; exact H
        clear H
        have H := H1
        clear H1
        have H' := za.mk H
        clear H
        have p313 : 0 ≤ (x15_1 : Int) := of_decide_eq_true (by first | (with_reducible assumption) | assumption)
        have q313 : x15_1 < (t310.length : Int) := of_decide_eq_true (by first | (with_reducible assumption) | assumption)
        obtain ⟨ad313, e313, hx313_0⟩ := Kd.at_string (Kd.R_reads' HO_13.out).2.2 x15_1 p313 q313
        cases e313
        replace p313 := eq_true p313
        replace q313 := eq_true q313
        go_wp2_with (first | ((with_reducible refine zN (N := 25) rfl ?_); refine vR (some 25) rfl rfl Tryz.func178 (by kernel_rfl) rfl #[.int .i64 x15_1, .int .i64 (t310.length : Int), .string (ym ByteArray.empty t310 x15_1)] rfl (by (try simp only [zdJ, List.map_cons, List.map_nil]); first | done | rfl | (simp only [List.length_drop, List.length_take]; rfl)) ?_; (with_reducible refine (xH.calls k1 x15_1 (t310.length : Int) (ym ByteArray.empty t310 x15_1) true _ A10.out).mono ?_); rintro e w' ⟨rfl, ⟨nd, rfl⟩⟩; refine ⟨_, rfl, ?_⟩))
        go_roundg k1
        case measure => have := HK1.out; omega
        case rel => exact ⟨(wrap64 (x15_1 + 1)), (by first | rfl | (simp; done) | (simp [*]; done)), H', ⟨by have := HK1.out; omega⟩, ⟨by (with_reducible repeat (first | apply Kd.R_alloc | apply Kd.R_drewN | apply Kd.R_drew)); exact HO_5.out⟩, ⟨by (with_reducible repeat (first | apply Kd.R_alloc | apply Kd.R_drewN | apply Kd.R_drew)); exact HO_13.out⟩, ⟨by repeat (first | (with_reducible first | exact HB.out | apply zc | apply zb | apply zd) | exact HB.out)⟩⟩
       ·replace c11 := zdM.mpr c11
        subst c11
        have H1 : (some false) = some r := by rw [if_neg (show ¬ (false = true) by decide)] at H; exact H
        clear H
        have H := H1
        clear H1
        obtain rfl := Option.some.inj H
        have p313 : 0 ≤ (x15_1 : Int) := of_decide_eq_true (by first | (with_reducible assumption) | assumption)
        have q313 : x15_1 < (t310.length : Int) := of_decide_eq_true (by first | (with_reducible assumption) | assumption)
        obtain ⟨ad313, e313, hx313_0⟩ := Kd.at_string (Kd.R_reads' HO_13.out).2.2 x15_1 p313 q313
        cases e313
        replace p313 := eq_true p313
        replace q313 := eq_true q313
        go_wp2_with (first | ((with_reducible refine zN (N := 25) rfl ?_); refine vR (some 25) rfl rfl Tryz.func178 (by kernel_rfl) rfl #[.int .i64 x15_1, .int .i64 (t310.length : Int), .string (ym ByteArray.empty t310 x15_1)] rfl (by (try simp only [zdJ, List.map_cons, List.map_nil]); first | done | rfl | (simp only [List.length_drop, List.length_take]; rfl)) ?_; (with_reducible refine (xH.calls k1 x15_1 (t310.length : Int) (ym ByteArray.empty t310 x15_1) false _ A10.out).mono ?_); rintro e w' ⟨rfl, ⟨nd, rfl⟩⟩; refine ⟨_, rfl, ?_⟩))
        go_ret
        exact ⟨by first | rfl | (simp [zl, zk] <;> rfl) | (simp [*, zl, zk] <;> rfl), by repeat (first | (with_reducible first | exact HB.out | apply zc | apply zb | apply zd) | exact HB.out)⟩
      ·rw [if_neg c9] at H
       exact absurd H (by simp)
     ·rw [if_neg c8] at H
      exact absurd H (by simp)
    ·rw [if_neg c7] at H
     have c7b0 : decide (x15_1 < (t310.length : Int)) = false := decide_eq_false c7
     clear c7
     obtain rfl := Option.some.inj H
     go_wp2
     go_ret
     exact ⟨by first | rfl | (simp [zl, zk] <;> rfl) | (simp [*, zl, zk] <;> rfl), by repeat (first | (with_reducible first | exact HB.out | apply zc | apply zb | apply zd) | exact HB.out)⟩
def yR.f (k : Nat) (a0 : ByteArray) : Option (Bool) := (zB.f k a0).bind fun t315 => (some t315)
theorem yR.calls (k : Nat) (a0 : ByteArray) (r : Bool) (w : World) (h : yR.f k a0 = some r) :
  Calls Tryz.prog 166 #[.string a0] w fun e w' => e = .returned (.bool r) ∧ Below w.heap.size w w' := by
 have HB := za.mk (Below.refl w.heap.size w)
 have H : ((zB.f k a0).bind fun t315 => (some t315)) = some r := h
 clear h
 replace H := zdK.mp H
 obtain ⟨t315, A20, H⟩ := H
 replace H : (some t315) = some r := H
 have A2 := za.mk A20
 clear A20
 obtain rfl := Option.some.inj H
 go_enter Tryz.func166, Tryz.ntmps166
 go_wp2_with (first | ((with_reducible refine zr (f := 175) rfl ?_); refine zL (some 4) rfl rfl Tryz.func175 (by kernel_rfl) rfl #[.string a0, .func (Fn.func 178) #[] #[]] rfl (by (try simp only [zdJ, List.map_cons, List.map_nil]); first | done | rfl | (simp only [List.length_drop, List.length_take]; rfl)) ?_; (with_reducible refine (zB.calls k a0 t315 _ A2.out).mono ?_); rintro e w3 ⟨rfl, hb⟩; refine ⟨_, rfl, ?_⟩; have n0_ := za.mk (zp (by repeat (first | (with_reducible first | exact HB.out | apply zc | apply zb | apply zd) | exact HB.out)) hb); clear HB; have HB := n0_; clear n0_; (try clear hb); (try clear hb2); (try clear hk); (try clear hi)))
 go_ret
 exact ⟨by first | rfl | (simp [zl, zk] <;> rfl) | (simp [*, zl, zk] <;> rfl), by repeat (first | (with_reducible first | exact HB.out | apply zc | apply zb | apply zd) | exact HB.out)⟩
def zG.l0 : Nat → ByteArray → Int → Option (Bool)
 | 0, _, _ => none
 | k + 1, x0, x3 => if x3 < (x0.size : Int) then (if 0 ≤ x3 then (if (bt x0 x3) < 97 then (if (bt x0 x3) < 48 then (if (bt x0 x3) = 45 then (zG.l0 k x0 (wrap64 (x3 + 1))) else (if (bt x0 x3) = 95 then (zG.l0 k x0 (wrap64 (x3 + 1))) else (some false))) else (if (bt x0 x3) > 57 then (if (bt x0 x3) = 45 then (zG.l0 k x0 (wrap64 (x3 + 1))) else (if (bt x0 x3) = 95 then (zG.l0 k x0 (wrap64 (x3 + 1))) else (some false))) else (zG.l0 k x0 (wrap64 (x3 + 1))))) else (if (bt x0 x3) > 122 then (if (bt x0 x3) < 48 then (if (bt x0 x3) = 45 then (zG.l0 k x0 (wrap64 (x3 + 1))) else (if (bt x0 x3) = 95 then (zG.l0 k x0 (wrap64 (x3 + 1))) else (some false))) else (if (bt x0 x3) > 57 then (if (bt x0 x3) = 45 then (zG.l0 k x0 (wrap64 (x3 + 1))) else (if (bt x0 x3) = 95 then (zG.l0 k x0 (wrap64 (x3 + 1))) else (some false))) else (zG.l0 k x0 (wrap64 (x3 + 1))))) else (zG.l0 k x0 (wrap64 (x3 + 1))))) else (none)) else (some (decide ((x0.size : Int) > 0)))
def zG.f (k : Nat) (a0 : ByteArray) : Option (Bool) := zG.l0 k a0 0
theorem zG.calls (k : Nat) (a0 : ByteArray) (r : Bool) (w : World) (h : zG.f k a0 = some r) :
  Calls Tryz.prog 110 #[.string a0] w fun e w' => e = .returned (.bool r) ∧ zi w w' := by
 have H : (zG.l0 k a0 0) = some r := h
 clear h
 have H' := za.mk H
 clear H
 go_enter Tryz.func110, Tryz.ntmps110
 go_wp2
 go_loopg [3] k (fun kq v3 w' => ∃ (x3_1 : Int), v3 = .int .i64 x3_1 ∧ za (zG.l0 kq a0 x3_1 = some r) ∧ za (kq ≤ k) ∧ zi w w')
 case atStart => exact ⟨(0), (by first | rfl | (simp; done) | (simp [*]; done)), H', ⟨Nat.le_refl _⟩, by repeat (first | exact zi.refl _ | apply zi.step)⟩
 case round =>
  clear H'
  try clear c1
  obtain ⟨x3_1, rfl, HA, HK1, ⟨m1, rfl⟩⟩ := hrel
  cases gk with
  | zero => exact absurd HA.out (by simp [zG.l0])
  | succ k1 =>
   have H := HA.out
   clear HA
   simp only [zG.l0] at H
   by_cases c2 : x3_1 < (a0.size : Int)
   ·rw [if_pos c2] at H
    have c2b0 : decide (x3_1 < (a0.size : Int)) = true := decide_eq_true c2
    clear c2
    by_cases c3 : 0 ≤ x3_1
    ·rw [if_pos c3] at H
     have c3b0 : decide (0 ≤ x3_1) = true := decide_eq_true c3
     clear c3
     by_cases c5 : (bt a0 x3_1) < 97
     ·rw [if_pos c5] at H
      have c5b0 : decide ((bt a0 x3_1) < 97) = true := decide_eq_true c5
      clear c5
      by_cases c6 : (bt a0 x3_1) < 48
      ·rw [if_pos c6] at H
       have c6b0 : decide ((bt a0 x3_1) < 48) = true := decide_eq_true c6
       clear c6
       by_cases c7 : (bt a0 x3_1) = 45
       ·rw [if_pos c7] at H
        have c7b0 : ((bt a0 x3_1) == 45) = true := beq_iff_eq.mpr c7
        have c7b1 : ((bt a0 x3_1) != 45) = false := bne_eq_false_iff_eq.mpr c7
        clear c7
        have H' := za.mk H
        clear H
        have p4 : 0 ≤ (x3_1 : Int) := of_decide_eq_true (by first | (with_reducible assumption) | assumption)
        have q4 : x3_1 < (a0.size : Int) := of_decide_eq_true (by first | (with_reducible assumption) | assumption)
        have hx4 := xg a0 x3_1
        replace p4 := eq_true p4
        replace q4 := eq_true q4
        go_wp2
        go_roundg k1
        case measure => have := HK1.out; omega
        case rel => exact ⟨(wrap64 (x3_1 + 1)), (by first | rfl | (simp; done) | (simp [*]; done)), H', ⟨by have := HK1.out; omega⟩, by repeat (first | exact zi.refl _ | apply zi.step)⟩
       ·rw [if_neg c7] at H
        have c7b0 : ((bt a0 x3_1) == 45) = false := beq_eq_false_iff_ne.mpr c7
        have c7b1 : ((bt a0 x3_1) != 45) = true := bne_iff_ne.mpr c7
        by_cases c8 : (bt a0 x3_1) = 95
        ·rw [if_pos c8] at H
         have c8b0 : ((bt a0 x3_1) == 95) = true := beq_iff_eq.mpr c8
         have c8b1 : ((bt a0 x3_1) != 95) = false := bne_eq_false_iff_eq.mpr c8
         clear c8
         have H' := za.mk H
         clear H
         have p4 : 0 ≤ (x3_1 : Int) := of_decide_eq_true (by first | (with_reducible assumption) | assumption)
         have q4 : x3_1 < (a0.size : Int) := of_decide_eq_true (by first | (with_reducible assumption) | assumption)
         have hx4 := xg a0 x3_1
         replace p4 := eq_true p4
         replace q4 := eq_true q4
         go_wp2
         go_roundg k1
         case measure => have := HK1.out; omega
         case rel => exact ⟨(wrap64 (x3_1 + 1)), (by first | rfl | (simp; done) | (simp [*]; done)), H', ⟨by have := HK1.out; omega⟩, by repeat (first | exact zi.refl _ | apply zi.step)⟩
        ·rw [if_neg c8] at H
         have c8b0 : ((bt a0 x3_1) == 95) = false := beq_eq_false_iff_ne.mpr c8
         have c8b1 : ((bt a0 x3_1) != 95) = true := bne_iff_ne.mpr c8
         obtain rfl := Option.some.inj H
         have p4 : 0 ≤ (x3_1 : Int) := of_decide_eq_true (by first | (with_reducible assumption) | assumption)
         have q4 : x3_1 < (a0.size : Int) := of_decide_eq_true (by first | (with_reducible assumption) | assumption)
         have hx4 := xg a0 x3_1
         replace p4 := eq_true p4
         replace q4 := eq_true q4
         go_wp2
         go_ret
         exact ⟨by first | rfl | (simp; done) | (simp [*]; done), by repeat (first | exact zi.refl _ | apply zi.step)⟩
      ·rw [if_neg c6] at H
       have c6b0 : decide ((bt a0 x3_1) < 48) = false := decide_eq_false c6
       clear c6
       by_cases c9 : (bt a0 x3_1) > 57
       ·rw [if_pos c9] at H
        have c9b0 : decide (57 < (bt a0 x3_1)) = true := decide_eq_true c9
        clear c9
        by_cases c10 : (bt a0 x3_1) = 45
        ·rw [if_pos c10] at H
         have c10b0 : ((bt a0 x3_1) == 45) = true := beq_iff_eq.mpr c10
         have c10b1 : ((bt a0 x3_1) != 45) = false := bne_eq_false_iff_eq.mpr c10
         clear c10
         have H' := za.mk H
         clear H
         have p4 : 0 ≤ (x3_1 : Int) := of_decide_eq_true (by first | (with_reducible assumption) | assumption)
         have q4 : x3_1 < (a0.size : Int) := of_decide_eq_true (by first | (with_reducible assumption) | assumption)
         have hx4 := xg a0 x3_1
         replace p4 := eq_true p4
         replace q4 := eq_true q4
         go_wp2
         go_roundg k1
         case measure => have := HK1.out; omega
         case rel => exact ⟨(wrap64 (x3_1 + 1)), (by first | rfl | (simp; done) | (simp [*]; done)), H', ⟨by have := HK1.out; omega⟩, by repeat (first | exact zi.refl _ | apply zi.step)⟩
        ·rw [if_neg c10] at H
         have c10b0 : ((bt a0 x3_1) == 45) = false := beq_eq_false_iff_ne.mpr c10
         have c10b1 : ((bt a0 x3_1) != 45) = true := bne_iff_ne.mpr c10
         by_cases c11 : (bt a0 x3_1) = 95
         ·rw [if_pos c11] at H
          have c11b0 : ((bt a0 x3_1) == 95) = true := beq_iff_eq.mpr c11
          have c11b1 : ((bt a0 x3_1) != 95) = false := bne_eq_false_iff_eq.mpr c11
          clear c11
          have H' := za.mk H
          clear H
          have p4 : 0 ≤ (x3_1 : Int) := of_decide_eq_true (by first | (with_reducible assumption) | assumption)
          have q4 : x3_1 < (a0.size : Int) := of_decide_eq_true (by first | (with_reducible assumption) | assumption)
          have hx4 := xg a0 x3_1
          replace p4 := eq_true p4
          replace q4 := eq_true q4
          go_wp2
          go_roundg k1
          case measure => have := HK1.out; omega
          case rel => exact ⟨(wrap64 (x3_1 + 1)), (by first | rfl | (simp; done) | (simp [*]; done)), H', ⟨by have := HK1.out; omega⟩, by repeat (first | exact zi.refl _ | apply zi.step)⟩
         ·rw [if_neg c11] at H
          have c11b0 : ((bt a0 x3_1) == 95) = false := beq_eq_false_iff_ne.mpr c11
          have c11b1 : ((bt a0 x3_1) != 95) = true := bne_iff_ne.mpr c11
          obtain rfl := Option.some.inj H
          have p4 : 0 ≤ (x3_1 : Int) := of_decide_eq_true (by first | (with_reducible assumption) | assumption)
          have q4 : x3_1 < (a0.size : Int) := of_decide_eq_true (by first | (with_reducible assumption) | assumption)
          have hx4 := xg a0 x3_1
          replace p4 := eq_true p4
          replace q4 := eq_true q4
          go_wp2
          go_ret
          exact ⟨by first | rfl | (simp; done) | (simp [*]; done), by repeat (first | exact zi.refl _ | apply zi.step)⟩
       ·rw [if_neg c9] at H
        have c9b0 : decide (57 < (bt a0 x3_1)) = false := decide_eq_false c9
        clear c9
        have H' := za.mk H
        clear H
        have p4 : 0 ≤ (x3_1 : Int) := of_decide_eq_true (by first | (with_reducible assumption) | assumption)
        have q4 : x3_1 < (a0.size : Int) := of_decide_eq_true (by first | (with_reducible assumption) | assumption)
        have hx4 := xg a0 x3_1
        replace p4 := eq_true p4
        replace q4 := eq_true q4
        go_wp2
        go_roundg k1
        case measure => have := HK1.out; omega
        case rel => exact ⟨(wrap64 (x3_1 + 1)), (by first | rfl | (simp; done) | (simp [*]; done)), H', ⟨by have := HK1.out; omega⟩, by repeat (first | exact zi.refl _ | apply zi.step)⟩
     ·rw [if_neg c5] at H
      have c5b0 : decide ((bt a0 x3_1) < 97) = false := decide_eq_false c5
      clear c5
      by_cases c12 : (bt a0 x3_1) > 122
      ·rw [if_pos c12] at H
       have c12b0 : decide (122 < (bt a0 x3_1)) = true := decide_eq_true c12
       clear c12
       by_cases c13 : (bt a0 x3_1) < 48
       ·rw [if_pos c13] at H
        have c13b0 : decide ((bt a0 x3_1) < 48) = true := decide_eq_true c13
        clear c13
        by_cases c14 : (bt a0 x3_1) = 45
        ·rw [if_pos c14] at H
         have c14b0 : ((bt a0 x3_1) == 45) = true := beq_iff_eq.mpr c14
         have c14b1 : ((bt a0 x3_1) != 45) = false := bne_eq_false_iff_eq.mpr c14
         clear c14
         have H' := za.mk H
         clear H
         have p4 : 0 ≤ (x3_1 : Int) := of_decide_eq_true (by first | (with_reducible assumption) | assumption)
         have q4 : x3_1 < (a0.size : Int) := of_decide_eq_true (by first | (with_reducible assumption) | assumption)
         have hx4 := xg a0 x3_1
         replace p4 := eq_true p4
         replace q4 := eq_true q4
         go_wp2
         go_roundg k1
         case measure => have := HK1.out; omega
         case rel => exact ⟨(wrap64 (x3_1 + 1)), (by first | rfl | (simp; done) | (simp [*]; done)), H', ⟨by have := HK1.out; omega⟩, by repeat (first | exact zi.refl _ | apply zi.step)⟩
        ·rw [if_neg c14] at H
         have c14b0 : ((bt a0 x3_1) == 45) = false := beq_eq_false_iff_ne.mpr c14
         have c14b1 : ((bt a0 x3_1) != 45) = true := bne_iff_ne.mpr c14
         by_cases c15 : (bt a0 x3_1) = 95
         ·rw [if_pos c15] at H
          have c15b0 : ((bt a0 x3_1) == 95) = true := beq_iff_eq.mpr c15
          have c15b1 : ((bt a0 x3_1) != 95) = false := bne_eq_false_iff_eq.mpr c15
          clear c15
          have H' := za.mk H
          clear H
          have p4 : 0 ≤ (x3_1 : Int) := of_decide_eq_true (by first | (with_reducible assumption) | assumption)
          have q4 : x3_1 < (a0.size : Int) := of_decide_eq_true (by first | (with_reducible assumption) | assumption)
          have hx4 := xg a0 x3_1
          replace p4 := eq_true p4
          replace q4 := eq_true q4
          go_wp2
          go_roundg k1
          case measure => have := HK1.out; omega
          case rel => exact ⟨(wrap64 (x3_1 + 1)), (by first | rfl | (simp; done) | (simp [*]; done)), H', ⟨by have := HK1.out; omega⟩, by repeat (first | exact zi.refl _ | apply zi.step)⟩
         ·rw [if_neg c15] at H
          have c15b0 : ((bt a0 x3_1) == 95) = false := beq_eq_false_iff_ne.mpr c15
          have c15b1 : ((bt a0 x3_1) != 95) = true := bne_iff_ne.mpr c15
          obtain rfl := Option.some.inj H
          have p4 : 0 ≤ (x3_1 : Int) := of_decide_eq_true (by first | (with_reducible assumption) | assumption)
          have q4 : x3_1 < (a0.size : Int) := of_decide_eq_true (by first | (with_reducible assumption) | assumption)
          have hx4 := xg a0 x3_1
          replace p4 := eq_true p4
          replace q4 := eq_true q4
          go_wp2
          go_ret
          exact ⟨by first | rfl | (simp; done) | (simp [*]; done), by repeat (first | exact zi.refl _ | apply zi.step)⟩
       ·rw [if_neg c13] at H
        have c13b0 : decide ((bt a0 x3_1) < 48) = false := decide_eq_false c13
        clear c13
        by_cases c16 : (bt a0 x3_1) > 57
        ·rw [if_pos c16] at H
         have c16b0 : decide (57 < (bt a0 x3_1)) = true := decide_eq_true c16
         clear c16
         by_cases c17 : (bt a0 x3_1) = 45
         ·rw [if_pos c17] at H
          have c17b0 : ((bt a0 x3_1) == 45) = true := beq_iff_eq.mpr c17
          have c17b1 : ((bt a0 x3_1) != 45) = false := bne_eq_false_iff_eq.mpr c17
          clear c17
          have H' := za.mk H
          clear H
          have p4 : 0 ≤ (x3_1 : Int) := of_decide_eq_true (by first | (with_reducible assumption) | assumption)
          have q4 : x3_1 < (a0.size : Int) := of_decide_eq_true (by first | (with_reducible assumption) | assumption)
          have hx4 := xg a0 x3_1
          replace p4 := eq_true p4
          replace q4 := eq_true q4
          go_wp2
          go_roundg k1
          case measure => have := HK1.out; omega
          case rel => exact ⟨(wrap64 (x3_1 + 1)), (by first | rfl | (simp; done) | (simp [*]; done)), H', ⟨by have := HK1.out; omega⟩, by repeat (first | exact zi.refl _ | apply zi.step)⟩
         ·rw [if_neg c17] at H
          have c17b0 : ((bt a0 x3_1) == 45) = false := beq_eq_false_iff_ne.mpr c17
          have c17b1 : ((bt a0 x3_1) != 45) = true := bne_iff_ne.mpr c17
          by_cases c18 : (bt a0 x3_1) = 95
          ·rw [if_pos c18] at H
           have c18b0 : ((bt a0 x3_1) == 95) = true := beq_iff_eq.mpr c18
           have c18b1 : ((bt a0 x3_1) != 95) = false := bne_eq_false_iff_eq.mpr c18
           clear c18
           have H' := za.mk H
           clear H
           have p4 : 0 ≤ (x3_1 : Int) := of_decide_eq_true (by first | (with_reducible assumption) | assumption)
           have q4 : x3_1 < (a0.size : Int) := of_decide_eq_true (by first | (with_reducible assumption) | assumption)
           have hx4 := xg a0 x3_1
           replace p4 := eq_true p4
           replace q4 := eq_true q4
           go_wp2
           go_roundg k1
           case measure => have := HK1.out; omega
           case rel => exact ⟨(wrap64 (x3_1 + 1)), (by first | rfl | (simp; done) | (simp [*]; done)), H', ⟨by have := HK1.out; omega⟩, by repeat (first | exact zi.refl _ | apply zi.step)⟩
          ·rw [if_neg c18] at H
           have c18b0 : ((bt a0 x3_1) == 95) = false := beq_eq_false_iff_ne.mpr c18
           have c18b1 : ((bt a0 x3_1) != 95) = true := bne_iff_ne.mpr c18
           obtain rfl := Option.some.inj H
           have p4 : 0 ≤ (x3_1 : Int) := of_decide_eq_true (by first | (with_reducible assumption) | assumption)
           have q4 : x3_1 < (a0.size : Int) := of_decide_eq_true (by first | (with_reducible assumption) | assumption)
           have hx4 := xg a0 x3_1
           replace p4 := eq_true p4
           replace q4 := eq_true q4
           go_wp2
           go_ret
           exact ⟨by first | rfl | (simp; done) | (simp [*]; done), by repeat (first | exact zi.refl _ | apply zi.step)⟩
        ·rw [if_neg c16] at H
         have c16b0 : decide (57 < (bt a0 x3_1)) = false := decide_eq_false c16
         clear c16
         have H' := za.mk H
         clear H
         have p4 : 0 ≤ (x3_1 : Int) := of_decide_eq_true (by first | (with_reducible assumption) | assumption)
         have q4 : x3_1 < (a0.size : Int) := of_decide_eq_true (by first | (with_reducible assumption) | assumption)
         have hx4 := xg a0 x3_1
         replace p4 := eq_true p4
         replace q4 := eq_true q4
         go_wp2
         go_roundg k1
         case measure => have := HK1.out; omega
         case rel => exact ⟨(wrap64 (x3_1 + 1)), (by first | rfl | (simp; done) | (simp [*]; done)), H', ⟨by have := HK1.out; omega⟩, by repeat (first | exact zi.refl _ | apply zi.step)⟩
      ·rw [if_neg c12] at H
       have c12b0 : decide (122 < (bt a0 x3_1)) = false := decide_eq_false c12
       clear c12
       have H' := za.mk H
       clear H
       have p4 : 0 ≤ (x3_1 : Int) := of_decide_eq_true (by first | (with_reducible assumption) | assumption)
       have q4 : x3_1 < (a0.size : Int) := of_decide_eq_true (by first | (with_reducible assumption) | assumption)
       have hx4 := xg a0 x3_1
       replace p4 := eq_true p4
       replace q4 := eq_true q4
       go_wp2
       go_roundg k1
       case measure => have := HK1.out; omega
       case rel => exact ⟨(wrap64 (x3_1 + 1)), (by first | rfl | (simp; done) | (simp [*]; done)), H', ⟨by have := HK1.out; omega⟩, by repeat (first | exact zi.refl _ | apply zi.step)⟩
    ·rw [if_neg c3] at H
     exact absurd H (by simp)
   ·rw [if_neg c2] at H
    have c2b0 : decide (x3_1 < (a0.size : Int)) = false := decide_eq_false c2
    clear c2
    obtain rfl := Option.some.inj H
    go_wp2
    go_ret
    exact ⟨by first | rfl | (simp; done) | (simp [*]; done), by repeat (first | exact zi.refl _ | apply zi.step)⟩
def zQ.l0 : Nat → List ByteArray → Int → Option (Bool)
 | 0, _, _ => none
 | k + 1, x3, x4 => if x4 < (x3.length : Int) then (if 0 ≤ x4 then ((zG.f k (ym ByteArray.empty x3 x4)).bind fun t666 => (if t666 = true then (zQ.l0 k x3 (wrap64 (x4 + 1))) else (some false))) else (none)) else (some (decide ((x3.length : Int) ≤ 4)))
def zQ.f (k : Nat) (a0 : ByteArray) : Option (Bool) := if (a0.size : Int) > 32 then (some false) else ((yN.f k a0).bind fun t662 => (zQ.l0 k t662 0))
theorem zQ.calls (k : Nat) (a0 : ByteArray) (r : Bool) (w : World) (h : zQ.f k a0 = some r) :
  Calls Tryz.prog 67 #[.string a0] w fun e w' => e = .returned (.bool r) ∧ Below w.heap.size w w' := by
 have HB := za.mk (Below.refl w.heap.size w)
 have H : (if (a0.size : Int) > 32 then (some false) else ((yN.f k a0).bind fun t662 => (zQ.l0 k t662 0))) = some r := h
 clear h
 by_cases c2 : (a0.size : Int) > 32
 ·rw [if_pos c2] at H
  have c2b0 : decide (32 < (a0.size : Int)) = true := decide_eq_true c2
  have c2b1 : decide (32 < a0.size) = true := decide_eq_true (by omega)
  clear c2
  obtain rfl := Option.some.inj H
  go_enter Tryz.func67, Tryz.ntmps67
  go_wp2
  go_ret
  exact ⟨by first | rfl | (simp [zl, zk] <;> rfl) | (simp [*, zl, zk] <;> rfl), by repeat (first | (with_reducible first | exact HB.out | apply zc | apply zb | apply zd) | exact HB.out)⟩
 ·rw [if_neg c2] at H
  have c2b0 : decide (32 < (a0.size : Int)) = false := decide_eq_false c2
  have c2b1 : decide (32 < a0.size) = false := decide_eq_false (by omega)
  clear c2
  replace H := zdK.mp H
  obtain ⟨t662, A30, H⟩ := H
  replace H : (zQ.l0 k t662 0) = some r := H
  have A3 := za.mk A30
  clear A30
  have H' := za.mk H
  clear H
  go_enter Tryz.func67, Tryz.ntmps67
  go_wp2_with (first | ((with_reducible refine zr (f := 109) rfl ?_); refine zL (some 9) rfl rfl Tryz.func109 (by kernel_rfl) rfl #[.string a0] rfl (by (try simp only [zdJ, List.map_cons, List.map_nil]); first | done | rfl | (simp only [List.length_drop, List.length_take]; rfl)) ?_; (with_reducible refine (yN.calls k a0 t662 _ A3.out).mono ?_); rintro e w4 ⟨v663, rfl, ho0, hb⟩; refine ⟨_, rfl, ?_⟩; have n0_ := za.mk (Kd.R_lower ho0 (zF (by repeat (first | (with_reducible first | exact HB.out | apply zc | apply zb | apply zd) | exact HB.out)))); have n1_ := za.mk (zp (by repeat (first | (with_reducible first | exact HB.out | apply zc | apply zb | apply zd) | exact HB.out)) hb); clear HB; have HO664 := n0_; have HB := n1_; clear n0_ n1_; (try clear hb); (try clear hb2); (try clear hk); (try clear hi); (try clear ho0)))
  go_loopg [4] k (fun kq v4 w' => ∃ (x4_1 : Int), v4 = .int .i64 x4_1 ∧ za (zQ.l0 kq t662 x4_1 = some r) ∧ za (kq ≤ k) ∧ za (Kd.R Kd.string 9 w' w.heap.size (fun _ => True) v663 t662) ∧ za (Below w.heap.size w w'))
  case atStart => exact ⟨(0), (by first | rfl | (simp; done) | (simp [*]; done)), H', ⟨Nat.le_refl _⟩, ⟨by (with_reducible repeat (first | apply Kd.R_alloc | apply Kd.R_drewN | apply Kd.R_drew)); exact HO664.out⟩, ⟨by repeat (first | (with_reducible first | exact HB.out | apply zc | apply zb | apply zd) | exact HB.out)⟩⟩
  case round =>
   clear H'
   try clear c1
   try clear c2
   try clear c2b0
   try clear c2b1
   try clear p2
   obtain ⟨x4_1, rfl, HA, HK1, HO_3, HB⟩ := hrel
   cases gk with
   | zero => exact absurd HA.out (by simp [zQ.l0])
   | succ k1 =>
    have H := HA.out
    clear HA
    simp only [zQ.l0] at H
    by_cases c5 : x4_1 < (t662.length : Int)
    ·rw [if_pos c5] at H
     have c5b0 : decide (x4_1 < (t662.length : Int)) = true := decide_eq_true c5
     clear c5
     by_cases c6 : 0 ≤ x4_1
     ·rw [if_pos c6] at H
      have c6b0 : decide (0 ≤ x4_1) = true := decide_eq_true c6
      clear c6
      replace H := zdK.mp H
      obtain ⟨t666, A70, H⟩ := H
      replace H : (if t666 = true then (zQ.l0 k1 t662 (wrap64 (x4_1 + 1))) else (some false)) = some r := H
      have A7 := za.mk A70
      clear A70
      by_cases c8 : t666 = true
      ·subst c8
       have H1 : (zQ.l0 k1 t662 (wrap64 (x4_1 + 1))) = some r := by rw [if_pos rfl] at H; exact H
       clear H
       have H := H1
       clear H1
       have H' := za.mk H
       clear H
       obtain ⟨Ao9, co9, eo9⟩ := Kd.R_slice HO_3.out
       subst eo9
       have p665 : 0 ≤ (x4_1 : Int) := of_decide_eq_true (by first | (with_reducible assumption) | assumption)
       have q665 : x4_1 < (t662.length : Int) := of_decide_eq_true (by first | (with_reducible assumption) | assumption)
       obtain ⟨ad665, e665, hx665_0⟩ := Kd.at_string (Kd.R_reads' HO_3.out).2.2 x4_1 p665 q665
       cases e665
       replace p665 := eq_true p665
       replace q665 := eq_true q665
       go_wp2_with (first | ((with_reducible refine zr (f := 110) rfl ?_); refine zL (some 20) rfl rfl Tryz.func110 (by kernel_rfl) rfl #[.string (ym ByteArray.empty t662 x4_1)] rfl (by (try simp only [zdJ, List.map_cons, List.map_nil]); first | done | rfl | (simp only [List.length_drop, List.length_take]; rfl)) ?_; (with_reducible refine (zG.calls k1 (ym ByteArray.empty t662 x4_1) true _ A7.out).mono ?_); rintro e w' ⟨rfl, ⟨nd, rfl⟩⟩; refine ⟨_, rfl, ?_⟩))
       go_roundg k1
       case measure => have := HK1.out; omega
       case rel => exact ⟨(wrap64 (x4_1 + 1)), (by first | rfl | (simp; done) | (simp [*]; done)), H', ⟨by have := HK1.out; omega⟩, ⟨by (with_reducible repeat (first | apply Kd.R_alloc | apply Kd.R_drewN | apply Kd.R_drew)); exact HO_3.out⟩, ⟨by repeat (first | (with_reducible first | exact HB.out | apply zc | apply zb | apply zd) | exact HB.out)⟩⟩
      ·replace c8 := zdM.mpr c8
       subst c8
       have H1 : (some false) = some r := by rw [if_neg (show ¬ (false = true) by decide)] at H; exact H
       clear H
       have H := H1
       clear H1
       obtain rfl := Option.some.inj H
       obtain ⟨Ao10, co10, eo10⟩ := Kd.R_slice HO_3.out
       subst eo10
       have p665 : 0 ≤ (x4_1 : Int) := of_decide_eq_true (by first | (with_reducible assumption) | assumption)
       have q665 : x4_1 < (t662.length : Int) := of_decide_eq_true (by first | (with_reducible assumption) | assumption)
       obtain ⟨ad665, e665, hx665_0⟩ := Kd.at_string (Kd.R_reads' HO_3.out).2.2 x4_1 p665 q665
       cases e665
       replace p665 := eq_true p665
       replace q665 := eq_true q665
       go_wp2_with (first | ((with_reducible refine zr (f := 110) rfl ?_); refine zL (some 20) rfl rfl Tryz.func110 (by kernel_rfl) rfl #[.string (ym ByteArray.empty t662 x4_1)] rfl (by (try simp only [zdJ, List.map_cons, List.map_nil]); first | done | rfl | (simp only [List.length_drop, List.length_take]; rfl)) ?_; (with_reducible refine (zG.calls k1 (ym ByteArray.empty t662 x4_1) false _ A7.out).mono ?_); rintro e w' ⟨rfl, ⟨nd, rfl⟩⟩; refine ⟨_, rfl, ?_⟩))
       go_ret
       exact ⟨by first | rfl | (simp [zl, zk] <;> rfl) | (simp [*, zl, zk] <;> rfl), by repeat (first | (with_reducible first | exact HB.out | apply zc | apply zb | apply zd) | exact HB.out)⟩
     ·rw [if_neg c6] at H
      exact absurd H (by simp)
    ·rw [if_neg c5] at H
     have c5b0 : decide (x4_1 < (t662.length : Int)) = false := decide_eq_false c5
     clear c5
     obtain rfl := Option.some.inj H
     obtain ⟨Ao11, co11, eo11⟩ := Kd.R_slice HO_3.out
     subst eo11
     go_wp2
     go_ret
     exact ⟨by first | rfl | (simp [zl, zk] <;> rfl) | (simp [*, zl, zk] <;> rfl), by repeat (first | (with_reducible first | exact HB.out | apply zc | apply zb | apply zd) | exact HB.out)⟩
def zM.l0 : Nat → List ByteArray → Int → Option (Bool)
 | 0, _, _ => none
 | k + 1, x3, x4 => if x4 < (x3.length : Int) then (if 0 ≤ x4 then ((zG.f k (ym ByteArray.empty x3 x4)).bind fun t655 => (if t655 = true then (zM.l0 k x3 (wrap64 (x4 + 1))) else (if (ym ByteArray.empty x3 x4).toList = ([42] : List UInt8) then (zM.l0 k x3 (wrap64 (x4 + 1))) else (if (ym ByteArray.empty x3 x4).toList = ([42, 42] : List UInt8) then (if (wrap64 (x4 + 1)) < (x3.length : Int) then (some false) else (zM.l0 k x3 (wrap64 (x4 + 1)))) else (some false))))) else (none)) else (some (decide ((x3.length : Int) ≤ 4)))
def zM.f (k : Nat) (a0 : ByteArray) : Option (Bool) := if (a0.size : Int) > 32 then (some false) else ((yN.f k a0).bind fun t651 => (zM.l0 k t651 0))
theorem zM.calls (k : Nat) (a0 : ByteArray) (r : Bool) (w : World) (h : zM.f k a0 = some r) :
  Calls Tryz.prog 107 #[.string a0] w fun e w' => e = .returned (.bool r) ∧ Below w.heap.size w w' := by
 have HB := za.mk (Below.refl w.heap.size w)
 have H : (if (a0.size : Int) > 32 then (some false) else ((yN.f k a0).bind fun t651 => (zM.l0 k t651 0))) = some r := h
 clear h
 by_cases c2 : (a0.size : Int) > 32
 ·rw [if_pos c2] at H
  have c2b0 : decide (32 < (a0.size : Int)) = true := decide_eq_true c2
  have c2b1 : decide (32 < a0.size) = true := decide_eq_true (by omega)
  clear c2
  obtain rfl := Option.some.inj H
  go_enter Tryz.func107, Tryz.ntmps107
  go_wp2
  go_ret
  exact ⟨by first | rfl | (simp [zl, zk] <;> rfl) | (simp [*, zl, zk] <;> rfl), by repeat (first | (with_reducible first | exact HB.out | apply zc | apply zb | apply zd) | exact HB.out)⟩
 ·rw [if_neg c2] at H
  have c2b0 : decide (32 < (a0.size : Int)) = false := decide_eq_false c2
  have c2b1 : decide (32 < a0.size) = false := decide_eq_false (by omega)
  clear c2
  replace H := zdK.mp H
  obtain ⟨t651, A30, H⟩ := H
  replace H : (zM.l0 k t651 0) = some r := H
  have A3 := za.mk A30
  clear A30
  have H' := za.mk H
  clear H
  go_enter Tryz.func107, Tryz.ntmps107
  go_wp2_with (first | ((with_reducible refine zr (f := 109) rfl ?_); refine zL (some 9) rfl rfl Tryz.func109 (by kernel_rfl) rfl #[.string a0] rfl (by (try simp only [zdJ, List.map_cons, List.map_nil]); first | done | rfl | (simp only [List.length_drop, List.length_take]; rfl)) ?_; (with_reducible refine (yN.calls k a0 t651 _ A3.out).mono ?_); rintro e w4 ⟨v652, rfl, ho0, hb⟩; refine ⟨_, rfl, ?_⟩; have n0_ := za.mk (Kd.R_lower ho0 (zF (by repeat (first | (with_reducible first | exact HB.out | apply zc | apply zb | apply zd) | exact HB.out)))); have n1_ := za.mk (zp (by repeat (first | (with_reducible first | exact HB.out | apply zc | apply zb | apply zd) | exact HB.out)) hb); clear HB; have HO653 := n0_; have HB := n1_; clear n0_ n1_; (try clear hb); (try clear hb2); (try clear hk); (try clear hi); (try clear ho0)))
  go_loopg [4] k (fun kq v4 w' => ∃ (x4_1 : Int), v4 = .int .i64 x4_1 ∧ za (zM.l0 kq t651 x4_1 = some r) ∧ za (kq ≤ k) ∧ za (Kd.R Kd.string 9 w' w.heap.size (fun _ => True) v652 t651) ∧ za (Below w.heap.size w w'))
  case atStart => exact ⟨(0), (by first | rfl | (simp; done) | (simp [*]; done)), H', ⟨Nat.le_refl _⟩, ⟨by (with_reducible repeat (first | apply Kd.R_alloc | apply Kd.R_drewN | apply Kd.R_drew)); exact HO653.out⟩, ⟨by repeat (first | (with_reducible first | exact HB.out | apply zc | apply zb | apply zd) | exact HB.out)⟩⟩
  case round =>
   clear H'
   try clear c1
   try clear c2
   try clear c2b0
   try clear c2b1
   try clear p2
   obtain ⟨x4_1, rfl, HA, HK1, HO_3, HB⟩ := hrel
   cases gk with
   | zero => exact absurd HA.out (by simp [zM.l0])
   | succ k1 =>
    have H := HA.out
    clear HA
    simp only [zM.l0] at H
    by_cases c5 : x4_1 < (t651.length : Int)
    ·rw [if_pos c5] at H
     have c5b0 : decide (x4_1 < (t651.length : Int)) = true := decide_eq_true c5
     clear c5
     by_cases c6 : 0 ≤ x4_1
     ·rw [if_pos c6] at H
      have c6b0 : decide (0 ≤ x4_1) = true := decide_eq_true c6
      clear c6
      replace H := zdK.mp H
      obtain ⟨t655, A70, H⟩ := H
      replace H : (if t655 = true then (zM.l0 k1 t651 (wrap64 (x4_1 + 1))) else (if (ym ByteArray.empty t651 x4_1).toList = ([42] : List UInt8) then (zM.l0 k1 t651 (wrap64 (x4_1 + 1))) else (if (ym ByteArray.empty t651 x4_1).toList = ([42, 42] : List UInt8) then (if (wrap64 (x4_1 + 1)) < (t651.length : Int) then (some false) else (zM.l0 k1 t651 (wrap64 (x4_1 + 1)))) else (some false)))) = some r := H
      have A7 := za.mk A70
      clear A70
      by_cases c8 : t655 = true
      ·subst c8
       have H1 : (zM.l0 k1 t651 (wrap64 (x4_1 + 1))) = some r := by rw [if_pos rfl] at H; exact H
       clear H
       have H := H1
       clear H1
       have H' := za.mk H
       clear H
       obtain ⟨Ao9, co9, eo9⟩ := Kd.R_slice HO_3.out
       subst eo9
       have p654 : 0 ≤ (x4_1 : Int) := of_decide_eq_true (by first | (with_reducible assumption) | assumption)
       have q654 : x4_1 < (t651.length : Int) := of_decide_eq_true (by first | (with_reducible assumption) | assumption)
       obtain ⟨ad654, e654, hx654_0⟩ := Kd.at_string (Kd.R_reads' HO_3.out).2.2 x4_1 p654 q654
       cases e654
       replace p654 := eq_true p654
       replace q654 := eq_true q654
       go_wp2_with (first | ((with_reducible refine zr (f := 110) rfl ?_); refine zL (some 20) rfl rfl Tryz.func110 (by kernel_rfl) rfl #[.string (ym ByteArray.empty t651 x4_1)] rfl (by (try simp only [zdJ, List.map_cons, List.map_nil]); first | done | rfl | (simp only [List.length_drop, List.length_take]; rfl)) ?_; (with_reducible refine (zG.calls k1 (ym ByteArray.empty t651 x4_1) true _ A7.out).mono ?_); rintro e w' ⟨rfl, ⟨nd, rfl⟩⟩; refine ⟨_, rfl, ?_⟩))
       go_roundg k1
       case measure => have := HK1.out; omega
       case rel => exact ⟨(wrap64 (x4_1 + 1)), (by first | rfl | (simp; done) | (simp [*]; done)), H', ⟨by have := HK1.out; omega⟩, ⟨by (with_reducible repeat (first | apply Kd.R_alloc | apply Kd.R_drewN | apply Kd.R_drew)); exact HO_3.out⟩, ⟨by repeat (first | (with_reducible first | exact HB.out | apply zc | apply zb | apply zd) | exact HB.out)⟩⟩
      ·replace c8 := zdM.mpr c8
       subst c8
       have H1 : (if (ym ByteArray.empty t651 x4_1).toList = ([42] : List UInt8) then (zM.l0 k1 t651 (wrap64 (x4_1 + 1))) else (if (ym ByteArray.empty t651 x4_1).toList = ([42, 42] : List UInt8) then (if (wrap64 (x4_1 + 1)) < (t651.length : Int) then (some false) else (zM.l0 k1 t651 (wrap64 (x4_1 + 1)))) else (some false))) = some r := by rw [if_neg (show ¬ (false = true) by decide)] at H; exact H
       clear H
       have H := H1
       clear H1
       by_cases c10 : (ym ByteArray.empty t651 x4_1).toList = ([42] : List UInt8)
       ·rw [if_pos c10] at H
        have c10b0 : ((ym ByteArray.empty t651 x4_1).toList == ([42] : List UInt8)) = true := beq_iff_eq.mpr c10
        have c10b1 : ((ym ByteArray.empty t651 x4_1).toList != ([42] : List UInt8)) = false := bne_eq_false_iff_eq.mpr c10
        clear c10
        have H' := za.mk H
        clear H
        obtain ⟨Ao11, co11, eo11⟩ := Kd.R_slice HO_3.out
        subst eo11
        have p654 : 0 ≤ (x4_1 : Int) := of_decide_eq_true (by first | (with_reducible assumption) | assumption)
        have q654 : x4_1 < (t651.length : Int) := of_decide_eq_true (by first | (with_reducible assumption) | assumption)
        obtain ⟨ad654, e654, hx654_0⟩ := Kd.at_string (Kd.R_reads' HO_3.out).2.2 x4_1 p654 q654
        cases e654
        replace p654 := eq_true p654
        replace q654 := eq_true q654
        go_wp2_with (first | ((with_reducible refine zr (f := 110) rfl ?_); refine zL (some 20) rfl rfl Tryz.func110 (by kernel_rfl) rfl #[.string (ym ByteArray.empty t651 x4_1)] rfl (by (try simp only [zdJ, List.map_cons, List.map_nil]); first | done | rfl | (simp only [List.length_drop, List.length_take]; rfl)) ?_; (with_reducible refine (zG.calls k1 (ym ByteArray.empty t651 x4_1) false _ A7.out).mono ?_); rintro e w' ⟨rfl, ⟨nd, rfl⟩⟩; refine ⟨_, rfl, ?_⟩; have p656 : 0 ≤ (x4_1 : Int) := of_decide_eq_true (by first | (with_reducible assumption) | assumption); have q656 : x4_1 < (t651.length : Int) := of_decide_eq_true (by first | (with_reducible assumption) | assumption); obtain ⟨ad656, e656, hx656_0⟩ := Kd.at_string (Kd.R_reads' HO_3.out).2.2 x4_1 p656 q656; obtain rfl : ad654 = ad656 := (by injection e656); replace p656 := eq_true p656; replace q656 := eq_true q656))
        go_roundg k1
        case measure => have := HK1.out; omega
        case rel => exact ⟨(wrap64 (x4_1 + 1)), (by first | rfl | (simp; done) | (simp [*]; done)), H', ⟨by have := HK1.out; omega⟩, ⟨by (with_reducible repeat (first | apply Kd.R_alloc | apply Kd.R_drewN | apply Kd.R_drew)); exact HO_3.out⟩, ⟨by repeat (first | (with_reducible first | exact HB.out | apply zc | apply zb | apply zd) | exact HB.out)⟩⟩
       ·rw [if_neg c10] at H
        have c10b0 : ((ym ByteArray.empty t651 x4_1).toList == ([42] : List UInt8)) = false := beq_eq_false_iff_ne.mpr c10
        have c10b1 : ((ym ByteArray.empty t651 x4_1).toList != ([42] : List UInt8)) = true := bne_iff_ne.mpr c10
        by_cases c12 : (ym ByteArray.empty t651 x4_1).toList = ([42, 42] : List UInt8)
        ·rw [if_pos c12] at H
         have c12b0 : ((ym ByteArray.empty t651 x4_1).toList == ([42, 42] : List UInt8)) = true := beq_iff_eq.mpr c12
         have c12b1 : ((ym ByteArray.empty t651 x4_1).toList != ([42, 42] : List UInt8)) = false := bne_eq_false_iff_eq.mpr c12
         clear c12
         by_cases c13 : (wrap64 (x4_1 + 1)) < (t651.length : Int)
         ·rw [if_pos c13] at H
          have c13b0 : decide ((wrap64 (x4_1 + 1)) < (t651.length : Int)) = true := decide_eq_true c13
          clear c13
          obtain rfl := Option.some.inj H
          obtain ⟨Ao14, co14, eo14⟩ := Kd.R_slice HO_3.out
          subst eo14
          have p654 : 0 ≤ (x4_1 : Int) := of_decide_eq_true (by first | (with_reducible assumption) | assumption)
          have q654 : x4_1 < (t651.length : Int) := of_decide_eq_true (by first | (with_reducible assumption) | assumption)
          obtain ⟨ad654, e654, hx654_0⟩ := Kd.at_string (Kd.R_reads' HO_3.out).2.2 x4_1 p654 q654
          cases e654
          replace p654 := eq_true p654
          replace q654 := eq_true q654
          go_wp2_with (first | ((with_reducible refine zr (f := 110) rfl ?_); refine zL (some 20) rfl rfl Tryz.func110 (by kernel_rfl) rfl #[.string (ym ByteArray.empty t651 x4_1)] rfl (by (try simp only [zdJ, List.map_cons, List.map_nil]); first | done | rfl | (simp only [List.length_drop, List.length_take]; rfl)) ?_; (with_reducible refine (zG.calls k1 (ym ByteArray.empty t651 x4_1) false _ A7.out).mono ?_); rintro e w' ⟨rfl, ⟨nd, rfl⟩⟩; refine ⟨_, rfl, ?_⟩; have p656 : 0 ≤ (x4_1 : Int) := of_decide_eq_true (by first | (with_reducible assumption) | assumption); have q656 : x4_1 < (t651.length : Int) := of_decide_eq_true (by first | (with_reducible assumption) | assumption); obtain ⟨ad656, e656, hx656_0⟩ := Kd.at_string (Kd.R_reads' HO_3.out).2.2 x4_1 p656 q656; obtain rfl : ad654 = ad656 := (by injection e656); replace p656 := eq_true p656; replace q656 := eq_true q656; have p657 : 0 ≤ (x4_1 : Int) := of_decide_eq_true (by first | (with_reducible assumption) | assumption); have q657 : x4_1 < (t651.length : Int) := of_decide_eq_true (by first | (with_reducible assumption) | assumption); obtain ⟨ad657, e657, hx657_0⟩ := Kd.at_string (Kd.R_reads' HO_3.out).2.2 x4_1 p657 q657; obtain rfl : ad654 = ad657 := (by injection e657); replace p657 := eq_true p657; replace q657 := eq_true q657))
          go_ret
          exact ⟨by first | rfl | (simp [zl, zk] <;> rfl) | (simp [*, zl, zk] <;> rfl), by repeat (first | (with_reducible first | exact HB.out | apply zc | apply zb | apply zd) | exact HB.out)⟩
         ·rw [if_neg c13] at H
          have c13b0 : decide ((wrap64 (x4_1 + 1)) < (t651.length : Int)) = false := decide_eq_false c13
          clear c13
          have H' := za.mk H
          clear H
          obtain ⟨Ao15, co15, eo15⟩ := Kd.R_slice HO_3.out
          subst eo15
          have p654 : 0 ≤ (x4_1 : Int) := of_decide_eq_true (by first | (with_reducible assumption) | assumption)
          have q654 : x4_1 < (t651.length : Int) := of_decide_eq_true (by first | (with_reducible assumption) | assumption)
          obtain ⟨ad654, e654, hx654_0⟩ := Kd.at_string (Kd.R_reads' HO_3.out).2.2 x4_1 p654 q654
          cases e654
          replace p654 := eq_true p654
          replace q654 := eq_true q654
          go_wp2_with (first | ((with_reducible refine zr (f := 110) rfl ?_); refine zL (some 20) rfl rfl Tryz.func110 (by kernel_rfl) rfl #[.string (ym ByteArray.empty t651 x4_1)] rfl (by (try simp only [zdJ, List.map_cons, List.map_nil]); first | done | rfl | (simp only [List.length_drop, List.length_take]; rfl)) ?_; (with_reducible refine (zG.calls k1 (ym ByteArray.empty t651 x4_1) false _ A7.out).mono ?_); rintro e w' ⟨rfl, ⟨nd, rfl⟩⟩; refine ⟨_, rfl, ?_⟩; have p656 : 0 ≤ (x4_1 : Int) := of_decide_eq_true (by first | (with_reducible assumption) | assumption); have q656 : x4_1 < (t651.length : Int) := of_decide_eq_true (by first | (with_reducible assumption) | assumption); obtain ⟨ad656, e656, hx656_0⟩ := Kd.at_string (Kd.R_reads' HO_3.out).2.2 x4_1 p656 q656; obtain rfl : ad654 = ad656 := (by injection e656); replace p656 := eq_true p656; replace q656 := eq_true q656; have p657 : 0 ≤ (x4_1 : Int) := of_decide_eq_true (by first | (with_reducible assumption) | assumption); have q657 : x4_1 < (t651.length : Int) := of_decide_eq_true (by first | (with_reducible assumption) | assumption); obtain ⟨ad657, e657, hx657_0⟩ := Kd.at_string (Kd.R_reads' HO_3.out).2.2 x4_1 p657 q657; obtain rfl : ad654 = ad657 := (by injection e657); replace p657 := eq_true p657; replace q657 := eq_true q657))
          go_roundg k1
          case measure => have := HK1.out; omega
          case rel => exact ⟨(wrap64 (x4_1 + 1)), (by first | rfl | (simp; done) | (simp [*]; done)), H', ⟨by have := HK1.out; omega⟩, ⟨by (with_reducible repeat (first | apply Kd.R_alloc | apply Kd.R_drewN | apply Kd.R_drew)); exact HO_3.out⟩, ⟨by repeat (first | (with_reducible first | exact HB.out | apply zc | apply zb | apply zd) | exact HB.out)⟩⟩
        ·rw [if_neg c12] at H
         have c12b0 : ((ym ByteArray.empty t651 x4_1).toList == ([42, 42] : List UInt8)) = false := beq_eq_false_iff_ne.mpr c12
         have c12b1 : ((ym ByteArray.empty t651 x4_1).toList != ([42, 42] : List UInt8)) = true := bne_iff_ne.mpr c12
         obtain rfl := Option.some.inj H
         obtain ⟨Ao16, co16, eo16⟩ := Kd.R_slice HO_3.out
         subst eo16
         have p654 : 0 ≤ (x4_1 : Int) := of_decide_eq_true (by first | (with_reducible assumption) | assumption)
         have q654 : x4_1 < (t651.length : Int) := of_decide_eq_true (by first | (with_reducible assumption) | assumption)
         obtain ⟨ad654, e654, hx654_0⟩ := Kd.at_string (Kd.R_reads' HO_3.out).2.2 x4_1 p654 q654
         cases e654
         replace p654 := eq_true p654
         replace q654 := eq_true q654
         go_wp2_with (first | ((with_reducible refine zr (f := 110) rfl ?_); refine zL (some 20) rfl rfl Tryz.func110 (by kernel_rfl) rfl #[.string (ym ByteArray.empty t651 x4_1)] rfl (by (try simp only [zdJ, List.map_cons, List.map_nil]); first | done | rfl | (simp only [List.length_drop, List.length_take]; rfl)) ?_; (with_reducible refine (zG.calls k1 (ym ByteArray.empty t651 x4_1) false _ A7.out).mono ?_); rintro e w' ⟨rfl, ⟨nd, rfl⟩⟩; refine ⟨_, rfl, ?_⟩; have p656 : 0 ≤ (x4_1 : Int) := of_decide_eq_true (by first | (with_reducible assumption) | assumption); have q656 : x4_1 < (t651.length : Int) := of_decide_eq_true (by first | (with_reducible assumption) | assumption); obtain ⟨ad656, e656, hx656_0⟩ := Kd.at_string (Kd.R_reads' HO_3.out).2.2 x4_1 p656 q656; obtain rfl : ad654 = ad656 := (by injection e656); replace p656 := eq_true p656; replace q656 := eq_true q656; have p657 : 0 ≤ (x4_1 : Int) := of_decide_eq_true (by first | (with_reducible assumption) | assumption); have q657 : x4_1 < (t651.length : Int) := of_decide_eq_true (by first | (with_reducible assumption) | assumption); obtain ⟨ad657, e657, hx657_0⟩ := Kd.at_string (Kd.R_reads' HO_3.out).2.2 x4_1 p657 q657; obtain rfl : ad654 = ad657 := (by injection e657); replace p657 := eq_true p657; replace q657 := eq_true q657))
         go_ret
         exact ⟨by first | rfl | (simp [zl, zk] <;> rfl) | (simp [*, zl, zk] <;> rfl), by repeat (first | (with_reducible first | exact HB.out | apply zc | apply zb | apply zd) | exact HB.out)⟩
     ·rw [if_neg c6] at H
      exact absurd H (by simp)
    ·rw [if_neg c5] at H
     have c5b0 : decide (x4_1 < (t651.length : Int)) = false := decide_eq_false c5
     clear c5
     obtain rfl := Option.some.inj H
     obtain ⟨Ao17, co17, eo17⟩ := Kd.R_slice HO_3.out
     subst eo17
     go_wp2
     go_ret
     exact ⟨by first | rfl | (simp [zl, zk] <;> rfl) | (simp [*, zl, zk] <;> rfl), by repeat (first | (with_reducible first | exact HB.out | apply zc | apply zb | apply zd) | exact HB.out)⟩
def okB (c : Nat) : Bool := decide (97 ≤ c ∧ c ≤ 122 ∨ 48 ≤ c ∧ c ≤ 57 ∨ c = 45 ∨ c = 95)
def Zt (l : List Nat) : Bool := l.all okB
def qL (s : ByteArray) : Bool := decide (0 < s.size) && Zt (bl s)
theorem zb1 (s : ByteArray) (hs : s.size ≤ 8796093022000) (d : Nat) : ∀ (k i : Nat), i + d = s.size → 3 * d + 3 ≤ k → zD.l0 k s (s.size : Int) (i : Int) = some (Zt ((bl s).drop i)) := by
 induction d with
 | zero =>
  intro k i hi hk
  obtain ⟨k, rfl⟩ : ∃ k', k = k' + 1 := ⟨k - 1, by omega⟩
  rw [zD.l0, if_neg (by omega), List.drop_eq_nil_of_le (by rw [yo]; omega)]
  rfl
 | succ d ih =>
  intro k i hi hk
  obtain ⟨k, rfl⟩ : ∃ k', k = k' + 3 := ⟨k - 3, by omega⟩
  have hb := ZQ s i (by omega)
  have hi1 := ih (k + 1) (i + 1) (by omega) (by omega)
  have hi2 := ih k (i + 1) (by omega) (by omega)
  rw [zD.l0, if_pos (by omega), if_pos (by omega), if_pos (by omega), hb, jX s i (by omega)]
  generalize (bl s)[i]'(by rw [yo]; omega) = c
  have ha : Zt (c :: (bl s).drop (i + 1)) = (okB c && Zt ((bl s).drop (i + 1))) := rfl
  have hok : okB c = decide (97 ≤ c ∧ c ≤ 122 ∨ 48 ≤ c ∧ c ≤ 57 ∨ c = 45 ∨ c = 95) := rfl
  have hj2 : ∀ b : Bool, zD.j2 (k + 1) s (c : Int) (s.size : Int) (i : Int) b = some ((b || decide (c = 45 ∨ c = 95)) && Zt ((bl s).drop (i + 1))) := by
   intro b
   rw [zD.j2, z4 (by omega) (by omega)]
   cases b with
   | true => rw [if_pos rfl]; exact hi2
   | false =>
    rw [if_neg (by decide)]
    by_cases h1 : c = 45
    ·rw [if_pos (by omega), decide_eq_true (by omega : c = 45 ∨ c = 95)]; exact hi2
    ·rw [if_neg (by omega)]
     by_cases h2 : c = 95
     ·rw [if_pos (by omega), decide_eq_true (by omega : c = 45 ∨ c = 95)]; exact hi2
     ·rw [if_neg (by omega), decide_eq_false (by omega : ¬ (c = 45 ∨ c = 95))]; rfl
  have hj1 : ∀ b : Bool, zD.j1 (k + 2) s (c : Int) (s.size : Int) (i : Int) b = some ((b || (decide (48 ≤ c ∧ c ≤ 57) || decide (c = 45 ∨ c = 95))) && Zt ((bl s).drop (i + 1))) := by
   intro b
   rw [zD.j1, z4 (by omega) (by omega)]
   cases b with
   | true => rw [if_pos rfl]; exact hi1
   | false =>
    rw [if_neg (by decide)]
    by_cases h1 : 48 ≤ c
    ·rw [if_pos (by omega), hj2]
     by_cases h2 : c ≤ 57
     ·rw [decide_eq_true (by omega : (c : Int) ≤ 57), decide_eq_true (by omega : 48 ≤ c ∧ c ≤ 57)]; rfl
     ·rw [decide_eq_false (by omega : ¬ (c : Int) ≤ 57), decide_eq_false (by omega : ¬ (48 ≤ c ∧ c ≤ 57))]; rfl
    ·rw [if_neg (by omega), hj2, decide_eq_false (by omega : ¬ (48 ≤ c ∧ c ≤ 57))]; rfl
  rw [ha, hok]
  by_cases h1 : 97 ≤ c
  ·rw [if_pos (by omega), hj1]
   by_cases h2 : c ≤ 122
   ·rw [decide_eq_true (by omega : (c : Int) ≤ 122), decide_eq_true (by omega : 97 ≤ c ∧ c ≤ 122 ∨ 48 ≤ c ∧ c ≤ 57 ∨ c = 45 ∨ c = 95)]; rfl
   ·rw [decide_eq_false (by omega : ¬ (c : Int) ≤ 122), decide_eq_false (by omega : ¬ (97 ≤ c ∧ c ≤ 122 ∨ 48 ≤ c ∧ c ≤ 57 ∨ c = 45 ∨ c = 95)), decide_eq_false (by omega : ¬ (48 ≤ c ∧ c ≤ 57)), decide_eq_false (by omega : ¬ (c = 45 ∨ c = 95))]; rfl
  ·rw [if_neg (by omega), hj1]
   have e : (false || (decide (48 ≤ c ∧ c ≤ 57) || decide (c = 45 ∨ c = 95))) = decide (97 ≤ c ∧ c ≤ 122 ∨ 48 ≤ c ∧ c ≤ 57 ∨ c = 45 ∨ c = 95) := by
    rw [Bool.false_or, ← Bool.decide_or]
    exact decide_eq_decide.mpr (by omega)
   rw [e]
theorem ZU (s : ByteArray) : s.toList = ([] : List UInt8) ↔ s.size = 0 := by
 have e : ([] : List UInt8) = (⟨#[]⟩ : ByteArray).toList := by rw [ByteArray.toList, ByteArray.toList.loop]; rfl
 rw [e, j7]
 constructor
 ·rintro rfl; rfl
 ·intro h
  apply vI
  have : (bl s).length = 0 := by rw [yo]; exact h
  rw [List.length_eq_zero_iff.mp this]
  rfl
theorem Qi (s : ByteArray) (hs : s.size ≤ 8796093022000) (k : Nat) (hk : 3 * s.size + 3 ≤ k) : zD.f k s = some (qL s) := by
 unfold zD.f qL
 by_cases h : s.size = 0
 ·rw [if_pos ((ZU s).mpr h), decide_eq_false (by omega)]; rfl
 ·rw [if_neg (fun h' => h ((ZU s).mp h')), decide_eq_true (by omega)]
  have := zb1 s hs s.size k 0 (by omega) hk
  rw [List.drop_zero] at this
  rw [Bool.true_and]
  exact this
theorem Vz (s : ByteArray) (hs : s.size ≤ 8796093022000) (d : Nat) : ∀ (k i : Nat), i + d = s.size → d + 1 ≤ k → zG.l0 k s (i : Int) = some (decide (0 < s.size) && Zt ((bl s).drop i)) := by
 induction d with
 | zero =>
  intro k i hi hk
  obtain ⟨k, rfl⟩ : ∃ k', k = k' + 1 := ⟨k - 1, by omega⟩
  have e : decide ((s.size : Int) > 0) = decide (0 < s.size) := decide_eq_decide.mpr (by omega)
  have e2 : Zt [] = true := rfl
  rw [zG.l0, if_neg (by omega), List.drop_eq_nil_of_le (by rw [yo]; omega), e, e2, Bool.and_true]
 | succ d ih =>
  intro k i hi hk
  obtain ⟨k, rfl⟩ : ∃ k', k = k' + 1 := ⟨k - 1, by omega⟩
  have hb := ZQ s i (by omega)
  have hi1 := ih k (i + 1) (by omega) (by omega)
  rw [zG.l0, if_pos (by omega), if_pos (by omega), hb, jX s i (by omega), z4 (by omega) (by omega)]
  have e1 : (i : Int) + 1 = ((i + 1 : Nat) : Int) := by omega
  rw [e1, hi1]
  generalize (bl s)[i]'(by rw [yo]; omega) = c
  have ha : Zt (c :: (bl s).drop (i + 1)) = (okB c && Zt ((bl s).drop (i + 1))) := rfl
  have hok : okB c = decide (97 ≤ c ∧ c ≤ 122 ∨ 48 ≤ c ∧ c ≤ 57 ∨ c = 45 ∨ c = 95) := rfl
  rw [ha, hok, decide_eq_true (by omega : 0 < s.size)]
  by_cases hc : 97 ≤ c ∧ c ≤ 122 ∨ 48 ≤ c ∧ c ≤ 57 ∨ c = 45 ∨ c = 95
  ·rw [decide_eq_true hc]
   simp only [Bool.true_and]
   (repeat' split) <;> first | rfl | omega
  ·rw [decide_eq_false hc]
   simp only [Bool.true_and, Bool.false_and]
   (repeat' split) <;> first | rfl | omega
theorem YY (s : ByteArray) (hs : s.size ≤ 8796093022000) (k : Nat) (hk : s.size + 1 ≤ k) : zG.f k s = some (qL s) := by
 unfold zG.f qL
 exact Vz s hs s.size k 0 (by omega) hk
theorem X8 (l : List ByteArray) (i : Nat) (h : i < l.length) : ym ByteArray.empty l (i : Int) = l[i] := by
 simp [ym, h]
theorem zbg (s : ByteArray) (d : Nat) : ∀ a, ∀ x ∈ vA s d a, x.size ≤ s.size := by
 have hz : ∀ a b, (s.extract a b).size ≤ s.size := fun a b => by
  rw [← yo, qV, List.length_drop, List.length_take, yo]
  omega
 induction d with
 | zero => intro a x hx; rw [vA, List.mem_singleton] at hx; rw [hx]; exact hz _ _
 | succ d ih =>
  intro a x
  rw [vA]
  split
  ·intro hx
   rcases List.mem_cons.mp hx with rfl | hx
   ·exact hz _ _
   ·exact ih _ x hx
  ·exact ih _ x
theorem ZW (s : ByteArray) : ∀ x ∈ qj s, x.size ≤ s.size := zbg s s.size 0
def QA (l : List ByteArray) : Bool := l.all qL && decide (l.length ≤ 4)
def xq (s : ByteArray) : Bool := decide (s.size ≤ 32) && QA (qj s)
theorem Jc (l : List ByteArray) (hl : l.length ≤ 1000000) (M : Nat) (hM : M ≤ 1000) (hz : ∀ x ∈ l, x.size ≤ M) (d : Nat) : ∀ (k i : Nat), i + d = l.length → d + 3 * M + 5 ≤ k → zB.l0 k l l (l.length : Int) (i : Int) = some ((l.drop i).all qL && decide (l.length ≤ 4)) := by
 induction d with
 | zero =>
  intro k i hi hk
  obtain ⟨k, rfl⟩ : ∃ k', k = k' + 1 := ⟨k - 1, by omega⟩
  have e : decide ((l.length : Int) ≤ 4) = decide (l.length ≤ 4) := decide_eq_decide.mpr (by omega)
  rw [zB.l0, if_neg (by omega), List.drop_eq_nil_of_le (by omega), e]
  rfl
 | succ d ih =>
  intro k i hi hk
  obtain ⟨k, rfl⟩ : ∃ k', k = k' + 1 := ⟨k - 1, by omega⟩
  have hx : l[i].size ≤ M := hz _ (List.getElem_mem _)
  have hp : xH.f k (i : Int) (l.length : Int) l[i] = some (qL l[i]) := by
   unfold xH.f
   rw [zC (Qi l[i] (by omega) k (by omega))]
  rw [zB.l0, if_pos (by omega), if_pos (by omega), if_pos (by omega), X8 l i (by omega), zC hp, List.drop_eq_getElem_cons (by omega), List.all_cons, z4 (by omega) (by omega)]
  cases qL l[i] with
  | true => rw [if_pos rfl, Bool.true_and]; exact ih k (i + 1) (by omega) (by omega)
  | false => rw [if_neg (by decide), Bool.false_and, Bool.false_and]
theorem XG (s : ByteArray) (k : Nat) (hk : 300 ≤ k) : yR.f k s = some (xq s) := by
 have h : zB.f k s = some (xq s) := by
  unfold zB.f xq QA
  by_cases h : s.size ≤ 32
  ·have := Yk s
   rw [if_neg (by omega), zC (Qh s (by omega) k (by omega)), decide_eq_true h, Bool.true_and]
   exact Jc (qj s) (by omega) 32 (by omega) (fun x hx => Nat.le_trans (ZW s x hx) h) (qj s).length k 0 (by omega) (by omega)
  ·rw [if_pos (by omega), decide_eq_false h, Bool.false_and]
 unfold yR.f
 rw [zC h]
theorem Vj (l : List ByteArray) (hl : l.length ≤ 1000000) (M : Nat) (hM : M ≤ 1000) (hz : ∀ x ∈ l, x.size ≤ M) (d : Nat) : ∀ (k i : Nat), i + d = l.length → d + M + 5 ≤ k → zQ.l0 k l (i : Int) = some ((l.drop i).all qL && decide (l.length ≤ 4)) := by
 induction d with
 | zero =>
  intro k i hi hk
  obtain ⟨k, rfl⟩ : ∃ k', k = k' + 1 := ⟨k - 1, by omega⟩
  have e : decide ((l.length : Int) ≤ 4) = decide (l.length ≤ 4) := decide_eq_decide.mpr (by omega)
  rw [zQ.l0, if_neg (by omega), List.drop_eq_nil_of_le (by omega), e]
  rfl
 | succ d ih =>
  intro k i hi hk
  obtain ⟨k, rfl⟩ : ∃ k', k = k' + 1 := ⟨k - 1, by omega⟩
  have hx : l[i].size ≤ M := hz _ (List.getElem_mem _)
  rw [zQ.l0, if_pos (by omega), if_pos (by omega), X8 l i (by omega), zC (YY l[i] (by omega) k (by omega)), List.drop_eq_getElem_cons (by omega), List.all_cons, z4 (by omega) (by omega)]
  cases qL l[i] with
  | true => rw [if_pos rfl, Bool.true_and]; exact ih k (i + 1) (by omega) (by omega)
  | false => rw [if_neg (by decide), Bool.false_and, Bool.false_and]
theorem Yu (s : ByteArray) (k : Nat) (hk : 300 ≤ k) : zQ.f k s = some (xq s) := by
 unfold zQ.f xq QA
 by_cases h : s.size ≤ 32
 ·have := Yk s
  rw [if_neg (by omega), zC (Y1 s (by omega) k (by omega)), decide_eq_true h, Bool.true_and]
  exact Vj (qj s) (by omega) 32 (by omega) (fun x hx => Nat.le_trans (ZW s x hx) h) (qj s).length k 0 (by omega) (by omega)
 ·rw [if_pos (by omega), decide_eq_false h, Bool.false_and]
def XP : ByteArray := ⟨#[42]⟩
def ZY : ByteArray := ⟨#[42, 42]⟩
theorem zbp : XP.toList = ([42] : List UInt8) := by decide +kernel
theorem V2 : ZY.toList = ([42, 42] : List UInt8) := by decide +kernel
theorem Xs (x : ByteArray) : x.toList = ([42] : List UInt8) ↔ x = XP := by rw [← zbp, j7]
theorem YP (x : ByteArray) : x.toList = ([42, 42] : List UInt8) ↔ x = ZY := by rw [← V2, j7]
instance : DecidableEq ByteArray := fun a b => decidable_of_iff (a.toList = b.toList) j7
def Qt : List ByteArray → Bool
 | [] => true
 | x :: l => (qL x || decide (x = XP) || decide (x = ZY ∧ l = [])) && Qt l
def qn (s : ByteArray) : Bool := decide (s.size ≤ 32) && (Qt (qj s) && decide ((qj s).length ≤ 4))
theorem QH (l : List ByteArray) (hl : l.length ≤ 1000000) (M : Nat) (hM : M ≤ 1000) (hz : ∀ x ∈ l, x.size ≤ M) (d : Nat) : ∀ (k i : Nat), i + d = l.length → d + 3 * M + 5 ≤ k → zA.l0 k l l (l.length : Int) (i : Int) = some (Qt (l.drop i) && decide (l.length ≤ 4)) := by
 induction d with
 | zero =>
  intro k i hi hk
  obtain ⟨k, rfl⟩ : ∃ k', k = k' + 1 := ⟨k - 1, by omega⟩
  have e : decide ((l.length : Int) ≤ 4) = decide (l.length ≤ 4) := decide_eq_decide.mpr (by omega)
  rw [zA.l0, if_neg (by omega), List.drop_eq_nil_of_le (by omega), e]
  rfl
 | succ d ih =>
  intro k i hi hk
  obtain ⟨k, rfl⟩ : ∃ k', k = k' + 1 := ⟨k - 1, by omega⟩
  have hx : l[i].size ≤ M := hz _ (List.getElem_mem _)
  have hn : l.drop (i + 1) = [] ↔ i + 1 = l.length := by
   rw [List.drop_eq_nil_iff]
   omega
  have hp : xx.f k (i : Int) (l.length : Int) l[i] = some (qL l[i] || decide (l[i] = XP) || decide (l[i] = ZY ∧ l.drop (i + 1) = [])) := by
   unfold xx.f
   rw [zC (Qi l[i] (by omega) k (by omega)), xo (by omega) (by omega)]
   cases qL l[i] with
   | true => rw [if_pos rfl, Bool.true_or, Bool.true_or]
   | false =>
    rw [if_neg (by decide), Bool.false_or]
    by_cases h1 : l[i] = XP
    ·rw [if_pos ((Xs _).mpr h1), decide_eq_true h1, Bool.true_or]
    ·rw [if_neg (fun h => h1 ((Xs _).mp h)), decide_eq_false h1, Bool.false_or]
     by_cases h2 : l[i] = ZY
     ·rw [if_pos ((YP _).mpr h2)]
      have e : ((i : Int) == (l.length : Int) - 1) = decide (l[i] = ZY ∧ l.drop (i + 1) = []) := by
       rw [Bool.eq_iff_iff, beq_iff_eq, decide_eq_true_eq, hn]
       constructor
       ·intro h; exact ⟨h2, by omega⟩
       ·intro h; omega
      rw [e]
     ·rw [if_neg (fun h => h2 ((YP _).mp h)), decide_eq_false (fun h => h2 h.1)]
  rw [zA.l0, if_pos (by omega), if_pos (by omega), if_pos (by omega), X8 l i (by omega), zC hp, (List.drop_eq_getElem_cons (by omega) : l.drop i = l[i] :: l.drop (i + 1)), Qt, z4 (by omega) (by omega)]
  cases (qL l[i] || decide (l[i] = XP) || decide (l[i] = ZY ∧ l.drop (i + 1) = [])) with
  | true => rw [if_pos rfl, Bool.true_and]; exact ih k (i + 1) (by omega) (by omega)
  | false => rw [if_neg (by decide), Bool.false_and, Bool.false_and]
theorem JU (s : ByteArray) (k : Nat) (hk : 300 ≤ k) : xQ.f k s = some (qn s) := by
 have h : zA.f k s = some (qn s) := by
  unfold zA.f qn
  by_cases h : s.size ≤ 32
  ·have := Yk s
   rw [if_neg (by omega), zC (Qh s (by omega) k (by omega)), decide_eq_true h, Bool.true_and]
   exact QH (qj s) (by omega) 32 (by omega) (fun x hx => Nat.le_trans (ZW s x hx) h) (qj s).length k 0 (by omega) (by omega)
  ·rw [if_pos (by omega), decide_eq_false h, Bool.false_and]
 unfold xQ.f
 rw [zC h]
theorem Jk (l : List ByteArray) (hl : l.length ≤ 1000000) (M : Nat) (hM : M ≤ 1000) (hz : ∀ x ∈ l, x.size ≤ M) (d : Nat) : ∀ (k i : Nat), i + d = l.length → d + M + 5 ≤ k → zM.l0 k l (i : Int) = some (Qt (l.drop i) && decide (l.length ≤ 4)) := by
 induction d with
 | zero =>
  intro k i hi hk
  obtain ⟨k, rfl⟩ : ∃ k', k = k' + 1 := ⟨k - 1, by omega⟩
  have e : decide ((l.length : Int) ≤ 4) = decide (l.length ≤ 4) := decide_eq_decide.mpr (by omega)
  rw [zM.l0, if_neg (by omega), List.drop_eq_nil_of_le (by omega), e]
  rfl
 | succ d ih =>
  intro k i hi hk
  obtain ⟨k, rfl⟩ : ∃ k', k = k' + 1 := ⟨k - 1, by omega⟩
  have hx : l[i].size ≤ M := hz _ (List.getElem_mem _)
  have hn : l.drop (i + 1) = [] ↔ i + 1 = l.length := by
   rw [List.drop_eq_nil_iff]
   omega
  have hi1 := ih k (i + 1) (by omega) (by omega)
  rw [zM.l0, if_pos (by omega), if_pos (by omega), X8 l i (by omega), zC (YY l[i] (by omega) k (by omega)), List.drop_eq_getElem_cons (by omega), Qt, z4 (by omega) (by omega)]
  have e1 : (i : Int) + 1 = ((i + 1 : Nat) : Int) := by omega
  rw [e1, hi1]
  cases qL l[i] with
  | true => rw [if_pos rfl, Bool.true_or, Bool.true_or, Bool.true_and]
  | false =>
   rw [if_neg (by decide), Bool.false_or]
   by_cases h1 : l[i] = XP
   ·rw [if_pos ((Xs _).mpr h1), decide_eq_true h1, Bool.true_or, Bool.true_and]
   ·rw [if_neg (fun h => h1 ((Xs _).mp h)), decide_eq_false h1, Bool.false_or]
    by_cases h2 : l[i] = ZY
    ·rw [if_pos ((YP _).mpr h2)]
     by_cases h3 : i + 1 < l.length
     ·rw [if_pos (by omega), decide_eq_false (fun h => by have := hn.mp h.2; omega), Bool.false_and, Bool.false_and]
     ·have hc : l[i] = ZY ∧ l.drop (i + 1) = [] := ⟨h2, hn.mpr (by omega)⟩
      rw [if_neg (by omega), decide_eq_true hc, Bool.true_and]
    ·rw [if_neg (fun h => h2 ((YP _).mp h)), decide_eq_false (fun h => h2 h.1), Bool.false_and, Bool.false_and]
theorem XW (s : ByteArray) (k : Nat) (hk : 300 ≤ k) : zM.f k s = some (qn s) := by
 unfold zM.f qn
 by_cases h : s.size ≤ 32
 ·have := Yk s
  rw [if_neg (by omega), zC (Y1 s (by omega) k (by omega)), decide_eq_true h, Bool.true_and]
  exact Jk (qj s) (by omega) 32 (by omega) (fun x hx => Nat.le_trans (ZW s x hx) h) (qj s).length k 0 (by omega) (by omega)
 ·rw [if_pos (by omega), decide_eq_false h, Bool.false_and]
mutual
def ya.l0 : Nat → ByteArray → ByteArray → Int → Option (Bool)
 | 0, _, _, _ => none
 | k + 1, x0, x1, x5 => if x5 < (x0.size : Int) then (ya.j1 k x0 x1 x5 (decide (x5 < (x1.size : Int)))) else (ya.j1 k x0 x1 x5 false)
def ya.j1 : Nat → ByteArray → ByteArray → Int → Bool → Option (Bool)
 | 0, _, _, _, _ => none
 | k + 1, x0, x1, x5, x15 => if x15 = true then (if 0 ≤ x5 then (if x5 < (x0.size : Int) then (if x5 < (x1.size : Int) then (if (bt x0 x5) = (bt x1 x5) then (ya.l0 k x0 x1 (wrap64 (x5 + 1))) else (some (decide ((bt x0 x5) < (bt x1 x5))))) else (none)) else (none)) else (none)) else (some (decide ((x0.size : Int) < (x1.size : Int))))
end
def ya.f (k : Nat) (a0 : ByteArray) (a1 : ByteArray) : Option (Bool) := ya.l0 k a0 a1 0
theorem ya.calls (k : Nat) (a0 : ByteArray) (a1 : ByteArray) (r : Bool) (w : World) (h : ya.f k a0 a1 = some r) :
  Calls Tryz.prog 70 #[.string a0, .string a1] w fun e w' => e = .returned (.bool r) ∧ zi w w' := by
 have H : (ya.l0 k a0 a1 0) = some r := h
 clear h
 have H' := za.mk H
 clear H
 go_enter Tryz.func70, Tryz.ntmps70
 go_wp2
 repeat (go_quiet (fail); try go_wp2)
 go_loopg [5] k (fun kq v5 w' => ∃ (x5_1 : Int), v5 = .int .i64 x5_1 ∧ za (ya.l0 kq a0 a1 x5_1 = some r) ∧ za (kq ≤ k) ∧ zi w w')
 case atStart => exact ⟨(0), (by first | rfl | (simp; done) | (simp [*]; done)), H', ⟨Nat.le_refl _⟩, by repeat (first | exact zi.refl _ | apply zi.step)⟩
 case round =>
  clear H'
  try clear p2
  obtain ⟨x5_1, rfl, HA, HK1, ⟨m1, rfl⟩⟩ := hrel
  cases gk with
  | zero => exact absurd HA.out (by simp [ya.l0])
  | succ k1 =>
   have H := HA.out
   clear HA
   simp only [ya.l0] at H
   have HC3 := za.mk H
   clear H
   go_upto_region 2 with (fail)
   repeat (go_quiet (fail); go_upto_region 2 with (fail))
   go_cut [15] (fun v15 wc => ∃ (kq : Nat) (x15_2 : Bool), v15 = .bool x15_2 ∧ za (ya.j1 kq a0 a1 x5_1 x15_2 = some r) ∧ za (kq ≤ k1) ∧ zi w wc)
   case first =>
    have H := HC3.out
    clear HC3
    by_cases c4 : x5_1 < (a0.size : Int)
    ·rw [if_pos c4] at H
     have c4b0 : decide (x5_1 < (a0.size : Int)) = true := decide_eq_true c4
     clear c4
     (first | rw [c4b0] | (simp only [zT, yc]; rw [c4b0]) | skip)
     have H' := za.mk H
     clear H
     go_wp2
     repeat (go_quiet (fail); try go_wp2)
     go_meet
     case rel => exact ⟨_, (decide (x5_1 < (a1.size : Int))), (by first | rfl | (simp; done) | (simp [*]; done)), H', ⟨by have := HK1.out; first | omega | exact Nat.le_refl _⟩, by repeat (first | exact zi.refl _ | apply zi.step)⟩
    ·rw [if_neg c4] at H
     have c4b0 : decide (x5_1 < (a0.size : Int)) = false := decide_eq_false c4
     clear c4
     (first | rw [c4b0] | (simp only [zT, yc]; rw [c4b0]) | skip)
     have H' := za.mk H
     clear H
     go_wp2
     repeat (go_quiet (fail); try go_wp2)
     go_meet
     case rel => exact ⟨_, (false), (by first | rfl | (simp; done) | (simp [*]; done)), H', ⟨by have := HK1.out; first | omega | exact Nat.le_refl _⟩, by repeat (first | exact zi.refl _ | apply zi.step)⟩
   case rest =>
    clear HC3
    try clear p2
    try clear c4
    try clear c4b0
    try clear p2
    obtain ⟨kq, x15_2, rfl, HA, HJ2, ⟨mc2, rfl⟩⟩ := hcut
    cases kq with
    | zero => exact absurd HA.out (by simp [ya.j1])
    | succ kj2 =>
     have H := HA.out
     clear HA
     simp only [ya.j1] at H
     by_cases c5 : x15_2 = true
     ·subst c5
      have H1 : (if 0 ≤ x5_1 then (if x5_1 < (a0.size : Int) then (if x5_1 < (a1.size : Int) then (if (bt a0 x5_1) = (bt a1 x5_1) then (ya.l0 kj2 a0 a1 (wrap64 (x5_1 + 1))) else (some (decide ((bt a0 x5_1) < (bt a1 x5_1))))) else (none)) else (none)) else (none)) = some r := by rw [if_pos rfl] at H; exact H
      clear H
      have H := H1
      clear H1
      by_cases c6 : 0 ≤ x5_1
      ·rw [if_pos c6] at H
       have c6b0 : decide (0 ≤ x5_1) = true := decide_eq_true c6
       clear c6
       by_cases c7 : x5_1 < (a0.size : Int)
       ·rw [if_pos c7] at H
        have c7b0 : decide (x5_1 < (a0.size : Int)) = true := decide_eq_true c7
        clear c7
        by_cases c9 : x5_1 < (a1.size : Int)
        ·rw [if_pos c9] at H
         have c9b0 : decide (x5_1 < (a1.size : Int)) = true := decide_eq_true c9
         clear c9
         by_cases c11 : (bt a0 x5_1) = (bt a1 x5_1)
         ·rw [if_pos c11] at H
          have c11b0 : ((bt a0 x5_1) == (bt a1 x5_1)) = true := beq_iff_eq.mpr c11
          have c11b1 : ((bt a0 x5_1) != (bt a1 x5_1)) = false := bne_eq_false_iff_eq.mpr c11
          clear c11
          have H' := za.mk H
          clear H
          have p8 : 0 ≤ (x5_1 : Int) := of_decide_eq_true (by first | (with_reducible assumption) | assumption)
          have q8 : x5_1 < (a0.size : Int) := of_decide_eq_true (by first | (with_reducible assumption) | assumption)
          have hx8 := xg a0 x5_1
          replace p8 := eq_true p8
          replace q8 := eq_true q8
          have p10 : 0 ≤ (x5_1 : Int) := of_decide_eq_true (by first | (with_reducible assumption) | assumption)
          have q10 : x5_1 < (a1.size : Int) := of_decide_eq_true (by first | (with_reducible assumption) | assumption)
          have hx10 := xg a1 x5_1
          replace p10 := eq_true p10
          replace q10 := eq_true q10
          go_wp2
          repeat (go_quiet (fail); try go_wp2)
          go_roundg kj2
          case measure => have := HK1.out; have := HJ2.out; omega
          case rel => exact ⟨(wrap64 (x5_1 + 1)), (by first | rfl | (simp; done) | (simp [*]; done)), H', ⟨by have := HK1.out; have := HJ2.out; omega⟩, by repeat (first | exact zi.refl _ | apply zi.step)⟩
         ·rw [if_neg c11] at H
          have c11b0 : ((bt a0 x5_1) == (bt a1 x5_1)) = false := beq_eq_false_iff_ne.mpr c11
          have c11b1 : ((bt a0 x5_1) != (bt a1 x5_1)) = true := bne_iff_ne.mpr c11
          obtain rfl := Option.some.inj H
          have p8 : 0 ≤ (x5_1 : Int) := of_decide_eq_true (by first | (with_reducible assumption) | assumption)
          have q8 : x5_1 < (a0.size : Int) := of_decide_eq_true (by first | (with_reducible assumption) | assumption)
          have hx8 := xg a0 x5_1
          replace p8 := eq_true p8
          replace q8 := eq_true q8
          have p10 : 0 ≤ (x5_1 : Int) := of_decide_eq_true (by first | (with_reducible assumption) | assumption)
          have q10 : x5_1 < (a1.size : Int) := of_decide_eq_true (by first | (with_reducible assumption) | assumption)
          have hx10 := xg a1 x5_1
          replace p10 := eq_true p10
          replace q10 := eq_true q10
          have p12 : 0 ≤ (x5_1 : Int) := of_decide_eq_true (by first | (with_reducible assumption) | assumption)
          have q12 : x5_1 < (a0.size : Int) := of_decide_eq_true (by first | (with_reducible assumption) | assumption)
          have hx12 := xg a0 x5_1
          replace p12 := eq_true p12
          replace q12 := eq_true q12
          have p13 : 0 ≤ (x5_1 : Int) := of_decide_eq_true (by first | (with_reducible assumption) | assumption)
          have q13 : x5_1 < (a1.size : Int) := of_decide_eq_true (by first | (with_reducible assumption) | assumption)
          have hx13 := xg a1 x5_1
          replace p13 := eq_true p13
          replace q13 := eq_true q13
          go_wp2
          repeat (go_quiet (fail); try go_wp2)
          go_ret
          exact ⟨by first | rfl | (simp; done) | (simp [*]; done), by repeat (first | exact zi.refl _ | apply zi.step)⟩
        ·rw [if_neg c9] at H
         exact absurd H (by simp)
       ·rw [if_neg c7] at H
        exact absurd H (by simp)
      ·rw [if_neg c6] at H
       exact absurd H (by simp)
     ·replace c5 := zdM.mpr c5
      subst c5
      have H1 : (some (decide ((a0.size : Int) < (a1.size : Int)))) = some r := by rw [if_neg (show ¬ (false = true) by decide)] at H; exact H
      clear H
      have H := H1
      clear H1
      obtain rfl := Option.some.inj H
      go_wp2
      repeat (go_quiet (fail); try go_wp2)
      go_ret
      exact ⟨by first | rfl | (simp; done) | (simp [*]; done), by repeat (first | exact zi.refl _ | apply zi.step)⟩
def jR : List Nat → List Nat → Bool
 | [], [] => false
 | [], _ :: _ => true
 | _ :: _, [] => false
 | a :: x, b :: y => if a = b then jR x y else decide (a < b)
theorem XJ : ∀ x y : List UInt8, jR (x.map (·.toNat)) (y.map (·.toNat)) = Op.bytesLess x y
 | [], [] => rfl
 | [], _ :: _ => rfl
 | _ :: _, [] => rfl
 | a :: x, b :: y => by
  have ih := XJ x y
  rw [List.map_cons, List.map_cons, jR, Op.bytesLess, ih]
  by_cases h : a = b
  ·subst h
   have h1 : decide (a < a) = false := decide_eq_false (by simp)
   have h3 : (a == a) = true := by simp
   rw [if_pos rfl, h1, h3, Bool.false_or, Bool.true_and]
  ·have h3 : (a == b) = false := by simp [h]
   have hab : ¬ a.toNat = b.toNat := fun h' => h (UInt8.toNat_inj.mp h')
   rw [if_neg hab, h3, Bool.false_and, Bool.or_false]
   exact decide_eq_decide.mpr UInt8.lt_iff_toNat_lt.symm
theorem JS (s t : ByteArray) : Op.bytesLess s.toList t.toList = jR (bl s) (bl t) := by
 rw [Go.Lib.toList_data, Go.Lib.toList_data, ← XJ]
 rfl
theorem zcW (s t : ByteArray) (hs : s.size ≤ 140737488351232) (d : Nat) : ∀ (k i : Nat), i + d = s.size → i ≤ t.size → 2 * d + 2 ≤ k → ya.l0 k s t (i : Int) = some (jR ((bl s).drop i) ((bl t).drop i)) := by
 induction d with
 | zero =>
  intro k i hi ht hk
  obtain ⟨k, rfl⟩ : ∃ k', k = k' + 2 := ⟨k - 2, by omega⟩
  rw [ya.l0, if_neg (by omega), ya.j1, if_neg (by decide)]
  have e : (bl s).drop i = [] := List.drop_eq_nil_of_le (by rw [yo]; omega)
  rw [e]
  by_cases h : i < t.size
  ·rw [jX t i h, jR, decide_eq_true (by omega)]
  ·have e2 : (bl t).drop i = [] := List.drop_eq_nil_of_le (by rw [yo]; omega)
   rw [e2, jR, decide_eq_false (by omega)]
 | succ d ih =>
  intro k i hi ht hk
  obtain ⟨k, rfl⟩ : ∃ k', k = k' + 2 := ⟨k - 2, by omega⟩
  rw [ya.l0, if_pos (by omega), ya.j1, jX s i (by omega)]
  by_cases h : i < t.size
  ·have e : wrap64 ((i : Int) + 1) = ((i + 1 : Nat) : Int) := z4 (by omega) (by omega)
   rw [decide_eq_true (by omega), if_pos rfl, if_pos (by omega), if_pos (by omega), if_pos (by omega), jX t i h, jR, ZQ s i (by omega), ZQ t i h, e]
   by_cases h2 : (bl s)[i]'(by rw [yo]; omega) = (bl t)[i]'(by rw [yo]; omega)
   ·rw [if_pos (by omega), if_pos h2]
    exact ih k (i + 1) (by omega) (by omega) (by omega)
   ·rw [if_neg (by omega), if_neg h2]
    exact congrArg some (decide_eq_decide.mpr (by omega))
  ·have e2 : (bl t).drop i = [] := List.drop_eq_nil_of_le (by rw [yo]; omega)
   rw [decide_eq_false (by omega), if_neg (by decide), e2, jR, decide_eq_false (by omega)]
theorem zbK (s t : ByteArray) (hs : s.size ≤ 140737488351232) (k : Nat) (hk : 2 * s.size + 2 ≤ k) : ya.f k s t = some (jR (bl s) (bl t)) :=
 zcW s t hs s.size k 0 (by omega) (by omega) (by omega)
theorem V7 (k : Nat) (A : Option Addr) (c : Nat) (l : List ByteArray) (t0 : ByteArray) (r1 : ByteArray) (r2 : Int) (w : World) (hr : Kd.C Kd.string w A l.length l) (hc : l.length ≤ c) (hl : l.length ≤ 256) (ht : yf.f (l.length : Int) = some t0) (h0 : t0.size ≤ 140737488351232) (h : jU (y9.f) l (bytesOf t0) = some (r1, r2)) :
  Calls Tryz.prog 167 #[.slice A l.length c, .func (Fn.func 103) #[] #[]] w fun e w' => e = .returned (.tuple #[.string r1, .int .i64 r2]) ∧ Below w.heap.size w w' := by
 have HT := za.mk ht
 have HL := za.mk h
 have HR := za.mk hr
 have hcv := fun W : World => Lib.run_convert_string_bytes (P := Tryz.prog) W 9 41 5 t0 Tryz.underlying9 Tryz.underlying41 Tryz.underlying5
 clear ht h hr
 obtain ⟨i0, hi, hz0, hz1, hz2⟩ := info_parts Jw
 go_enter Tryz.func167, Tryz.ntmps167
 go_wp2_with (first | (go_at_call 57; refine (yf.calls (l.length : Int) t0 _ HT.out).mono ?_; rintro e w1 ⟨rfl, hb⟩; have HB1 := za.mk hb; have HM1 := za.mk (yL.of_bytes w1 w.heap.size 5 t0 HB1.out.size (by simp only [maxLen]; omega)); have HB2 := za.mk (qE HB1.out HB1.out.size 5 t0)))
 have hcv0 := za.mk hcv
 clear hcv
 go_loopg [6, 20] l.length (fun kq vb vi wr => ∃ (i : Nat) (xs : List Int), vi = .int .i64 i ∧ za (i + kq = l.length) ∧ za (jU (y9.f) (l.drop i) xs = some (r1, r2)) ∧ za (yL wr w.heap.size 5 vb (yH .u8 xs)) ∧ za (Below w.heap.size w wr))
 case atStart => exact ⟨0, bytesOf t0, rfl, ⟨by simp⟩, ⟨by rw [List.drop_zero]; exact HL.out⟩, ⟨by rw [← qo]; exact HM1.out⟩, HB2⟩
 case round =>
  clear HB2 HM1
  obtain ⟨i, xs, rfl, HK, HO, HM, HB⟩ := hrel
  have hil : i ≤ l.length := by have := HK.out; omega
  by_cases hlt : i < l.length
  ·obtain ⟨ad, ea, hcell⟩ := Kd.at_string HR.out (i : Int) (by omega) (by omega)
   cases ea
   replace hcell := (HB.out.cell (zdL w _ hcell)).trans hcell
   rw [Int.toNat_natCast] at hcell
   obtain ⟨x, hx⟩ : ∃ x, x = ym ByteArray.empty l (i : Int) := ⟨_, rfl⟩
   rw [← hx] at hcell
   have ho := HO.out
   rw [List.drop_eq_getElem_cons hlt, jU, zdK] at ho
   rw [Qu l i hlt] at hx
   rw [← hx] at ho
   obtain ⟨⟨s, e2⟩, hs, ho⟩ := ho
   have HS := za.mk hs
   have HO2 := za.mk ho
   clear hs ho hx HO
   by_cases he : e2 = 0
   ·subst he
    have ho := HO2.out
    rw [if_pos rfl] at ho
    by_cases hfit : xs.length + s.size ≤ 140737488355328
    ·rw [if_pos hfit] at ho
     have HO3 := za.mk ho
     have HF := za.mk hfit
     clear ho HO2 hfit
     go_wp2_with (first
      | (go_at_call 103; refine (y9.calls x s 0 _ HS.out).mono ?_; rintro e w2 ⟨rfl, hb⟩; have HB3 := za.mk (Below.trans HB.out (hb.mono HB.out.size)); have HM3 := za.mk (HM.out.below hb); clear hb HB HM)
      | ((with_reducible refine zN (N := 35) rfl ?_); refine yU _ rfl (.tmp 33) (.tmp 34) 41 9 rfl w.heap.size 5 i0 Tryz.underlying41 Tryz.underlying9 hi hz0 hz1 hz2 _ (yH .u8 xs) rfl HM3.out s rfl (by rw [xL]; exact HF.out) HB3.out.size ?_; intro v1 w3 hm1 hg1; rw [jv] at hm1; have HM4 := za.mk hm1; have HB4 := za.mk (HB3.out.grown hg1 HB3.out.size (fun k hk => HM3.out.base_le k hk)); clear hm1 hg1))
     go_roundg (l.length - (i + 1))
     case measure => have := HK.out; omega
     case rel => exact ⟨i + 1, xs ++ bytesOf s, by go_num, ⟨by omega⟩, HO3, HM4, HB4⟩
    ·rw [if_neg hfit] at ho
     cases ho
   ·have ho := HO2.out
    rw [if_neg he] at ho
    simp only [Option.some.injEq, Prod.mk.injEq] at ho
    obtain ⟨rfl, rfl⟩ := ho
    go_wp2_with (go_at_call 103; refine (y9.calls x s e2 _ HS.out).mono ?_; rintro e w2 ⟨rfl, hb⟩; have HB3 := za.mk (Below.trans HB.out (hb.mono HB.out.size)); clear hb)
    go_ret2
    exact ⟨rfl, HB3.out⟩
  ·obtain rfl : i = l.length := by omega
   have ho := HO.out
   rw [List.drop_length, jU] at ho
   simp only [Option.some.injEq, Prod.mk.injEq] at ho
   obtain ⟨hs, rfl⟩ := ho
   have hcs := yL.to_string (P := Tryz.prog) Tryz.underlying41 Tryz.underlying5 Tryz.underlying9 HM.out
   rw [hs] at hcs
   clear hs
   go_wp2
   go_ret2
   exact ⟨rfl, HB.out⟩
def qK.f (l : List ByteArray) : Option (ByteArray × Int) :=
 if 256 < l.length then some (⟨#[]⟩, 4) else (yf.f (l.length : Int)).bind fun t => jU y9.f l (bytesOf t)
set_option maxHeartbeats 1000000 in
theorem qK.calls (A : Option Addr) (c : Nat) (l : List ByteArray) (r1 : ByteArray) (r2 : Int) (w : World) (hr : Kd.C Kd.string w A l.length l) (hc : l.length ≤ c) (h : qK.f l = some (r1, r2)) :
  Calls Tryz.prog 131 #[.slice A l.length c] w fun e w' => e = .returned (.tuple #[.string r1, .int .i64 r2]) ∧ Below w.heap.size w w' := by
 have hbig : 256 < l.length → Calls Tryz.prog 167 #[.slice A l.length c, .func (Fn.func 103) #[] #[]] w fun e w' => e = .returned (.tuple #[.string ⟨#[]⟩, .int .i64 4]) ∧ Below w.heap.size w w' := by
  intro hb
  go_enter Tryz.func167, Tryz.ntmps167
  go_wp2
  go_ret2
  exact ⟨rfl, Below.refl _ _⟩
 have HC : za (Calls Tryz.prog 167 #[.slice A l.length c, .func (Fn.func 103) #[] #[]] w fun e w' => e = .returned (.tuple #[.string r1, .int .i64 r2]) ∧ Below w.heap.size w w') := by
  unfold qK.f at h
  by_cases hb : 256 < l.length
  ·rw [if_pos hb] at h
   simp only [Option.some.injEq, Prod.mk.injEq] at h
   obtain ⟨rfl, rfl⟩ := h
   exact ⟨hbig hb⟩
  ·rw [if_neg hb, zdK] at h
   obtain ⟨t, ht, h⟩ := h
   have hz : t.size ≤ 140737488351232 := by
    unfold yf.f at ht
    split at ht
    ·obtain rfl := Option.some.inj ht
     have := zE (l.length : Int)
     omega
    ·cases ht
   exact ⟨V7 0 A c l t r1 r2 w hr hc (by omega) ht hz h⟩
 clear hbig h hr
 go_enter Tryz.func131, Tryz.ntmps131
 go_wp2_with (go_at_call 167; refine HC.out.mono ?_; rintro e w1 ⟨rfl, hb⟩; have HB := za.mk hb; clear hb)
 go_ret2
 exact ⟨rfl, HB.out⟩
end Go.Proofs.YtepipnpfggnadaaGreat.Q
