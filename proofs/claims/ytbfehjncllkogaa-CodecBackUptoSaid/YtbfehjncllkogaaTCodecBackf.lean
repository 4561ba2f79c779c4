/- Texts of this session laid together (shrink.py): what the claim's law rests on. -/
import Derived.Below
import Derived.Deep.Draws
import Derived.Deep.AppendLies
import Derived.Maps.AppendAt
import Derived.OwnWalk
import Derived.Laws.BytesArg
import Derived.Laws.MakeOwn
import Derived.Laws.OwnMore
import Derived.Deep.OwnRows
import Derived.Tactics
import Derived.Lib.ConvBytes
import Derived.Laws.Slices
import Derived.WalkKit
import Derived.KernelRfl
import Derived.RowKit3
import Derived.Deep.LoopGhost
import Derived.Deep.QuietTactic
import Derived.BigQuiet
import Derived.WideLaws
import Derived.Deep.DeepCutAuto
import Derived.Deep.CutBlock
import Derived.Deep.RegionHeld3
import Derived.Laws.Rows
import Derived.Lib.AppendStr
import Derived.ArgAppend
import Derived.Laws.IdiomCopy
import Derived.RowKit
import Derived.OrdersHeld
import Derived.Laws.BitsLemmas
import Derived.Laws.StructEq
import Derived.Test.YtbfehjncllkogaaProg
import Derived.WalkMore
import Derived.Lib.Strings
import Derived.Outline
import Derived.Test.YtbfehjncllkogaaTCodecBacke
set_option linter.unusedVariables false
set_option linter.unusedSimpArgs false
set_option maxRecDepth 100000
set_option maxHeartbeats 8000000
open List renaming setIfInBounds_toArray → Vt
open List renaming set_cons_zero → Vu
open List renaming set_cons_succ → Vv
open List renaming map_toArray → Vw
open Option renaming bind_eq_some_iff → Vx
open Go.World renaming block_lt_of_cell? → Vy
open ByteArray renaming size_append → Vz
open Bool renaming eq_false_iff → VA
open List renaming length_append → VB
namespace Go.Proofs.Ytbfehjncllkogaa.Q
open Go.RowKit Go.Proofs.YtbfehjncllkogaaW.PrintWords Go.Proofs.YtbfehjncllkogaaW.PrintLast Go.Proofs.YtbfehjncllkogaaW.PrintMore
attribute [local go_sem] qw qx qN qK qg qh qz qu
def xp.f (a0 : ByteArray) : Option (ByteArray × Int) := if (a0.size : Int) > 4096 then (some ((⟨#[]⟩ : ByteArray), 4)) else ((yv.f (a0.size : Int)).bind fun t102 => (if t102.size + a0.size ≤ 9223372036854775807 then (some (t102 ++ a0, 0)) else (none)))
theorem xp.calls (a0 : ByteArray) (r1 : ByteArray) (r2 : Int) (w : World) (h : xp.f a0 = some (r1, r2)) :
  Calls Try.prog 86 #[.string a0] w fun e w' => e = .returned (.tuple #[.string r1, .int .i64 r2]) ∧ Below w.heap.size w w' := by
 have HB := za.mk (Below.refl w.heap.size w)
 have H : (if (a0.size : Int) > 4096 then (some ((⟨#[]⟩ : ByteArray), 4)) else ((yv.f (a0.size : Int)).bind fun t102 => (if t102.size + a0.size ≤ 9223372036854775807 then (some (t102 ++ a0, 0)) else (none)))) = some (r1, r2) := h
 clear h
 by_cases c2 : (a0.size : Int) > 4096
 ·rw [if_pos c2] at H
  have c2b0 : decide (4096 < (a0.size : Int)) = true := decide_eq_true c2
  have c2b1 : decide (4096 < a0.size) = true := decide_eq_true (by omega)
  clear c2
  simp only [Option.some.injEq, Prod.mk.injEq] at H
  obtain ⟨rfl, rfl⟩ := H
  go_enter Try.func86, Try.ntmps86
  go_wp2
  go_ret2
  exact ⟨by first | rfl | (simp [zn, zo] <;> rfl) | (simp [*, zn, zo] <;> rfl), by repeat (first | (with_reducible first | exact HB.out | apply zc | apply zb | apply zd) | exact HB.out)⟩
 ·rw [if_neg c2] at H
  have c2b0 : decide (4096 < (a0.size : Int)) = false := decide_eq_false c2
  have c2b1 : decide (4096 < a0.size) = false := decide_eq_false (by omega)
  clear c2
  replace H := Vx.mp H
  obtain ⟨t102, A30, H⟩ := H
  replace H : (if t102.size + a0.size ≤ 9223372036854775807 then (some (t102 ++ a0, 0)) else (none)) = some (r1, r2) := H
  have A3 := za.mk A30
  clear A30
  by_cases c4 : t102.size + a0.size ≤ 9223372036854775807
  ·rw [if_pos c4] at H
   have c4b0 := eq_true c4
   have c4b1 : decide (t102.size + a0.size ≤ 9223372036854775807) = true := decide_eq_true c4
   try have c4b2 : (9223372036854775807 < t102.size + a0.size) = False := eq_false (Nat.not_lt.2 c4)
   simp only [Option.some.injEq, Prod.mk.injEq] at H
   obtain ⟨rfl, rfl⟩ := H
   go_enter Try.func86, Try.ntmps86
   go_wp2_with (first | ((with_reducible refine zL (f := 87) rfl ?_); refine z8 (some 9) rfl rfl Try.func87 (by kernel_rfl) rfl #[.int .i64 (a0.size : Int)] rfl (by (try simp only [Vw, List.map_cons, List.map_nil]); first | done | rfl | (simp only [List.length_drop, List.length_take]; rfl)) ?_; (with_reducible refine (yv.calls (a0.size : Int) t102 _ A3.out).mono ?_); rintro e w5 ⟨rfl, hb⟩; refine ⟨_, rfl, ?_⟩; have n0_ := za.mk (zi (by repeat (first | (with_reducible first | exact HB.out | apply zc | apply zb | apply zd) | exact HB.out)) hb); clear HB; have HB := n0_; clear n0_; (try clear hb); (try clear hb2); (try clear hk); (try clear hi)))
   go_ret2
   exact ⟨by first | rfl | (simp [zn, zo] <;> rfl) | (simp [*, zn, zo] <;> rfl), by repeat (first | (with_reducible first | exact HB.out | apply zc | apply zb | apply zd) | exact HB.out)⟩
  ·rw [if_neg c4] at H
   exact absurd H (by simp)
theorem Qq (k : Nat) (A : Option Addr) (c : Nat) (l : List ByteArray) (t0 : ByteArray) (r1 : ByteArray) (r2 : Int) (w : World) (hr : Kd.C Kd.string w A l.length l) (hc : l.length ≤ c) (hl : l.length ≤ 256) (ht : yv.f (l.length : Int) = some t0) (h0 : t0.size ≤ 140737488351232) (h : qJ (xp.f) l (bytesOf t0) = some (r1, r2)) :
  Calls Try.prog 98 #[.slice A l.length c, .func (Fn.func 86) #[] #[]] w fun e w' => e = .returned (.tuple #[.string r1, .int .i64 r2]) ∧ Below w.heap.size w w' := by
 have HT := za.mk ht
 have HL := za.mk h
 have HR := za.mk hr
 have hcv := fun W : World => Lib.run_convert_string_bytes (P := Try.prog) W 9 74 5 t0 Try.underlying9 Try.underlying74 Try.underlying5
 clear ht h hr
 obtain ⟨i0, hi, hz0, hz1, hz2⟩ := info_parts JN
 go_enter Try.func98, Try.ntmps98
 go_wp2_with (first | (go_at_call 87; refine (yv.calls (l.length : Int) t0 _ HT.out).mono ?_; rintro e w1 ⟨rfl, hb⟩; have HB1 := za.mk hb; have HM1 := za.mk (xj.of_bytes w1 w.heap.size 5 t0 HB1.out.size (by simp only [maxLen]; omega)); have HB2 := za.mk (vn HB1.out HB1.out.size 5 t0)))
 have hcv0 := za.mk hcv
 clear hcv
 go_loopg [6, 20] l.length (fun kq vb vi wr => ∃ (i : Nat) (xs : List Int), vi = .int .i64 i ∧ za (i + kq = l.length) ∧ za (qJ (xp.f) (l.drop i) xs = some (r1, r2)) ∧ za (xj wr w.heap.size 5 vb (xo .u8 xs)) ∧ za (Below w.heap.size w wr))
 case atStart => exact ⟨0, bytesOf t0, rfl, ⟨by simp⟩, ⟨by rw [List.drop_zero]; exact HL.out⟩, ⟨by rw [← qW]; exact HM1.out⟩, HB2⟩
 case round =>
  clear HB2 HM1
  obtain ⟨i, xs, rfl, HK, HO, HM, HB⟩ := hrel
  have hil : i ≤ l.length := by have := HK.out; omega
  by_cases hlt : i < l.length
  ·obtain ⟨ad, ea, hcell⟩ := Kd.at_string HR.out (i : Int) (by omega) (by omega)
   cases ea
   replace hcell := (HB.out.cell (Vy w _ hcell)).trans hcell
   rw [Int.toNat_natCast] at hcell
   obtain ⟨x, hx⟩ : ∃ x, x = xr ByteArray.empty l (i : Int) := ⟨_, rfl⟩
   rw [← hx] at hcell
   have ho := HO.out
   rw [List.drop_eq_getElem_cons hlt, qJ, Vx] at ho
   rw [XU l i hlt] at hx
   rw [← hx] at ho
   obtain ⟨⟨s, e2⟩, hs, ho⟩ := ho
   have HS := za.mk hs
   have HO2 := za.mk ho
   clear hs ho hx HO
   by_cases he : e2 = 0
   ·subst he
    have ho := HO2.out
    rw [if_pos rfl] at ho
    by_cases hfit : xs.length + s.size ≤ 140737488355328
    ·rw [if_pos hfit] at ho
     have HO3 := za.mk ho
     have HF := za.mk hfit
     clear ho HO2 hfit
     go_wp2_with (first
      | (go_at_call 86; refine (xp.calls x s 0 _ HS.out).mono ?_; rintro e w2 ⟨rfl, hb⟩; have HB3 := za.mk (Below.trans HB.out (hb.mono HB.out.size)); have HM3 := za.mk (HM.out.below hb); clear hb HB HM)
      | ((with_reducible refine zC (N := 35) rfl ?_); refine qT _ rfl (.tmp 33) (.tmp 34) 74 9 rfl w.heap.size 5 i0 Try.underlying74 Try.underlying9 hi hz0 hz1 hz2 _ (xo .u8 xs) rfl HM3.out s rfl (by rw [qD]; exact HF.out) HB3.out.size ?_; intro v1 w3 hm1 hg1; rw [Z2] at hm1; have HM4 := za.mk hm1; have HB4 := za.mk (HB3.out.grown hg1 HB3.out.size (fun k hk => HM3.out.base_le k hk)); clear hm1 hg1))
     go_roundg (l.length - (i + 1))
     case measure => have := HK.out; omega
     case rel => exact ⟨i + 1, xs ++ bytesOf s, by go_num, ⟨by omega⟩, HO3, HM4, HB4⟩
    ·rw [if_neg hfit] at ho
     cases ho
   ·have ho := HO2.out
    rw [if_neg he] at ho
    simp only [Option.some.injEq, Prod.mk.injEq] at ho
    obtain ⟨rfl, rfl⟩ := ho
    go_wp2_with (go_at_call 86; refine (xp.calls x s e2 _ HS.out).mono ?_; rintro e w2 ⟨rfl, hb⟩; have HB3 := za.mk (Below.trans HB.out (hb.mono HB.out.size)); clear hb)
    go_ret2
    exact ⟨rfl, HB3.out⟩
  ·obtain rfl : i = l.length := by omega
   have ho := HO.out
   rw [List.drop_length, qJ] at ho
   simp only [Option.some.injEq, Prod.mk.injEq] at ho
   obtain ⟨hs, rfl⟩ := ho
   have hcs := xj.to_string (P := Try.prog) Try.underlying74 Try.underlying5 Try.underlying9 HM.out
   rw [hs] at hcs
   clear hs
   go_wp2
   go_ret2
   exact ⟨rfl, HB.out⟩
def qb.f (l : List ByteArray) : Option (ByteArray × Int) :=
 if 256 < l.length then some (⟨#[]⟩, 4) else (yv.f (l.length : Int)).bind fun t => qJ xp.f l (bytesOf t)
set_option maxHeartbeats 1000000 in
theorem qb.calls (A : Option Addr) (c : Nat) (l : List ByteArray) (r1 : ByteArray) (r2 : Int) (w : World) (hr : Kd.C Kd.string w A l.length l) (hc : l.length ≤ c) (h : qb.f l = some (r1, r2)) :
  Calls Try.prog 61 #[.slice A l.length c] w fun e w' => e = .returned (.tuple #[.string r1, .int .i64 r2]) ∧ Below w.heap.size w w' := by
 have hbig : 256 < l.length → Calls Try.prog 98 #[.slice A l.length c, .func (Fn.func 86) #[] #[]] w fun e w' => e = .returned (.tuple #[.string ⟨#[]⟩, .int .i64 4]) ∧ Below w.heap.size w w' := by
  intro hb
  go_enter Try.func98, Try.ntmps98
  go_wp2
  go_ret2
  exact ⟨rfl, Below.refl _ _⟩
 have HC : za (Calls Try.prog 98 #[.slice A l.length c, .func (Fn.func 86) #[] #[]] w fun e w' => e = .returned (.tuple #[.string r1, .int .i64 r2]) ∧ Below w.heap.size w w') := by
  unfold qb.f at h
  by_cases hb : 256 < l.length
  ·rw [if_pos hb] at h
   simp only [Option.some.injEq, Prod.mk.injEq] at h
   obtain ⟨rfl, rfl⟩ := h
   exact ⟨hbig hb⟩
  ·rw [if_neg hb, Vx] at h
   obtain ⟨t, ht, h⟩ := h
   have hz : t.size ≤ 140737488351232 := by
    unfold yv.f at ht
    split at ht
    ·obtain rfl := Option.some.inj ht
     have := yk (l.length : Int)
     omega
    ·cases ht
   exact ⟨Qq 0 A c l t r1 r2 w hr hc (by omega) ht hz h⟩
 clear hbig h hr
 go_enter Try.func61, Try.ntmps61
 go_wp2_with (go_at_call 98; refine HC.out.mono ?_; rintro e w1 ⟨rfl, hb⟩; have HB := za.mk hb; clear hb)
 go_ret2
 exact ⟨rfl, HB.out⟩
def yi.f (a0 : Bool) (l1 : List Int) : Option (ByteArray × Int) := if a0 = true then (some (strOfNums l1, 0)) else (some ((⟨#[]⟩ : ByteArray), 2))
theorem yi.calls (a0 : Bool) (A1 : Option Addr) (c1 : Nat) (l1 : List Int) (r1 : ByteArray) (r2 : Int) (w : World) (hr1 : Kd.C (Kd.int .u8) w A1 l1.length l1) (hc1 : l1.length ≤ c1) (h : yi.f a0 l1 = some (r1, r2)) :
  Calls Try.prog 41 #[.bool a0, .slice A1 l1.length c1] w fun e w' => e = .returned (.tuple #[.string r1, .int .i64 r2]) ∧ zG w w' := by
 have HR1 := za.mk hr1
 have HC1 := za.mk hc1
 clear hr1 hc1
 have H : (if a0 = true then (some (strOfNums l1, 0)) else (some ((⟨#[]⟩ : ByteArray), 2))) = some (r1, r2) := h
 clear h
 by_cases c3 : a0 = true
 ·subst c3
  have H1 : (some (strOfNums l1, 0)) = some (r1, r2) := by rw [if_pos rfl] at H; exact H
  clear H
  have H := H1
  clear H1
  simp only [Option.some.injEq, Prod.mk.injEq] at H
  obtain ⟨rfl, rfl⟩ := H
  have hcv4 := Kd.C_string (P := Try.prog) (A := A1) (c := c1) Try.underlying74 Try.underlying5 Try.underlying9 HR1.out
  go_enter Try.func41, Try.ntmps41
  go_wp2
  go_ret2
  exact ⟨by first | rfl | (simp; done) | (simp [*]; done), by repeat (first | exact zG.refl _ | apply zG.step)⟩
 ·replace c3 := VA.mpr c3
  subst c3
  have H1 : (some ((⟨#[]⟩ : ByteArray), 2)) = some (r1, r2) := by rw [if_neg (show ¬ (false = true) by decide)] at H; exact H
  clear H
  have H := H1
  clear H1
  simp only [Option.some.injEq, Prod.mk.injEq] at H
  obtain ⟨rfl, rfl⟩ := H
  go_enter Try.func41, Try.ntmps41
  go_wp2
  go_ret2
  exact ⟨by first | rfl | (simp; done) | (simp [*]; done), by repeat (first | exact zG.refl _ | apply zG.step)⟩
theorem JW (w : World) (e : TypeId) (s : ByteArray) (hs : s.size ≤ maxLen) : Kd.C (Kd.int .u8) (Lib.bytesWorld w e s) (some ⟨w.heap.size, 0, none⟩) (bytesOf s).length (bytesOf s) := by
 have h := xj.of_bytes w 0 e s (Nat.zero_le _) hs
 refine ⟨rfl, by rw [xh]; simp only [maxLen] at hs; omega, fun _ => ⟨_, rfl, fun j p hj => ⟨[.int .u8 p], rfl, rfl, fun i u hu => ?_⟩⟩⟩
 have hi : i = 0 := by
  have := (List.getElem?_eq_some_iff.1 hu).1
  simp at this
  omega
 subst hi
 have hu2 : u = .int .u8 p := by simpa using hu.symm
 subst hu2
 refine h.cells (g := w.heap.size) rfl (j * 1 + 0) _ ?_
 rw [qW]
 simp [xo, hj]
def xN.f (k : Nat) (l : List ByteArray) : Option (ByteArray × Int) := (yG.f k l).bind fun c => (qb.f l).bind fun t => if t.1.size ≤ 140737488351232 then yi.f (c.2 == 0) (bytesOf t.1) else none
theorem xN.calls (k : Nat) (A : Option Addr) (c : Nat) (l : List ByteArray) (r1 : ByteArray) (r2 : Int) (w : World) (hr : Kd.C Kd.string w A l.length l) (hc : l.length ≤ c) (h : xN.f k l = some (r1, r2)) :
  Calls Try.prog 21 #[.slice A l.length c] w fun e w' => e = .returned (.tuple #[.string r1, .int .i64 r2]) ∧ Below w.heap.size w w' := by
 unfold xN.f at h
 rw [Vx] at h
 obtain ⟨⟨c1, c2⟩, h1, h⟩ := h
 rw [Vx] at h
 obtain ⟨⟨t1, t2⟩, h2, h⟩ := h
 dsimp only at h
 by_cases hz : t1.size ≤ 140737488351232
 ·rw [if_pos hz] at h
  have HX1 := za.mk h1
  have HX2 := za.mk h2
  have HX3 := za.mk h
  have HZ := za.mk (show t1.size ≤ maxLen by simp only [maxLen]; omega)
  have HR := za.mk hr
  have HC := za.mk hc
  have hcv := fun W : World => Lib.run_convert_string_bytes (P := Try.prog) W 9 74 5 t1 Try.underlying9 Try.underlying74 Try.underlying5
  clear h h1 h2 hr hc hz
  go_enter Try.func21, Try.ntmps21
  go_wp2_with (first | (go_at_call 60; (with_reducible refine (yG.calls k A c l c1 c2 _ HR.out HC.out HX1.out).mono ?_); rintro e w1 ⟨rfl, hb⟩; have HB1 := za.mk hb; clear hb) | (go_at_call 61; (with_reducible refine (qb.calls A c l t1 t2 _ (Kd.C_below HR.out HB1.out) HC.out HX2.out).mono ?_); rintro e w2 ⟨rfl, hb⟩; have HB2 := za.mk (zi HB1.out hb); have HB3 := za.mk (vn HB2.out HB2.out.size 5 t1); clear hb) | (go_at_call 41; refine Y1 (args' := #[.bool (c2 == 0), .slice (some ⟨w2.heap.size, 0, none⟩) (bytesOf t1).length (grownCap w2 t1.size 0 5)]) (by rw [xh]) ?_; (refine (yi.calls (c2 == 0) _ _ (bytesOf t1) r1 r2 _ (JW w2 5 t1 HZ.out) (by rw [xh]; exact grownCap_ge w2 t1.size 0 5) HX3.out).mono ?_); rintro e w3 ⟨rfl, ⟨nd, rfl⟩⟩))
  go_ret2
  exact ⟨rfl, by first | exact HB3.out | exact zb HB3.out _⟩
 ·rw [if_neg hz] at h
  cases h
def z7.l0 : Nat → List Int → List Int → Int → Option (Bool)
 | 0, _, _, _ => none
 | k + 1, x0, x1, x5 => if x5 < (x0.length : Int) then (if 0 ≤ x5 then (if x5 < (x1.length : Int) then (if (rd x0 x5) = (rd x1 x5) then (z7.l0 k x0 x1 (wrap64 (x5 + 1))) else (some false)) else (none)) else (none)) else (some true)
def z7.f (k : Nat) (l0 : List Int) (l1 : List Int) : Option (Bool) := if (l0.length : Int) = (l1.length : Int) then (z7.l0 k l0 l1 0) else (some false)
theorem z7.calls (k : Nat) (A0 : Option Addr) (c0 : Nat) (l0 : List Int) (A1 : Option Addr) (c1 : Nat) (l1 : List Int) (r : Bool) (w : World) (hr0 : Kd.C (Kd.int .i64) w A0 l0.length l0) (hc0 : l0.length ≤ c0) (hr1 : Kd.C (Kd.int .i64) w A1 l1.length l1) (hc1 : l1.length ≤ c1) (h : z7.f k l0 l1 = some r) :
  Calls Try.prog 79 #[.slice A0 l0.length c0, .slice A1 l1.length c1] w fun e w' => e = .returned (.bool r) ∧ zG w w' := by
 have HR0 := za.mk hr0
 have HC0 := za.mk hc0
 clear hr0 hc0
 have HR1 := za.mk hr1
 have HC1 := za.mk hc1
 clear hr1 hc1
 have H : (if (l0.length : Int) = (l1.length : Int) then (z7.l0 k l0 l1 0) else (some false)) = some r := h
 clear h
 by_cases c3 : (l0.length : Int) = (l1.length : Int)
 ·rw [if_pos c3] at H
  have c3b0 : ((l0.length : Int) == (l1.length : Int)) = true := beq_iff_eq.mpr c3
  have c3b1 : ((l0.length : Int) != (l1.length : Int)) = false := bne_eq_false_iff_eq.mpr c3
  have c3b2 : (l0.length == l1.length) = true := by first | simpa using c3 | (simp at c3 ⊢; omega)
  clear c3
  have H' := za.mk H
  clear H
  go_enter Try.func79, Try.ntmps79
  go_wp2
  repeat (go_quiet (fail); try go_wp2)
  go_loopg [5] k (fun kq v5 w' => ∃ (x5_1 : Int), v5 = .int .i64 x5_1 ∧ za (z7.l0 kq l0 l1 x5_1 = some r) ∧ za (kq ≤ k) ∧ zG w w')
  case atStart => exact ⟨(0), (by first | rfl | (simp; done) | (simp [*]; done)), H', ⟨Nat.le_refl _⟩, by repeat (first | exact zG.refl _ | apply zG.step)⟩
  case round =>
   clear H'
   try clear c1
   try clear p2
   try clear c3
   try clear c3b0
   try clear c3b1
   try clear c3b2
   obtain ⟨x5_1, rfl, HA, HK1, ⟨m1, rfl⟩⟩ := hrel
   cases gk with
   | zero => exact absurd HA.out (by simp [z7.l0])
   | succ k1 =>
    have H := HA.out
    clear HA
    simp only [z7.l0] at H
    by_cases c4 : x5_1 < (l0.length : Int)
    ·rw [if_pos c4] at H
     have c4b0 : decide (x5_1 < (l0.length : Int)) = true := decide_eq_true c4
     clear c4
     by_cases c5 : 0 ≤ x5_1
     ·rw [if_pos c5] at H
      have c5b0 : decide (0 ≤ x5_1) = true := decide_eq_true c5
      clear c5
      by_cases c6 : x5_1 < (l1.length : Int)
      ·rw [if_pos c6] at H
       have c6b0 : decide (x5_1 < (l1.length : Int)) = true := decide_eq_true c6
       clear c6
       by_cases c7 : (rd l0 x5_1) = (rd l1 x5_1)
       ·rw [if_pos c7] at H
        have c7b0 : ((rd l0 x5_1) == (rd l1 x5_1)) = true := beq_iff_eq.mpr c7
        have c7b1 : ((rd l0 x5_1) != (rd l1 x5_1)) = false := bne_eq_false_iff_eq.mpr c7
        clear c7
        have H' := za.mk H
        clear H
        have p612 : 0 ≤ (x5_1 : Int) := of_decide_eq_true (by first | (with_reducible assumption) | assumption)
        have q612 : x5_1 < (l0.length : Int) := of_decide_eq_true (by first | (with_reducible assumption) | assumption)
        obtain ⟨ad612, e612, hx612_0⟩ := Kd.at_int HR0.out x5_1 p612 q612
        cases e612
        replace p612 := eq_true p612
        replace q612 := eq_true q612
        have p613 : 0 ≤ (x5_1 : Int) := of_decide_eq_true (by first | (with_reducible assumption) | assumption)
        have q613 : x5_1 < (l1.length : Int) := of_decide_eq_true (by first | (with_reducible assumption) | assumption)
        obtain ⟨ad613, e613, hx613_0⟩ := Kd.at_int HR1.out x5_1 p613 q613
        cases e613
        replace p613 := eq_true p613
        replace q613 := eq_true q613
        go_wp2
        repeat (go_quiet (fail); try go_wp2)
        go_roundg k1
        case measure => have := HK1.out; omega
        case rel => exact ⟨(wrap64 (x5_1 + 1)), (by first | rfl | (simp; done) | (simp [*]; done)), H', ⟨by have := HK1.out; omega⟩, by repeat (first | exact zG.refl _ | apply zG.step)⟩
       ·rw [if_neg c7] at H
        have c7b0 : ((rd l0 x5_1) == (rd l1 x5_1)) = false := beq_eq_false_iff_ne.mpr c7
        have c7b1 : ((rd l0 x5_1) != (rd l1 x5_1)) = true := bne_iff_ne.mpr c7
        obtain rfl := Option.some.inj H
        have p612 : 0 ≤ (x5_1 : Int) := of_decide_eq_true (by first | (with_reducible assumption) | assumption)
        have q612 : x5_1 < (l0.length : Int) := of_decide_eq_true (by first | (with_reducible assumption) | assumption)
        obtain ⟨ad612, e612, hx612_0⟩ := Kd.at_int HR0.out x5_1 p612 q612
        cases e612
        replace p612 := eq_true p612
        replace q612 := eq_true q612
        have p613 : 0 ≤ (x5_1 : Int) := of_decide_eq_true (by first | (with_reducible assumption) | assumption)
        have q613 : x5_1 < (l1.length : Int) := of_decide_eq_true (by first | (with_reducible assumption) | assumption)
        obtain ⟨ad613, e613, hx613_0⟩ := Kd.at_int HR1.out x5_1 p613 q613
        cases e613
        replace p613 := eq_true p613
        replace q613 := eq_true q613
        go_wp2
        repeat (go_quiet (fail); try go_wp2)
        go_ret
        exact ⟨by first | rfl | (simp; done) | (simp [*]; done), by repeat (first | exact zG.refl _ | apply zG.step)⟩
      ·rw [if_neg c6] at H
       exact absurd H (by simp)
     ·rw [if_neg c5] at H
      exact absurd H (by simp)
    ·rw [if_neg c4] at H
     have c4b0 : decide (x5_1 < (l0.length : Int)) = false := decide_eq_false c4
     clear c4
     obtain rfl := Option.some.inj H
     go_wp2
     repeat (go_quiet (fail); try go_wp2)
     go_ret
     exact ⟨by first | rfl | (simp; done) | (simp [*]; done), by repeat (first | exact zG.refl _ | apply zG.step)⟩
 ·rw [if_neg c3] at H
  have c3b0 : ((l0.length : Int) == (l1.length : Int)) = false := beq_eq_false_iff_ne.mpr c3
  have c3b1 : ((l0.length : Int) != (l1.length : Int)) = true := bne_iff_ne.mpr c3
  have c3b2 : (l0.length == l1.length) = false := by first | simpa using c3 | (simp at c3 ⊢; omega)
  obtain rfl := Option.some.inj H
  go_enter Try.func79, Try.ntmps79
  go_wp2
  repeat (go_quiet (fail); try go_wp2)
  go_ret
  exact ⟨by first | rfl | (simp; done) | (simp [*]; done), by repeat (first | exact zG.refl _ | apply zG.step)⟩
def xt.f (k : Nat) (a0_0 : Int) (a0_1 : Int) (a0_2 : ByteArray) (a0_3 : Int) (l0_4 : List Int) (a0_5 : Int) (a1_0 : Int) (a1_1 : Int) (a1_2 : ByteArray) (a1_3 : Int) (l1_4 : List Int) (a1_5 : Int) : Option (Bool) := if a0_0 = a1_0 then (if a0_1 = a1_1 then (if a0_2.toList = a1_2.toList then (if a0_3 = a1_3 then ((z7.f k l0_4 l1_4).bind fun t616 => (if t616 = true then (some (a0_5 == a1_5)) else (some false))) else (some false)) else (some false)) else (some false)) else (some false)
theorem xt.calls (k : Nat) (a0_0 : Int) (a0_1 : Int) (a0_2 : ByteArray) (a0_3 : Int) (A0_4 : Option Addr) (c0_4 : Nat) (l0_4 : List Int) (a0_5 : Int) (a1_0 : Int) (a1_1 : Int) (a1_2 : ByteArray) (a1_3 : Int) (A1_4 : Option Addr) (c1_4 : Nat) (l1_4 : List Int) (a1_5 : Int) (r : Bool) (w : World) (hr0_4 : Kd.C (Kd.int .i64) w A0_4 l0_4.length l0_4) (hc0_4 : l0_4.length ≤ c0_4) (hr1_4 : Kd.C (Kd.int .i64) w A1_4 l1_4.length l1_4) (hc1_4 : l1_4.length ≤ c1_4) (h : xt.f k a0_0 a0_1 a0_2 a0_3 l0_4 a0_5 a1_0 a1_1 a1_2 a1_3 l1_4 a1_5 = some r) :
  Calls Try.prog 32 #[.agg #[.int .i64 a0_0, .int .i64 a0_1, .string a0_2, .int .i64 a0_3, .slice A0_4 l0_4.length c0_4, .int .i64 a0_5], .agg #[.int .i64 a1_0, .int .i64 a1_1, .string a1_2, .int .i64 a1_3, .slice A1_4 l1_4.length c1_4, .int .i64 a1_5]] w fun e w' => e = .returned (.bool r) ∧ Below w.heap.size w w' := by
 have hu24 := Try.underlying24
 have HR0_4 := za.mk hr0_4
 have HC0_4 := za.mk hc0_4
 clear hr0_4 hc0_4
 have HR1_4 := za.mk hr1_4
 have HC1_4 := za.mk hc1_4
 clear hr1_4 hc1_4
 have HB := za.mk (Below.refl w.heap.size w)
 have H : (if a0_0 = a1_0 then (if a0_1 = a1_1 then (if a0_2.toList = a1_2.toList then (if a0_3 = a1_3 then ((z7.f k l0_4 l1_4).bind fun t616 => (if t616 = true then (some (a0_5 == a1_5)) else (some false))) else (some false)) else (some false)) else (some false)) else (some false)) = some r := h
 clear h
 by_cases c3 : a0_0 = a1_0
 ·rw [if_pos c3] at H
  have c3b0 : (a0_0 == a1_0) = true := beq_iff_eq.mpr c3
  have c3b1 : (a0_0 != a1_0) = false := bne_eq_false_iff_eq.mpr c3
  clear c3
  by_cases c4 : a0_1 = a1_1
  ·rw [if_pos c4] at H
   have c4b0 : (a0_1 == a1_1) = true := beq_iff_eq.mpr c4
   have c4b1 : (a0_1 != a1_1) = false := bne_eq_false_iff_eq.mpr c4
   clear c4
   by_cases c5 : a0_2.toList = a1_2.toList
   ·rw [if_pos c5] at H
    have c5b0 : (a0_2.toList == a1_2.toList) = true := beq_iff_eq.mpr c5
    have c5b1 : (a0_2.toList != a1_2.toList) = false := bne_eq_false_iff_eq.mpr c5
    clear c5
    by_cases c6 : a0_3 = a1_3
    ·rw [if_pos c6] at H
     have c6b0 : (a0_3 == a1_3) = true := beq_iff_eq.mpr c6
     have c6b1 : (a0_3 != a1_3) = false := bne_eq_false_iff_eq.mpr c6
     clear c6
     replace H := Vx.mp H
     obtain ⟨t616, A70, H⟩ := H
     replace H : (if t616 = true then (some (a0_5 == a1_5)) else (some false)) = some r := H
     have A7 := za.mk A70
     clear A70
     by_cases c8 : t616 = true
     ·subst c8
      have H1 : (some (a0_5 == a1_5)) = some r := by rw [if_pos rfl] at H; exact H
      clear H
      have H := H1
      clear H1
      obtain rfl := Option.some.inj H
      go_enter Try.func32, Try.ntmps32
      go_wp2_with (first | ((with_reducible refine zC (N := 2) rfl ?_); refine zF ?hg (N := 2) ?hd (cs := #[.int .i64 a0_0, .int .i64 a0_1, .string a0_2, .int .i64 a0_3, .slice A0_4 l0_4.length c0_4, .int .i64 a0_5]) (t := 24) ?hr ?_; (case hd => rfl); (case hg => rfl); (case hr => first | (go_simp; done) | (go_simp; rfl)); intro gb614 hg w9 hbox hb; have n0_ := za.mk (zi (by repeat (first | (with_reducible first | exact HB.out | apply zc | apply zb | apply zd) | exact HB.out)) hb); have n1_ := za.mk (hbox); have n2_ := za.mk ((by rw [hg]; exact (zp (by repeat (first | (with_reducible first | exact HB.out | apply zc | apply zb | apply zd) | exact HB.out))) : w.heap.size ≤ gb614)); have n3_ := za.mk ((by rw [hg]; exact (zp (by repeat (first | (with_reducible first | exact HB.out | apply zc | apply zb | apply zd) | exact HB.out))) : w.heap.size ≤ gb614)); clear HB; have HB := n0_; have BK614 := n1_; have GW614 := n2_; have GE614 := n3_; clear n0_ n1_ n2_ n3_; clear hb hbox hg) | ((with_reducible refine zC (N := 3) rfl ?_); refine zF ?hg (N := 3) ?hd (cs := #[.int .i64 a1_0, .int .i64 a1_1, .string a1_2, .int .i64 a1_3, .slice A1_4 l1_4.length c1_4, .int .i64 a1_5]) (t := 24) ?hr ?_; (case hd => rfl); (case hg => rfl); (case hr => first | (go_simp; done) | (go_simp; rfl)); intro gb615 hg w10 hbox hb; have n0_ := za.mk (zH (g := gb614) (o := .cells #[.int .i64 a0_0, .int .i64 a0_1, .string a0_2, .int .i64 a0_3, .slice A0_4 l0_4.length c0_4, .int .i64 a0_5] 24 (0, 0)) (by (with_reducible repeat (first | refine zt ?_ _ | refine zu ?_ | refine zr ?_ _)); exact BK614.out) hb); have n1_ := za.mk (zi (by repeat (first | (with_reducible first | exact HB.out | apply zc | apply zb | apply zd | refine zh ?_ GE614.out) | exact HB.out)) hb); have n2_ := za.mk (hbox); have n3_ := za.mk ((by rw [hg]; exact (zp (by repeat (first | (with_reducible first | exact HB.out | apply zc | apply zb | apply zd | refine zh ?_ GE614.out) | exact HB.out))) : w.heap.size ≤ gb615)); have n4_ := za.mk ((by rw [hg]; exact (zp (by repeat (first | (with_reducible first | exact HB.out | apply zc | apply zb | apply zd | refine zh ?_ GE614.out) | exact HB.out))) : w.heap.size ≤ gb615)); have n5_ := za.mk ((by rw [hg]; exact Nat.ne_of_lt (yq (g := gb614) (o := .cells #[.int .i64 a0_0, .int .i64 a0_1, .string a0_2, .int .i64 a0_3, .slice A0_4 l0_4.length c0_4, .int .i64 a0_5] 24 (0, 0)) (by (with_reducible repeat (first | refine zt ?_ _ | refine zu ?_ | refine zr ?_ _)); exact BK614.out)) : gb614 ≠ gb615)); have n6_ := za.mk ((by rw [hg]; exact Nat.ne_of_gt (yq (g := gb614) (o := .cells #[.int .i64 a0_0, .int .i64 a0_1, .string a0_2, .int .i64 a0_3, .slice A0_4 l0_4.length c0_4, .int .i64 a0_5] 24 (0, 0)) (by (with_reducible repeat (first | refine zt ?_ _ | refine zu ?_ | refine zr ?_ _)); exact BK614.out)) : gb615 ≠ gb614)); clear BK614; clear HB; have BK614 := n0_; have HB := n1_; have BK615 := n2_; have GW615 := n3_; have GE615 := n4_; have NB614_615 := n5_; have NB615_614 := n6_; clear n0_ n1_ n2_ n3_ n4_ n5_ n6_; clear hb hbox hg; have hnb11 := NB614_615.out; have hnc11 := NB615_614.out; have hcz12_0 : w10.cell? ⟨gb614, 0, none⟩ = some (.int .i64 a0_0) := (zg BK614.out 0).trans rfl; have hcz12_1 : w10.cell? ⟨gb614, 1, none⟩ = some (.int .i64 a0_1) := (zg BK614.out 1).trans rfl; have hcz12_2 : w10.cell? ⟨gb614, 2, none⟩ = some (.string a0_2) := (zg BK614.out 2).trans rfl; have hcz12_3 : w10.cell? ⟨gb614, 3, none⟩ = some (.int .i64 a0_3) := (zg BK614.out 3).trans rfl; have hcz12_4 : w10.cell? ⟨gb614, 4, none⟩ = some (.slice A0_4 l0_4.length c0_4) := (zg BK614.out 4).trans rfl; have hcz12_5 : w10.cell? ⟨gb614, 5, none⟩ = some (.int .i64 a0_5) := (zg BK614.out 5).trans rfl; have hfz12_0 := ze BK614.out 0; have hfz12_1 := ze BK614.out 1; have hfz12_2 := ze BK614.out 2; have hfz12_3 := ze BK614.out 3; have hfz12_4 := ze BK614.out 4; have hfz12_5 := ze BK614.out 5; have hcz13_0 : w10.cell? ⟨gb615, 0, none⟩ = some (.int .i64 a1_0) := (zg BK615.out 0).trans rfl; have hcz13_1 : w10.cell? ⟨gb615, 1, none⟩ = some (.int .i64 a1_1) := (zg BK615.out 1).trans rfl; have hcz13_2 : w10.cell? ⟨gb615, 2, none⟩ = some (.string a1_2) := (zg BK615.out 2).trans rfl; have hcz13_3 : w10.cell? ⟨gb615, 3, none⟩ = some (.int .i64 a1_3) := (zg BK615.out 3).trans rfl; have hcz13_4 : w10.cell? ⟨gb615, 4, none⟩ = some (.slice A1_4 l1_4.length c1_4) := (zg BK615.out 4).trans rfl; have hcz13_5 : w10.cell? ⟨gb615, 5, none⟩ = some (.int .i64 a1_5) := (zg BK615.out 5).trans rfl; have hfz13_0 := ze BK615.out 0; have hfz13_1 := ze BK615.out 1; have hfz13_2 := ze BK615.out 2; have hfz13_3 := ze BK615.out 3; have hfz13_4 := ze BK615.out 4; have hfz13_5 := ze BK615.out 5) | (go_at_call 79; (with_reducible refine (z7.calls k _ _ l0_4 _ _ l1_4 true _ ?side1 ?side2 ?side3 ?side4 A7.out).mono ?_); (case side1 => repeat (first | exact (Kd.C_below HR0_4.out HB.out) | (with_reducible refine Kd.C_alloc ?_ _) | (with_reducible refine Kd.C_drewN ?_ _) | (with_reducible refine Kd.C_drew ?_))); (case side2 => exact HC0_4.out); (case side3 => repeat (first | exact (Kd.C_below HR1_4.out HB.out) | (with_reducible refine Kd.C_alloc ?_ _) | (with_reducible refine Kd.C_drewN ?_ _) | (with_reducible refine Kd.C_drew ?_))); (case side4 => exact HC1_4.out); rintro e w' ⟨rfl, ⟨nd, rfl⟩⟩))
      go_ret
      exact ⟨by first | rfl | (simp [zn, zo] <;> rfl) | (simp [*, zn, zo] <;> rfl), by repeat (first | (with_reducible first | exact HB.out | apply zc | apply zb | apply zd | refine zh ?_ GE614.out | refine zh ?_ GE615.out) | exact HB.out)⟩
     ·replace c8 := VA.mpr c8
      subst c8
      have H1 : (some false) = some r := by rw [if_neg (show ¬ (false = true) by decide)] at H; exact H
      clear H
      have H := H1
      clear H1
      obtain rfl := Option.some.inj H
      go_enter Try.func32, Try.ntmps32
      go_wp2_with (first | ((with_reducible refine zC (N := 2) rfl ?_); refine zF ?hg (N := 2) ?hd (cs := #[.int .i64 a0_0, .int .i64 a0_1, .string a0_2, .int .i64 a0_3, .slice A0_4 l0_4.length c0_4, .int .i64 a0_5]) (t := 24) ?hr ?_; (case hd => rfl); (case hg => rfl); (case hr => first | (go_simp; done) | (go_simp; rfl)); intro gb614 hg w14 hbox hb; have n0_ := za.mk (zi (by repeat (first | (with_reducible first | exact HB.out | apply zc | apply zb | apply zd) | exact HB.out)) hb); have n1_ := za.mk (hbox); have n2_ := za.mk ((by rw [hg]; exact (zp (by repeat (first | (with_reducible first | exact HB.out | apply zc | apply zb | apply zd) | exact HB.out))) : w.heap.size ≤ gb614)); have n3_ := za.mk ((by rw [hg]; exact (zp (by repeat (first | (with_reducible first | exact HB.out | apply zc | apply zb | apply zd) | exact HB.out))) : w.heap.size ≤ gb614)); clear HB; have HB := n0_; have BK614 := n1_; have GW614 := n2_; have GE614 := n3_; clear n0_ n1_ n2_ n3_; clear hb hbox hg) | ((with_reducible refine zC (N := 3) rfl ?_); refine zF ?hg (N := 3) ?hd (cs := #[.int .i64 a1_0, .int .i64 a1_1, .string a1_2, .int .i64 a1_3, .slice A1_4 l1_4.length c1_4, .int .i64 a1_5]) (t := 24) ?hr ?_; (case hd => rfl); (case hg => rfl); (case hr => first | (go_simp; done) | (go_simp; rfl)); intro gb615 hg w15 hbox hb; have n0_ := za.mk (zH (g := gb614) (o := .cells #[.int .i64 a0_0, .int .i64 a0_1, .string a0_2, .int .i64 a0_3, .slice A0_4 l0_4.length c0_4, .int .i64 a0_5] 24 (0, 0)) (by (with_reducible repeat (first | refine zt ?_ _ | refine zu ?_ | refine zr ?_ _)); exact BK614.out) hb); have n1_ := za.mk (zi (by repeat (first | (with_reducible first | exact HB.out | apply zc | apply zb | apply zd | refine zh ?_ GE614.out) | exact HB.out)) hb); have n2_ := za.mk (hbox); have n3_ := za.mk ((by rw [hg]; exact (zp (by repeat (first | (with_reducible first | exact HB.out | apply zc | apply zb | apply zd | refine zh ?_ GE614.out) | exact HB.out))) : w.heap.size ≤ gb615)); have n4_ := za.mk ((by rw [hg]; exact (zp (by repeat (first | (with_reducible first | exact HB.out | apply zc | apply zb | apply zd | refine zh ?_ GE614.out) | exact HB.out))) : w.heap.size ≤ gb615)); have n5_ := za.mk ((by rw [hg]; exact Nat.ne_of_lt (yq (g := gb614) (o := .cells #[.int .i64 a0_0, .int .i64 a0_1, .string a0_2, .int .i64 a0_3, .slice A0_4 l0_4.length c0_4, .int .i64 a0_5] 24 (0, 0)) (by (with_reducible repeat (first | refine zt ?_ _ | refine zu ?_ | refine zr ?_ _)); exact BK614.out)) : gb614 ≠ gb615)); have n6_ := za.mk ((by rw [hg]; exact Nat.ne_of_gt (yq (g := gb614) (o := .cells #[.int .i64 a0_0, .int .i64 a0_1, .string a0_2, .int .i64 a0_3, .slice A0_4 l0_4.length c0_4, .int .i64 a0_5] 24 (0, 0)) (by (with_reducible repeat (first | refine zt ?_ _ | refine zu ?_ | refine zr ?_ _)); exact BK614.out)) : gb615 ≠ gb614)); clear BK614; clear HB; have BK614 := n0_; have HB := n1_; have BK615 := n2_; have GW615 := n3_; have GE615 := n4_; have NB614_615 := n5_; have NB615_614 := n6_; clear n0_ n1_ n2_ n3_ n4_ n5_ n6_; clear hb hbox hg; have hnb16 := NB614_615.out; have hnc16 := NB615_614.out; have hcz17_0 : w15.cell? ⟨gb614, 0, none⟩ = some (.int .i64 a0_0) := (zg BK614.out 0).trans rfl; have hcz17_1 : w15.cell? ⟨gb614, 1, none⟩ = some (.int .i64 a0_1) := (zg BK614.out 1).trans rfl; have hcz17_2 : w15.cell? ⟨gb614, 2, none⟩ = some (.string a0_2) := (zg BK614.out 2).trans rfl; have hcz17_3 : w15.cell? ⟨gb614, 3, none⟩ = some (.int .i64 a0_3) := (zg BK614.out 3).trans rfl; have hcz17_4 : w15.cell? ⟨gb614, 4, none⟩ = some (.slice A0_4 l0_4.length c0_4) := (zg BK614.out 4).trans rfl; have hcz17_5 : w15.cell? ⟨gb614, 5, none⟩ = some (.int .i64 a0_5) := (zg BK614.out 5).trans rfl; have hfz17_0 := ze BK614.out 0; have hfz17_1 := ze BK614.out 1; have hfz17_2 := ze BK614.out 2; have hfz17_3 := ze BK614.out 3; have hfz17_4 := ze BK614.out 4; have hfz17_5 := ze BK614.out 5; have hcz18_0 : w15.cell? ⟨gb615, 0, none⟩ = some (.int .i64 a1_0) := (zg BK615.out 0).trans rfl; have hcz18_1 : w15.cell? ⟨gb615, 1, none⟩ = some (.int .i64 a1_1) := (zg BK615.out 1).trans rfl; have hcz18_2 : w15.cell? ⟨gb615, 2, none⟩ = some (.string a1_2) := (zg BK615.out 2).trans rfl; have hcz18_3 : w15.cell? ⟨gb615, 3, none⟩ = some (.int .i64 a1_3) := (zg BK615.out 3).trans rfl; have hcz18_4 : w15.cell? ⟨gb615, 4, none⟩ = some (.slice A1_4 l1_4.length c1_4) := (zg BK615.out 4).trans rfl; have hcz18_5 : w15.cell? ⟨gb615, 5, none⟩ = some (.int .i64 a1_5) := (zg BK615.out 5).trans rfl; have hfz18_0 := ze BK615.out 0; have hfz18_1 := ze BK615.out 1; have hfz18_2 := ze BK615.out 2; have hfz18_3 := ze BK615.out 3; have hfz18_4 := ze BK615.out 4; have hfz18_5 := ze BK615.out 5) | (go_at_call 79; (with_reducible refine (z7.calls k _ _ l0_4 _ _ l1_4 false _ ?side1 ?side2 ?side3 ?side4 A7.out).mono ?_); (case side1 => repeat (first | exact (Kd.C_below HR0_4.out HB.out) | (with_reducible refine Kd.C_alloc ?_ _) | (with_reducible refine Kd.C_drewN ?_ _) | (with_reducible refine Kd.C_drew ?_))); (case side2 => exact HC0_4.out); (case side3 => repeat (first | exact (Kd.C_below HR1_4.out HB.out) | (with_reducible refine Kd.C_alloc ?_ _) | (with_reducible refine Kd.C_drewN ?_ _) | (with_reducible refine Kd.C_drew ?_))); (case side4 => exact HC1_4.out); rintro e w' ⟨rfl, ⟨nd, rfl⟩⟩))
      go_ret
      exact ⟨by first | rfl | (simp [zn, zo] <;> rfl) | (simp [*, zn, zo] <;> rfl), by repeat (first | (with_reducible first | exact HB.out | apply zc | apply zb | apply zd | refine zh ?_ GE614.out | refine zh ?_ GE615.out) | exact HB.out)⟩
    ·rw [if_neg c6] at H
     have c6b0 : (a0_3 == a1_3) = false := beq_eq_false_iff_ne.mpr c6
     have c6b1 : (a0_3 != a1_3) = true := bne_iff_ne.mpr c6
     obtain rfl := Option.some.inj H
     go_enter Try.func32, Try.ntmps32
     go_wp2_with (first | ((with_reducible refine zC (N := 2) rfl ?_); refine zF ?hg (N := 2) ?hd (cs := #[.int .i64 a0_0, .int .i64 a0_1, .string a0_2, .int .i64 a0_3, .slice A0_4 l0_4.length c0_4, .int .i64 a0_5]) (t := 24) ?hr ?_; (case hd => rfl); (case hg => rfl); (case hr => first | (go_simp; done) | (go_simp; rfl)); intro gb614 hg w19 hbox hb; have n0_ := za.mk (zi (by repeat (first | (with_reducible first | exact HB.out | apply zc | apply zb | apply zd) | exact HB.out)) hb); have n1_ := za.mk (hbox); have n2_ := za.mk ((by rw [hg]; exact (zp (by repeat (first | (with_reducible first | exact HB.out | apply zc | apply zb | apply zd) | exact HB.out))) : w.heap.size ≤ gb614)); have n3_ := za.mk ((by rw [hg]; exact (zp (by repeat (first | (with_reducible first | exact HB.out | apply zc | apply zb | apply zd) | exact HB.out))) : w.heap.size ≤ gb614)); clear HB; have HB := n0_; have BK614 := n1_; have GW614 := n2_; have GE614 := n3_; clear n0_ n1_ n2_ n3_; clear hb hbox hg) | ((with_reducible refine zC (N := 3) rfl ?_); refine zF ?hg (N := 3) ?hd (cs := #[.int .i64 a1_0, .int .i64 a1_1, .string a1_2, .int .i64 a1_3, .slice A1_4 l1_4.length c1_4, .int .i64 a1_5]) (t := 24) ?hr ?_; (case hd => rfl); (case hg => rfl); (case hr => first | (go_simp; done) | (go_simp; rfl)); intro gb615 hg w20 hbox hb; have n0_ := za.mk (zH (g := gb614) (o := .cells #[.int .i64 a0_0, .int .i64 a0_1, .string a0_2, .int .i64 a0_3, .slice A0_4 l0_4.length c0_4, .int .i64 a0_5] 24 (0, 0)) (by (with_reducible repeat (first | refine zt ?_ _ | refine zu ?_ | refine zr ?_ _)); exact BK614.out) hb); have n1_ := za.mk (zi (by repeat (first | (with_reducible first | exact HB.out | apply zc | apply zb | apply zd | refine zh ?_ GE614.out) | exact HB.out)) hb); have n2_ := za.mk (hbox); have n3_ := za.mk ((by rw [hg]; exact (zp (by repeat (first | (with_reducible first | exact HB.out | apply zc | apply zb | apply zd | refine zh ?_ GE614.out) | exact HB.out))) : w.heap.size ≤ gb615)); have n4_ := za.mk ((by rw [hg]; exact (zp (by repeat (first | (with_reducible first | exact HB.out | apply zc | apply zb | apply zd | refine zh ?_ GE614.out) | exact HB.out))) : w.heap.size ≤ gb615)); have n5_ := za.mk ((by rw [hg]; exact Nat.ne_of_lt (yq (g := gb614) (o := .cells #[.int .i64 a0_0, .int .i64 a0_1, .string a0_2, .int .i64 a0_3, .slice A0_4 l0_4.length c0_4, .int .i64 a0_5] 24 (0, 0)) (by (with_reducible repeat (first | refine zt ?_ _ | refine zu ?_ | refine zr ?_ _)); exact BK614.out)) : gb614 ≠ gb615)); have n6_ := za.mk ((by rw [hg]; exact Nat.ne_of_gt (yq (g := gb614) (o := .cells #[.int .i64 a0_0, .int .i64 a0_1, .string a0_2, .int .i64 a0_3, .slice A0_4 l0_4.length c0_4, .int .i64 a0_5] 24 (0, 0)) (by (with_reducible repeat (first | refine zt ?_ _ | refine zu ?_ | refine zr ?_ _)); exact BK614.out)) : gb615 ≠ gb614)); clear BK614; clear HB; have BK614 := n0_; have HB := n1_; have BK615 := n2_; have GW615 := n3_; have GE615 := n4_; have NB614_615 := n5_; have NB615_614 := n6_; clear n0_ n1_ n2_ n3_ n4_ n5_ n6_; clear hb hbox hg; have hnb21 := NB614_615.out; have hnc21 := NB615_614.out; have hcz22_0 : w20.cell? ⟨gb614, 0, none⟩ = some (.int .i64 a0_0) := (zg BK614.out 0).trans rfl; have hcz22_1 : w20.cell? ⟨gb614, 1, none⟩ = some (.int .i64 a0_1) := (zg BK614.out 1).trans rfl; have hcz22_2 : w20.cell? ⟨gb614, 2, none⟩ = some (.string a0_2) := (zg BK614.out 2).trans rfl; have hcz22_3 : w20.cell? ⟨gb614, 3, none⟩ = some (.int .i64 a0_3) := (zg BK614.out 3).trans rfl; have hcz22_4 : w20.cell? ⟨gb614, 4, none⟩ = some (.slice A0_4 l0_4.length c0_4) := (zg BK614.out 4).trans rfl; have hcz22_5 : w20.cell? ⟨gb614, 5, none⟩ = some (.int .i64 a0_5) := (zg BK614.out 5).trans rfl; have hfz22_0 := ze BK614.out 0; have hfz22_1 := ze BK614.out 1; have hfz22_2 := ze BK614.out 2; have hfz22_3 := ze BK614.out 3; have hfz22_4 := ze BK614.out 4; have hfz22_5 := ze BK614.out 5; have hcz23_0 : w20.cell? ⟨gb615, 0, none⟩ = some (.int .i64 a1_0) := (zg BK615.out 0).trans rfl; have hcz23_1 : w20.cell? ⟨gb615, 1, none⟩ = some (.int .i64 a1_1) := (zg BK615.out 1).trans rfl; have hcz23_2 : w20.cell? ⟨gb615, 2, none⟩ = some (.string a1_2) := (zg BK615.out 2).trans rfl; have hcz23_3 : w20.cell? ⟨gb615, 3, none⟩ = some (.int .i64 a1_3) := (zg BK615.out 3).trans rfl; have hcz23_4 : w20.cell? ⟨gb615, 4, none⟩ = some (.slice A1_4 l1_4.length c1_4) := (zg BK615.out 4).trans rfl; have hcz23_5 : w20.cell? ⟨gb615, 5, none⟩ = some (.int .i64 a1_5) := (zg BK615.out 5).trans rfl; have hfz23_0 := ze BK615.out 0; have hfz23_1 := ze BK615.out 1; have hfz23_2 := ze BK615.out 2; have hfz23_3 := ze BK615.out 3; have hfz23_4 := ze BK615.out 4; have hfz23_5 := ze BK615.out 5))
     go_ret
     exact ⟨by first | rfl | (simp [zn, zo] <;> rfl) | (simp [*, zn, zo] <;> rfl), by repeat (first | (with_reducible first | exact HB.out | apply zc | apply zb | apply zd | refine zh ?_ GE614.out | refine zh ?_ GE615.out) | exact HB.out)⟩
   ·rw [if_neg c5] at H
    have c5b0 : (a0_2.toList == a1_2.toList) = false := beq_eq_false_iff_ne.mpr c5
    have c5b1 : (a0_2.toList != a1_2.toList) = true := bne_iff_ne.mpr c5
    obtain rfl := Option.some.inj H
    go_enter Try.func32, Try.ntmps32
    go_wp2_with (first | ((with_reducible refine zC (N := 2) rfl ?_); refine zF ?hg (N := 2) ?hd (cs := #[.int .i64 a0_0, .int .i64 a0_1, .string a0_2, .int .i64 a0_3, .slice A0_4 l0_4.length c0_4, .int .i64 a0_5]) (t := 24) ?hr ?_; (case hd => rfl); (case hg => rfl); (case hr => first | (go_simp; done) | (go_simp; rfl)); intro gb614 hg w24 hbox hb; have n0_ := za.mk (zi (by repeat (first | (with_reducible first | exact HB.out | apply zc | apply zb | apply zd) | exact HB.out)) hb); have n1_ := za.mk (hbox); have n2_ := za.mk ((by rw [hg]; exact (zp (by repeat (first | (with_reducible first | exact HB.out | apply zc | apply zb | apply zd) | exact HB.out))) : w.heap.size ≤ gb614)); have n3_ := za.mk ((by rw [hg]; exact (zp (by repeat (first | (with_reducible first | exact HB.out | apply zc | apply zb | apply zd) | exact HB.out))) : w.heap.size ≤ gb614)); clear HB; have HB := n0_; have BK614 := n1_; have GW614 := n2_; have GE614 := n3_; clear n0_ n1_ n2_ n3_; clear hb hbox hg) | ((with_reducible refine zC (N := 3) rfl ?_); refine zF ?hg (N := 3) ?hd (cs := #[.int .i64 a1_0, .int .i64 a1_1, .string a1_2, .int .i64 a1_3, .slice A1_4 l1_4.length c1_4, .int .i64 a1_5]) (t := 24) ?hr ?_; (case hd => rfl); (case hg => rfl); (case hr => first | (go_simp; done) | (go_simp; rfl)); intro gb615 hg w25 hbox hb; have n0_ := za.mk (zH (g := gb614) (o := .cells #[.int .i64 a0_0, .int .i64 a0_1, .string a0_2, .int .i64 a0_3, .slice A0_4 l0_4.length c0_4, .int .i64 a0_5] 24 (0, 0)) (by (with_reducible repeat (first | refine zt ?_ _ | refine zu ?_ | refine zr ?_ _)); exact BK614.out) hb); have n1_ := za.mk (zi (by repeat (first | (with_reducible first | exact HB.out | apply zc | apply zb | apply zd | refine zh ?_ GE614.out) | exact HB.out)) hb); have n2_ := za.mk (hbox); have n3_ := za.mk ((by rw [hg]; exact (zp (by repeat (first | (with_reducible first | exact HB.out | apply zc | apply zb | apply zd | refine zh ?_ GE614.out) | exact HB.out))) : w.heap.size ≤ gb615)); have n4_ := za.mk ((by rw [hg]; exact (zp (by repeat (first | (with_reducible first | exact HB.out | apply zc | apply zb | apply zd | refine zh ?_ GE614.out) | exact HB.out))) : w.heap.size ≤ gb615)); have n5_ := za.mk ((by rw [hg]; exact Nat.ne_of_lt (yq (g := gb614) (o := .cells #[.int .i64 a0_0, .int .i64 a0_1, .string a0_2, .int .i64 a0_3, .slice A0_4 l0_4.length c0_4, .int .i64 a0_5] 24 (0, 0)) (by (with_reducible repeat (first | refine zt ?_ _ | refine zu ?_ | refine zr ?_ _)); exact BK614.out)) : gb614 ≠ gb615)); have n6_ := za.mk ((by rw [hg]; exact Nat.ne_of_gt (yq (g := gb614) (o := .cells #[.int .i64 a0_0, .int .i64 a0_1, .string a0_2, .int .i64 a0_3, .slice A0_4 l0_4.length c0_4, .int .i64 a0_5] 24 (0, 0)) (by (with_reducible repeat (first | refine zt ?_ _ | refine zu ?_ | refine zr ?_ _)); exact BK614.out)) : gb615 ≠ gb614)); clear BK614; clear HB; have BK614 := n0_; have HB := n1_; have BK615 := n2_; have GW615 := n3_; have GE615 := n4_; have NB614_615 := n5_; have NB615_614 := n6_; clear n0_ n1_ n2_ n3_ n4_ n5_ n6_; clear hb hbox hg; have hnb26 := NB614_615.out; have hnc26 := NB615_614.out; have hcz27_0 : w25.cell? ⟨gb614, 0, none⟩ = some (.int .i64 a0_0) := (zg BK614.out 0).trans rfl; have hcz27_1 : w25.cell? ⟨gb614, 1, none⟩ = some (.int .i64 a0_1) := (zg BK614.out 1).trans rfl; have hcz27_2 : w25.cell? ⟨gb614, 2, none⟩ = some (.string a0_2) := (zg BK614.out 2).trans rfl; have hcz27_3 : w25.cell? ⟨gb614, 3, none⟩ = some (.int .i64 a0_3) := (zg BK614.out 3).trans rfl; have hcz27_4 : w25.cell? ⟨gb614, 4, none⟩ = some (.slice A0_4 l0_4.length c0_4) := (zg BK614.out 4).trans rfl; have hcz27_5 : w25.cell? ⟨gb614, 5, none⟩ = some (.int .i64 a0_5) := (zg BK614.out 5).trans rfl; have hfz27_0 := ze BK614.out 0; have hfz27_1 := ze BK614.out 1; have hfz27_2 := ze BK614.out 2; have hfz27_3 := ze BK614.out 3; have hfz27_4 := ze BK614.out 4; have hfz27_5 := ze BK614.out 5; have hcz28_0 : w25.cell? ⟨gb615, 0, none⟩ = some (.int .i64 a1_0) := (zg BK615.out 0).trans rfl; have hcz28_1 : w25.cell? ⟨gb615, 1, none⟩ = some (.int .i64 a1_1) := (zg BK615.out 1).trans rfl; have hcz28_2 : w25.cell? ⟨gb615, 2, none⟩ = some (.string a1_2) := (zg BK615.out 2).trans rfl; have hcz28_3 : w25.cell? ⟨gb615, 3, none⟩ = some (.int .i64 a1_3) := (zg BK615.out 3).trans rfl; have hcz28_4 : w25.cell? ⟨gb615, 4, none⟩ = some (.slice A1_4 l1_4.length c1_4) := (zg BK615.out 4).trans rfl; have hcz28_5 : w25.cell? ⟨gb615, 5, none⟩ = some (.int .i64 a1_5) := (zg BK615.out 5).trans rfl; have hfz28_0 := ze BK615.out 0; have hfz28_1 := ze BK615.out 1; have hfz28_2 := ze BK615.out 2; have hfz28_3 := ze BK615.out 3; have hfz28_4 := ze BK615.out 4; have hfz28_5 := ze BK615.out 5))
    go_ret
    exact ⟨by first | rfl | (simp [zn, zo] <;> rfl) | (simp [*, zn, zo] <;> rfl), by repeat (first | (with_reducible first | exact HB.out | apply zc | apply zb | apply zd | refine zh ?_ GE614.out | refine zh ?_ GE615.out) | exact HB.out)⟩
  ·rw [if_neg c4] at H
   have c4b0 : (a0_1 == a1_1) = false := beq_eq_false_iff_ne.mpr c4
   have c4b1 : (a0_1 != a1_1) = true := bne_iff_ne.mpr c4
   obtain rfl := Option.some.inj H
   go_enter Try.func32, Try.ntmps32
   go_wp2_with (first | ((with_reducible refine zC (N := 2) rfl ?_); refine zF ?hg (N := 2) ?hd (cs := #[.int .i64 a0_0, .int .i64 a0_1, .string a0_2, .int .i64 a0_3, .slice A0_4 l0_4.length c0_4, .int .i64 a0_5]) (t := 24) ?hr ?_; (case hd => rfl); (case hg => rfl); (case hr => first | (go_simp; done) | (go_simp; rfl)); intro gb614 hg w29 hbox hb; have n0_ := za.mk (zi (by repeat (first | (with_reducible first | exact HB.out | apply zc | apply zb | apply zd) | exact HB.out)) hb); have n1_ := za.mk (hbox); have n2_ := za.mk ((by rw [hg]; exact (zp (by repeat (first | (with_reducible first | exact HB.out | apply zc | apply zb | apply zd) | exact HB.out))) : w.heap.size ≤ gb614)); have n3_ := za.mk ((by rw [hg]; exact (zp (by repeat (first | (with_reducible first | exact HB.out | apply zc | apply zb | apply zd) | exact HB.out))) : w.heap.size ≤ gb614)); clear HB; have HB := n0_; have BK614 := n1_; have GW614 := n2_; have GE614 := n3_; clear n0_ n1_ n2_ n3_; clear hb hbox hg) | ((with_reducible refine zC (N := 3) rfl ?_); refine zF ?hg (N := 3) ?hd (cs := #[.int .i64 a1_0, .int .i64 a1_1, .string a1_2, .int .i64 a1_3, .slice A1_4 l1_4.length c1_4, .int .i64 a1_5]) (t := 24) ?hr ?_; (case hd => rfl); (case hg => rfl); (case hr => first | (go_simp; done) | (go_simp; rfl)); intro gb615 hg w30 hbox hb; have n0_ := za.mk (zH (g := gb614) (o := .cells #[.int .i64 a0_0, .int .i64 a0_1, .string a0_2, .int .i64 a0_3, .slice A0_4 l0_4.length c0_4, .int .i64 a0_5] 24 (0, 0)) (by (with_reducible repeat (first | refine zt ?_ _ | refine zu ?_ | refine zr ?_ _)); exact BK614.out) hb); have n1_ := za.mk (zi (by repeat (first | (with_reducible first | exact HB.out | apply zc | apply zb | apply zd | refine zh ?_ GE614.out) | exact HB.out)) hb); have n2_ := za.mk (hbox); have n3_ := za.mk ((by rw [hg]; exact (zp (by repeat (first | (with_reducible first | exact HB.out | apply zc | apply zb | apply zd | refine zh ?_ GE614.out) | exact HB.out))) : w.heap.size ≤ gb615)); have n4_ := za.mk ((by rw [hg]; exact (zp (by repeat (first | (with_reducible first | exact HB.out | apply zc | apply zb | apply zd | refine zh ?_ GE614.out) | exact HB.out))) : w.heap.size ≤ gb615)); have n5_ := za.mk ((by rw [hg]; exact Nat.ne_of_lt (yq (g := gb614) (o := .cells #[.int .i64 a0_0, .int .i64 a0_1, .string a0_2, .int .i64 a0_3, .slice A0_4 l0_4.length c0_4, .int .i64 a0_5] 24 (0, 0)) (by (with_reducible repeat (first | refine zt ?_ _ | refine zu ?_ | refine zr ?_ _)); exact BK614.out)) : gb614 ≠ gb615)); have n6_ := za.mk ((by rw [hg]; exact Nat.ne_of_gt (yq (g := gb614) (o := .cells #[.int .i64 a0_0, .int .i64 a0_1, .string a0_2, .int .i64 a0_3, .slice A0_4 l0_4.length c0_4, .int .i64 a0_5] 24 (0, 0)) (by (with_reducible repeat (first | refine zt ?_ _ | refine zu ?_ | refine zr ?_ _)); exact BK614.out)) : gb615 ≠ gb614)); clear BK614; clear HB; have BK614 := n0_; have HB := n1_; have BK615 := n2_; have GW615 := n3_; have GE615 := n4_; have NB614_615 := n5_; have NB615_614 := n6_; clear n0_ n1_ n2_ n3_ n4_ n5_ n6_; clear hb hbox hg; have hnb31 := NB614_615.out; have hnc31 := NB615_614.out; have hcz32_0 : w30.cell? ⟨gb614, 0, none⟩ = some (.int .i64 a0_0) := (zg BK614.out 0).trans rfl; have hcz32_1 : w30.cell? ⟨gb614, 1, none⟩ = some (.int .i64 a0_1) := (zg BK614.out 1).trans rfl; have hcz32_2 : w30.cell? ⟨gb614, 2, none⟩ = some (.string a0_2) := (zg BK614.out 2).trans rfl; have hcz32_3 : w30.cell? ⟨gb614, 3, none⟩ = some (.int .i64 a0_3) := (zg BK614.out 3).trans rfl; have hcz32_4 : w30.cell? ⟨gb614, 4, none⟩ = some (.slice A0_4 l0_4.length c0_4) := (zg BK614.out 4).trans rfl; have hcz32_5 : w30.cell? ⟨gb614, 5, none⟩ = some (.int .i64 a0_5) := (zg BK614.out 5).trans rfl; have hfz32_0 := ze BK614.out 0; have hfz32_1 := ze BK614.out 1; have hfz32_2 := ze BK614.out 2; have hfz32_3 := ze BK614.out 3; have hfz32_4 := ze BK614.out 4; have hfz32_5 := ze BK614.out 5; have hcz33_0 : w30.cell? ⟨gb615, 0, none⟩ = some (.int .i64 a1_0) := (zg BK615.out 0).trans rfl; have hcz33_1 : w30.cell? ⟨gb615, 1, none⟩ = some (.int .i64 a1_1) := (zg BK615.out 1).trans rfl; have hcz33_2 : w30.cell? ⟨gb615, 2, none⟩ = some (.string a1_2) := (zg BK615.out 2).trans rfl; have hcz33_3 : w30.cell? ⟨gb615, 3, none⟩ = some (.int .i64 a1_3) := (zg BK615.out 3).trans rfl; have hcz33_4 : w30.cell? ⟨gb615, 4, none⟩ = some (.slice A1_4 l1_4.length c1_4) := (zg BK615.out 4).trans rfl; have hcz33_5 : w30.cell? ⟨gb615, 5, none⟩ = some (.int .i64 a1_5) := (zg BK615.out 5).trans rfl; have hfz33_0 := ze BK615.out 0; have hfz33_1 := ze BK615.out 1; have hfz33_2 := ze BK615.out 2; have hfz33_3 := ze BK615.out 3; have hfz33_4 := ze BK615.out 4; have hfz33_5 := ze BK615.out 5))
   go_ret
   exact ⟨by first | rfl | (simp [zn, zo] <;> rfl) | (simp [*, zn, zo] <;> rfl), by repeat (first | (with_reducible first | exact HB.out | apply zc | apply zb | apply zd | refine zh ?_ GE614.out | refine zh ?_ GE615.out) | exact HB.out)⟩
 ·rw [if_neg c3] at H
  have c3b0 : (a0_0 == a1_0) = false := beq_eq_false_iff_ne.mpr c3
  have c3b1 : (a0_0 != a1_0) = true := bne_iff_ne.mpr c3
  obtain rfl := Option.some.inj H
  go_enter Try.func32, Try.ntmps32
  go_wp2_with (first | ((with_reducible refine zC (N := 2) rfl ?_); refine zF ?hg (N := 2) ?hd (cs := #[.int .i64 a0_0, .int .i64 a0_1, .string a0_2, .int .i64 a0_3, .slice A0_4 l0_4.length c0_4, .int .i64 a0_5]) (t := 24) ?hr ?_; (case hd => rfl); (case hg => rfl); (case hr => first | (go_simp; done) | (go_simp; rfl)); intro gb614 hg w34 hbox hb; have n0_ := za.mk (zi (by repeat (first | (with_reducible first | exact HB.out | apply zc | apply zb | apply zd) | exact HB.out)) hb); have n1_ := za.mk (hbox); have n2_ := za.mk ((by rw [hg]; exact (zp (by repeat (first | (with_reducible first | exact HB.out | apply zc | apply zb | apply zd) | exact HB.out))) : w.heap.size ≤ gb614)); have n3_ := za.mk ((by rw [hg]; exact (zp (by repeat (first | (with_reducible first | exact HB.out | apply zc | apply zb | apply zd) | exact HB.out))) : w.heap.size ≤ gb614)); clear HB; have HB := n0_; have BK614 := n1_; have GW614 := n2_; have GE614 := n3_; clear n0_ n1_ n2_ n3_; clear hb hbox hg) | ((with_reducible refine zC (N := 3) rfl ?_); refine zF ?hg (N := 3) ?hd (cs := #[.int .i64 a1_0, .int .i64 a1_1, .string a1_2, .int .i64 a1_3, .slice A1_4 l1_4.length c1_4, .int .i64 a1_5]) (t := 24) ?hr ?_; (case hd => rfl); (case hg => rfl); (case hr => first | (go_simp; done) | (go_simp; rfl)); intro gb615 hg w35 hbox hb; have n0_ := za.mk (zH (g := gb614) (o := .cells #[.int .i64 a0_0, .int .i64 a0_1, .string a0_2, .int .i64 a0_3, .slice A0_4 l0_4.length c0_4, .int .i64 a0_5] 24 (0, 0)) (by (with_reducible repeat (first | refine zt ?_ _ | refine zu ?_ | refine zr ?_ _)); exact BK614.out) hb); have n1_ := za.mk (zi (by repeat (first | (with_reducible first | exact HB.out | apply zc | apply zb | apply zd | refine zh ?_ GE614.out) | exact HB.out)) hb); have n2_ := za.mk (hbox); have n3_ := za.mk ((by rw [hg]; exact (zp (by repeat (first | (with_reducible first | exact HB.out | apply zc | apply zb | apply zd | refine zh ?_ GE614.out) | exact HB.out))) : w.heap.size ≤ gb615)); have n4_ := za.mk ((by rw [hg]; exact (zp (by repeat (first | (with_reducible first | exact HB.out | apply zc | apply zb | apply zd | refine zh ?_ GE614.out) | exact HB.out))) : w.heap.size ≤ gb615)); have n5_ := za.mk ((by rw [hg]; exact Nat.ne_of_lt (yq (g := gb614) (o := .cells #[.int .i64 a0_0, .int .i64 a0_1, .string a0_2, .int .i64 a0_3, .slice A0_4 l0_4.length c0_4, .int .i64 a0_5] 24 (0, 0)) (by (with_reducible repeat (first | refine zt ?_ _ | refine zu ?_ | refine zr ?_ _)); exact BK614.out)) : gb614 ≠ gb615)); have n6_ := za.mk ((by rw [hg]; exact Nat.ne_of_gt (yq (g := gb614) (o := .cells #[.int .i64 a0_0, .int .i64 a0_1, .string a0_2, .int .i64 a0_3, .slice A0_4 l0_4.length c0_4, .int .i64 a0_5] 24 (0, 0)) (by (with_reducible repeat (first | refine zt ?_ _ | refine zu ?_ | refine zr ?_ _)); exact BK614.out)) : gb615 ≠ gb614)); clear BK614; clear HB; have BK614 := n0_; have HB := n1_; have BK615 := n2_; have GW615 := n3_; have GE615 := n4_; have NB614_615 := n5_; have NB615_614 := n6_; clear n0_ n1_ n2_ n3_ n4_ n5_ n6_; clear hb hbox hg; have hnb36 := NB614_615.out; have hnc36 := NB615_614.out; have hcz37_0 : w35.cell? ⟨gb614, 0, none⟩ = some (.int .i64 a0_0) := (zg BK614.out 0).trans rfl; have hcz37_1 : w35.cell? ⟨gb614, 1, none⟩ = some (.int .i64 a0_1) := (zg BK614.out 1).trans rfl; have hcz37_2 : w35.cell? ⟨gb614, 2, none⟩ = some (.string a0_2) := (zg BK614.out 2).trans rfl; have hcz37_3 : w35.cell? ⟨gb614, 3, none⟩ = some (.int .i64 a0_3) := (zg BK614.out 3).trans rfl; have hcz37_4 : w35.cell? ⟨gb614, 4, none⟩ = some (.slice A0_4 l0_4.length c0_4) := (zg BK614.out 4).trans rfl; have hcz37_5 : w35.cell? ⟨gb614, 5, none⟩ = some (.int .i64 a0_5) := (zg BK614.out 5).trans rfl; have hfz37_0 := ze BK614.out 0; have hfz37_1 := ze BK614.out 1; have hfz37_2 := ze BK614.out 2; have hfz37_3 := ze BK614.out 3; have hfz37_4 := ze BK614.out 4; have hfz37_5 := ze BK614.out 5; have hcz38_0 : w35.cell? ⟨gb615, 0, none⟩ = some (.int .i64 a1_0) := (zg BK615.out 0).trans rfl; have hcz38_1 : w35.cell? ⟨gb615, 1, none⟩ = some (.int .i64 a1_1) := (zg BK615.out 1).trans rfl; have hcz38_2 : w35.cell? ⟨gb615, 2, none⟩ = some (.string a1_2) := (zg BK615.out 2).trans rfl; have hcz38_3 : w35.cell? ⟨gb615, 3, none⟩ = some (.int .i64 a1_3) := (zg BK615.out 3).trans rfl; have hcz38_4 : w35.cell? ⟨gb615, 4, none⟩ = some (.slice A1_4 l1_4.length c1_4) := (zg BK615.out 4).trans rfl; have hcz38_5 : w35.cell? ⟨gb615, 5, none⟩ = some (.int .i64 a1_5) := (zg BK615.out 5).trans rfl; have hfz38_0 := ze BK615.out 0; have hfz38_1 := ze BK615.out 1; have hfz38_2 := ze BK615.out 2; have hfz38_3 := ze BK615.out 3; have hfz38_4 := ze BK615.out 4; have hfz38_5 := ze BK615.out 5))
  go_ret
  exact ⟨by first | rfl | (simp [zn, zo] <;> rfl) | (simp [*, zn, zo] <;> rfl), by repeat (first | (with_reducible first | exact HB.out | apply zc | apply zb | apply zd | refine zh ?_ GE614.out | refine zh ?_ GE615.out) | exact HB.out)⟩
def ym.l0 : Nat → List (S81) → List (S81) → Int → Option (Bool)
 | 0, _, _, _ => none
 | k + 1, x0, x1, x5 => if x5 < (x0.length : Int) then (if 0 ≤ x5 then (if x5 < (x1.length : Int) then (if ((yx x0 x5).f0) = ((yx x1 x5).f0) then ((z7.f k ((yx x0 x5).f1) ((yx x1 x5).f1)).bind fun t621 => (if t621 = true then (ym.l0 k x0 x1 (wrap64 (x5 + 1))) else (some false))) else (some false)) else (none)) else (none)) else (some true)
def ym.f (k : Nat) (l0 : List (S81)) (l1 : List (S81)) : Option (Bool) := if (l0.length : Int) = (l1.length : Int) then (ym.l0 k l0 l1 0) else (some false)
theorem ym.calls (k : Nat) (A0 : Option Addr) (c0 : Nat) (l0 : List (S81)) (A1 : Option Addr) (c1 : Nat) (l1 : List (S81)) (r : Bool) (w : World) (hr0 : Kd.C k81 w A0 l0.length l0) (hc0 : l0.length ≤ c0) (hr1 : Kd.C k81 w A1 l1.length l1) (hc1 : l1.length ≤ c1) (h : ym.f k l0 l1 = some r) :
  Calls Try.prog 80 #[.slice A0 l0.length c0, .slice A1 l1.length c1] w fun e w' => e = .returned (.bool r) ∧ zG w w' := by
 have HR0 := za.mk hr0
 have HC0 := za.mk hc0
 clear hr0 hc0
 have HR1 := za.mk hr1
 have HC1 := za.mk hc1
 clear hr1 hc1
 have H : (if (l0.length : Int) = (l1.length : Int) then (ym.l0 k l0 l1 0) else (some false)) = some r := h
 clear h
 by_cases c3 : (l0.length : Int) = (l1.length : Int)
 ·rw [if_pos c3] at H
  have c3b0 : ((l0.length : Int) == (l1.length : Int)) = true := beq_iff_eq.mpr c3
  have c3b1 : ((l0.length : Int) != (l1.length : Int)) = false := bne_eq_false_iff_eq.mpr c3
  have c3b2 : (l0.length == l1.length) = true := by first | simpa using c3 | (simp at c3 ⊢; omega)
  clear c3
  have H' := za.mk H
  clear H
  go_enter Try.func80, Try.ntmps80
  go_wp2
  repeat (go_quiet (fail); try go_wp2)
  go_loopg [5] k (fun kq v5 w' => ∃ (x5_1 : Int), v5 = .int .i64 x5_1 ∧ za (ym.l0 kq l0 l1 x5_1 = some r) ∧ za (kq ≤ k) ∧ zG w w')
  case atStart => exact ⟨(0), (by first | rfl | (simp; done) | (simp [*]; done)), H', ⟨Nat.le_refl _⟩, by repeat (first | exact zG.refl _ | apply zG.step)⟩
  case round =>
   clear H'
   try clear c1
   try clear p2
   try clear c3
   try clear c3b0
   try clear c3b1
   try clear c3b2
   obtain ⟨x5_1, rfl, HA, HK1, ⟨m1, rfl⟩⟩ := hrel
   cases gk with
   | zero => exact absurd HA.out (by simp [ym.l0])
   | succ k1 =>
    have H := HA.out
    clear HA
    simp only [ym.l0] at H
    by_cases c4 : x5_1 < (l0.length : Int)
    ·rw [if_pos c4] at H
     have c4b0 : decide (x5_1 < (l0.length : Int)) = true := decide_eq_true c4
     clear c4
     by_cases c5 : 0 ≤ x5_1
     ·rw [if_pos c5] at H
      have c5b0 : decide (0 ≤ x5_1) = true := decide_eq_true c5
      clear c5
      by_cases c6 : x5_1 < (l1.length : Int)
      ·rw [if_pos c6] at H
       have c6b0 : decide (x5_1 < (l1.length : Int)) = true := decide_eq_true c6
       clear c6
       by_cases c7 : ((yx l0 x5_1).f0) = ((yx l1 x5_1).f0)
       ·rw [if_pos c7] at H
        have c7b0 : (((yx l0 x5_1).f0) == ((yx l1 x5_1).f0)) = true := beq_iff_eq.mpr c7
        have c7b1 : (((yx l0 x5_1).f0) != ((yx l1 x5_1).f0)) = false := bne_eq_false_iff_eq.mpr c7
        clear c7
        replace H := Vx.mp H
        obtain ⟨t621, A80, H⟩ := H
        replace H : (if t621 = true then (ym.l0 k1 l0 l1 (wrap64 (x5_1 + 1))) else (some false)) = some r := H
        have A8 := za.mk A80
        clear A80
        by_cases c9 : t621 = true
        ·subst c9
         have H1 : (ym.l0 k1 l0 l1 (wrap64 (x5_1 + 1))) = some r := by rw [if_pos rfl] at H; exact H
         clear H
         have H := H1
         clear H1
         have H' := za.mk H
         clear H
         have p617 : 0 ≤ (x5_1 : Int) := of_decide_eq_true (by first | (with_reducible assumption) | assumption)
         have q617 : x5_1 < (l0.length : Int) := of_decide_eq_true (by first | (with_reducible assumption) | assumption)
         obtain ⟨ad617, A617_1, c617_1, e617, hx617_0, hx617_1, hl617_1, hi617_1⟩ := ql HR0.out x5_1 p617 q617
         cases e617
         have HR617_1 := za.mk hi617_1
         have HC617_1 := za.mk hl617_1
         clear hi617_1 hl617_1
         replace p617 := eq_true p617
         replace q617 := eq_true q617
         have p618 : 0 ≤ (x5_1 : Int) := of_decide_eq_true (by first | (with_reducible assumption) | assumption)
         have q618 : x5_1 < (l1.length : Int) := of_decide_eq_true (by first | (with_reducible assumption) | assumption)
         obtain ⟨ad618, A618_1, c618_1, e618, hx618_0, hx618_1, hl618_1, hi618_1⟩ := ql HR1.out x5_1 p618 q618
         cases e618
         have HR618_1 := za.mk hi618_1
         have HC618_1 := za.mk hl618_1
         clear hi618_1 hl618_1
         replace p618 := eq_true p618
         replace q618 := eq_true q618
         have p619 : 0 ≤ (x5_1 : Int) := of_decide_eq_true (by first | (with_reducible assumption) | assumption)
         have q619 : x5_1 < (l0.length : Int) := of_decide_eq_true (by first | (with_reducible assumption) | assumption)
         obtain ⟨ad619, A619_1, c619_1, e619, hx619_0, hx619_1, hl619_1, hi619_1⟩ := ql HR0.out x5_1 p619 q619
         obtain rfl : ad617 = ad619 := (by injection e619)
         have HR619_1 := za.mk hi619_1
         have HC619_1 := za.mk hl619_1
         clear hi619_1 hl619_1
         replace p619 := eq_true p619
         replace q619 := eq_true q619
         have ea_ := Option.some.inj (hx617_1.symm.trans hx619_1)
         injection ea_ with ea_ en_ ec_
         subst ea_
         subst ec_
         clear en_
         have p620 : 0 ≤ (x5_1 : Int) := of_decide_eq_true (by first | (with_reducible assumption) | assumption)
         have q620 : x5_1 < (l1.length : Int) := of_decide_eq_true (by first | (with_reducible assumption) | assumption)
         obtain ⟨ad620, A620_1, c620_1, e620, hx620_0, hx620_1, hl620_1, hi620_1⟩ := ql HR1.out x5_1 p620 q620
         obtain rfl : ad618 = ad620 := (by injection e620)
         have HR620_1 := za.mk hi620_1
         have HC620_1 := za.mk hl620_1
         clear hi620_1 hl620_1
         replace p620 := eq_true p620
         replace q620 := eq_true q620
         have ea_ := Option.some.inj (hx618_1.symm.trans hx620_1)
         injection ea_ with ea_ en_ ec_
         subst ea_
         subst ec_
         clear en_
         go_wp2_with (first | (go_at_call 79; (with_reducible refine (z7.calls k1 _ _ ((yx l0 x5_1).f1) _ _ ((yx l1 x5_1).f1) true _ ?side1 ?side2 ?side3 ?side4 A8.out).mono ?_); (case side1 => repeat (first | exact HR619_1.out | (with_reducible refine Kd.C_alloc ?_ _) | (with_reducible refine Kd.C_drewN ?_ _) | (with_reducible refine Kd.C_drew ?_))); (case side2 => exact HC619_1.out); (case side3 => repeat (first | exact HR620_1.out | (with_reducible refine Kd.C_alloc ?_ _) | (with_reducible refine Kd.C_drewN ?_ _) | (with_reducible refine Kd.C_drew ?_))); (case side4 => exact HC620_1.out); rintro e w' ⟨rfl, ⟨nd, rfl⟩⟩; (try first | exact ⟨rfl, _, World.drewN_drewN _ _ _⟩ | exact ⟨rfl, _, Eq.trans (World.drewN_drewN _ _ _) (congrArg (World.drewN _) (Nat.add_assoc _ _ _))⟩)))
         repeat (go_quiet (first | (go_at_call 79; (with_reducible refine (z7.calls k1 _ _ ((yx l0 x5_1).f1) _ _ ((yx l1 x5_1).f1) true _ ?side1 ?side2 ?side3 ?side4 A8.out).mono ?_); (case side1 => repeat (first | exact HR619_1.out | (with_reducible refine Kd.C_alloc ?_ _) | (with_reducible refine Kd.C_drewN ?_ _) | (with_reducible refine Kd.C_drew ?_))); (case side2 => exact HC619_1.out); (case side3 => repeat (first | exact HR620_1.out | (with_reducible refine Kd.C_alloc ?_ _) | (with_reducible refine Kd.C_drewN ?_ _) | (with_reducible refine Kd.C_drew ?_))); (case side4 => exact HC620_1.out); rintro e w' ⟨rfl, ⟨nd, rfl⟩⟩; (try first | exact ⟨rfl, _, World.drewN_drewN _ _ _⟩ | exact ⟨rfl, _, Eq.trans (World.drewN_drewN _ _ _) (congrArg (World.drewN _) (Nat.add_assoc _ _ _))⟩))); try go_wp2_with (first | (go_at_call 79; (with_reducible refine (z7.calls k1 _ _ ((yx l0 x5_1).f1) _ _ ((yx l1 x5_1).f1) true _ ?side1 ?side2 ?side3 ?side4 A8.out).mono ?_); (case side1 => repeat (first | exact HR619_1.out | (with_reducible refine Kd.C_alloc ?_ _) | (with_reducible refine Kd.C_drewN ?_ _) | (with_reducible refine Kd.C_drew ?_))); (case side2 => exact HC619_1.out); (case side3 => repeat (first | exact HR620_1.out | (with_reducible refine Kd.C_alloc ?_ _) | (with_reducible refine Kd.C_drewN ?_ _) | (with_reducible refine Kd.C_drew ?_))); (case side4 => exact HC620_1.out); rintro e w' ⟨rfl, ⟨nd, rfl⟩⟩; (try first | exact ⟨rfl, _, World.drewN_drewN _ _ _⟩ | exact ⟨rfl, _, Eq.trans (World.drewN_drewN _ _ _) (congrArg (World.drewN _) (Nat.add_assoc _ _ _))⟩))))
         go_roundg k1
         case measure => have := HK1.out; omega
         case rel => exact ⟨(wrap64 (x5_1 + 1)), (by first | rfl | (simp; done) | (simp [*]; done)), H', ⟨by have := HK1.out; omega⟩, by repeat (first | exact zG.refl _ | apply zG.step)⟩
        ·replace c9 := VA.mpr c9
         subst c9
         have H1 : (some false) = some r := by rw [if_neg (show ¬ (false = true) by decide)] at H; exact H
         clear H
         have H := H1
         clear H1
         obtain rfl := Option.some.inj H
         have p617 : 0 ≤ (x5_1 : Int) := of_decide_eq_true (by first | (with_reducible assumption) | assumption)
         have q617 : x5_1 < (l0.length : Int) := of_decide_eq_true (by first | (with_reducible assumption) | assumption)
         obtain ⟨ad617, A617_1, c617_1, e617, hx617_0, hx617_1, hl617_1, hi617_1⟩ := ql HR0.out x5_1 p617 q617
         cases e617
         have HR617_1 := za.mk hi617_1
         have HC617_1 := za.mk hl617_1
         clear hi617_1 hl617_1
         replace p617 := eq_true p617
         replace q617 := eq_true q617
         have p618 : 0 ≤ (x5_1 : Int) := of_decide_eq_true (by first | (with_reducible assumption) | assumption)
         have q618 : x5_1 < (l1.length : Int) := of_decide_eq_true (by first | (with_reducible assumption) | assumption)
         obtain ⟨ad618, A618_1, c618_1, e618, hx618_0, hx618_1, hl618_1, hi618_1⟩ := ql HR1.out x5_1 p618 q618
         cases e618
         have HR618_1 := za.mk hi618_1
         have HC618_1 := za.mk hl618_1
         clear hi618_1 hl618_1
         replace p618 := eq_true p618
         replace q618 := eq_true q618
         have p619 : 0 ≤ (x5_1 : Int) := of_decide_eq_true (by first | (with_reducible assumption) | assumption)
         have q619 : x5_1 < (l0.length : Int) := of_decide_eq_true (by first | (with_reducible assumption) | assumption)
         obtain ⟨ad619, A619_1, c619_1, e619, hx619_0, hx619_1, hl619_1, hi619_1⟩ := ql HR0.out x5_1 p619 q619
         obtain rfl : ad617 = ad619 := (by injection e619)
         have HR619_1 := za.mk hi619_1
         have HC619_1 := za.mk hl619_1
         clear hi619_1 hl619_1
         replace p619 := eq_true p619
         replace q619 := eq_true q619
         have ea_ := Option.some.inj (hx617_1.symm.trans hx619_1)
         injection ea_ with ea_ en_ ec_
         subst ea_
         subst ec_
         clear en_
         have p620 : 0 ≤ (x5_1 : Int) := of_decide_eq_true (by first | (with_reducible assumption) | assumption)
         have q620 : x5_1 < (l1.length : Int) := of_decide_eq_true (by first | (with_reducible assumption) | assumption)
         obtain ⟨ad620, A620_1, c620_1, e620, hx620_0, hx620_1, hl620_1, hi620_1⟩ := ql HR1.out x5_1 p620 q620
         obtain rfl : ad618 = ad620 := (by injection e620)
         have HR620_1 := za.mk hi620_1
         have HC620_1 := za.mk hl620_1
         clear hi620_1 hl620_1
         replace p620 := eq_true p620
         replace q620 := eq_true q620
         have ea_ := Option.some.inj (hx618_1.symm.trans hx620_1)
         injection ea_ with ea_ en_ ec_
         subst ea_
         subst ec_
         clear en_
         go_wp2_with (first | (go_at_call 79; (with_reducible refine (z7.calls k1 _ _ ((yx l0 x5_1).f1) _ _ ((yx l1 x5_1).f1) false _ ?side1 ?side2 ?side3 ?side4 A8.out).mono ?_); (case side1 => repeat (first | exact HR619_1.out | (with_reducible refine Kd.C_alloc ?_ _) | (with_reducible refine Kd.C_drewN ?_ _) | (with_reducible refine Kd.C_drew ?_))); (case side2 => exact HC619_1.out); (case side3 => repeat (first | exact HR620_1.out | (with_reducible refine Kd.C_alloc ?_ _) | (with_reducible refine Kd.C_drewN ?_ _) | (with_reducible refine Kd.C_drew ?_))); (case side4 => exact HC620_1.out); rintro e w' ⟨rfl, ⟨nd, rfl⟩⟩; (try first | exact ⟨rfl, _, World.drewN_drewN _ _ _⟩ | exact ⟨rfl, _, Eq.trans (World.drewN_drewN _ _ _) (congrArg (World.drewN _) (Nat.add_assoc _ _ _))⟩)))
         repeat (go_quiet (first | (go_at_call 79; (with_reducible refine (z7.calls k1 _ _ ((yx l0 x5_1).f1) _ _ ((yx l1 x5_1).f1) false _ ?side1 ?side2 ?side3 ?side4 A8.out).mono ?_); (case side1 => repeat (first | exact HR619_1.out | (with_reducible refine Kd.C_alloc ?_ _) | (with_reducible refine Kd.C_drewN ?_ _) | (with_reducible refine Kd.C_drew ?_))); (case side2 => exact HC619_1.out); (case side3 => repeat (first | exact HR620_1.out | (with_reducible refine Kd.C_alloc ?_ _) | (with_reducible refine Kd.C_drewN ?_ _) | (with_reducible refine Kd.C_drew ?_))); (case side4 => exact HC620_1.out); rintro e w' ⟨rfl, ⟨nd, rfl⟩⟩; (try first | exact ⟨rfl, _, World.drewN_drewN _ _ _⟩ | exact ⟨rfl, _, Eq.trans (World.drewN_drewN _ _ _) (congrArg (World.drewN _) (Nat.add_assoc _ _ _))⟩))); try go_wp2_with (first | (go_at_call 79; (with_reducible refine (z7.calls k1 _ _ ((yx l0 x5_1).f1) _ _ ((yx l1 x5_1).f1) false _ ?side1 ?side2 ?side3 ?side4 A8.out).mono ?_); (case side1 => repeat (first | exact HR619_1.out | (with_reducible refine Kd.C_alloc ?_ _) | (with_reducible refine Kd.C_drewN ?_ _) | (with_reducible refine Kd.C_drew ?_))); (case side2 => exact HC619_1.out); (case side3 => repeat (first | exact HR620_1.out | (with_reducible refine Kd.C_alloc ?_ _) | (with_reducible refine Kd.C_drewN ?_ _) | (with_reducible refine Kd.C_drew ?_))); (case side4 => exact HC620_1.out); rintro e w' ⟨rfl, ⟨nd, rfl⟩⟩; (try first | exact ⟨rfl, _, World.drewN_drewN _ _ _⟩ | exact ⟨rfl, _, Eq.trans (World.drewN_drewN _ _ _) (congrArg (World.drewN _) (Nat.add_assoc _ _ _))⟩))))
         go_ret
         exact ⟨by first | rfl | (simp; done) | (simp [*]; done), by repeat (first | exact zG.refl _ | apply zG.step)⟩
       ·rw [if_neg c7] at H
        have c7b0 : (((yx l0 x5_1).f0) == ((yx l1 x5_1).f0)) = false := beq_eq_false_iff_ne.mpr c7
        have c7b1 : (((yx l0 x5_1).f0) != ((yx l1 x5_1).f0)) = true := bne_iff_ne.mpr c7
        obtain rfl := Option.some.inj H
        have p617 : 0 ≤ (x5_1 : Int) := of_decide_eq_true (by first | (with_reducible assumption) | assumption)
        have q617 : x5_1 < (l0.length : Int) := of_decide_eq_true (by first | (with_reducible assumption) | assumption)
        obtain ⟨ad617, A617_1, c617_1, e617, hx617_0, hx617_1, hl617_1, hi617_1⟩ := ql HR0.out x5_1 p617 q617
        cases e617
        have HR617_1 := za.mk hi617_1
        have HC617_1 := za.mk hl617_1
        clear hi617_1 hl617_1
        replace p617 := eq_true p617
        replace q617 := eq_true q617
        have p618 : 0 ≤ (x5_1 : Int) := of_decide_eq_true (by first | (with_reducible assumption) | assumption)
        have q618 : x5_1 < (l1.length : Int) := of_decide_eq_true (by first | (with_reducible assumption) | assumption)
        obtain ⟨ad618, A618_1, c618_1, e618, hx618_0, hx618_1, hl618_1, hi618_1⟩ := ql HR1.out x5_1 p618 q618
        cases e618
        have HR618_1 := za.mk hi618_1
        have HC618_1 := za.mk hl618_1
        clear hi618_1 hl618_1
        replace p618 := eq_true p618
        replace q618 := eq_true q618
        go_wp2
        repeat (go_quiet (fail); try go_wp2)
        go_ret
        exact ⟨by first | rfl | (simp; done) | (simp [*]; done), by repeat (first | exact zG.refl _ | apply zG.step)⟩
      ·rw [if_neg c6] at H
       exact absurd H (by simp)
     ·rw [if_neg c5] at H
      exact absurd H (by simp)
    ·rw [if_neg c4] at H
     have c4b0 : decide (x5_1 < (l0.length : Int)) = false := decide_eq_false c4
     clear c4
     obtain rfl := Option.some.inj H
     go_wp2
     repeat (go_quiet (fail); try go_wp2)
     go_ret
     exact ⟨by first | rfl | (simp; done) | (simp [*]; done), by repeat (first | exact zG.refl _ | apply zG.step)⟩
 ·rw [if_neg c3] at H
  have c3b0 : ((l0.length : Int) == (l1.length : Int)) = false := beq_eq_false_iff_ne.mpr c3
  have c3b1 : ((l0.length : Int) != (l1.length : Int)) = true := bne_iff_ne.mpr c3
  have c3b2 : (l0.length == l1.length) = false := by first | simpa using c3 | (simp at c3 ⊢; omega)
  obtain rfl := Option.some.inj H
  go_enter Try.func80, Try.ntmps80
  go_wp2
  repeat (go_quiet (fail); try go_wp2)
  go_ret
  exact ⟨by first | rfl | (simp; done) | (simp [*]; done), by repeat (first | exact zG.refl _ | apply zG.step)⟩
def xd.f (k : Nat) (a0_0 : Int) (a0_1 : Int) (a0_2 : ByteArray) (a0_3 : Int) (l0_4 : List (S81)) (a1_0 : Int) (a1_1 : Int) (a1_2 : ByteArray) (a1_3 : Int) (l1_4 : List (S81)) : Option (Bool) := if a0_0 = a1_0 then (if a0_1 = a1_1 then (if a0_2.toList = a1_2.toList then (if a0_3 = a1_3 then ((ym.f k l0_4 l1_4).bind fun t624 => (some t624)) else (some false)) else (some false)) else (some false)) else (some false)
theorem xd.calls (k : Nat) (a0_0 : Int) (a0_1 : Int) (a0_2 : ByteArray) (a0_3 : Int) (A0_4 : Option Addr) (c0_4 : Nat) (l0_4 : List (S81)) (a1_0 : Int) (a1_1 : Int) (a1_2 : ByteArray) (a1_3 : Int) (A1_4 : Option Addr) (c1_4 : Nat) (l1_4 : List (S81)) (r : Bool) (w : World) (hr0_4 : Kd.C k81 w A0_4 l0_4.length l0_4) (hc0_4 : l0_4.length ≤ c0_4) (hr1_4 : Kd.C k81 w A1_4 l1_4.length l1_4) (hc1_4 : l1_4.length ≤ c1_4) (h : xd.f k a0_0 a0_1 a0_2 a0_3 l0_4 a1_0 a1_1 a1_2 a1_3 l1_4 = some r) :
  Calls Try.prog 33 #[.agg #[.int .i64 a0_0, .int .i64 a0_1, .string a0_2, .int .i64 a0_3, .slice A0_4 l0_4.length c0_4], .agg #[.int .i64 a1_0, .int .i64 a1_1, .string a1_2, .int .i64 a1_3, .slice A1_4 l1_4.length c1_4]] w fun e w' => e = .returned (.bool r) ∧ Below w.heap.size w w' := by
 have hu27 := Try.underlying27
 have HR0_4 := za.mk hr0_4
 have HC0_4 := za.mk hc0_4
 clear hr0_4 hc0_4
 have HR1_4 := za.mk hr1_4
 have HC1_4 := za.mk hc1_4
 clear hr1_4 hc1_4
 have HB := za.mk (Below.refl w.heap.size w)
 have H : (if a0_0 = a1_0 then (if a0_1 = a1_1 then (if a0_2.toList = a1_2.toList then (if a0_3 = a1_3 then ((ym.f k l0_4 l1_4).bind fun t624 => (some t624)) else (some false)) else (some false)) else (some false)) else (some false)) = some r := h
 clear h
 by_cases c3 : a0_0 = a1_0
 ·rw [if_pos c3] at H
  have c3b0 : (a0_0 == a1_0) = true := beq_iff_eq.mpr c3
  have c3b1 : (a0_0 != a1_0) = false := bne_eq_false_iff_eq.mpr c3
  clear c3
  by_cases c4 : a0_1 = a1_1
  ·rw [if_pos c4] at H
   have c4b0 : (a0_1 == a1_1) = true := beq_iff_eq.mpr c4
   have c4b1 : (a0_1 != a1_1) = false := bne_eq_false_iff_eq.mpr c4
   clear c4
   by_cases c5 : a0_2.toList = a1_2.toList
   ·rw [if_pos c5] at H
    have c5b0 : (a0_2.toList == a1_2.toList) = true := beq_iff_eq.mpr c5
    have c5b1 : (a0_2.toList != a1_2.toList) = false := bne_eq_false_iff_eq.mpr c5
    clear c5
    by_cases c6 : a0_3 = a1_3
    ·rw [if_pos c6] at H
     have c6b0 : (a0_3 == a1_3) = true := beq_iff_eq.mpr c6
     have c6b1 : (a0_3 != a1_3) = false := bne_eq_false_iff_eq.mpr c6
     clear c6
     replace H := Vx.mp H
     obtain ⟨t624, A70, H⟩ := H
     replace H : (some t624) = some r := H
     have A7 := za.mk A70
     clear A70
     obtain rfl := Option.some.inj H
     go_enter Try.func33, Try.ntmps33
     go_wp2_with (first | ((with_reducible refine zC (N := 2) rfl ?_); refine zF ?hg (N := 2) ?hd (cs := #[.int .i64 a0_0, .int .i64 a0_1, .string a0_2, .int .i64 a0_3, .slice A0_4 l0_4.length c0_4]) (t := 27) ?hr ?_; (case hd => rfl); (case hg => rfl); (case hr => first | (go_simp; done) | (go_simp; rfl)); intro gb622 hg w8 hbox hb; have n0_ := za.mk (zi (by repeat (first | (with_reducible first | exact HB.out | apply zc | apply zb | apply zd) | exact HB.out)) hb); have n1_ := za.mk (hbox); have n2_ := za.mk ((by rw [hg]; exact (zp (by repeat (first | (with_reducible first | exact HB.out | apply zc | apply zb | apply zd) | exact HB.out))) : w.heap.size ≤ gb622)); have n3_ := za.mk ((by rw [hg]; exact (zp (by repeat (first | (with_reducible first | exact HB.out | apply zc | apply zb | apply zd) | exact HB.out))) : w.heap.size ≤ gb622)); clear HB; have HB := n0_; have BK622 := n1_; have GW622 := n2_; have GE622 := n3_; clear n0_ n1_ n2_ n3_; clear hb hbox hg) | ((with_reducible refine zC (N := 3) rfl ?_); refine zF ?hg (N := 3) ?hd (cs := #[.int .i64 a1_0, .int .i64 a1_1, .string a1_2, .int .i64 a1_3, .slice A1_4 l1_4.length c1_4]) (t := 27) ?hr ?_; (case hd => rfl); (case hg => rfl); (case hr => first | (go_simp; done) | (go_simp; rfl)); intro gb623 hg w9 hbox hb; have n0_ := za.mk (zH (g := gb622) (o := .cells #[.int .i64 a0_0, .int .i64 a0_1, .string a0_2, .int .i64 a0_3, .slice A0_4 l0_4.length c0_4] 27 (0, 0)) (by (with_reducible repeat (first | refine zt ?_ _ | refine zu ?_ | refine zr ?_ _)); exact BK622.out) hb); have n1_ := za.mk (zi (by repeat (first | (with_reducible first | exact HB.out | apply zc | apply zb | apply zd | refine zh ?_ GE622.out) | exact HB.out)) hb); have n2_ := za.mk (hbox); have n3_ := za.mk ((by rw [hg]; exact (zp (by repeat (first | (with_reducible first | exact HB.out | apply zc | apply zb | apply zd | refine zh ?_ GE622.out) | exact HB.out))) : w.heap.size ≤ gb623)); have n4_ := za.mk ((by rw [hg]; exact (zp (by repeat (first | (with_reducible first | exact HB.out | apply zc | apply zb | apply zd | refine zh ?_ GE622.out) | exact HB.out))) : w.heap.size ≤ gb623)); have n5_ := za.mk ((by rw [hg]; exact Nat.ne_of_lt (yq (g := gb622) (o := .cells #[.int .i64 a0_0, .int .i64 a0_1, .string a0_2, .int .i64 a0_3, .slice A0_4 l0_4.length c0_4] 27 (0, 0)) (by (with_reducible repeat (first | refine zt ?_ _ | refine zu ?_ | refine zr ?_ _)); exact BK622.out)) : gb622 ≠ gb623)); have n6_ := za.mk ((by rw [hg]; exact Nat.ne_of_gt (yq (g := gb622) (o := .cells #[.int .i64 a0_0, .int .i64 a0_1, .string a0_2, .int .i64 a0_3, .slice A0_4 l0_4.length c0_4] 27 (0, 0)) (by (with_reducible repeat (first | refine zt ?_ _ | refine zu ?_ | refine zr ?_ _)); exact BK622.out)) : gb623 ≠ gb622)); clear BK622; clear HB; have BK622 := n0_; have HB := n1_; have BK623 := n2_; have GW623 := n3_; have GE623 := n4_; have NB622_623 := n5_; have NB623_622 := n6_; clear n0_ n1_ n2_ n3_ n4_ n5_ n6_; clear hb hbox hg; have hnb10 := NB622_623.out; have hnc10 := NB623_622.out; have hcz11_0 : w9.cell? ⟨gb622, 0, none⟩ = some (.int .i64 a0_0) := (zg BK622.out 0).trans rfl; have hcz11_1 : w9.cell? ⟨gb622, 1, none⟩ = some (.int .i64 a0_1) := (zg BK622.out 1).trans rfl; have hcz11_2 : w9.cell? ⟨gb622, 2, none⟩ = some (.string a0_2) := (zg BK622.out 2).trans rfl; have hcz11_3 : w9.cell? ⟨gb622, 3, none⟩ = some (.int .i64 a0_3) := (zg BK622.out 3).trans rfl; have hcz11_4 : w9.cell? ⟨gb622, 4, none⟩ = some (.slice A0_4 l0_4.length c0_4) := (zg BK622.out 4).trans rfl; have hfz11_0 := ze BK622.out 0; have hfz11_1 := ze BK622.out 1; have hfz11_2 := ze BK622.out 2; have hfz11_3 := ze BK622.out 3; have hfz11_4 := ze BK622.out 4; have hcz12_0 : w9.cell? ⟨gb623, 0, none⟩ = some (.int .i64 a1_0) := (zg BK623.out 0).trans rfl; have hcz12_1 : w9.cell? ⟨gb623, 1, none⟩ = some (.int .i64 a1_1) := (zg BK623.out 1).trans rfl; have hcz12_2 : w9.cell? ⟨gb623, 2, none⟩ = some (.string a1_2) := (zg BK623.out 2).trans rfl; have hcz12_3 : w9.cell? ⟨gb623, 3, none⟩ = some (.int .i64 a1_3) := (zg BK623.out 3).trans rfl; have hcz12_4 : w9.cell? ⟨gb623, 4, none⟩ = some (.slice A1_4 l1_4.length c1_4) := (zg BK623.out 4).trans rfl; have hfz12_0 := ze BK623.out 0; have hfz12_1 := ze BK623.out 1; have hfz12_2 := ze BK623.out 2; have hfz12_3 := ze BK623.out 3; have hfz12_4 := ze BK623.out 4) | (go_at_call 80; (with_reducible refine (ym.calls k _ _ l0_4 _ _ l1_4 t624 _ ?side1 ?side2 ?side3 ?side4 A7.out).mono ?_); (case side1 => repeat (first | exact (Kd.C_below HR0_4.out HB.out) | (with_reducible refine Kd.C_alloc ?_ _) | (with_reducible refine Kd.C_drewN ?_ _) | (with_reducible refine Kd.C_drew ?_))); (case side2 => exact HC0_4.out); (case side3 => repeat (first | exact (Kd.C_below HR1_4.out HB.out) | (with_reducible refine Kd.C_alloc ?_ _) | (with_reducible refine Kd.C_drewN ?_ _) | (with_reducible refine Kd.C_drew ?_))); (case side4 => exact HC1_4.out); rintro e w' ⟨rfl, ⟨nd, rfl⟩⟩))
     go_ret
     exact ⟨by first | rfl | (simp [zn, zo] <;> rfl) | (simp [*, zn, zo] <;> rfl), by repeat (first | (with_reducible first | exact HB.out | apply zc | apply zb | apply zd | refine zh ?_ GE622.out | refine zh ?_ GE623.out) | exact HB.out)⟩
    ·rw [if_neg c6] at H
     have c6b0 : (a0_3 == a1_3) = false := beq_eq_false_iff_ne.mpr c6
     have c6b1 : (a0_3 != a1_3) = true := bne_iff_ne.mpr c6
     obtain rfl := Option.some.inj H
     go_enter Try.func33, Try.ntmps33
     go_wp2_with (first | ((with_reducible refine zC (N := 2) rfl ?_); refine zF ?hg (N := 2) ?hd (cs := #[.int .i64 a0_0, .int .i64 a0_1, .string a0_2, .int .i64 a0_3, .slice A0_4 l0_4.length c0_4]) (t := 27) ?hr ?_; (case hd => rfl); (case hg => rfl); (case hr => first | (go_simp; done) | (go_simp; rfl)); intro gb622 hg w13 hbox hb; have n0_ := za.mk (zi (by repeat (first | (with_reducible first | exact HB.out | apply zc | apply zb | apply zd) | exact HB.out)) hb); have n1_ := za.mk (hbox); have n2_ := za.mk ((by rw [hg]; exact (zp (by repeat (first | (with_reducible first | exact HB.out | apply zc | apply zb | apply zd) | exact HB.out))) : w.heap.size ≤ gb622)); have n3_ := za.mk ((by rw [hg]; exact (zp (by repeat (first | (with_reducible first | exact HB.out | apply zc | apply zb | apply zd) | exact HB.out))) : w.heap.size ≤ gb622)); clear HB; have HB := n0_; have BK622 := n1_; have GW622 := n2_; have GE622 := n3_; clear n0_ n1_ n2_ n3_; clear hb hbox hg) | ((with_reducible refine zC (N := 3) rfl ?_); refine zF ?hg (N := 3) ?hd (cs := #[.int .i64 a1_0, .int .i64 a1_1, .string a1_2, .int .i64 a1_3, .slice A1_4 l1_4.length c1_4]) (t := 27) ?hr ?_; (case hd => rfl); (case hg => rfl); (case hr => first | (go_simp; done) | (go_simp; rfl)); intro gb623 hg w14 hbox hb; have n0_ := za.mk (zH (g := gb622) (o := .cells #[.int .i64 a0_0, .int .i64 a0_1, .string a0_2, .int .i64 a0_3, .slice A0_4 l0_4.length c0_4] 27 (0, 0)) (by (with_reducible repeat (first | refine zt ?_ _ | refine zu ?_ | refine zr ?_ _)); exact BK622.out) hb); have n1_ := za.mk (zi (by repeat (first | (with_reducible first | exact HB.out | apply zc | apply zb | apply zd | refine zh ?_ GE622.out) | exact HB.out)) hb); have n2_ := za.mk (hbox); have n3_ := za.mk ((by rw [hg]; exact (zp (by repeat (first | (with_reducible first | exact HB.out | apply zc | apply zb | apply zd | refine zh ?_ GE622.out) | exact HB.out))) : w.heap.size ≤ gb623)); have n4_ := za.mk ((by rw [hg]; exact (zp (by repeat (first | (with_reducible first | exact HB.out | apply zc | apply zb | apply zd | refine zh ?_ GE622.out) | exact HB.out))) : w.heap.size ≤ gb623)); have n5_ := za.mk ((by rw [hg]; exact Nat.ne_of_lt (yq (g := gb622) (o := .cells #[.int .i64 a0_0, .int .i64 a0_1, .string a0_2, .int .i64 a0_3, .slice A0_4 l0_4.length c0_4] 27 (0, 0)) (by (with_reducible repeat (first | refine zt ?_ _ | refine zu ?_ | refine zr ?_ _)); exact BK622.out)) : gb622 ≠ gb623)); have n6_ := za.mk ((by rw [hg]; exact Nat.ne_of_gt (yq (g := gb622) (o := .cells #[.int .i64 a0_0, .int .i64 a0_1, .string a0_2, .int .i64 a0_3, .slice A0_4 l0_4.length c0_4] 27 (0, 0)) (by (with_reducible repeat (first | refine zt ?_ _ | refine zu ?_ | refine zr ?_ _)); exact BK622.out)) : gb623 ≠ gb622)); clear BK622; clear HB; have BK622 := n0_; have HB := n1_; have BK623 := n2_; have GW623 := n3_; have GE623 := n4_; have NB622_623 := n5_; have NB623_622 := n6_; clear n0_ n1_ n2_ n3_ n4_ n5_ n6_; clear hb hbox hg; have hnb15 := NB622_623.out; have hnc15 := NB623_622.out; have hcz16_0 : w14.cell? ⟨gb622, 0, none⟩ = some (.int .i64 a0_0) := (zg BK622.out 0).trans rfl; have hcz16_1 : w14.cell? ⟨gb622, 1, none⟩ = some (.int .i64 a0_1) := (zg BK622.out 1).trans rfl; have hcz16_2 : w14.cell? ⟨gb622, 2, none⟩ = some (.string a0_2) := (zg BK622.out 2).trans rfl; have hcz16_3 : w14.cell? ⟨gb622, 3, none⟩ = some (.int .i64 a0_3) := (zg BK622.out 3).trans rfl; have hcz16_4 : w14.cell? ⟨gb622, 4, none⟩ = some (.slice A0_4 l0_4.length c0_4) := (zg BK622.out 4).trans rfl; have hfz16_0 := ze BK622.out 0; have hfz16_1 := ze BK622.out 1; have hfz16_2 := ze BK622.out 2; have hfz16_3 := ze BK622.out 3; have hfz16_4 := ze BK622.out 4; have hcz17_0 : w14.cell? ⟨gb623, 0, none⟩ = some (.int .i64 a1_0) := (zg BK623.out 0).trans rfl; have hcz17_1 : w14.cell? ⟨gb623, 1, none⟩ = some (.int .i64 a1_1) := (zg BK623.out 1).trans rfl; have hcz17_2 : w14.cell? ⟨gb623, 2, none⟩ = some (.string a1_2) := (zg BK623.out 2).trans rfl; have hcz17_3 : w14.cell? ⟨gb623, 3, none⟩ = some (.int .i64 a1_3) := (zg BK623.out 3).trans rfl; have hcz17_4 : w14.cell? ⟨gb623, 4, none⟩ = some (.slice A1_4 l1_4.length c1_4) := (zg BK623.out 4).trans rfl; have hfz17_0 := ze BK623.out 0; have hfz17_1 := ze BK623.out 1; have hfz17_2 := ze BK623.out 2; have hfz17_3 := ze BK623.out 3; have hfz17_4 := ze BK623.out 4))
     go_ret
     exact ⟨by first | rfl | (simp [zn, zo] <;> rfl) | (simp [*, zn, zo] <;> rfl), by repeat (first | (with_reducible first | exact HB.out | apply zc | apply zb | apply zd | refine zh ?_ GE622.out | refine zh ?_ GE623.out) | exact HB.out)⟩
   ·rw [if_neg c5] at H
    have c5b0 : (a0_2.toList == a1_2.toList) = false := beq_eq_false_iff_ne.mpr c5
    have c5b1 : (a0_2.toList != a1_2.toList) = true := bne_iff_ne.mpr c5
    obtain rfl := Option.some.inj H
    go_enter Try.func33, Try.ntmps33
    go_wp2_with (first | ((with_reducible refine zC (N := 2) rfl ?_); refine zF ?hg (N := 2) ?hd (cs := #[.int .i64 a0_0, .int .i64 a0_1, .string a0_2, .int .i64 a0_3, .slice A0_4 l0_4.length c0_4]) (t := 27) ?hr ?_; (case hd => rfl); (case hg => rfl); (case hr => first | (go_simp; done) | (go_simp; rfl)); intro gb622 hg w18 hbox hb; have n0_ := za.mk (zi (by repeat (first | (with_reducible first | exact HB.out | apply zc | apply zb | apply zd) | exact HB.out)) hb); have n1_ := za.mk (hbox); have n2_ := za.mk ((by rw [hg]; exact (zp (by repeat (first | (with_reducible first | exact HB.out | apply zc | apply zb | apply zd) | exact HB.out))) : w.heap.size ≤ gb622)); have n3_ := za.mk ((by rw [hg]; exact (zp (by repeat (first | (with_reducible first | exact HB.out | apply zc | apply zb | apply zd) | exact HB.out))) : w.heap.size ≤ gb622)); clear HB; have HB := n0_; have BK622 := n1_; have GW622 := n2_; have GE622 := n3_; clear n0_ n1_ n2_ n3_; clear hb hbox hg) | ((with_reducible refine zC (N := 3) rfl ?_); refine zF ?hg (N := 3) ?hd (cs := #[.int .i64 a1_0, .int .i64 a1_1, .string a1_2, .int .i64 a1_3, .slice A1_4 l1_4.length c1_4]) (t := 27) ?hr ?_; (case hd => rfl); (case hg => rfl); (case hr => first | (go_simp; done) | (go_simp; rfl)); intro gb623 hg w19 hbox hb; have n0_ := za.mk (zH (g := gb622) (o := .cells #[.int .i64 a0_0, .int .i64 a0_1, .string a0_2, .int .i64 a0_3, .slice A0_4 l0_4.length c0_4] 27 (0, 0)) (by (with_reducible repeat (first | refine zt ?_ _ | refine zu ?_ | refine zr ?_ _)); exact BK622.out) hb); have n1_ := za.mk (zi (by repeat (first | (with_reducible first | exact HB.out | apply zc | apply zb | apply zd | refine zh ?_ GE622.out) | exact HB.out)) hb); have n2_ := za.mk (hbox); have n3_ := za.mk ((by rw [hg]; exact (zp (by repeat (first | (with_reducible first | exact HB.out | apply zc | apply zb | apply zd | refine zh ?_ GE622.out) | exact HB.out))) : w.heap.size ≤ gb623)); have n4_ := za.mk ((by rw [hg]; exact (zp (by repeat (first | (with_reducible first | exact HB.out | apply zc | apply zb | apply zd | refine zh ?_ GE622.out) | exact HB.out))) : w.heap.size ≤ gb623)); have n5_ := za.mk ((by rw [hg]; exact Nat.ne_of_lt (yq (g := gb622) (o := .cells #[.int .i64 a0_0, .int .i64 a0_1, .string a0_2, .int .i64 a0_3, .slice A0_4 l0_4.length c0_4] 27 (0, 0)) (by (with_reducible repeat (first | refine zt ?_ _ | refine zu ?_ | refine zr ?_ _)); exact BK622.out)) : gb622 ≠ gb623)); have n6_ := za.mk ((by rw [hg]; exact Nat.ne_of_gt (yq (g := gb622) (o := .cells #[.int .i64 a0_0, .int .i64 a0_1, .string a0_2, .int .i64 a0_3, .slice A0_4 l0_4.length c0_4] 27 (0, 0)) (by (with_reducible repeat (first | refine zt ?_ _ | refine zu ?_ | refine zr ?_ _)); exact BK622.out)) : gb623 ≠ gb622)); clear BK622; clear HB; have BK622 := n0_; have HB := n1_; have BK623 := n2_; have GW623 := n3_; have GE623 := n4_; have NB622_623 := n5_; have NB623_622 := n6_; clear n0_ n1_ n2_ n3_ n4_ n5_ n6_; clear hb hbox hg; have hnb20 := NB622_623.out; have hnc20 := NB623_622.out; have hcz21_0 : w19.cell? ⟨gb622, 0, none⟩ = some (.int .i64 a0_0) := (zg BK622.out 0).trans rfl; have hcz21_1 : w19.cell? ⟨gb622, 1, none⟩ = some (.int .i64 a0_1) := (zg BK622.out 1).trans rfl; have hcz21_2 : w19.cell? ⟨gb622, 2, none⟩ = some (.string a0_2) := (zg BK622.out 2).trans rfl; have hcz21_3 : w19.cell? ⟨gb622, 3, none⟩ = some (.int .i64 a0_3) := (zg BK622.out 3).trans rfl; have hcz21_4 : w19.cell? ⟨gb622, 4, none⟩ = some (.slice A0_4 l0_4.length c0_4) := (zg BK622.out 4).trans rfl; have hfz21_0 := ze BK622.out 0; have hfz21_1 := ze BK622.out 1; have hfz21_2 := ze BK622.out 2; have hfz21_3 := ze BK622.out 3; have hfz21_4 := ze BK622.out 4; have hcz22_0 : w19.cell? ⟨gb623, 0, none⟩ = some (.int .i64 a1_0) := (zg BK623.out 0).trans rfl; have hcz22_1 : w19.cell? ⟨gb623, 1, none⟩ = some (.int .i64 a1_1) := (zg BK623.out 1).trans rfl; have hcz22_2 : w19.cell? ⟨gb623, 2, none⟩ = some (.string a1_2) := (zg BK623.out 2).trans rfl; have hcz22_3 : w19.cell? ⟨gb623, 3, none⟩ = some (.int .i64 a1_3) := (zg BK623.out 3).trans rfl; have hcz22_4 : w19.cell? ⟨gb623, 4, none⟩ = some (.slice A1_4 l1_4.length c1_4) := (zg BK623.out 4).trans rfl; have hfz22_0 := ze BK623.out 0; have hfz22_1 := ze BK623.out 1; have hfz22_2 := ze BK623.out 2; have hfz22_3 := ze BK623.out 3; have hfz22_4 := ze BK623.out 4))
    go_ret
    exact ⟨by first | rfl | (simp [zn, zo] <;> rfl) | (simp [*, zn, zo] <;> rfl), by repeat (first | (with_reducible first | exact HB.out | apply zc | apply zb | apply zd | refine zh ?_ GE622.out | refine zh ?_ GE623.out) | exact HB.out)⟩
  ·rw [if_neg c4] at H
   have c4b0 : (a0_1 == a1_1) = false := beq_eq_false_iff_ne.mpr c4
   have c4b1 : (a0_1 != a1_1) = true := bne_iff_ne.mpr c4
   obtain rfl := Option.some.inj H
   go_enter Try.func33, Try.ntmps33
   go_wp2_with (first | ((with_reducible refine zC (N := 2) rfl ?_); refine zF ?hg (N := 2) ?hd (cs := #[.int .i64 a0_0, .int .i64 a0_1, .string a0_2, .int .i64 a0_3, .slice A0_4 l0_4.length c0_4]) (t := 27) ?hr ?_; (case hd => rfl); (case hg => rfl); (case hr => first | (go_simp; done) | (go_simp; rfl)); intro gb622 hg w23 hbox hb; have n0_ := za.mk (zi (by repeat (first | (with_reducible first | exact HB.out | apply zc | apply zb | apply zd) | exact HB.out)) hb); have n1_ := za.mk (hbox); have n2_ := za.mk ((by rw [hg]; exact (zp (by repeat (first | (with_reducible first | exact HB.out | apply zc | apply zb | apply zd) | exact HB.out))) : w.heap.size ≤ gb622)); have n3_ := za.mk ((by rw [hg]; exact (zp (by repeat (first | (with_reducible first | exact HB.out | apply zc | apply zb | apply zd) | exact HB.out))) : w.heap.size ≤ gb622)); clear HB; have HB := n0_; have BK622 := n1_; have GW622 := n2_; have GE622 := n3_; clear n0_ n1_ n2_ n3_; clear hb hbox hg) | ((with_reducible refine zC (N := 3) rfl ?_); refine zF ?hg (N := 3) ?hd (cs := #[.int .i64 a1_0, .int .i64 a1_1, .string a1_2, .int .i64 a1_3, .slice A1_4 l1_4.length c1_4]) (t := 27) ?hr ?_; (case hd => rfl); (case hg => rfl); (case hr => first | (go_simp; done) | (go_simp; rfl)); intro gb623 hg w24 hbox hb; have n0_ := za.mk (zH (g := gb622) (o := .cells #[.int .i64 a0_0, .int .i64 a0_1, .string a0_2, .int .i64 a0_3, .slice A0_4 l0_4.length c0_4] 27 (0, 0)) (by (with_reducible repeat (first | refine zt ?_ _ | refine zu ?_ | refine zr ?_ _)); exact BK622.out) hb); have n1_ := za.mk (zi (by repeat (first | (with_reducible first | exact HB.out | apply zc | apply zb | apply zd | refine zh ?_ GE622.out) | exact HB.out)) hb); have n2_ := za.mk (hbox); have n3_ := za.mk ((by rw [hg]; exact (zp (by repeat (first | (with_reducible first | exact HB.out | apply zc | apply zb | apply zd | refine zh ?_ GE622.out) | exact HB.out))) : w.heap.size ≤ gb623)); have n4_ := za.mk ((by rw [hg]; exact (zp (by repeat (first | (with_reducible first | exact HB.out | apply zc | apply zb | apply zd | refine zh ?_ GE622.out) | exact HB.out))) : w.heap.size ≤ gb623)); have n5_ := za.mk ((by rw [hg]; exact Nat.ne_of_lt (yq (g := gb622) (o := .cells #[.int .i64 a0_0, .int .i64 a0_1, .string a0_2, .int .i64 a0_3, .slice A0_4 l0_4.length c0_4] 27 (0, 0)) (by (with_reducible repeat (first | refine zt ?_ _ | refine zu ?_ | refine zr ?_ _)); exact BK622.out)) : gb622 ≠ gb623)); have n6_ := za.mk ((by rw [hg]; exact Nat.ne_of_gt (yq (g := gb622) (o := .cells #[.int .i64 a0_0, .int .i64 a0_1, .string a0_2, .int .i64 a0_3, .slice A0_4 l0_4.length c0_4] 27 (0, 0)) (by (with_reducible repeat (first | refine zt ?_ _ | refine zu ?_ | refine zr ?_ _)); exact BK622.out)) : gb623 ≠ gb622)); clear BK622; clear HB; have BK622 := n0_; have HB := n1_; have BK623 := n2_; have GW623 := n3_; have GE623 := n4_; have NB622_623 := n5_; have NB623_622 := n6_; clear n0_ n1_ n2_ n3_ n4_ n5_ n6_; clear hb hbox hg; have hnb25 := NB622_623.out; have hnc25 := NB623_622.out; have hcz26_0 : w24.cell? ⟨gb622, 0, none⟩ = some (.int .i64 a0_0) := (zg BK622.out 0).trans rfl; have hcz26_1 : w24.cell? ⟨gb622, 1, none⟩ = some (.int .i64 a0_1) := (zg BK622.out 1).trans rfl; have hcz26_2 : w24.cell? ⟨gb622, 2, none⟩ = some (.string a0_2) := (zg BK622.out 2).trans rfl; have hcz26_3 : w24.cell? ⟨gb622, 3, none⟩ = some (.int .i64 a0_3) := (zg BK622.out 3).trans rfl; have hcz26_4 : w24.cell? ⟨gb622, 4, none⟩ = some (.slice A0_4 l0_4.length c0_4) := (zg BK622.out 4).trans rfl; have hfz26_0 := ze BK622.out 0; have hfz26_1 := ze BK622.out 1; have hfz26_2 := ze BK622.out 2; have hfz26_3 := ze BK622.out 3; have hfz26_4 := ze BK622.out 4; have hcz27_0 : w24.cell? ⟨gb623, 0, none⟩ = some (.int .i64 a1_0) := (zg BK623.out 0).trans rfl; have hcz27_1 : w24.cell? ⟨gb623, 1, none⟩ = some (.int .i64 a1_1) := (zg BK623.out 1).trans rfl; have hcz27_2 : w24.cell? ⟨gb623, 2, none⟩ = some (.string a1_2) := (zg BK623.out 2).trans rfl; have hcz27_3 : w24.cell? ⟨gb623, 3, none⟩ = some (.int .i64 a1_3) := (zg BK623.out 3).trans rfl; have hcz27_4 : w24.cell? ⟨gb623, 4, none⟩ = some (.slice A1_4 l1_4.length c1_4) := (zg BK623.out 4).trans rfl; have hfz27_0 := ze BK623.out 0; have hfz27_1 := ze BK623.out 1; have hfz27_2 := ze BK623.out 2; have hfz27_3 := ze BK623.out 3; have hfz27_4 := ze BK623.out 4))
   go_ret
   exact ⟨by first | rfl | (simp [zn, zo] <;> rfl) | (simp [*, zn, zo] <;> rfl), by repeat (first | (with_reducible first | exact HB.out | apply zc | apply zb | apply zd | refine zh ?_ GE622.out | refine zh ?_ GE623.out) | exact HB.out)⟩
 ·rw [if_neg c3] at H
  have c3b0 : (a0_0 == a1_0) = false := beq_eq_false_iff_ne.mpr c3
  have c3b1 : (a0_0 != a1_0) = true := bne_iff_ne.mpr c3
  obtain rfl := Option.some.inj H
  go_enter Try.func33, Try.ntmps33
  go_wp2_with (first | ((with_reducible refine zC (N := 2) rfl ?_); refine zF ?hg (N := 2) ?hd (cs := #[.int .i64 a0_0, .int .i64 a0_1, .string a0_2, .int .i64 a0_3, .slice A0_4 l0_4.length c0_4]) (t := 27) ?hr ?_; (case hd => rfl); (case hg => rfl); (case hr => first | (go_simp; done) | (go_simp; rfl)); intro gb622 hg w28 hbox hb; have n0_ := za.mk (zi (by repeat (first | (with_reducible first | exact HB.out | apply zc | apply zb | apply zd) | exact HB.out)) hb); have n1_ := za.mk (hbox); have n2_ := za.mk ((by rw [hg]; exact (zp (by repeat (first | (with_reducible first | exact HB.out | apply zc | apply zb | apply zd) | exact HB.out))) : w.heap.size ≤ gb622)); have n3_ := za.mk ((by rw [hg]; exact (zp (by repeat (first | (with_reducible first | exact HB.out | apply zc | apply zb | apply zd) | exact HB.out))) : w.heap.size ≤ gb622)); clear HB; have HB := n0_; have BK622 := n1_; have GW622 := n2_; have GE622 := n3_; clear n0_ n1_ n2_ n3_; clear hb hbox hg) | ((with_reducible refine zC (N := 3) rfl ?_); refine zF ?hg (N := 3) ?hd (cs := #[.int .i64 a1_0, .int .i64 a1_1, .string a1_2, .int .i64 a1_3, .slice A1_4 l1_4.length c1_4]) (t := 27) ?hr ?_; (case hd => rfl); (case hg => rfl); (case hr => first | (go_simp; done) | (go_simp; rfl)); intro gb623 hg w29 hbox hb; have n0_ := za.mk (zH (g := gb622) (o := .cells #[.int .i64 a0_0, .int .i64 a0_1, .string a0_2, .int .i64 a0_3, .slice A0_4 l0_4.length c0_4] 27 (0, 0)) (by (with_reducible repeat (first | refine zt ?_ _ | refine zu ?_ | refine zr ?_ _)); exact BK622.out) hb); have n1_ := za.mk (zi (by repeat (first | (with_reducible first | exact HB.out | apply zc | apply zb | apply zd | refine zh ?_ GE622.out) | exact HB.out)) hb); have n2_ := za.mk (hbox); have n3_ := za.mk ((by rw [hg]; exact (zp (by repeat (first | (with_reducible first | exact HB.out | apply zc | apply zb | apply zd | refine zh ?_ GE622.out) | exact HB.out))) : w.heap.size ≤ gb623)); have n4_ := za.mk ((by rw [hg]; exact (zp (by repeat (first | (with_reducible first | exact HB.out | apply zc | apply zb | apply zd | refine zh ?_ GE622.out) | exact HB.out))) : w.heap.size ≤ gb623)); have n5_ := za.mk ((by rw [hg]; exact Nat.ne_of_lt (yq (g := gb622) (o := .cells #[.int .i64 a0_0, .int .i64 a0_1, .string a0_2, .int .i64 a0_3, .slice A0_4 l0_4.length c0_4] 27 (0, 0)) (by (with_reducible repeat (first | refine zt ?_ _ | refine zu ?_ | refine zr ?_ _)); exact BK622.out)) : gb622 ≠ gb623)); have n6_ := za.mk ((by rw [hg]; exact Nat.ne_of_gt (yq (g := gb622) (o := .cells #[.int .i64 a0_0, .int .i64 a0_1, .string a0_2, .int .i64 a0_3, .slice A0_4 l0_4.length c0_4] 27 (0, 0)) (by (with_reducible repeat (first | refine zt ?_ _ | refine zu ?_ | refine zr ?_ _)); exact BK622.out)) : gb623 ≠ gb622)); clear BK622; clear HB; have BK622 := n0_; have HB := n1_; have BK623 := n2_; have GW623 := n3_; have GE623 := n4_; have NB622_623 := n5_; have NB623_622 := n6_; clear n0_ n1_ n2_ n3_ n4_ n5_ n6_; clear hb hbox hg; have hnb30 := NB622_623.out; have hnc30 := NB623_622.out; have hcz31_0 : w29.cell? ⟨gb622, 0, none⟩ = some (.int .i64 a0_0) := (zg BK622.out 0).trans rfl; have hcz31_1 : w29.cell? ⟨gb622, 1, none⟩ = some (.int .i64 a0_1) := (zg BK622.out 1).trans rfl; have hcz31_2 : w29.cell? ⟨gb622, 2, none⟩ = some (.string a0_2) := (zg BK622.out 2).trans rfl; have hcz31_3 : w29.cell? ⟨gb622, 3, none⟩ = some (.int .i64 a0_3) := (zg BK622.out 3).trans rfl; have hcz31_4 : w29.cell? ⟨gb622, 4, none⟩ = some (.slice A0_4 l0_4.length c0_4) := (zg BK622.out 4).trans rfl; have hfz31_0 := ze BK622.out 0; have hfz31_1 := ze BK622.out 1; have hfz31_2 := ze BK622.out 2; have hfz31_3 := ze BK622.out 3; have hfz31_4 := ze BK622.out 4; have hcz32_0 : w29.cell? ⟨gb623, 0, none⟩ = some (.int .i64 a1_0) := (zg BK623.out 0).trans rfl; have hcz32_1 : w29.cell? ⟨gb623, 1, none⟩ = some (.int .i64 a1_1) := (zg BK623.out 1).trans rfl; have hcz32_2 : w29.cell? ⟨gb623, 2, none⟩ = some (.string a1_2) := (zg BK623.out 2).trans rfl; have hcz32_3 : w29.cell? ⟨gb623, 3, none⟩ = some (.int .i64 a1_3) := (zg BK623.out 3).trans rfl; have hcz32_4 : w29.cell? ⟨gb623, 4, none⟩ = some (.slice A1_4 l1_4.length c1_4) := (zg BK623.out 4).trans rfl; have hfz32_0 := ze BK623.out 0; have hfz32_1 := ze BK623.out 1; have hfz32_2 := ze BK623.out 2; have hfz32_3 := ze BK623.out 3; have hfz32_4 := ze BK623.out 4))
  go_ret
  exact ⟨by first | rfl | (simp [zn, zo] <;> rfl) | (simp [*, zn, zo] <;> rfl), by repeat (first | (with_reducible first | exact HB.out | apply zc | apply zb | apply zd | refine zh ?_ GE622.out | refine zh ?_ GE623.out) | exact HB.out)⟩
def xw.f (k : Nat) (a0_0 : Int) (a0_1 : Int) (l0_2 : List Int) (a1_0 : Int) (a1_1 : Int) (l1_2 : List Int) : Option (Bool) := if a0_0 = a1_0 then (if a0_1 = a1_1 then ((z7.f k l0_2 l1_2).bind fun t627 => (some t627)) else (some false)) else (some false)
theorem xw.calls (k : Nat) (a0_0 : Int) (a0_1 : Int) (A0_2 : Option Addr) (c0_2 : Nat) (l0_2 : List Int) (a1_0 : Int) (a1_1 : Int) (A1_2 : Option Addr) (c1_2 : Nat) (l1_2 : List Int) (r : Bool) (w : World) (hr0_2 : Kd.C (Kd.int .i64) w A0_2 l0_2.length l0_2) (hc0_2 : l0_2.length ≤ c0_2) (hr1_2 : Kd.C (Kd.int .i64) w A1_2 l1_2.length l1_2) (hc1_2 : l1_2.length ≤ c1_2) (h : xw.f k a0_0 a0_1 l0_2 a1_0 a1_1 l1_2 = some r) :
  Calls Try.prog 81 #[.agg #[.int .i64 a0_0, .int .i64 a0_1, .slice A0_2 l0_2.length c0_2], .agg #[.int .i64 a1_0, .int .i64 a1_1, .slice A1_2 l1_2.length c1_2]] w fun e w' => e = .returned (.bool r) ∧ Below w.heap.size w w' := by
 have hu91 := Try.underlying91
 have HR0_2 := za.mk hr0_2
 have HC0_2 := za.mk hc0_2
 clear hr0_2 hc0_2
 have HR1_2 := za.mk hr1_2
 have HC1_2 := za.mk hc1_2
 clear hr1_2 hc1_2
 have HB := za.mk (Below.refl w.heap.size w)
 have H : (if a0_0 = a1_0 then (if a0_1 = a1_1 then ((z7.f k l0_2 l1_2).bind fun t627 => (some t627)) else (some false)) else (some false)) = some r := h
 clear h
 by_cases c3 : a0_0 = a1_0
 ·rw [if_pos c3] at H
  have c3b0 : (a0_0 == a1_0) = true := beq_iff_eq.mpr c3
  have c3b1 : (a0_0 != a1_0) = false := bne_eq_false_iff_eq.mpr c3
  clear c3
  by_cases c4 : a0_1 = a1_1
  ·rw [if_pos c4] at H
   have c4b0 : (a0_1 == a1_1) = true := beq_iff_eq.mpr c4
   have c4b1 : (a0_1 != a1_1) = false := bne_eq_false_iff_eq.mpr c4
   clear c4
   replace H := Vx.mp H
   obtain ⟨t627, A50, H⟩ := H
   replace H : (some t627) = some r := H
   have A5 := za.mk A50
   clear A50
   obtain rfl := Option.some.inj H
   go_enter Try.func81, Try.ntmps81
   go_wp2_with (first | ((with_reducible refine zC (N := 2) rfl ?_); refine zF ?hg (N := 2) ?hd (cs := #[.int .i64 a0_0, .int .i64 a0_1, .slice A0_2 l0_2.length c0_2]) (t := 91) ?hr ?_; (case hd => rfl); (case hg => rfl); (case hr => first | (go_simp; done) | (go_simp; rfl)); intro gb625 hg w6 hbox hb; have n0_ := za.mk (zi (by repeat (first | (with_reducible first | exact HB.out | apply zc | apply zb | apply zd) | exact HB.out)) hb); have n1_ := za.mk (hbox); have n2_ := za.mk ((by rw [hg]; exact (zp (by repeat (first | (with_reducible first | exact HB.out | apply zc | apply zb | apply zd) | exact HB.out))) : w.heap.size ≤ gb625)); have n3_ := za.mk ((by rw [hg]; exact (zp (by repeat (first | (with_reducible first | exact HB.out | apply zc | apply zb | apply zd) | exact HB.out))) : w.heap.size ≤ gb625)); clear HB; have HB := n0_; have BK625 := n1_; have GW625 := n2_; have GE625 := n3_; clear n0_ n1_ n2_ n3_; clear hb hbox hg) | ((with_reducible refine zC (N := 3) rfl ?_); refine zF ?hg (N := 3) ?hd (cs := #[.int .i64 a1_0, .int .i64 a1_1, .slice A1_2 l1_2.length c1_2]) (t := 91) ?hr ?_; (case hd => rfl); (case hg => rfl); (case hr => first | (go_simp; done) | (go_simp; rfl)); intro gb626 hg w7 hbox hb; have n0_ := za.mk (zH (g := gb625) (o := .cells #[.int .i64 a0_0, .int .i64 a0_1, .slice A0_2 l0_2.length c0_2] 91 (0, 0)) (by (with_reducible repeat (first | refine zt ?_ _ | refine zu ?_ | refine zr ?_ _)); exact BK625.out) hb); have n1_ := za.mk (zi (by repeat (first | (with_reducible first | exact HB.out | apply zc | apply zb | apply zd | refine zh ?_ GE625.out) | exact HB.out)) hb); have n2_ := za.mk (hbox); have n3_ := za.mk ((by rw [hg]; exact (zp (by repeat (first | (with_reducible first | exact HB.out | apply zc | apply zb | apply zd | refine zh ?_ GE625.out) | exact HB.out))) : w.heap.size ≤ gb626)); have n4_ := za.mk ((by rw [hg]; exact (zp (by repeat (first | (with_reducible first | exact HB.out | apply zc | apply zb | apply zd | refine zh ?_ GE625.out) | exact HB.out))) : w.heap.size ≤ gb626)); have n5_ := za.mk ((by rw [hg]; exact Nat.ne_of_lt (yq (g := gb625) (o := .cells #[.int .i64 a0_0, .int .i64 a0_1, .slice A0_2 l0_2.length c0_2] 91 (0, 0)) (by (with_reducible repeat (first | refine zt ?_ _ | refine zu ?_ | refine zr ?_ _)); exact BK625.out)) : gb625 ≠ gb626)); have n6_ := za.mk ((by rw [hg]; exact Nat.ne_of_gt (yq (g := gb625) (o := .cells #[.int .i64 a0_0, .int .i64 a0_1, .slice A0_2 l0_2.length c0_2] 91 (0, 0)) (by (with_reducible repeat (first | refine zt ?_ _ | refine zu ?_ | refine zr ?_ _)); exact BK625.out)) : gb626 ≠ gb625)); clear BK625; clear HB; have BK625 := n0_; have HB := n1_; have BK626 := n2_; have GW626 := n3_; have GE626 := n4_; have NB625_626 := n5_; have NB626_625 := n6_; clear n0_ n1_ n2_ n3_ n4_ n5_ n6_; clear hb hbox hg; have hnb8 := NB625_626.out; have hnc8 := NB626_625.out; have hcz9_0 : w7.cell? ⟨gb625, 0, none⟩ = some (.int .i64 a0_0) := (zg BK625.out 0).trans rfl; have hcz9_1 : w7.cell? ⟨gb625, 1, none⟩ = some (.int .i64 a0_1) := (zg BK625.out 1).trans rfl; have hcz9_2 : w7.cell? ⟨gb625, 2, none⟩ = some (.slice A0_2 l0_2.length c0_2) := (zg BK625.out 2).trans rfl; have hfz9_0 := ze BK625.out 0; have hfz9_1 := ze BK625.out 1; have hfz9_2 := ze BK625.out 2; have hcz10_0 : w7.cell? ⟨gb626, 0, none⟩ = some (.int .i64 a1_0) := (zg BK626.out 0).trans rfl; have hcz10_1 : w7.cell? ⟨gb626, 1, none⟩ = some (.int .i64 a1_1) := (zg BK626.out 1).trans rfl; have hcz10_2 : w7.cell? ⟨gb626, 2, none⟩ = some (.slice A1_2 l1_2.length c1_2) := (zg BK626.out 2).trans rfl; have hfz10_0 := ze BK626.out 0; have hfz10_1 := ze BK626.out 1; have hfz10_2 := ze BK626.out 2) | (go_at_call 79; (with_reducible refine (z7.calls k _ _ l0_2 _ _ l1_2 t627 _ ?side1 ?side2 ?side3 ?side4 A5.out).mono ?_); (case side1 => repeat (first | exact (Kd.C_below HR0_2.out HB.out) | (with_reducible refine Kd.C_alloc ?_ _) | (with_reducible refine Kd.C_drewN ?_ _) | (with_reducible refine Kd.C_drew ?_))); (case side2 => exact HC0_2.out); (case side3 => repeat (first | exact (Kd.C_below HR1_2.out HB.out) | (with_reducible refine Kd.C_alloc ?_ _) | (with_reducible refine Kd.C_drewN ?_ _) | (with_reducible refine Kd.C_drew ?_))); (case side4 => exact HC1_2.out); rintro e w' ⟨rfl, ⟨nd, rfl⟩⟩))
   go_ret
   exact ⟨by first | rfl | (simp [zn, zo] <;> rfl) | (simp [*, zn, zo] <;> rfl), by repeat (first | (with_reducible first | exact HB.out | apply zc | apply zb | apply zd | refine zh ?_ GE625.out | refine zh ?_ GE626.out) | exact HB.out)⟩
  ·rw [if_neg c4] at H
   have c4b0 : (a0_1 == a1_1) = false := beq_eq_false_iff_ne.mpr c4
   have c4b1 : (a0_1 != a1_1) = true := bne_iff_ne.mpr c4
   obtain rfl := Option.some.inj H
   go_enter Try.func81, Try.ntmps81
   go_wp2_with (first | ((with_reducible refine zC (N := 2) rfl ?_); refine zF ?hg (N := 2) ?hd (cs := #[.int .i64 a0_0, .int .i64 a0_1, .slice A0_2 l0_2.length c0_2]) (t := 91) ?hr ?_; (case hd => rfl); (case hg => rfl); (case hr => first | (go_simp; done) | (go_simp; rfl)); intro gb625 hg w11 hbox hb; have n0_ := za.mk (zi (by repeat (first | (with_reducible first | exact HB.out | apply zc | apply zb | apply zd) | exact HB.out)) hb); have n1_ := za.mk (hbox); have n2_ := za.mk ((by rw [hg]; exact (zp (by repeat (first | (with_reducible first | exact HB.out | apply zc | apply zb | apply zd) | exact HB.out))) : w.heap.size ≤ gb625)); have n3_ := za.mk ((by rw [hg]; exact (zp (by repeat (first | (with_reducible first | exact HB.out | apply zc | apply zb | apply zd) | exact HB.out))) : w.heap.size ≤ gb625)); clear HB; have HB := n0_; have BK625 := n1_; have GW625 := n2_; have GE625 := n3_; clear n0_ n1_ n2_ n3_; clear hb hbox hg) | ((with_reducible refine zC (N := 3) rfl ?_); refine zF ?hg (N := 3) ?hd (cs := #[.int .i64 a1_0, .int .i64 a1_1, .slice A1_2 l1_2.length c1_2]) (t := 91) ?hr ?_; (case hd => rfl); (case hg => rfl); (case hr => first | (go_simp; done) | (go_simp; rfl)); intro gb626 hg w12 hbox hb; have n0_ := za.mk (zH (g := gb625) (o := .cells #[.int .i64 a0_0, .int .i64 a0_1, .slice A0_2 l0_2.length c0_2] 91 (0, 0)) (by (with_reducible repeat (first | refine zt ?_ _ | refine zu ?_ | refine zr ?_ _)); exact BK625.out) hb); have n1_ := za.mk (zi (by repeat (first | (with_reducible first | exact HB.out | apply zc | apply zb | apply zd | refine zh ?_ GE625.out) | exact HB.out)) hb); have n2_ := za.mk (hbox); have n3_ := za.mk ((by rw [hg]; exact (zp (by repeat (first | (with_reducible first | exact HB.out | apply zc | apply zb | apply zd | refine zh ?_ GE625.out) | exact HB.out))) : w.heap.size ≤ gb626)); have n4_ := za.mk ((by rw [hg]; exact (zp (by repeat (first | (with_reducible first | exact HB.out | apply zc | apply zb | apply zd | refine zh ?_ GE625.out) | exact HB.out))) : w.heap.size ≤ gb626)); have n5_ := za.mk ((by rw [hg]; exact Nat.ne_of_lt (yq (g := gb625) (o := .cells #[.int .i64 a0_0, .int .i64 a0_1, .slice A0_2 l0_2.length c0_2] 91 (0, 0)) (by (with_reducible repeat (first | refine zt ?_ _ | refine zu ?_ | refine zr ?_ _)); exact BK625.out)) : gb625 ≠ gb626)); have n6_ := za.mk ((by rw [hg]; exact Nat.ne_of_gt (yq (g := gb625) (o := .cells #[.int .i64 a0_0, .int .i64 a0_1, .slice A0_2 l0_2.length c0_2] 91 (0, 0)) (by (with_reducible repeat (first | refine zt ?_ _ | refine zu ?_ | refine zr ?_ _)); exact BK625.out)) : gb626 ≠ gb625)); clear BK625; clear HB; have BK625 := n0_; have HB := n1_; have BK626 := n2_; have GW626 := n3_; have GE626 := n4_; have NB625_626 := n5_; have NB626_625 := n6_; clear n0_ n1_ n2_ n3_ n4_ n5_ n6_; clear hb hbox hg; have hnb13 := NB625_626.out; have hnc13 := NB626_625.out; have hcz14_0 : w12.cell? ⟨gb625, 0, none⟩ = some (.int .i64 a0_0) := (zg BK625.out 0).trans rfl; have hcz14_1 : w12.cell? ⟨gb625, 1, none⟩ = some (.int .i64 a0_1) := (zg BK625.out 1).trans rfl; have hcz14_2 : w12.cell? ⟨gb625, 2, none⟩ = some (.slice A0_2 l0_2.length c0_2) := (zg BK625.out 2).trans rfl; have hfz14_0 := ze BK625.out 0; have hfz14_1 := ze BK625.out 1; have hfz14_2 := ze BK625.out 2; have hcz15_0 : w12.cell? ⟨gb626, 0, none⟩ = some (.int .i64 a1_0) := (zg BK626.out 0).trans rfl; have hcz15_1 : w12.cell? ⟨gb626, 1, none⟩ = some (.int .i64 a1_1) := (zg BK626.out 1).trans rfl; have hcz15_2 : w12.cell? ⟨gb626, 2, none⟩ = some (.slice A1_2 l1_2.length c1_2) := (zg BK626.out 2).trans rfl; have hfz15_0 := ze BK626.out 0; have hfz15_1 := ze BK626.out 1; have hfz15_2 := ze BK626.out 2))
   go_ret
   exact ⟨by first | rfl | (simp [zn, zo] <;> rfl) | (simp [*, zn, zo] <;> rfl), by repeat (first | (with_reducible first | exact HB.out | apply zc | apply zb | apply zd | refine zh ?_ GE625.out | refine zh ?_ GE626.out) | exact HB.out)⟩
 ·rw [if_neg c3] at H
  have c3b0 : (a0_0 == a1_0) = false := beq_eq_false_iff_ne.mpr c3
  have c3b1 : (a0_0 != a1_0) = true := bne_iff_ne.mpr c3
  obtain rfl := Option.some.inj H
  go_enter Try.func81, Try.ntmps81
  go_wp2_with (first | ((with_reducible refine zC (N := 2) rfl ?_); refine zF ?hg (N := 2) ?hd (cs := #[.int .i64 a0_0, .int .i64 a0_1, .slice A0_2 l0_2.length c0_2]) (t := 91) ?hr ?_; (case hd => rfl); (case hg => rfl); (case hr => first | (go_simp; done) | (go_simp; rfl)); intro gb625 hg w16 hbox hb; have n0_ := za.mk (zi (by repeat (first | (with_reducible first | exact HB.out | apply zc | apply zb | apply zd) | exact HB.out)) hb); have n1_ := za.mk (hbox); have n2_ := za.mk ((by rw [hg]; exact (zp (by repeat (first | (with_reducible first | exact HB.out | apply zc | apply zb | apply zd) | exact HB.out))) : w.heap.size ≤ gb625)); have n3_ := za.mk ((by rw [hg]; exact (zp (by repeat (first | (with_reducible first | exact HB.out | apply zc | apply zb | apply zd) | exact HB.out))) : w.heap.size ≤ gb625)); clear HB; have HB := n0_; have BK625 := n1_; have GW625 := n2_; have GE625 := n3_; clear n0_ n1_ n2_ n3_; clear hb hbox hg) | ((with_reducible refine zC (N := 3) rfl ?_); refine zF ?hg (N := 3) ?hd (cs := #[.int .i64 a1_0, .int .i64 a1_1, .slice A1_2 l1_2.length c1_2]) (t := 91) ?hr ?_; (case hd => rfl); (case hg => rfl); (case hr => first | (go_simp; done) | (go_simp; rfl)); intro gb626 hg w17 hbox hb; have n0_ := za.mk (zH (g := gb625) (o := .cells #[.int .i64 a0_0, .int .i64 a0_1, .slice A0_2 l0_2.length c0_2] 91 (0, 0)) (by (with_reducible repeat (first | refine zt ?_ _ | refine zu ?_ | refine zr ?_ _)); exact BK625.out) hb); have n1_ := za.mk (zi (by repeat (first | (with_reducible first | exact HB.out | apply zc | apply zb | apply zd | refine zh ?_ GE625.out) | exact HB.out)) hb); have n2_ := za.mk (hbox); have n3_ := za.mk ((by rw [hg]; exact (zp (by repeat (first | (with_reducible first | exact HB.out | apply zc | apply zb | apply zd | refine zh ?_ GE625.out) | exact HB.out))) : w.heap.size ≤ gb626)); have n4_ := za.mk ((by rw [hg]; exact (zp (by repeat (first | (with_reducible first | exact HB.out | apply zc | apply zb | apply zd | refine zh ?_ GE625.out) | exact HB.out))) : w.heap.size ≤ gb626)); have n5_ := za.mk ((by rw [hg]; exact Nat.ne_of_lt (yq (g := gb625) (o := .cells #[.int .i64 a0_0, .int .i64 a0_1, .slice A0_2 l0_2.length c0_2] 91 (0, 0)) (by (with_reducible repeat (first | refine zt ?_ _ | refine zu ?_ | refine zr ?_ _)); exact BK625.out)) : gb625 ≠ gb626)); have n6_ := za.mk ((by rw [hg]; exact Nat.ne_of_gt (yq (g := gb625) (o := .cells #[.int .i64 a0_0, .int .i64 a0_1, .slice A0_2 l0_2.length c0_2] 91 (0, 0)) (by (with_reducible repeat (first | refine zt ?_ _ | refine zu ?_ | refine zr ?_ _)); exact BK625.out)) : gb626 ≠ gb625)); clear BK625; clear HB; have BK625 := n0_; have HB := n1_; have BK626 := n2_; have GW626 := n3_; have GE626 := n4_; have NB625_626 := n5_; have NB626_625 := n6_; clear n0_ n1_ n2_ n3_ n4_ n5_ n6_; clear hb hbox hg; have hnb18 := NB625_626.out; have hnc18 := NB626_625.out; have hcz19_0 : w17.cell? ⟨gb625, 0, none⟩ = some (.int .i64 a0_0) := (zg BK625.out 0).trans rfl; have hcz19_1 : w17.cell? ⟨gb625, 1, none⟩ = some (.int .i64 a0_1) := (zg BK625.out 1).trans rfl; have hcz19_2 : w17.cell? ⟨gb625, 2, none⟩ = some (.slice A0_2 l0_2.length c0_2) := (zg BK625.out 2).trans rfl; have hfz19_0 := ze BK625.out 0; have hfz19_1 := ze BK625.out 1; have hfz19_2 := ze BK625.out 2; have hcz20_0 : w17.cell? ⟨gb626, 0, none⟩ = some (.int .i64 a1_0) := (zg BK626.out 0).trans rfl; have hcz20_1 : w17.cell? ⟨gb626, 1, none⟩ = some (.int .i64 a1_1) := (zg BK626.out 1).trans rfl; have hcz20_2 : w17.cell? ⟨gb626, 2, none⟩ = some (.slice A1_2 l1_2.length c1_2) := (zg BK626.out 2).trans rfl; have hfz20_0 := ze BK626.out 0; have hfz20_1 := ze BK626.out 1; have hfz20_2 := ze BK626.out 2))
  go_ret
  exact ⟨by first | rfl | (simp [zn, zo] <;> rfl) | (simp [*, zn, zo] <;> rfl), by repeat (first | (with_reducible first | exact HB.out | apply zc | apply zb | apply zd | refine zh ?_ GE625.out | refine zh ?_ GE626.out) | exact HB.out)⟩
end Go.Proofs.Ytbfehjncllkogaa.Q
