/- Texts of this session laid together (shrink.py): what the claim's law rests on. -/
import Derived.Below
import Derived.Deep.Draws
import Derived.Deep.AppendLies
import Derived.Maps.AppendAt
import Derived.OwnWalk
import Derived.Laws.BytesArg
import Derived.Laws.MakeOwn
import Derived.Laws.OwnMore
import Derived.Deep.OwnRows
import Derived.Tactics
import Derived.Lib.ConvBytes
import Derived.Laws.Slices
import Derived.WalkKit
import Derived.KernelRfl
import Derived.RowKit3
import Derived.Deep.LoopGhost
import Derived.Deep.QuietTactic
import Derived.BigQuiet
import Derived.WideLaws
import Derived.Deep.DeepCutAuto
import Derived.Deep.CutBlock
import Derived.Deep.RegionHeld3
import Derived.Laws.Rows
import Derived.Lib.AppendStr
import Derived.ArgAppend
import Derived.Laws.IdiomCopy
import Derived.RowKit
import Derived.OrdersHeld
import Derived.Laws.BitsLemmas
import Derived.Laws.StructEq
import Derived.Test.YtepipnpfggnadaaGreatProg
import Derived.WalkMore
import Derived.Lib.Strings
import Derived.Test.YtepipnpfggnadaaGreatTFramesPute
set_option linter.unusedVariables false
set_option linter.unusedSimpArgs false
set_option maxRecDepth 100000
set_option maxHeartbeats 8000000
open Bool renaming true → O, false → Y
open List renaming setIfInBounds_toArray → zdG
open List renaming set_cons_zero → zdH
open List renaming set_cons_succ → zdI
open List renaming map_toArray → zdJ
open Option renaming bind_eq_some_iff → zdK
open Go.World renaming block_lt_of_cell? → zdL
open Bool renaming eq_false_iff → zdM
open List renaming length_append → zdN
namespace Go.Proofs.YtepipnpfggnadaaGreat.Q
open Go.RowKit Go.Proofs.YtepipnpfggnadaaGreatW.PrintWords Go.Proofs.YtepipnpfggnadaaGreatW.PrintLast Go.Proofs.YtepipnpfggnadaaGreatW.PrintMore
def jK : List Nat → Nat → Nat × Nat × Int
 | [], _ => (0, 0, 5)
 | c :: l, k => if k = 9 ∧ 1 < c then (0, 0, 6) else if 128 ≤ c then (if (jK l (k + 1)).2.2 = 0 then (c - 128 + 128 * (jK l (k + 1)).1, (jK l (k + 1)).2.1 + 1, 0) else (0, 0, (jK l (k + 1)).2.2)) else if c = 0 ∧ 0 < k then (0, 0, 6) else (c, 1, 0)
def unz (u : Nat) : Int := if u % 2 = 1 then -((u / 2 : Nat) : Int) - 1 else ((u / 2 : Nat) : Int)
def Ya (a : Int) (lo k : Nat) (r : Nat × Nat × Int) : Int × Int × Int := if r.2.2 = 0 then (unz (lo + 128 ^ k * r.1), a + (k : Int) + (r.2.1 : Int), 0) else (0, 0, r.2.2)
def V4 (s : ByteArray) (a : Int) : Int × Int × Int := if a < 0 ∨ (s.size : Int) < a then (0, 0, 3) else Ya a 0 0 (jK ((bl s).drop a.toNat) 0)
theorem zbG (a : Int) (lo k c : Nat) (l : List Nat) (hk : k ≠ 9) (hc : 128 ≤ c) : Ya a lo k (jK (c :: l) k) = Ya a (lo + (c - 128) * 128 ^ k) (k + 1) (jK l (k + 1)) := by
 rw [jK, if_neg (by omega), if_pos hc]
 generalize jK l (k + 1) = r
 unfold Ya
 by_cases h : r.2.2 = 0
 ·rw [if_pos h, if_pos h, if_pos rfl]
  have e1 : lo + 128 ^ k * (c - 128 + 128 * r.1) = lo + (c - 128) * 128 ^ k + 128 ^ (k + 1) * r.1 := by
   rw [Nat.mul_add, Nat.pow_succ, Nat.mul_comm (128 ^ k) (c - 128), ← Nat.mul_assoc, Nat.add_assoc]
  have e2 : a + (k : Int) + ((r.2.1 + 1 : Nat) : Int) = a + ((k + 1 : Nat) : Int) + (r.2.1 : Int) := by omega
  show (unz (lo + 128 ^ k * (c - 128 + 128 * r.1)), a + (k : Int) + ((r.2.1 + 1 : Nat) : Int), (0 : Int)) = _
  rw [e1, e2]
 ·rw [if_neg h, if_neg h, if_neg h]
theorem JW (k : Nat) : 128 ^ k = 2 ^ (7 * k) := by rw [Nat.pow_mul]
theorem QX (n : Int) (h0 : 0 ≤ n) (h1 : n < 2 ^ 64) : IntKind.u64.wrap n = n := by rw [qm]; omega
theorem zdC (a b : Nat) (ha : a < 18446744073709551616) (hb : b < 18446744073709551616) : Go.bits .or .u64 (a : Int) (b : Int) = ((a ||| b : Nat) : Int) :=
 (bits_nat .u64 64 (by decide) QX a b ha hb).2
theorem zdr (c : Nat) (hc : c < 256) : Go.bits .and .u8 (c : Int) 127 = ((c % 128 : Nat) : Int) := by
 have h := bits_mask .u8 8 (by decide) wraps_u8 7 (by decide) (c : Int) (by omega) (by omega)
 have e : ((2 : Int) ^ 7 - 1) = 127 := by decide
 have e2 : ((2 : Int) ^ 7) = 128 := by decide
 rw [e, e2] at h
 rw [h]
 omega
theorem zai (lo c k : Nat) (hlo : lo < 128 ^ k) (hc : c < 256) (hk : k ≤ 9) (h9 : k = 9 → c % 128 ≤ 1) :
  Go.bits .or .u64 (lo : Int) (shl .u64 (IntKind.u64.wrap (Go.bits .and .u8 (c : Int) 127)) (wrap64 (7 * (k : Int)))) = ((lo + (c % 128) * 128 ^ k : Nat) : Int) := by
 have hx : c % 128 < 128 := Nat.mod_lt _ (by decide)
 have hp : 128 ^ k ≤ 128 ^ 9 := Nat.pow_le_pow_right (by decide) hk
 have e9 : (128 : Nat) ^ 9 = 9223372036854775808 := by decide
 have hb : (c % 128) * 128 ^ k < 18446744073709551616 := by
  by_cases h : k = 9
  ·subst h
   have := h9 rfl
   rw [e9]
   omega
  ·have h8 : 128 ^ k ≤ 128 ^ 8 := Nat.pow_le_pow_right (by decide) (by omega)
   have e8 : (128 : Nat) ^ 8 = 72057594037927936 := by decide
   have : (c % 128) * 128 ^ k ≤ 127 * 128 ^ 8 := Nat.mul_le_mul (by omega) h8
   rw [e8] at this
   omega
 have hl : lo < 18446744073709551616 := by omega
 have e1 : wrap64 (7 * (k : Int)) = ((7 * k : Nat) : Int) := by rw [xo (by omega) (by omega)]; omega
 have e2 : shl .u64 (IntKind.u64.wrap ((c % 128 : Nat) : Int)) ((7 * k : Nat) : Int) = ((c % 128 * 128 ^ k : Nat) : Int) := by
  have w1 : IntKind.u64.wrap ((c % 128 : Nat) : Int) = ((c % 128 : Nat) : Int) := by rw [qm]; omega
  have hb64 : IntKind.u64.bits = 64 := rfl
  have m1 : min ((7 * k : Nat) : Int).toNat IntKind.u64.bits = 7 * k := by rw [hb64, Int.toNat_natCast]; omega
  have c1 : ((c % 128 : Nat) : Int) * 2 ^ (7 * k) = ((c % 128 * 128 ^ k : Nat) : Int) := by
   rw [JW]
   simp
  rw [shl, w1, m1, c1, qm]
  omega
 rw [zdr c hc, e1, e2, zdC lo _ hl hb]
 have h3 : lo ||| c % 128 * 128 ^ k = lo + c % 128 * 128 ^ k := by
  have := Nat.two_pow_add_eq_or_of_lt (i := 7 * k) (b := lo) (by rw [← JW]; exact hlo) (c % 128)
  rw [← JW, Nat.mul_comm] at this
  rw [Nat.or_comm, ← this, Nat.add_comm]
 rw [h3]
theorem zc6 (u : Nat) (h : u < 9223372036854775808) : Go.bits .xor .i64 (-1) (u : Int) = -(u : Int) - 1 := by
 have e : BitVec.ofInt 64 (-1) = BitVec.allOnes 64 := by decide
 have e2 : (BitVec.ofInt 64 (-1) ^^^ BitVec.ofInt 64 (u : Int)).toNat = 18446744073709551615 - u := by
  rw [e, BitVec.allOnes_xor, BitVec.toNat_not, BitVec.ofInt_natCast, BitVec.toNat_ofNat]
  omega
 show IntKind.i64.wrap ((BitVec.ofInt 64 (-1) ^^^ BitVec.ofInt 64 (u : Int)).toNat : Int) = _
 rw [e2, IntKind.wrap_i64]
 omega
theorem zbS (u : Nat) (hu : u < 18446744073709551616) : Go.bits .and .u64 (u : Int) 1 = ((u % 2 : Nat) : Int) := by
 have h := bits_mask .u64 64 (by decide) QX 1 (by decide) (u : Int) (by omega) (by omega)
 simpa using h
theorem zdp (v : Nat) (h : v % 2 = 1) : unz v = -((v / 2 : Nat) : Int) - 1 := by rw [unz, if_pos h]
theorem zcG (v : Nat) (h : ¬ v % 2 = 1) : unz v = ((v / 2 : Nat) : Int) := by rw [unz, if_neg h]
theorem zaJ (v : Nat) (h : v < 18446744073709551616) : wrap64 ((v : Int) / 2) = ((v / 2 : Nat) : Int) := by
 rw [xo (by omega) (by omega)]
 omega
theorem vj3 (a : Int) (h0 : 0 ≤ a) (h1 : a ≤ 140737488351232) (v i : Nat) (hv : v < 18446744073709551616) (hi : i ≤ 9) (k : Nat) : zo.j3 (k + 1) a (v : Int) (i : Int) false = some (unz v, a + (i : Int) + 1, 0) := by
 rw [zo.j3, if_neg (by decide), zbS v hv, zaJ v hv, xo (i := a + (i : Int)) (by omega) (by omega), xo (i := a + (i : Int) + 1) (by omega) (by omega)]
 by_cases h : v % 2 = 1
 ·rw [if_pos (by omega), zc6 _ (by omega), zdp v h]
 ·rw [if_neg (by omega), zcG v h]
theorem zdl (a v i : Int) (k : Nat) : zo.j3 (k + 1) a v i true = some (0, 0, 6) := by
 rw [zo.j3, if_pos rfl]
theorem YI (a : Int) (lo k : Nat) (e : Int) (he : e ≠ 0) (r : Nat × Nat × Int) (hr : r = (0, 0, e)) : Ya a lo k r = (0, 0, e) := by
 rw [hr, Ya, if_neg he]
theorem QW (a : Int) (lo k c : Nat) : Ya a lo k (c, 1, 0) = (unz (lo + c * 128 ^ k), a + (k : Int) + 1, 0) := by
 rw [Ya, if_pos rfl, Nat.mul_comm c]
 rfl
theorem Vg (lo c k : Nat) (hlo : lo < 128 ^ k) (hc : c < 128) : lo + c * 128 ^ k < 128 ^ (k + 1) := by
 have : c * 128 ^ k ≤ 127 * 128 ^ k := Nat.mul_le_mul_right _ (by omega)
 rw [Nat.pow_succ]
 omega
theorem VF (lo c k : Nat) (hlo : lo < 128 ^ k) (hc : c < 128) (hk : k ≤ 9) (h9 : k = 9 → c ≤ 1) : lo + c * 128 ^ k < 18446744073709551616 := by
 by_cases h : k = 9
 ·subst h
  have e9 : (128 : Nat) ^ 9 = 9223372036854775808 := by decide
  have := h9 rfl
  rw [e9] at hlo ⊢
  omega
 ·have h1 := Vg lo c k hlo hc
  have h2 : 128 ^ (k + 1) ≤ 128 ^ 9 := Nat.pow_le_pow_right (by decide) (by omega)
  have e9 : (128 : Nat) ^ 9 = 9223372036854775808 := by decide
  omega
theorem vj2 (s : ByteArray) (p lo i c k : Nat) (hp : p ≤ 140737488351232) (hi : i ≤ 9) (hlo : lo < 128 ^ i) (hc : c < 256) (h9 : i = 9 → c ≤ 1) (l : List Nat)
  (go : 128 ≤ c → i ≠ 9 → zo.l0 (k + 1) s (p : Int) ((lo + (c - 128) * 128 ^ i : Nat) : Int) ((i + 1 : Nat) : Int) = some (Ya (p : Int) (lo + (c - 128) * 128 ^ i) (i + 1) (jK l (i + 1)))) :
  zo.j2 (k + 2) s (p : Int) (lo : Int) (i : Int) (c : Int) false = some (Ya (p : Int) lo i (jK (c :: l) i)) := by
 rw [zo.j2, if_neg (by decide), zai lo c i hlo hc hi (fun h => by have := h9 h; omega), xo (i := 7 * (i : Int)) (by omega) (by omega), if_pos (by omega)]
 by_cases h : 128 ≤ c
 ·have e : c % 128 = c - 128 := by omega
  have hi9 : i ≠ 9 := fun h' => by have := h9 h'; omega
  rw [if_pos (by omega), z4 (by omega) (by omega), e, zbG _ _ _ _ _ hi9 h]
  have := go h hi9
  rw [← this]
  rfl
 ·have e : c % 128 = c := by omega
  rw [if_neg (by omega), e]
  have hs : jK (c :: l) i = if c = 0 ∧ 0 < i then (0, 0, 6) else (c, 1, 0) := by
   rw [jK, if_neg (fun h' => by have := h9 h'.1; omega), if_neg h]
  by_cases h0 : c = 0
  ·rw [if_pos (by omega)]
   by_cases hi0 : 0 < i
   ·have hd : decide ((i : Int) > 0) = true := decide_eq_true (by omega)
    rw [hd, zdl, YI _ _ _ 6 (by decide) _ (by rw [hs, if_pos ⟨h0, hi0⟩])]
   ·have hd : decide ((i : Int) > 0) = false := decide_eq_false (by omega)
    rw [hd, vj3 _ (by omega) (by omega) _ _ (VF lo c i hlo (by omega) hi h9) hi, hs, if_neg (fun h' => hi0 h'.2), QW]
  ·rw [if_neg (by omega), vj3 _ (by omega) (by omega) _ _ (VF lo c i hlo (by omega) hi h9) hi, hs, if_neg (fun h' => h0 h'.1), QW]
theorem vl0 (s : ByteArray) (hs : s.size ≤ 140737488351232) (p : Nat) (hp : p ≤ s.size) (e : Nat) : ∀ (i lo k : Nat), i + e = 9 → lo < 128 ^ i → 2 * e + 10 ≤ k → zo.l0 k s (p : Int) (lo : Int) (i : Int) = some (Ya (p : Int) lo i (jK ((bl s).drop (p + i)) i)) := by
 induction e with
 | zero =>
  intro i lo k hi hlo hk
  obtain ⟨k, rfl⟩ : ∃ k', k = k' + 3 := ⟨k - 3, by omega⟩
  have hi9 : i = 9 := by omega
  rw [zo.l0, xo (i := (p : Int) + (i : Int)) (by omega) (by omega)]
  by_cases h : p + i < s.size
  ·rw [if_pos (by omega), if_pos (by omega), if_pos (by omega)]
   have hb : bt s ((p : Int) + (i : Int)) = _ := ZQ s (p + i) h
   rw [hb, jX s (p + i) h]
   have hc : (bl s)[p + i]'(by rw [yo]; exact h) < 256 := Qd s _ _
   generalize (bl s)[p + i]'(by rw [yo]; exact h) = c at hc ⊢
   by_cases h1 : 1 < c
   ·have hd : decide ((c : Int) > 1) = true := decide_eq_true (by omega)
    rw [hd, zo.j2, if_pos rfl, YI _ _ _ 6 (by decide) _ (by rw [jK, if_pos ⟨hi9, h1⟩])]
   ·have hd : decide ((c : Int) > 1) = false := decide_eq_false (by omega)
    rw [hd]
    exact vj2 s p lo i c k (by omega) (by omega) hlo hc (fun _ => by omega) _ (fun h' _ => absurd h' (by omega))
  ·rw [if_neg (by omega), List.drop_eq_nil_of_le (by rw [yo]; omega), YI _ _ _ 5 (by decide) _ (by rw [jK])]
 | succ e ih =>
  intro i lo k hi hlo hk
  obtain ⟨k, rfl⟩ : ∃ k', k = k' + 3 := ⟨k - 3, by omega⟩
  rw [zo.l0, xo (i := (p : Int) + (i : Int)) (by omega) (by omega)]
  by_cases h : p + i < s.size
  ·rw [if_pos (by omega), if_pos (by omega), if_neg (by omega)]
   have hb : bt s ((p : Int) + (i : Int)) = _ := ZQ s (p + i) h
   rw [hb, jX s (p + i) h]
   have hc : (bl s)[p + i]'(by rw [yo]; exact h) < 256 := Qd s _ _
   generalize (bl s)[p + i]'(by rw [yo]; exact h) = c at hc ⊢
   refine vj2 s p lo i c k (by omega) (by omega) hlo hc (fun h' => by omega) _ (fun h1 h2 => ?_)
   rw [ih (i + 1) _ (k + 1) (by omega) (Vg lo (c - 128) i hlo (by omega)) (by omega)]
   rfl
  ·rw [if_neg (by omega), List.drop_eq_nil_of_le (by rw [yo]; omega), YI _ _ _ 5 (by decide) _ (by rw [jK])]
theorem zaz (s : ByteArray) (hs : s.size ≤ 140737488351232) (a : Int) (k : Nat) (hk : 40 ≤ k) : zo.f k s a = some (V4 s a) := by
 obtain ⟨k, rfl⟩ : ∃ k', k = k' + 1 := ⟨k - 1, by omega⟩
 unfold zo.f V4
 by_cases h0 : a < 0
 ·rw [if_pos h0, if_pos (Or.inl h0), zo.j0, if_pos rfl]
 ·rw [if_neg h0]
  by_cases h1 : (s.size : Int) < a
  ·have hd : decide (a > (s.size : Int)) = true := decide_eq_true h1
   rw [hd, if_pos (Or.inr h1), zo.j0, if_pos rfl]
  ·have hd : decide (a > (s.size : Int)) = false := decide_eq_false h1
   have hn : ¬ (a < 0 ∨ (s.size : Int) < a) := by omega
   rw [hd, if_neg hn, zo.j0, if_neg (by decide)]
   obtain ⟨p, rfl⟩ : ∃ p : Nat, a = (p : Int) := ⟨a.toNat, by omega⟩
   have := vl0 s hs p (by omega) 9 0 0 k (by omega) (by decide) (by omega)
   simpa using this
attribute [local go_sem] jM jJ vE vD jm jl jL jO
def xl.f (k : Nat) (a0 : ByteArray) (a1 : Int) (a2 : Int) : Option (Int × Int × Int) := (zo.f k a0 a1).bind fun bt101 => (if bt101.2.2 = 0 then (if bt101.1 < 0 then (some (0, 0, 6)) else (if bt101.1 > a2 then (some (0, 0, 4)) else (some (bt101.1, bt101.2.1, 0)))) else (some (0, 0, bt101.2.2)))
theorem xl.calls (k : Nat) (a0 : ByteArray) (a1 : Int) (a2 : Int) (r1 : Int) (r2 : Int) (r3 : Int) (w : World) (h : xl.f k a0 a1 a2 = some (r1, r2, r3)) :
  Calls Tryz.prog 155 #[.string a0, .int .i64 a1, .int .i64 a2] w fun e w' => e = .returned (.tuple #[.int .i64 r1, .int .i64 r2, .int .i64 r3]) ∧ zi w w' := by
 have H : ((zo.f k a0 a1).bind fun bt101 => (if bt101.2.2 = 0 then (if bt101.1 < 0 then (some (0, 0, 6)) else (if bt101.1 > a2 then (some (0, 0, 4)) else (some (bt101.1, bt101.2.1, 0)))) else (some (0, 0, bt101.2.2)))) = some (r1, r2, r3) := h
 clear h
 replace H := zdK.mp H
 obtain ⟨⟨t101, t102, t103⟩, A40, H⟩ := H
 replace H : (if t103 = 0 then (if t101 < 0 then (some (0, 0, 6)) else (if t101 > a2 then (some (0, 0, 4)) else (some (t101, t102, 0)))) else (some (0, 0, t103))) = some (r1, r2, r3) := H
 have A4 := za.mk A40
 clear A40
 by_cases c5 : t103 = 0
 ·rw [if_pos c5] at H
  have c5b0 : (t103 == 0) = true := beq_iff_eq.mpr c5
  have c5b1 : (t103 != 0) = false := bne_eq_false_iff_eq.mpr c5
  clear c5
  by_cases c6 : t101 < 0
  ·rw [if_pos c6] at H
   have c6b0 : decide (t101 < 0) = true := decide_eq_true c6
   clear c6
   simp only [Option.some.injEq, Prod.mk.injEq] at H
   obtain ⟨rfl, rfl, rfl⟩ := H
   go_enter Tryz.func155, Tryz.ntmps155
   go_wp2_with (first | ((with_reducible refine zr (f := 75) rfl ?_); refine zL (some 15) rfl rfl Tryz.func75 (by kernel_rfl) rfl #[.string a0, .int .i64 a1] rfl (by (try simp only [zdJ, List.map_cons, List.map_nil]); first | done | rfl | (simp only [List.length_drop, List.length_take]; rfl)) ?_; (with_reducible refine (zo.calls k a0 a1 t101 t102 t103 _ A4.out).mono ?_); rintro e w' ⟨rfl, ⟨nd, rfl⟩⟩; refine ⟨_, rfl, ?_⟩))
   go_ret3
   exact ⟨by first | rfl | (simp; done) | (simp [*]; done), by repeat (first | exact zi.refl _ | apply zi.step)⟩
  ·rw [if_neg c6] at H
   have c6b0 : decide (t101 < 0) = false := decide_eq_false c6
   clear c6
   by_cases c7 : t101 > a2
   ·rw [if_pos c7] at H
    have c7b0 : decide (a2 < t101) = true := decide_eq_true c7
    clear c7
    simp only [Option.some.injEq, Prod.mk.injEq] at H
    obtain ⟨rfl, rfl, rfl⟩ := H
    go_enter Tryz.func155, Tryz.ntmps155
    go_wp2_with (first | ((with_reducible refine zr (f := 75) rfl ?_); refine zL (some 15) rfl rfl Tryz.func75 (by kernel_rfl) rfl #[.string a0, .int .i64 a1] rfl (by (try simp only [zdJ, List.map_cons, List.map_nil]); first | done | rfl | (simp only [List.length_drop, List.length_take]; rfl)) ?_; (with_reducible refine (zo.calls k a0 a1 t101 t102 t103 _ A4.out).mono ?_); rintro e w' ⟨rfl, ⟨nd, rfl⟩⟩; refine ⟨_, rfl, ?_⟩))
    go_ret3
    exact ⟨by first | rfl | (simp; done) | (simp [*]; done), by repeat (first | exact zi.refl _ | apply zi.step)⟩
   ·rw [if_neg c7] at H
    have c7b0 : decide (a2 < t101) = false := decide_eq_false c7
    clear c7
    simp only [Option.some.injEq, Prod.mk.injEq] at H
    obtain ⟨rfl, rfl, rfl⟩ := H
    go_enter Tryz.func155, Tryz.ntmps155
    go_wp2_with (first | ((with_reducible refine zr (f := 75) rfl ?_); refine zL (some 15) rfl rfl Tryz.func75 (by kernel_rfl) rfl #[.string a0, .int .i64 a1] rfl (by (try simp only [zdJ, List.map_cons, List.map_nil]); first | done | rfl | (simp only [List.length_drop, List.length_take]; rfl)) ?_; (with_reducible refine (zo.calls k a0 a1 t101 t102 t103 _ A4.out).mono ?_); rintro e w' ⟨rfl, ⟨nd, rfl⟩⟩; refine ⟨_, rfl, ?_⟩))
    go_ret3
    exact ⟨by first | rfl | (simp; done) | (simp [*]; done), by repeat (first | exact zi.refl _ | apply zi.step)⟩
 ·rw [if_neg c5] at H
  have c5b0 : (t103 == 0) = false := beq_eq_false_iff_ne.mpr c5
  have c5b1 : (t103 != 0) = true := bne_iff_ne.mpr c5
  simp only [Option.some.injEq, Prod.mk.injEq] at H
  obtain ⟨rfl, rfl, rfl⟩ := H
  go_enter Tryz.func155, Tryz.ntmps155
  go_wp2_with (first | ((with_reducible refine zr (f := 75) rfl ?_); refine zL (some 15) rfl rfl Tryz.func75 (by kernel_rfl) rfl #[.string a0, .int .i64 a1] rfl (by (try simp only [zdJ, List.map_cons, List.map_nil]); first | done | rfl | (simp only [List.length_drop, List.length_take]; rfl)) ?_; (with_reducible refine (zo.calls k a0 a1 t101 t102 t103 _ A4.out).mono ?_); rintro e w' ⟨rfl, ⟨nd, rfl⟩⟩; refine ⟨_, rfl, ?_⟩))
  go_ret3
  exact ⟨by first | rfl | (simp; done) | (simp [*]; done), by repeat (first | exact zi.refl _ | apply zi.step)⟩
def zI.l0 : Nat → ByteArray → Int → List Int → Int → Int → Option (List Int × Int × Int)
 | 0, _, _, _, _, _ => none
 | k + 1, x0, x10, x12, x26, x27 => if x27 < x26 then ((zo.f k x0 x10).bind fun bt480 => (if bt480.2.2 = 0 then (if x12.length < 17592186044416 then (zI.l0 k x0 bt480.2.1 (x12 ++ [bt480.1]) x26 (wrap64 (x27 + 1))) else (none)) else (some (([] : List Int), 0, bt480.2.2)))) else (some (x12, x10, 0))
def zI.f (k : Nat) (a0 : ByteArray) (a1 : Int)  : Option (List Int × Int × Int) := (xl.f k a0 a1 256).bind fun bt477 => (if bt477.2.2 = 0 then (zI.l0 k a0 bt477.2.1 ([] : List Int) bt477.1 0) else (some (([] : List Int), 0, bt477.2.2)))
theorem zI.calls (k : Nat) (a0 : ByteArray) (a1 : Int)  (r1 : List Int) (r2 : Int) (r3 : Int) (w : World) (h : zI.f k a0 a1 = some (r1, r2, r3)) :
  Calls Tryz.prog 181 #[.string a0, .int .i64 a1, .func (Fn.func 75) #[] #[]] w fun e w' => ∃ v0_ : Value, e = .returned (.tuple #[v0_, .int .i64 r2, .int .i64 r3]) ∧ Kd.R (Kd.int .i64) 3 w' w.heap.size (fun _ => True) v0_ r1 ∧ Below w.heap.size w w' := by
 have HB := za.mk (Below.refl w.heap.size w)
 have H : ((xl.f k a0 a1 256).bind fun bt477 => (if bt477.2.2 = 0 then (zI.l0 k a0 bt477.2.1 ([] : List Int) bt477.1 0) else (some (([] : List Int), 0, bt477.2.2)))) = some (r1, r2, r3) := h
 clear h
 replace H := zdK.mp H
 obtain ⟨⟨t477, t478, t479⟩, A40, H⟩ := H
 replace H : (if t479 = 0 then (zI.l0 k a0 t478 ([] : List Int) t477 0) else (some (([] : List Int), 0, t479))) = some (r1, r2, r3) := H
 have A4 := za.mk A40
 clear A40
 by_cases c5 : t479 = 0
 ·rw [if_pos c5] at H
  have c5b0 : (t479 == 0) = true := beq_iff_eq.mpr c5
  have c5b1 : (t479 != 0) = false := bne_eq_false_iff_eq.mpr c5
  clear c5
  have H' := za.mk H
  clear H
  go_enter Tryz.func181, Tryz.ntmps181
  go_wp2_with (first | ((with_reducible refine zr (f := 155) rfl ?_); refine zL (some 19) rfl rfl Tryz.func155 (by kernel_rfl) rfl #[.string a0, .int .i64 a1, .int .i64 256] rfl (by (try simp only [zdJ, List.map_cons, List.map_nil]); first | done | rfl | (simp only [List.length_drop, List.length_take]; rfl)) ?_; (with_reducible refine (xl.calls k a0 a1 256 t477 t478 t479 _ A4.out).mono ?_); rintro e w' ⟨rfl, ⟨nd, rfl⟩⟩; refine ⟨_, rfl, ?_⟩))
  go_loopg [10, 12, 27] k (fun kq v10 v12 v27 w' => ∃ (x10_1 : Int) (x12_1 : List Int) (x27_1 : Int), v10 = .int .i64 x10_1 ∧ v27 = .int .i64 x27_1 ∧ za (zI.l0 kq a0 x10_1 x12_1 t477 x27_1 = some (r1, r2, r3)) ∧ za (kq ≤ k) ∧ za (Kd.R (Kd.int .i64) 3 w' w.heap.size (fun _ => True) v12 x12_1) ∧ za (Below w.heap.size w w'))
  case atStart => exact ⟨(t478), (([] : List Int)), (0), (by first | rfl | (simp; done) | (simp [*]; done)), (by first | rfl | (simp; done) | (simp [*]; done)), H', ⟨Nat.le_refl _⟩, ⟨by first | exact Kd.R_nil _ _ _ _ _ | exact Kd.N_nil _ _ _ _ _ | exact Kd.V_nil _ _ _ _ _ | exact Kd.Q_nil _ _ _ _ _ | exact Kd.S_nil _ _ _ _ _⟩, ⟨by repeat (first | (with_reducible first | exact HB.out | apply zc | apply zb | apply zd) | exact HB.out)⟩⟩
  case round =>
   clear H'
   try clear c1
   try clear p2
   try clear c5
   try clear c5b0
   try clear c5b1
   obtain ⟨x10_1, x12_1, x27_1, rfl, rfl, HA, HK1, HO_12, HB⟩ := hrel
   cases gk with
   | zero => exact absurd HA.out (by simp [zI.l0])
   | succ k1 =>
    have H := HA.out
    clear HA
    simp only [zI.l0] at H
    by_cases c6 : x27_1 < t477
    ·rw [if_pos c6] at H
     have c6b0 : decide (x27_1 < t477) = true := decide_eq_true c6
     clear c6
     replace H := zdK.mp H
     obtain ⟨⟨t480, t481, t482⟩, A70, H⟩ := H
     replace H : (if t482 = 0 then (if x12_1.length < 17592186044416 then (zI.l0 k1 a0 t481 (x12_1 ++ [t480]) t477 (wrap64 (x27_1 + 1))) else (none)) else (some (([] : List Int), 0, t482))) = some (r1, r2, r3) := H
     have A7 := za.mk A70
     clear A70
     by_cases c8 : t482 = 0
     ·rw [if_pos c8] at H
      have c8b0 : (t482 == 0) = true := beq_iff_eq.mpr c8
      have c8b1 : (t482 != 0) = false := bne_eq_false_iff_eq.mpr c8
      clear c8
      by_cases c9 : x12_1.length < 17592186044416
      ·rw [if_pos c9] at H
       have LMc9 := za.mk c9
       clear c9
       obtain ⟨y483, hy483⟩ : ∃ y_ : List Int, y_ = (x12_1 ++ [t480]) := ⟨_, rfl⟩
       replace H : (zI.l0 k1 a0 t481 y483 t477 (wrap64 (x27_1 + 1))) = some (r1, r2, r3) := by first | (rw [hy483]; with_reducible exact H) | (have H2_ := (Option.bind_some _ _).symm.trans H; rw [hy483]; with_reducible exact H2_) | (have H2_ := (Option.bind_some _ _).symm.trans H; with_reducible exact H2_) | with_reducible exact H | (rw [hy483]; exact H) | exact H
       have Ny483 := za.mk hy483
       clear hy483
       have H' := za.mk H
       clear H
       go_wp2_with (first | ((with_reducible refine zN (N := 33) rfl ?_); refine vR (some 33) rfl rfl Tryz.func75 (by kernel_rfl) rfl #[.string a0, .int .i64 x10_1] rfl (by (try simp only [zdJ, List.map_cons, List.map_nil]); first | done | rfl | (simp only [List.length_drop, List.length_take]; rfl)) ?_; (with_reducible refine (zo.calls k1 a0 x10_1 t480 t481 t482 _ A7.out).mono ?_); rintro e w' ⟨rfl, ⟨nd, rfl⟩⟩; refine ⟨_, rfl, ?_⟩) | ((with_reducible refine jH (b := .append) (xs := #[.tmp 40, .tmp 42]) rfl ?_); at_builtin; refine Kd.R_append (Kd.int .i64) (w0 := w) w.heap.size rfl (.tmp 40) (.tmp 42) 50 3 (.int .i64 0) 8 rfl Tryz.underlying50 info3 rfl (by decide) (by omega) u12 x12_1 t480 [.int .i64 t480] (fun _ => True) (fun _ => False) rfl rfl ?aP (fun _ hk => hk.elim) ?aF ?aO ?aB ?aS ?aL ?_; (case aP => exact rfl); (case aB => exact (by repeat (first | (with_reducible first | exact HB.out | apply zc | apply zb | apply zd) | exact HB.out))); (case aF => exact (fun _ _ => trivial)); (case aO => exact (by (with_reducible repeat (first | apply Kd.R_alloc | apply Kd.R_drewN | apply Kd.R_drew)); exact HO_12.out)); (case aS => exact (zF (by repeat (first | (with_reducible first | exact HB.out | apply zc | apply zb | apply zd) | exact HB.out)))); (case aL => have := LMc9.out; omega); intro v484 w10 ho hb hg hat; rw [← Ny483.out] at ho; have n0_ := za.mk (hb); have n1_ := za.mk (ho); clear HB; clear HO_12; have HB := n0_; have HO485 := n1_; clear n0_ n1_; clear ho hb hg hat))
       go_roundg k1
       case measure => have := HK1.out; omega
       case rel => exact ⟨(t481), (y483), (wrap64 (x27_1 + 1)), (by first | rfl | (simp; done) | (simp [*]; done)), (by first | rfl | (simp; done) | (simp [*]; done)), H', ⟨by have := HK1.out; omega⟩, ⟨by (with_reducible repeat (first | apply Kd.R_alloc | apply Kd.R_drewN | apply Kd.R_drew)); exact HO485.out⟩, ⟨by repeat (first | (with_reducible first | exact HB.out | apply zc | apply zb | apply zd) | exact HB.out)⟩⟩
      ·rw [if_neg c9] at H
       exact absurd H (by simp)
     ·rw [if_neg c8] at H
      have c8b0 : (t482 == 0) = false := beq_eq_false_iff_ne.mpr c8
      have c8b1 : (t482 != 0) = true := bne_iff_ne.mpr c8
      simp only [Option.some.injEq, Prod.mk.injEq] at H
      obtain ⟨rfl, rfl, rfl⟩ := H
      go_wp2_with (first | ((with_reducible refine zN (N := 33) rfl ?_); refine vR (some 33) rfl rfl Tryz.func75 (by kernel_rfl) rfl #[.string a0, .int .i64 x10_1] rfl (by (try simp only [zdJ, List.map_cons, List.map_nil]); first | done | rfl | (simp only [List.length_drop, List.length_take]; rfl)) ?_; (with_reducible refine (zo.calls k1 a0 x10_1 t480 t481 t482 _ A7.out).mono ?_); rintro e w' ⟨rfl, ⟨nd, rfl⟩⟩; refine ⟨_, rfl, ?_⟩))
      go_ret3
      exact ⟨_, by first | rfl | (simp [zl, zk] <;> rfl) | (simp [*, zl, zk] <;> rfl), by first | exact Kd.R_nil _ _ _ _ _ | exact Kd.N_nil _ _ _ _ _ | exact Kd.V_nil _ _ _ _ _ | exact Kd.Q_nil _ _ _ _ _ | exact Kd.S_nil _ _ _ _ _, by repeat (first | (with_reducible first | exact HB.out | apply zc | apply zb | apply zd) | exact HB.out)⟩
    ·rw [if_neg c6] at H
     have c6b0 : decide (x27_1 < t477) = false := decide_eq_false c6
     clear c6
     simp only [Option.some.injEq, Prod.mk.injEq] at H
     obtain ⟨rfl, rfl, rfl⟩ := H
     go_wp2
     go_ret3
     exact ⟨_, by first | rfl | (simp [zl, zk] <;> rfl) | (simp [*, zl, zk] <;> rfl), by (with_reducible repeat (first | apply Kd.R_alloc | apply Kd.R_drewN | apply Kd.R_drew)); exact HO_12.out, by repeat (first | (with_reducible first | exact HB.out | apply zc | apply zb | apply zd) | exact HB.out)⟩
 ·rw [if_neg c5] at H
  have c5b0 : (t479 == 0) = false := beq_eq_false_iff_ne.mpr c5
  have c5b1 : (t479 != 0) = true := bne_iff_ne.mpr c5
  simp only [Option.some.injEq, Prod.mk.injEq] at H
  obtain ⟨rfl, rfl, rfl⟩ := H
  go_enter Tryz.func181, Tryz.ntmps181
  go_wp2_with (first | ((with_reducible refine zr (f := 155) rfl ?_); refine zL (some 19) rfl rfl Tryz.func155 (by kernel_rfl) rfl #[.string a0, .int .i64 a1, .int .i64 256] rfl (by (try simp only [zdJ, List.map_cons, List.map_nil]); first | done | rfl | (simp only [List.length_drop, List.length_take]; rfl)) ?_; (with_reducible refine (xl.calls k a0 a1 256 t477 t478 t479 _ A4.out).mono ?_); rintro e w' ⟨rfl, ⟨nd, rfl⟩⟩; refine ⟨_, rfl, ?_⟩))
  go_ret3
  exact ⟨_, by first | rfl | (simp [zl, zk] <;> rfl) | (simp [*, zl, zk] <;> rfl), by first | exact Kd.R_nil _ _ _ _ _ | exact Kd.N_nil _ _ _ _ _ | exact Kd.V_nil _ _ _ _ _ | exact Kd.Q_nil _ _ _ _ _ | exact Kd.S_nil _ _ _ _ _, by repeat (first | (with_reducible first | exact HB.out | apply zc | apply zb | apply zd) | exact HB.out)⟩
def qZ.f (k : Nat) (a0 : ByteArray) (a1 : Int) : Option (List Int × Int × Int) := (zI.f k a0 a1).bind fun bt486 => (some (bt486.1, bt486.2.1, bt486.2.2))
theorem qZ.calls (k : Nat) (a0 : ByteArray) (a1 : Int) (r1 : List Int) (r2 : Int) (r3 : Int) (w : World) (h : qZ.f k a0 a1 = some (r1, r2, r3)) :
  Calls Tryz.prog 174 #[.string a0, .int .i64 a1] w fun e w' => ∃ v0_ : Value, e = .returned (.tuple #[v0_, .int .i64 r2, .int .i64 r3]) ∧ Kd.R (Kd.int .i64) 3 w' w.heap.size (fun _ => True) v0_ r1 ∧ Below w.heap.size w w' := by
 have HB := za.mk (Below.refl w.heap.size w)
 have H : ((zI.f k a0 a1).bind fun bt486 => (some (bt486.1, bt486.2.1, bt486.2.2))) = some (r1, r2, r3) := h
 clear h
 replace H := zdK.mp H
 obtain ⟨⟨t486, t487, t488⟩, A30, H⟩ := H
 replace H : (some (t486, t487, t488)) = some (r1, r2, r3) := H
 have A3 := za.mk A30
 clear A30
 simp only [Option.some.injEq, Prod.mk.injEq] at H
 obtain ⟨rfl, rfl, rfl⟩ := H
 go_enter Tryz.func174, Tryz.ntmps174
 go_wp2_with (first | ((with_reducible refine zr (f := 181) rfl ?_); refine zL (some 9) rfl rfl Tryz.func181 (by kernel_rfl) rfl #[.string a0, .int .i64 a1, .func (Fn.func 75) #[] #[]] rfl (by (try simp only [zdJ, List.map_cons, List.map_nil]); first | done | rfl | (simp only [List.length_drop, List.length_take]; rfl)) ?_; (with_reducible refine (zI.calls k a0 a1 t486 t487 t488 _ A3.out).mono ?_); rintro e w4 ⟨v489, rfl, ho0, hb⟩; refine ⟨_, rfl, ?_⟩; have n0_ := za.mk (Kd.R_lower ho0 (zF (by repeat (first | (with_reducible first | exact HB.out | apply zc | apply zb | apply zd) | exact HB.out)))); have n1_ := za.mk (zp (by repeat (first | (with_reducible first | exact HB.out | apply zc | apply zb | apply zd) | exact HB.out)) hb); clear HB; have HO490 := n0_; have HB := n1_; clear n0_ n1_; (try clear hb); (try clear hb2); (try clear hk); (try clear hi); (try clear ho0)))
 go_ret3
 exact ⟨_, by first | rfl | (simp [zl, zk] <;> rfl) | (simp [*, zl, zk] <;> rfl), by (with_reducible repeat (first | apply Kd.R_alloc | apply Kd.R_drewN | apply Kd.R_drew)); exact HO490.out, by repeat (first | (with_reducible first | exact HB.out | apply zc | apply zb | apply zd) | exact HB.out)⟩
def qU.f (k : Nat) (a0 : ByteArray) (a1 : Int) : Option (ByteArray × Int × Int) := (xl.f k a0 a1 4096).bind fun bt104 => (if bt104.2.2 = 0 then (if bt104.1 > (wrap64 ((a0.size : Int) - bt104.2.1)) then (some ((⟨#[]⟩ : ByteArray), 0, 5)) else (if 0 ≤ bt104.2.1 then (if bt104.2.1 ≤ (wrap64 (bt104.2.1 + bt104.1)) then (if (wrap64 (bt104.2.1 + bt104.1)) ≤ (a0.size : Int) then (some (a0.extract (bt104.2.1 : Int).toNat ((wrap64 (bt104.2.1 + bt104.1)) : Int).toNat, wrap64 (bt104.2.1 + bt104.1), 0)) else (none)) else (none)) else (none))) else (some ((⟨#[]⟩ : ByteArray), 0, bt104.2.2)))
theorem qU.calls (k : Nat) (a0 : ByteArray) (a1 : Int) (r1 : ByteArray) (r2 : Int) (r3 : Int) (w : World) (h : qU.f k a0 a1 = some (r1, r2, r3)) :
  Calls Tryz.prog 118 #[.string a0, .int .i64 a1] w fun e w' => e = .returned (.tuple #[.string r1, .int .i64 r2, .int .i64 r3]) ∧ zi w w' := by
 have H : ((xl.f k a0 a1 4096).bind fun bt104 => (if bt104.2.2 = 0 then (if bt104.1 > (wrap64 ((a0.size : Int) - bt104.2.1)) then (some ((⟨#[]⟩ : ByteArray), 0, 5)) else (if 0 ≤ bt104.2.1 then (if bt104.2.1 ≤ (wrap64 (bt104.2.1 + bt104.1)) then (if (wrap64 (bt104.2.1 + bt104.1)) ≤ (a0.size : Int) then (some (a0.extract (bt104.2.1 : Int).toNat ((wrap64 (bt104.2.1 + bt104.1)) : Int).toNat, wrap64 (bt104.2.1 + bt104.1), 0)) else (none)) else (none)) else (none))) else (some ((⟨#[]⟩ : ByteArray), 0, bt104.2.2)))) = some (r1, r2, r3) := h
 clear h
 replace H := zdK.mp H
 obtain ⟨⟨t104, t105, t106⟩, A30, H⟩ := H
 replace H : (if t106 = 0 then (if t104 > (wrap64 ((a0.size : Int) - t105)) then (some ((⟨#[]⟩ : ByteArray), 0, 5)) else (if 0 ≤ t105 then (if t105 ≤ (wrap64 (t105 + t104)) then (if (wrap64 (t105 + t104)) ≤ (a0.size : Int) then (some (a0.extract (t105 : Int).toNat ((wrap64 (t105 + t104)) : Int).toNat, wrap64 (t105 + t104), 0)) else (none)) else (none)) else (none))) else (some ((⟨#[]⟩ : ByteArray), 0, t106))) = some (r1, r2, r3) := H
 have A3 := za.mk A30
 clear A30
 by_cases c4 : t106 = 0
 ·rw [if_pos c4] at H
  have c4b0 : (t106 == 0) = true := beq_iff_eq.mpr c4
  have c4b1 : (t106 != 0) = false := bne_eq_false_iff_eq.mpr c4
  clear c4
  by_cases c5 : t104 > (wrap64 ((a0.size : Int) - t105))
  ·rw [if_pos c5] at H
   have c5b0 : decide ((wrap64 ((a0.size : Int) - t105)) < t104) = true := decide_eq_true c5
   clear c5
   simp only [Option.some.injEq, Prod.mk.injEq] at H
   obtain ⟨rfl, rfl, rfl⟩ := H
   go_enter Tryz.func118, Tryz.ntmps118
   go_wp2_with (first | ((with_reducible refine zr (f := 155) rfl ?_); refine zL (some 13) rfl rfl Tryz.func155 (by kernel_rfl) rfl #[.string a0, .int .i64 a1, .int .i64 4096] rfl (by (try simp only [zdJ, List.map_cons, List.map_nil]); first | done | rfl | (simp only [List.length_drop, List.length_take]; rfl)) ?_; (with_reducible refine (xl.calls k a0 a1 4096 t104 t105 t106 _ A3.out).mono ?_); rintro e w' ⟨rfl, ⟨nd, rfl⟩⟩; refine ⟨_, rfl, ?_⟩))
   go_ret3
   exact ⟨by first | rfl | (simp; done) | (simp [*]; done), by repeat (first | exact zi.refl _ | apply zi.step)⟩
  ·rw [if_neg c5] at H
   have c5b0 : decide ((wrap64 ((a0.size : Int) - t105)) < t104) = false := decide_eq_false c5
   clear c5
   by_cases c6 : 0 ≤ t105
   ·rw [if_pos c6] at H
    have c6b0 := eq_true c6
    have c6b1 : decide (0 ≤ t105) = true := decide_eq_true c6
    clear c6
    by_cases c7 : t105 ≤ (wrap64 (t105 + t104))
    ·rw [if_pos c7] at H
     have c7b0 := eq_true c7
     have c7b1 : decide (t105 ≤ (wrap64 (t105 + t104))) = true := decide_eq_true c7
     by_cases c8 : (wrap64 (t105 + t104)) ≤ (a0.size : Int)
     ·rw [if_pos c8] at H
      have c8b0 := eq_true c8
      have c8b1 : decide ((wrap64 (t105 + t104)) ≤ (a0.size : Int)) = true := decide_eq_true c8
      simp only [Option.some.injEq, Prod.mk.injEq] at H
      obtain ⟨rfl, rfl, rfl⟩ := H
      go_enter Tryz.func118, Tryz.ntmps118
      go_wp2_with (first | ((with_reducible refine zr (f := 155) rfl ?_); refine zL (some 13) rfl rfl Tryz.func155 (by kernel_rfl) rfl #[.string a0, .int .i64 a1, .int .i64 4096] rfl (by (try simp only [zdJ, List.map_cons, List.map_nil]); first | done | rfl | (simp only [List.length_drop, List.length_take]; rfl)) ?_; (with_reducible refine (xl.calls k a0 a1 4096 t104 t105 t106 _ A3.out).mono ?_); rintro e w' ⟨rfl, ⟨nd, rfl⟩⟩; refine ⟨_, rfl, ?_⟩))
      go_ret3
      exact ⟨by first | rfl | (simp; done) | (simp [*]; done), by repeat (first | exact zi.refl _ | apply zi.step)⟩
     ·rw [if_neg c8] at H
      exact absurd H (by simp)
    ·rw [if_neg c7] at H
     exact absurd H (by simp)
   ·rw [if_neg c6] at H
    exact absurd H (by simp)
 ·rw [if_neg c4] at H
  have c4b0 : (t106 == 0) = false := beq_eq_false_iff_ne.mpr c4
  have c4b1 : (t106 != 0) = true := bne_iff_ne.mpr c4
  simp only [Option.some.injEq, Prod.mk.injEq] at H
  obtain ⟨rfl, rfl, rfl⟩ := H
  go_enter Tryz.func118, Tryz.ntmps118
  go_wp2_with (first | ((with_reducible refine zr (f := 155) rfl ?_); refine zL (some 13) rfl rfl Tryz.func155 (by kernel_rfl) rfl #[.string a0, .int .i64 a1, .int .i64 4096] rfl (by (try simp only [zdJ, List.map_cons, List.map_nil]); first | done | rfl | (simp only [List.length_drop, List.length_take]; rfl)) ?_; (with_reducible refine (xl.calls k a0 a1 4096 t104 t105 t106 _ A3.out).mono ?_); rintro e w' ⟨rfl, ⟨nd, rfl⟩⟩; refine ⟨_, rfl, ?_⟩))
  go_ret3
  exact ⟨by first | rfl | (simp; done) | (simp [*]; done), by repeat (first | exact zi.refl _ | apply zi.step)⟩
theorem zq (x y : ByteArray) : (x ++ y).size = x.size + y.size := ByteArray.size_append
def ZM {α : Type} (T : α → ByteArray × Int) : List α → ByteArray
 | [] => ⟨#[]⟩
 | x :: l => (T x).1 ++ ZM T l
theorem yz (a b c : ByteArray) : a ++ b ++ c = a ++ (b ++ c) := vI (by simp only [ZI, List.append_assoc])
theorem qe (a : ByteArray) : a ++ (⟨#[]⟩ : ByteArray) = a := vI (by rw [ZI]; exact List.append_nil _)
theorem JM {α : Type} (T : α → ByteArray × Int) (l : List α) : ∀ acc, (jp T l acc).2 = 0 → (∀ x ∈ l, (T x).2 = 0) ∧ (jp T l acc).1 = acc ++ ZM T l := by
 induction l with
 | nil => intro acc _; exact ⟨fun x hx => absurd hx (List.not_mem_nil), by rw [jp, ZM, qe]⟩
 | cons x l ih =>
  intro acc
  rw [jp]
  by_cases h : (T x).2 = 0
  ·rw [if_pos h]
   intro h2
   obtain ⟨i1, i2⟩ := ih _ h2
   refine ⟨fun y hy => ?_, by rw [i2, ZM, yz]⟩
   rcases List.mem_cons.mp hy with rfl | hy
   ·exact h
   ·exact i1 y hy
  ·rw [if_neg h]
   intro h2
   exact absurd h2 h
theorem Xg {α : Type} (T : α → ByteArray × Int) (l : List α) : ∀ acc, (∀ x ∈ l, (T x).2 = 0) → jp T l acc = (acc ++ ZM T l, 0) := by
 induction l with
 | nil => intro acc _; rw [jp, ZM, qe]
 | cons x l ih =>
  intro acc h
  rw [jp, if_pos (h x (List.mem_cons_self ..)), ih _ (fun y hy => h y (List.mem_cons_of_mem _ hy)), ZM, yz]
theorem Xm (n : Int) (h0 : -9223372036854775808 ≤ n) (h1 : n ≤ 9223372036854775807) : (Lit.int .i64 n).wf = true := by
 have m1 : IntKind.i64.min = -9223372036854775808 := rfl
 have m2 : IntKind.i64.max = 9223372036854775807 := rfl
 simp only [Lit.wf, Bool.and_eq_true, decide_eq_true_eq]
 omega
theorem Y9 {α : Type} (T : α → ByteArray × Int) (M : Nat) (l : List α) : (∀ x ∈ l, (T x).1.size ≤ M) → (ZM T l).size ≤ M * l.length := by
 induction l with
 | nil => intro _; exact Nat.zero_le _
 | cons x l ih =>
  intro h
  have h1 := h x (List.mem_cons_self ..)
  have h2 := ih (fun y hy => h y (List.mem_cons_of_mem _ hy))
  rw [ZM, zq, List.length_cons, Nat.mul_succ]
  omega
theorem Q9 (l : List Int) : (qd l).2 = 0 → (qd l).1.size ≤ 10000000 := by
 unfold qd
 by_cases hl : 256 < l.length
 ·rw [if_pos hl]; intro h; exact absurd h (by decide)
 ·rw [if_neg hl]
  intro h
  rw [(JM _ l _ h).2, zq]
  have h1 := zE (l.length : Int)
  have h2 := Y9 (fun n => (yn n, (0 : Int))) 10 l (fun x _ => zE x)
  omega
theorem Vw (l : List ByteArray) : (vl l).2 = 0 → (vl l).1.size ≤ 10000000 := by
 unfold vl
 by_cases hl : 256 < l.length
 ·rw [if_pos hl]; intro h; exact absurd h (by decide)
 ·rw [if_neg hl]
  intro h
  rw [(JM _ l _ h).2, zq]
  have h1 := zE (l.length : Int)
  have h2 := Y9 jZ 4106 l (fun x _ => jW x)
  omega
theorem xr (a b : ByteArray) : bytesOf (a ++ b) = bytesOf a ++ bytesOf b := by
 rw [vO, vO, vO, ZI, List.map_append]
theorem Zs : bytesOf (⟨#[]⟩ : ByteArray) = [] := rfl
theorem Z3 (a : ByteArray) : (⟨#[]⟩ : ByteArray) ++ a = a := vI (by rw [ZI]; rfl)
def yV {α : Type} (B : α → ByteArray) (l : List α) : ByteArray := ZM (fun x => (B x, (0 : Int))) l
def yt {α : Type} (B : α → ByteArray) (l : List α) : ByteArray := yn (l.length : Int) ++ yV B l
def yB (l : List Int) : ByteArray := yV yn l
def xi (s : ByteArray) : ByteArray := yn (s.size : Int) ++ s
theorem xO {α : Type} (B : α → ByteArray) : yV B [] = ⟨#[]⟩ := rfl
theorem qC {α : Type} (B : α → ByteArray) (x : α) (l : List α) : yV B (x :: l) = B x ++ yV B l := rfl
theorem jI {α : Type} (B : α → ByteArray) (M : Nat) (l : List α) (h : ∀ x ∈ l, (B x).size ≤ M) : (yV B l).size ≤ M * l.length := Y9 _ M l h
theorem xu (l : List Int) : (yB l).size ≤ 10 * l.length := jI yn 10 l (fun x _ => zE x)
theorem qX (a b : Int) : yB [a, b] = yn a ++ yn b := by
 unfold yB
 rw [qC, qC, xO, qe]
theorem ZH (a : Int) : yB [a] = yn a := by
 unfold yB
 rw [qC, xO, qe]
theorem xn (l : List Int) : (yt yn l).size ≤ 10 + 10 * l.length := by
 have h1 := zE (l.length : Int)
 have h2 := jI yn 10 l (fun x _ => zE x)
 unfold yt
 rw [zq]
 omega
theorem xa (s : ByteArray) : (xi s).size ≤ 10 + s.size := by
 have := zE (s.size : Int)
 unfold xi
 rw [zq]
 omega
theorem Zz (l : List Int) : (qd l).1.size ≤ 10000000 := by
 by_cases h : 256 < l.length
 ·unfold qd
  rw [if_pos h]
  exact Nat.zero_le _
 ·exact Q9 l (by
   unfold qd
   rw [if_neg h, Xg _ _ _ (fun _ _ => rfl)])
theorem Zi (l : List Int) (h : l.length ≤ 256) : qd l = (yt yn l, 0) := by
 unfold qd
 rw [if_neg (by omega), Xg _ _ _ (fun _ _ => rfl)]
 rfl
theorem vt (s : ByteArray) (h : s.size ≤ 4096) : jZ s = (xi s, 0) := by
 unfold jZ
 rw [if_neg (by omega)]
 rfl
theorem zaF (l : List Int) (h : ∀ n ∈ l, (Lit.int .i64 n).wf = true) (hl : l.length ≤ 1048576) (d : Nat) : ∀ (k i : Nat) (acc : ByteArray), i + d = l.length → d + 1 ≤ k → acc.size + 10 * d < 140737488355328 →
  zw.l0 k (bytesOf acc) l (l.length : Int) (i : Int) = some (bytesOf (acc ++ yB (l.drop i))) := by
 induction d with
 | zero =>
  intro k i acc hi hk ha
  obtain ⟨k, rfl⟩ : ∃ m, k = m + 1 := ⟨k - 1, by omega⟩
  rw [zw.l0, if_neg (by omega), List.drop_of_length_le (by omega), yB, xO, qe]
 | succ d ih =>
  intro k i acc hi hk ha
  obtain ⟨k, rfl⟩ : ∃ m, k = m + 1 := ⟨k - 1, by omega⟩
  have hlt : i < l.length := by omega
  have hb := X9 (h _ (List.getElem_mem hlt))
  have hs := zE l[i]
  rw [zw.l0, if_pos (by omega), if_pos (by omega), if_pos (by omega), XS l i hlt, zC (jC _ hb.1 hb.2), if_pos (by rw [yy]; omega), z4 (by omega) (by omega), List.drop_eq_getElem_cons hlt, ← xr]
  have := ih k (i + 1) (acc ++ yn l[i]) (by omega) (by omega) (by rw [zq]; omega)
  rw [yz] at this
  exact this
theorem Z8 (l : List Int) (h : ∀ n ∈ l, (Lit.int .i64 n).wf = true) (hl : l.length ≤ 1048576) (acc : ByteArray) (ha : acc.size + 10 * l.length < 140737488355328) (k : Nat) (hk : l.length + 1 ≤ k) :
  zw.f k (bytesOf acc) l = some (bytesOf (acc ++ yB l)) := by
 unfold zw.f
 exact zaF l h hl l.length k 0 acc (by omega) hk ha
theorem qw {a b : Int} (ha : (Lit.int .i64 a).wf = true) (hb : (Lit.int .i64 b).wf = true) : ∀ n ∈ [a, b], (Lit.int .i64 n).wf = true := by
 intro n hn
 rcases List.mem_cons.1 hn with rfl | hn
 ·exact ha
 ·rcases List.mem_cons.1 hn with rfl | hn
  ·exact hb
  ·cases hn
theorem Xb {a : Int} (ha : (Lit.int .i64 a).wf = true) : ∀ n ∈ [a], (Lit.int .i64 n).wf = true := by
 intro n hn
 rcases List.mem_cons.1 hn with rfl | hn
 ·exact ha
 ·cases hn
theorem YO (a b : Int) (ha : (Lit.int .i64 a).wf = true) (hb : (Lit.int .i64 b).wf = true) (acc : ByteArray) (hacc : acc.size + 20 < 140737488355328) (k : Nat) (hk : 3 ≤ k) :
  zw.f k (bytesOf acc) [a, b] = some (bytesOf (acc ++ (yn a ++ yn b))) := by
 rw [Z8 [a, b] (qw ha hb) (by simp) acc (by simp; omega) k (by simp; omega), qX]
theorem jP (a : Int) (ha : (Lit.int .i64 a).wf = true) (acc : ByteArray) (hacc : acc.size + 20 < 140737488355328) (k : Nat) (hk : 3 ≤ k) :
  zw.f k (bytesOf acc) [a] = some (bytesOf (acc ++ yn a)) := by
 rw [Z8 [a] (Xb ha) (by simp) acc (by simp; omega) k (by simp; omega), ZH]
theorem Yr (s : ByteArray) (hs : s.size ≤ 140737488351232) (acc : ByteArray) (ha : acc.size + 4106 < 140737488355328) : qg.f (bytesOf acc) s = some (bytesOf (acc ++ (jZ s).1)) := by
 have := jW s
 unfold qg.f
 rw [zC (Xj s hs), if_pos (by rw [yy]; omega), ← xr]
theorem j9 (l : List Int) (h : ∀ n ∈ l, (Lit.int .i64 n).wf = true) (acc : ByteArray) (ha : acc.size + 10000000 < 140737488355328) : yF.f (bytesOf acc) l = some (bytesOf (acc ++ (qd l).1)) := by
 have := Zz l
 unfold yF.f
 rw [zC (JF l h), if_pos (by rw [yy]; omega), ← xr]
def qB (b : Bool) (y : ByteArray) : ByteArray × Int := if b = true then (y, 0) else (⟨#[]⟩, 2)
theorem ZG (b : Bool) (y : ByteArray) : yC.f b (bytesOf y) = some (qB b y) := by
 unfold yC.f qB
 cases b with
 | true => rw [if_pos rfl, if_pos rfl, xc]
 | false => rw [if_neg (by decide), if_neg (by decide)]
theorem ZR {α : Type} (T : List Int → α → Option (List Int)) (B : α → ByteArray) (M : Nat) (l : List α) : ∀ acc : ByteArray, (∀ x ∈ l, (B x).size ≤ M) → (∀ x ∈ l, ∀ a : ByteArray, a.size + M < 140737488355328 → T (bytesOf a) x = some (bytesOf (a ++ B x))) → acc.size + M * l.length < 140737488355328 →
  xX T l (bytesOf acc) = some (bytesOf (acc ++ yV B l)) := by
 induction l with
 | nil => intro acc _ _ _; rw [xO, qe]; rfl
 | cons x l ih =>
  intro acc hM hT ha
  rw [List.length_cons, Nat.mul_succ] at ha
  have h1 := hM x List.mem_cons_self
  rw [xX, zC (hT x List.mem_cons_self acc (by omega)), ih (acc ++ B x) (fun y hy => hM y (List.mem_cons_of_mem _ hy)) (fun y hy => hT y (List.mem_cons_of_mem _ hy)) (by rw [zq]; omega), qC, yz]
theorem zaP (l : List S108) (i : Nat) (h : i < l.length) : yq l (i : Int) = l[i] := by simp [yq, h]
theorem zdA (l : List S77) (i : Nat) (h : i < l.length) : yv l (i : Int) = l[i] := by simp [yv, h]
theorem zbc (l : List S108) (hl : l.length ≤ 9223372036854775807) (M : Nat) (hz : ∀ x ∈ l, x.f1.length + 1 ≤ M ∧ x.f1.length ≤ 9223372036854775807) (d : Nat) : ∀ (k i : Nat), i + d = l.length → d + M + 1 ≤ k → z2.l0 k l l (l.length : Int) (i : Int) = some ((l.drop i).all evB && decide ((l.length : Int) ≤ 3)) := by
 induction d with
 | zero =>
  intro k i hi hk
  obtain ⟨k, rfl⟩ : ∃ k', k = k' + 1 := ⟨k - 1, by omega⟩
  rw [z2.l0, if_neg (by omega), List.drop_eq_nil_of_le (by omega)]
  rfl
 | succ d ih =>
  intro k i hi hk
  obtain ⟨k, rfl⟩ : ∃ k', k = k' + 1 := ⟨k - 1, by omega⟩
  have hs := ih k (i + 1) (by omega) (by omega)
  rw [z2.l0, if_pos (by omega), if_pos (by omega), if_pos (by omega), zaP l i (by omega), zC (X1 _ _ (hz _ (List.getElem_mem _)).2 k (by have := (hz _ (List.getElem_mem (h := by omega) : l[i] ∈ l)).1; omega)), (List.drop_eq_getElem_cons (by omega) : l.drop i = l[i] :: l.drop (i + 1)), List.all_cons, z4 (by omega) (by omega)]
  show (if evB l[i] = true then _ else _) = _
  cases hb : evB l[i] with
  | true => rw [if_pos rfl, Bool.true_and]; exact hs
  | false => rw [if_neg (by decide), Bool.false_and, Bool.false_and]
theorem Vn (l : List S108) (hl : l.length ≤ 9223372036854775807) (M : Nat) (hz : ∀ x ∈ l, x.f1.length + 1 ≤ M ∧ x.f1.length ≤ 9223372036854775807) (k : Nat) (hk : l.length + (M + 1) ≤ k) : z2.f k l = some (ju l) := by
 unfold z2.f ju
 exact zbc l hl M hz l.length k 0 (by omega) hk
def vv (l : List ByteArray) : Bool := decide (l.length ≤ 8) && l.all qn
theorem zcD (l : List ByteArray) (hl : l.length ≤ 9223372036854775807) (d : Nat) : ∀ (k i : Nat), i + d = l.length → d + 301 ≤ k → ∃ r, yu.l0 k l (l.length : Int) (i : Int) = some r ∧ (r.2 == 0) = (l.drop i).all qn := by
 induction d with
 | zero =>
  intro k i hi hk
  obtain ⟨k, rfl⟩ : ∃ k', k = k' + 1 := ⟨k - 1, by omega⟩
  rw [yu.l0, if_neg (by omega), List.drop_eq_nil_of_le (by omega)]
  exact ⟨_, rfl, rfl⟩
 | succ d ih =>
  intro k i hi hk
  obtain ⟨k, rfl⟩ : ∃ k', k = k' + 1 := ⟨k - 1, by omega⟩
  have hs := ih k (i + 1) (by omega) (by omega)
  rw [yu.l0, if_pos (by omega), if_pos (by omega), if_pos (by omega), Qu l i (by omega), zC (JU l[i] k (by omega)), (List.drop_eq_getElem_cons (by omega) : l.drop i = l[i] :: l.drop (i + 1)), List.all_cons, z4 (by omega) (by omega)]
  cases qn l[i] with
  | true => rw [if_pos rfl, Bool.true_and]; exact hs
  | false => rw [if_neg (by decide), Bool.false_and]; exact ⟨_, rfl, rfl⟩
theorem X5 (l : List ByteArray) (hl : l.length ≤ 9223372036854775807) (k : Nat) (hk : l.length + 301 ≤ k) : ∃ r, yu.f k l = some r ∧ (r.2 == 0) = vv l := by
 unfold yu.f vv
 by_cases h : l.length ≤ 8
 ·rw [if_neg (by omega), decide_eq_true h, Bool.true_and]
  exact zcD l hl l.length k 0 (by omega) (by omega)
 ·rw [if_pos (by omega), decide_eq_false h]
  exact ⟨_, rfl, rfl⟩
theorem zda (n a b : Int) : wiB n a b = true ↔ a ≤ n ∧ n ≤ b := by
 unfold wiB
 exact decide_eq_true_iff
def evY (x : S108) : ByteArray := yn x.f0 ++ yt yn x.f1
def veY (x : S77) : ByteArray := yn x.f0 ++ yn x.f1
def itY (x : S86) : ByteArray := ((xi x.f0 ++ yn x.f1.f0) ++ yn x.f1.f1) ++ yt yn x.f1.f2
theorem zb6 (c s : Int) (st : ByteArray) (r : Int) (l : List Int) (x : Int) (_hl : l.length < 9223372036854775807) (k : Nat) (_hk : l.length + 300 ≤ k) : qD.f k c s st r l x = some (jo c s st r l x) := rfl
theorem Ja (l : List S77) (_hl : l.length < 9223372036854775807) (k : Nat) (_hk : l.length + 1 ≤ k) : qI.f k l = some (yY l) := rfl
theorem zaq (l : List S86) (k : Nat) : jD.f k l = some (xR l) := rfl
theorem ZO {b : Bool} {y z : ByteArray} (h : b = true → y = z) : qB b y = qB b z := by
 cases b with
 | true => rw [h rfl]
 | false => rfl
theorem X0 {α : Type} {B C : α → ByteArray} (l : List α) (h : ∀ x ∈ l, B x = C x) : yV B l = yV C l := by
 induction l with
 | nil => rfl
 | cons x l ih => rw [qC, qC, h x List.mem_cons_self, ih (fun y hy => h y (List.mem_cons_of_mem _ hy))]
theorem zbs {α : Type} (T : α → ByteArray × Int) (l : List α) : ∀ acc, (jp T l acc).2 ≠ 0 → (jp T l acc).1 = ⟨#[]⟩ := by
 induction l with
 | nil => intro acc h; exact absurd rfl h
 | cons x l ih =>
  intro acc
  rw [jp]
  split
  ·exact ih _
  ·intro _; rfl
theorem zbD (l : List ByteArray) : (vl l).1.size ≤ 10000000 := by
 by_cases h : (vl l).2 = 0
 ·exact Vw l h
 ·unfold vl at h ⊢
  split at h
  ·rw [if_pos ‹_›]; exact Nat.zero_le _
  ·rw [if_neg ‹_›, zbs _ _ _ h]; exact Nat.zero_le _
theorem J3 (l : List ByteArray) (hl : l.length ≤ 256) (h : ∀ x ∈ l, x.size ≤ 4096) : vl l = (yt xi l, 0) := by
 have h1 : ∀ x ∈ l, (jZ x).2 = 0 := fun x hx => by rw [vt x (h x hx)]
 unfold vl
 rw [if_neg (by omega), Xg _ _ _ h1]
 unfold yt
 have : ZM jZ l = yV xi l := by
  clear hl
  induction l with
  | nil => rfl
  | cons x l ih => rw [ZM, vt x (h x List.mem_cons_self), ih (fun y hy => h y (List.mem_cons_of_mem _ hy)) (fun y hy => h1 y (List.mem_cons_of_mem _ hy))]; rfl
 rw [this]
theorem Xq {s : ByteArray} (h : xq s = true) : s.size ≤ 32 := by
 unfold xq at h
 rw [Bool.and_eq_true, decide_eq_true_eq] at h
 exact h.1
theorem VU {s : ByteArray} (h : qn s = true) : s.size ≤ 32 := by
 unfold qn at h
 rw [Bool.and_eq_true, decide_eq_true_eq] at h
 exact h.1
theorem Zr {n a b : Int} (h : wiB n a b = true) (ha : -9223372036854775808 ≤ a) (hb : b ≤ 9223372036854775807) : (Lit.int .i64 n).wf = true := by
 have := (zda _ _ _).1 h
 exact Xm n (by omega) (by omega)
theorem zdx {l : List Int} {m : Int} (h : js l m = true) : (∀ n ∈ l, (Lit.int .i64 n).wf = true) ∧ (l.length : Int) ≤ m := by
 unfold js at h
 rw [Bool.and_eq_true, decide_eq_true_eq, List.all_eq_true] at h
 exact ⟨fun n hn => Zr (h.1 n hn) (by decide) (by decide), h.2⟩
theorem zdq {c s : Int} {st : ByteArray} (h : vX c s st = true) : (Lit.int .i64 c).wf = true ∧ (Lit.int .i64 s).wf = true ∧ st.size ≤ 32 := by
 unfold vX at h
 rw [Bool.and_eq_true, Bool.and_eq_true] at h
 exact ⟨Zr h.1 (by decide) (by decide), Zr h.2.1 (by decide) (by decide), Xq h.2.2⟩
def vT (l : List Int) : Prop := l.length ≤ 1048576 ∧ ∀ n ∈ l, (Lit.int .i64 n).wf = true
theorem JD {l : List Int} {m : Int} (h : js l m = true) (hm : m ≤ 256) : vT l ∧ l.length ≤ 256 := by
 have := zdx h
 exact ⟨⟨by omega, this.1⟩, by omega⟩
theorem JX {c s : Int} {st : ByteArray} {r : Int} {l : List Int} {x : Int} (h : jo c s st r l x = true) : (Lit.int .i64 c).wf = true ∧ (Lit.int .i64 s).wf = true ∧ st.size ≤ 32 ∧ (Lit.int .i64 r).wf = true ∧ vT l ∧ l.length ≤ 256 ∧ (Lit.int .i64 x).wf = true := by
 unfold jo at h
 rw [Bool.and_eq_true, Bool.and_eq_true, Bool.and_eq_true] at h
 have h1 := zdq h.1
 have h2 := JD h.2.2.1 (by decide)
 exact ⟨h1.1, h1.2.1, h1.2.2, Zr h.2.1 (by decide) (by decide), h2.1, h2.2, Zr h.2.2.2 (by decide) (by decide)⟩
def YL (x : S108) : Prop := (Lit.int .i64 x.f0).wf = true ∧ vT x.f1
theorem ev_wf {x : S108} (h : evB x = true) : YL x ∧ x.f1.length ≤ 256 := by
 unfold evB at h
 rw [Bool.and_eq_true] at h
 have h2 := JD h.2 (by decide)
 exact ⟨⟨Zr h.1 (by decide) (by decide), h2.1⟩, h2.2⟩
theorem JA {l : List S108} (h : ju l = true) : l.length ≤ 3 ∧ ∀ x ∈ l, YL x ∧ x.f1.length ≤ 256 := by
 unfold ju at h
 rw [Bool.and_eq_true, decide_eq_true_eq, List.all_eq_true] at h
 exact ⟨by omega, fun x hx => ev_wf (h.1 x hx)⟩
theorem QY {α : Type} {P : α → Bool} {R : α → α → Bool} (l : List α) : ∀ o, xB P R o l = true → ∀ x ∈ l, P x = true := by
 induction l with
 | nil => intro o _ x hx; cases hx
 | cons y l ih =>
  intro o h x hx
  have h2 : P y = true ∧ xB P R (some y) l = true := by
   cases o with
   | none => rw [xB, Bool.and_eq_true] at h; exact h
   | some p => rw [xB, Bool.and_eq_true, Bool.and_eq_true] at h; exact ⟨h.1, h.2.2⟩
  rcases List.mem_cons.1 hx with rfl | hx
  ·exact h2.1
  ·exact ih _ h2.2 x hx
def Xl (x : S86) : Prop := x.f0.size ≤ 140737488351232 ∧ (Lit.int .i64 x.f1.f0).wf = true ∧ (Lit.int .i64 x.f1.f1).wf = true ∧ vT x.f1.f2
theorem it_wf {x : S86} (h : itB x = true) : Xl x ∧ x.f0.size ≤ 32 ∧ x.f1.f2.length ≤ 256 := by
 unfold itB Qs at h
 rw [Bool.and_eq_true, Bool.and_eq_true, Bool.and_eq_true] at h
 have h1 := Xq h.1
 have h2 := JD h.2.2.1 (by decide)
 exact ⟨⟨by omega, Zr h.2.1 (by decide) (by decide), Zr h.2.2.2 (by decide) (by decide), h2.1⟩, h1, h2.2⟩
theorem Z9 {l : List S86} (h : xR l = true) : l.length ≤ 64 ∧ ∀ x ∈ l, Xl x ∧ x.f0.size ≤ 32 ∧ x.f1.f2.length ≤ 256 := by
 unfold xR at h
 rw [Bool.and_eq_true, decide_eq_true_eq] at h
 exact ⟨by omega, fun x hx => it_wf (QY l none h.1 x hx)⟩
def Qq (x : S77) : Prop := (Lit.int .i64 x.f0).wf = true ∧ (Lit.int .i64 x.f1).wf = true
theorem Zw {l : List S77} (h : yY l = true) : l.length ≤ 32 ∧ ∀ x ∈ l, Qq x := by
 unfold yY at h
 rw [Bool.and_eq_true, decide_eq_true_eq] at h
 refine ⟨by omega, fun x hx => ?_⟩
 have h2 := QY l none h.1 x hx
 unfold Yq at h2
 rw [Bool.and_eq_true] at h2
 exact ⟨Zr h2.1 (by decide) (by decide), Zr h2.2 (by decide) (by decide)⟩
theorem Xk {l : List ByteArray} (h : vv l = true) : l.length ≤ 8 ∧ ∀ x ∈ l, x.size ≤ 32 := by
 unfold vv at h
 rw [Bool.and_eq_true, decide_eq_true_eq, List.all_eq_true] at h
 exact ⟨h.1, fun x hx => VU (h.2 x hx)⟩
def Y4 (c s : Int) (st : ByteArray) (r : Int) (l : List Int) (x : Int) : ByteArray := ((((yn c ++ yn s) ++ xi st) ++ yn r) ++ yt yn l) ++ yn x
theorem Vo (c s : Int) (st : ByteArray) (r : Int) (l : List Int) (x : Int) (h1 : (Lit.int .i64 c).wf = true) (h2 : (Lit.int .i64 s).wf = true) (h3 : st.size ≤ 140737488351232) (h4 : (Lit.int .i64 r).wf = true) (h5 : vT l) (h6 : (Lit.int .i64 x).wf = true) (k : Nat) (hk : 3000000 ≤ k) :
  yT.f k c s st r l x = some (qB (jo c s st r l x) (Y4 c s st r l x)) := by
 have b1 := zE c
 have b2 := zE s
 have b3 := jW st
 have b4 := zE r
 have b5 := Zz l
 have e1 := YO c s h1 h2 ⟨#[]⟩ (by decide) k (by omega)
 rw [Zs, Z3] at e1
 unfold yT.f
 rw [zC e1, zC (Yr st h3 _ (by simp only [zq]; omega)), zC (jP r h4 _ (by simp only [zq]; omega) k (by omega)), zC (j9 l h5.2 _ (by simp only [zq]; omega)), zC (zb6 c s st r l x (by have := h5.1; omega) k (by have := h5.1; omega)), zC (jP x h6 _ (by simp only [zq]; omega) k (by omega)), zC (ZG _ _)]
 refine congrArg some (ZO fun hb => ?_)
 obtain ⟨_, _, g3, _, _, g6, _⟩ := JX hb
 rw [vt st (by omega), Zi l g6]
 rfl
def evZ (x : S108) : ByteArray := yn x.f0 ++ (qd x.f1).1
theorem zcj (x : S108) : (evZ x).size ≤ 10000010 := by
 have h1 := zE x.f0
 have h2 := Zz x.f1
 unfold evZ
 rw [zq]
 omega
theorem Jj (x : S108) (h : YL x) (a : ByteArray) (ha : a.size + 10000030 < 140737488355328) (k : Nat) (hk : 3 ≤ k) : yl.f k (bytesOf a) x.f0 x.f1 = some (bytesOf (a ++ evZ x)) := by
 have h1 := zE x.f0
 unfold yl.f
 rw [zC (jP x.f0 h.1 a (by omega) k hk), zC (j9 x.f1 h.2.2 _ (by rw [zq]; omega)), yz]
 rfl
theorem Qn (l : List S108) (hl : l.length ≤ 1048576) (h : ∀ x ∈ l, YL x) (a : ByteArray) (ha : a.size ≤ 100000000) (k : Nat) (hk : 3000000 ≤ k) : zU.f k (bytesOf a) l = some (bytesOf (a ++ yt evZ l)) := by
 have h1 := zE (l.length : Int)
 unfold zU.f
 rw [zC (jP (l.length : Int) (Xm _ (by omega) (by omega)) a (by omega) k (by omega)), ZR _ evZ 10000030 l _ (fun x _ => Nat.le_trans (zcj x) (by decide)) (fun x hx b hb => Jj x (h x hx) b hb k (by omega)) (by rw [zq]; omega), yz]
 rfl
theorem zbj (l : List S108) (h : ju l = true) : yt evZ l = yt evY l := by
 unfold yt
 rw [X0 l (fun x hx => ?_)]
 unfold evZ evY
 rw [Zi x.f1 ((JA h).2 x hx).2]
theorem evsz {l : List S108} (h : ∀ x ∈ l, YL x) : ∀ x ∈ l, x.f1.length + 1 ≤ 1048577 ∧ x.f1.length ≤ 9223372036854775807 := fun x hx => by
 have := (h x hx).2.1
 omega
theorem Yy (l : List S108) (hl : l.length ≤ 1048576) (h : ∀ x ∈ l, YL x) (k : Nat) (hk : 3000000 ≤ k) : yJ.f k l = some (qB (ju l) (yt evY l)) := by
 have e1 := Qn l hl h ⟨#[]⟩ (by decide) k hk
 rw [Zs, Z3] at e1
 unfold yJ.f
 rw [zC (Vn l (by omega) 1048577 (evsz h) k (by omega)), zC e1, zC (ZG _ _)]
 exact congrArg some (ZO fun hb => zbj l hb)
def itZ (x : S86) : ByteArray := (jZ x.f0).1 ++ ((yn x.f1.f0 ++ yn x.f1.f1) ++ (qd x.f1.f2).1)
theorem zcI (x : S86) : (itZ x).size ≤ 10004126 := by
 have h1 := jW x.f0
 have h2 := zE x.f1.f0
 have h3 := zE x.f1.f1
 have h4 := Zz x.f1.f2
 unfold itZ
 rw [zq, zq, zq]
 omega
theorem J4 (x : S86) (h : Xl x) (a : ByteArray) (ha : a.size + 10008126 < 140737488355328) (k : Nat) (hk : 3 ≤ k) : yx.f k (bytesOf a) x.f0 x.f1.f0 x.f1.f1 x.f1.f2 = some (bytesOf (a ++ itZ x)) := by
 have h1 := jW x.f0
 have h2 := zE x.f1.f0
 have h3 := zE x.f1.f1
 unfold yx.f
 rw [zC (Yr x.f0 h.1 a (by omega)), zC (YO x.f1.f0 x.f1.f1 h.2.1 h.2.2.1 _ (by rw [zq]; omega) k hk), zC (j9 x.f1.f2 h.2.2.2.2 _ (by rw [zq, zq, zq]; omega)), yz, yz]
 rfl
theorem Jm (l : List S86) (hl : l.length ≤ 1048576) (h : ∀ x ∈ l, Xl x) (a : ByteArray) (ha : a.size ≤ 100000000) (k : Nat) (hk : 3000000 ≤ k) : yr.f k (bytesOf a) l = some (bytesOf (a ++ yt itZ l)) := by
 have h1 := zE (l.length : Int)
 unfold yr.f
 rw [zC (jP (l.length : Int) (Xm _ (by omega) (by omega)) a (by omega) k (by omega)), ZR _ itZ 10008126 l _ (fun x _ => Nat.le_trans (zcI x) (by decide)) (fun x hx b hb => J4 x (h x hx) b hb k (by omega)) (by rw [zq]; omega), yz]
 rfl
theorem zbz (l : List S86) (h : xR l = true) : yt itZ l = yt itY l := by
 unfold yt
 rw [X0 l (fun x hx => ?_)]
 obtain ⟨_, h1, h2⟩ := (Z9 h).2 x hx
 unfold itZ itY
 rw [Zi x.f1.f2 h2, vt x.f0 (by omega), yz, yz, yz]
theorem Y0 (l : List S86) (hl : l.length ≤ 524288) (hs : ∀ x ∈ l, x.f0.size ≤ 1048576) (h : ∀ x ∈ l, Xl x) (k : Nat) (hk : 3000000 ≤ k) : xp.f k l = some (qB (xR l) (yt itY l)) := by
 have e1 := Jm l (by omega) h ⟨#[]⟩ (by decide) k hk
 rw [Zs, Z3] at e1
 unfold xp.f
 rw [zC (zaq l k), zC e1, zC (ZG _ _)]
 exact congrArg some (ZO fun hb => zbz l hb)
theorem YV (x : S77) : (veY x).size ≤ 20 := by
 have h2 := zE x.f0
 have h3 := zE x.f1
 unfold veY
 rw [zq]
 omega
theorem Ql (l : List S77) (hl : l.length ≤ 1048576) (h : ∀ x ∈ l, Qq x) (d : Nat) : ∀ (k i : Nat) (acc : ByteArray), i + d = l.length → d + 10 ≤ k → acc.size ≤ 100000000 + 20 * i →
  zx.l0 k (bytesOf acc) l (l.length : Int) (i : Int) = some (bytesOf (acc ++ yV veY (l.drop i))) := by
 induction d with
 | zero =>
  intro k i acc hi hk ha
  obtain ⟨k, rfl⟩ : ∃ m, k = m + 1 := ⟨k - 1, by omega⟩
  rw [zx.l0, if_neg (by omega), List.drop_of_length_le (by omega), xO, qe]
 | succ d ih =>
  intro k i acc hi hk ha
  obtain ⟨k, rfl⟩ : ∃ m, k = m + 1 := ⟨k - 1, by omega⟩
  have hlt : i < l.length := by omega
  have hx := h _ (List.getElem_mem hlt)
  have hz := YV l[i]
  have e : xA.f k (bytesOf acc) l[i].f0 l[i].f1 = some (bytesOf (acc ++ veY l[i])) := by
   unfold xA.f
   rw [zC (YO _ _ hx.1 hx.2 acc (by omega) k (by omega))]
   rfl
  rw [zx.l0, if_pos (by omega), if_pos (by omega), if_pos (by omega), zdA l i hlt, zC e, z4 (by omega) (by omega), List.drop_eq_getElem_cons hlt, qC, ← yz]
  exact ih k (i + 1) (acc ++ veY l[i]) (by omega) (by omega) (by rw [zq]; omega)
theorem Z6 (l : List S77) (hl : l.length ≤ 1048576) (h : ∀ x ∈ l, Qq x) (k : Nat) (hk : 3000000 ≤ k) : yQ.f k l = some (qB (yY l) (yt veY l)) := by
 have h1 := zE (l.length : Int)
 have e1 := jP (l.length : Int) (Xm _ (by omega) (by omega)) ⟨#[]⟩ (by decide) k (by omega)
 rw [Zs, Z3] at e1
 have e2 := Ql l hl h l.length k 0 (yn (l.length : Int)) (by omega) (by omega) (by omega)
 rw [List.drop_zero] at e2
 have e3 : zx.f k ([] : List Int) l = some (bytesOf (yt veY l)) := by
  unfold zx.f
  rw [zC e1]
  exact e2
 unfold yQ.f
 rw [zC (Ja l (by omega) k (by omega)), zC e3, zC (ZG _ _)]
theorem Qx (l : List ByteArray) (hl : l.length ≤ 1048576) (h : ∀ x ∈ l, x.size ≤ 140737488351232) (k : Nat) (hk : 3000000 ≤ k) : xz.f k l = some (qB (vv l) (yt xi l)) := by
 obtain ⟨r, e1, e2⟩ := X5 l (by omega) k (by omega)
 have h1 := zbD l
 unfold xz.f
 rw [zC e1, zC (V0 l h), if_pos (by omega), e2, ZG]
 refine congrArg some (ZO fun hb => ?_)
 obtain ⟨g1, g2⟩ := Xk hb
 rw [J3 l (by omega) (fun x hx => by have := g2 x hx; omega)]
end Go.Proofs.YtepipnpfggnadaaGreat.Q
namespace Go.Proofs.YtepipnpfggnadaaGreat.Crc
def sN (r : Nat) : Nat := if r % 2 = 1 then (r / 2) ^^^ 2197175160 else r / 2
def sK : Nat → Nat → Nat
 | 0, r => r
 | k + 1, r => sK k (sN r)
def sB (r : Nat) : Nat := sK 8 r
def thN (r : Nat) (l : List Nat) : Nat := l.foldl (fun r c => sB (r ^^^ c)) r
theorem VO (r : Nat) : thN r [] = r := rfl
theorem XO (r c : Nat) (l : List Nat) : thN r (c :: l) = thN (sB (r ^^^ c)) l := List.foldl_cons ..
theorem V3 (r : Nat) (h : r < 4294967296) : sN r < 4294967296 := by
 unfold sN
 split
 ·exact Nat.xor_lt_two_pow (n := 32) (by omega) (by omega)
 ·omega
theorem zag (k : Nat) : ∀ r, r < 4294967296 → sK k r < 4294967296 := by
 induction k with
 | zero => intro r h; exact h
 | succ k ih => intro r h; exact ih _ (V3 r h)
theorem JP (l : List Nat) : ∀ r, r < 4294967296 → (∀ c ∈ l, c < 256) → thN r l < 4294967296 := by
 induction l with
 | nil => intro r h _; exact h
 | cons c l ih =>
  intro r h hl
  rw [XO]
  refine ih _ (zag 8 _ (Nat.xor_lt_two_pow (n := 32) h (Nat.lt_trans (hl c List.mem_cons_self) (by omega)))) (fun x hx => hl x (List.mem_cons_of_mem _ hx))
def F : Nat := 4294967295
def YQ (l : List Nat) : Nat := thN F l ^^^ F
end Go.Proofs.YtepipnpfggnadaaGreat.Crc
namespace Go.Proofs.YtepipnpfggnadaaGreat.Q
open Go.RowKit Go.Proofs.YtepipnpfggnadaaGreatW.PrintWords Go.Proofs.YtepipnpfggnadaaGreatW.PrintLast Go.Proofs.YtepipnpfggnadaaGreatW.PrintMore
attribute [local go_sem] jM jJ vE vD jm jl jL jO
def qf.f (a0 : Int) : Option (Int) := if (Int.tmod a0 2) = 1 then (some (Go.bits .xor .u32 ((Int.tdiv a0 2) % 4294967296) 2197175160)) else (some ((Int.tdiv a0 2) % 4294967296))
theorem qf.calls (a0 : Int) (r : Int) (w : World) (h : qf.f a0 = some r) :
  Calls Tryz.prog 111 #[.int .u32 a0] w fun e w' => e = .returned (.int .u32 r) ∧ zi w w' := by
 have H : (if (Int.tmod a0 2) = 1 then (some (Go.bits .xor .u32 ((Int.tdiv a0 2) % 4294967296) 2197175160)) else (some ((Int.tdiv a0 2) % 4294967296))) = some r := h
 clear h
 by_cases c2 : (Int.tmod a0 2) = 1
 ·rw [if_pos c2] at H
  have c2b0 : ((Int.tmod a0 2) == 1) = true := beq_iff_eq.mpr c2
  have c2b1 : ((Int.tmod a0 2) != 1) = false := bne_eq_false_iff_eq.mpr c2
  clear c2
  obtain rfl := Option.some.inj H
  go_enter Tryz.func111, Tryz.ntmps111
  go_wp2
  go_ret
  exact ⟨by first | rfl | (simp; done) | (simp [*]; done), by repeat (first | exact zi.refl _ | apply zi.step)⟩
 ·rw [if_neg c2] at H
  have c2b0 : ((Int.tmod a0 2) == 1) = false := beq_eq_false_iff_ne.mpr c2
  have c2b1 : ((Int.tmod a0 2) != 1) = true := bne_iff_ne.mpr c2
  obtain rfl := Option.some.inj H
  go_enter Tryz.func111, Tryz.ntmps111
  go_wp2
  go_ret
  exact ⟨by first | rfl | (simp; done) | (simp [*]; done), by repeat (first | exact zi.refl _ | apply zi.step)⟩
mutual
def zK.l0 : Nat → Int → ByteArray → Int → Option (Int)
 | 0, _, _, _ => none
 | k + 1, x0, x1, x5 => if x5 < (x1.size : Int) then (if 0 ≤ x5 then (zK.l1 k (Go.bits .xor .u32 x0 ((bt x1 x5) % 4294967296)) x1 x5 0) else (none)) else (some x0)
def zK.l1 : Nat → Int → ByteArray → Int → Int → Option (Int)
 | 0, _, _, _, _ => none
 | k + 1, x0, x1, x5, x6 => if x6 < 8 then ((qf.f x0).bind fun t725 => (zK.l1 k t725 x1 x5 (wrap64 (x6 + 1)))) else (zK.l0 k x0 x1 (wrap64 (x5 + 1)))
end
def zK.f (k : Nat) (a0 : Int) (a1 : ByteArray) : Option (Int) := zK.l0 k a0 a1 0
theorem zK.calls (k : Nat) (a0 : Int) (a1 : ByteArray) (r : Int) (w : World) (h : zK.f k a0 a1 = some r) :
  Calls Tryz.prog 71 #[.int .u32 a0, .string a1] w fun e w' => e = .returned (.int .u32 r) ∧ zi w w' := by
 have H : (zK.l0 k a0 a1 0) = some r := h
 clear h
 have H' := za.mk H
 clear H
 go_enter Tryz.func71, Tryz.ntmps71
 go_wp2
 go_loopg [0, 5] k (fun kq v0 v5 w' => ∃ (x0_1 : Int) (x5_1 : Int), v0 = .int .u32 x0_1 ∧ v5 = .int .i64 x5_1 ∧ za (zK.l0 kq x0_1 a1 x5_1 = some r) ∧ za (kq ≤ k) ∧ zi w w')
 case atStart => exact ⟨(a0), (0), (by first | rfl | (simp; done) | (simp [*]; done)), (by first | rfl | (simp; done) | (simp [*]; done)), H', ⟨Nat.le_refl _⟩, by repeat (first | exact zi.refl _ | apply zi.step)⟩
 case round =>
  clear H'
  try clear p2
  obtain ⟨x0_1, x5_1, rfl, rfl, HA, HK1, ⟨m1, rfl⟩⟩ := hrel
  cases gk with
  | zero => exact absurd HA.out (by simp [zK.l0])
  | succ k1 =>
   have H := HA.out
   clear HA
   simp only [zK.l0] at H
   by_cases c3 : x5_1 < (a1.size : Int)
   ·rw [if_pos c3] at H
    have c3b0 : decide (x5_1 < (a1.size : Int)) = true := decide_eq_true c3
    clear c3
    by_cases c4 : 0 ≤ x5_1
    ·rw [if_pos c4] at H
     have c4b0 : decide (0 ≤ x5_1) = true := decide_eq_true c4
     clear c4
     have H' := za.mk H
     clear H
     have p5 : 0 ≤ (x5_1 : Int) := of_decide_eq_true (by first | (with_reducible assumption) | assumption)
     have q5 : x5_1 < (a1.size : Int) := of_decide_eq_true (by first | (with_reducible assumption) | assumption)
     have hx5 := xg a1 x5_1
     replace p5 := eq_true p5
     replace q5 := eq_true q5
     go_wp2
     go_loopg [0, 6] k1 (fun kq v0 v6 w' => ∃ (x0_2 : Int) (x6_2 : Int), v0 = .int .u32 x0_2 ∧ v6 = .int .i64 x6_2 ∧ za (zK.l1 kq x0_2 a1 x5_1 x6_2 = some r) ∧ za (kq ≤ k1) ∧ zi w w')
     case atStart => exact ⟨(Go.bits .xor .u32 x0_1 ((bt a1 x5_1) % 4294967296)), (0), (by first | rfl | (simp; done) | (simp [*]; done)), (by first | rfl | (simp; done) | (simp [*]; done)), H', ⟨Nat.le_refl _⟩, by repeat (first | exact zi.refl _ | apply zi.step)⟩
     case round =>
      clear H'
      try clear p2
      try clear c3
      try clear c3b0
      try clear c4
      try clear c4b0
      try clear p5
      try clear q5
      try clear hx5
      try clear p2
      try clear p5
      try clear q5
      obtain ⟨x0_2, x6_2, rfl, rfl, HA, HK2, ⟨m2, rfl⟩⟩ := hrel
      cases gk with
      | zero => exact absurd HA.out (by simp [zK.l1])
      | succ k2 =>
       have H := HA.out
       clear HA
       simp only [zK.l1] at H
       by_cases c6 : x6_2 < 8
       ·rw [if_pos c6] at H
        have c6b0 : decide (x6_2 < 8) = true := decide_eq_true c6
        clear c6
        replace H := zdK.mp H
        obtain ⟨t725, A70, H⟩ := H
        replace H : (zK.l1 k2 t725 a1 x5_1 (wrap64 (x6_2 + 1))) = some r := H
        have A7 := za.mk A70
        clear A70
        have H' := za.mk H
        clear H
        go_wp2_with (first | ((with_reducible refine zr (f := 111) rfl ?_); refine zL (some 24) rfl rfl Tryz.func111 (by kernel_rfl) rfl #[.int .u32 x0_2] rfl (by (try simp only [zdJ, List.map_cons, List.map_nil]); first | done | rfl | (simp only [List.length_drop, List.length_take]; rfl)) ?_; (with_reducible refine (qf.calls x0_2 t725 _ A7.out).mono ?_); rintro e w' ⟨rfl, ⟨nd, rfl⟩⟩; refine ⟨_, rfl, ?_⟩))
        go_roundg k2
        case measure => have := HK1.out; have := HK2.out; omega
        case rel => exact ⟨(t725), (wrap64 (x6_2 + 1)), (by first | rfl | (simp; done) | (simp [*]; done)), (by first | rfl | (simp; done) | (simp [*]; done)), H', ⟨by have := HK1.out; have := HK2.out; omega⟩, by repeat (first | exact zi.refl _ | apply zi.step)⟩
       ·rw [if_neg c6] at H
        have c6b0 : decide (x6_2 < 8) = false := decide_eq_false c6
        clear c6
        have H' := za.mk H
        clear H
        go_wp2
        go_roundg k2
        case measure => have := HK1.out; have := HK2.out; omega
        case rel => exact ⟨(x0_2), (wrap64 (x5_1 + 1)), (by first | rfl | (simp; done) | (simp [*]; done)), (by first | rfl | (simp; done) | (simp [*]; done)), H', ⟨by have := HK1.out; have := HK2.out; omega⟩, by repeat (first | exact zi.refl _ | apply zi.step)⟩
    ·rw [if_neg c4] at H
     exact absurd H (by simp)
   ·rw [if_neg c3] at H
    have c3b0 : decide (x5_1 < (a1.size : Int)) = false := decide_eq_false c3
    clear c3
    obtain rfl := Option.some.inj H
    go_wp2
    go_ret
    exact ⟨by first | rfl | (simp; done) | (simp [*]; done), by repeat (first | exact zi.refl _ | apply zi.step)⟩
def xk.f (k : Nat) (a0 : ByteArray) : Option (Int) := (zK.f k 4294967295 a0).bind fun t726 => (some (Go.bits .xor .u32 t726 4294967295))
theorem xk.calls (k : Nat) (a0 : ByteArray) (r : Int) (w : World) (h : xk.f k a0 = some r) :
  Calls Tryz.prog 27 #[.string a0] w fun e w' => e = .returned (.int .u32 r) ∧ zi w w' := by
 have H : ((zK.f k 4294967295 a0).bind fun t726 => (some (Go.bits .xor .u32 t726 4294967295))) = some r := h
 clear h
 replace H := zdK.mp H
 obtain ⟨t726, A20, H⟩ := H
 replace H : (some (Go.bits .xor .u32 t726 4294967295)) = some r := H
 have A2 := za.mk A20
 clear A20
 obtain rfl := Option.some.inj H
 go_enter Tryz.func27, Tryz.ntmps27
 go_wp2_with (first | ((with_reducible refine zr (f := 71) rfl ?_); refine zL (some 4) rfl rfl Tryz.func71 (by kernel_rfl) rfl #[.int .u32 4294967295, .string a0] rfl (by (try simp only [zdJ, List.map_cons, List.map_nil]); first | done | rfl | (simp only [List.length_drop, List.length_take]; rfl)) ?_; (with_reducible refine (zK.calls k 4294967295 a0 t726 _ A2.out).mono ?_); rintro e w' ⟨rfl, ⟨nd, rfl⟩⟩; refine ⟨_, rfl, ?_⟩))
 go_ret
 exact ⟨by first | rfl | (simp; done) | (simp [*]; done), by repeat (first | exact zi.refl _ | apply zi.step)⟩
open Go.RowKit Go.Proofs.YtepipnpfggnadaaGreatW.PrintWords Go.Proofs.YtepipnpfggnadaaGreatW.PrintLast Go.Proofs.YtepipnpfggnadaaGreatW.PrintMore Go.Proofs.YtepipnpfggnadaaGreat.Crc
theorem zab (d : Nat) : ∀ (k : Nat) (i : Int) (r : Nat), r < 4294967296 → 0 ≤ i → i + d = 8 → d < k → yD.l0 k (r : Int) i = some ((sK d r : Nat) : Int) := by
 induction d with
 | zero =>
  intro k i r hr h0 hi hk
  obtain ⟨k, rfl⟩ : ∃ m, k = m + 1 := ⟨k - 1, by omega⟩
  simp only [yD.l0]
  rw [if_neg (by omega)]
  rfl
 | succ d ih =>
  intro k i r hr h0 hi hk
  obtain ⟨k, rfl⟩ : ∃ m, k = m + 1 := ⟨k - 1, by omega⟩
  simp only [yD.l0]
  rw [if_pos (by omega), zb2 r hr, z4 h0 (by omega)]
  have hn := ih k (i + 1) (sN r) (V3 r hr) (by omega) (by omega) (by omega)
  unfold sN at hn
  by_cases h1 : r % 2 = 1
  ·rw [if_pos (by omega)]
   rw [if_pos h1] at hn
   have e : (r : Int) / 2 = ((r / 2 : Nat) : Int) := by omega
   have e2 : (2197175160 : Int) = ((2197175160 : Nat) : Int) := rfl
   rw [e, e2, Z2 _ _ (by omega) (by omega)]
   rw [hn]
   simp only [sK, sN, if_pos h1]
  ·rw [if_neg (by omega)]
   rw [if_neg h1] at hn
   have e : (r : Int) / 2 = ((r / 2 : Nat) : Int) := by omega
   rw [e, hn]
   simp only [sK, sN, if_neg h1]
theorem Vq (k : Nat) (hk : 8 < k) (r c : Nat) (hr : r < 4294967296) (hc : c < 256) : yD.f k (r : Int) (c : Int) = some ((sB (r ^^^ c) : Nat) : Int) := by
 unfold yD.f
 have e : (c : Int) % 4294967296 = (c : Int) := by omega
 rw [e, Z2 _ _ hr (by omega)]
 exact zab 8 k 0 _ (Nat.xor_lt_two_pow (n := 32) hr (by omega)) (by omega) (by omega) hk
theorem zc5 (s : ByteArray) (hs : s.size ≤ 140737488351232) (d : Nat) : ∀ (k : Nat) (i r : Nat), r < 4294967296 → i + d = s.size → d + 9 < k → yP.l0 k s (r : Int) (s.size : Int) (i : Int) = some (Go.bits .xor .u32 4294967295 ((thN r ((bl s).drop i) : Nat) : Int)) := by
 induction d with
 | zero =>
  intro k i r hr hi hk
  obtain ⟨k, rfl⟩ : ∃ m, k = m + 1 := ⟨k - 1, by omega⟩
  simp only [yP.l0]
  rw [if_neg (by omega), List.drop_of_length_le (by rw [yo]; omega), VO]
 | succ d ih =>
  intro k i r hr hi hk
  obtain ⟨k, rfl⟩ : ∃ m, k = m + 1 := ⟨k - 1, by omega⟩
  have hlt : i < s.size := by omega
  have hli : i < (bl s).length := by rw [yo]; exact hlt
  have hc := Qd s i hli
  simp only [yP.l0]
  rw [if_pos (by omega), if_pos (by omega), if_pos (by omega), ZQ s i hlt, Vq k (by omega) r _ hr hc]
  simp only [Option.bind_some]
  rw [z4 (by omega) (by omega), jX s i hlt, XO]
  exact ih k (i + 1) _ (zag 8 _ (Nat.xor_lt_two_pow (n := 32) hr (by omega))) (by omega) (by omega)
theorem xorF (r : Nat) (hr : r < 4294967296) : Go.bits .xor .u32 4294967295 (r : Int) = ((F ^^^ r : Nat) : Int) := Z2 4294967295 r (by omega) hr
theorem xorF' (r : Nat) (hr : r < 4294967296) : Go.bits .xor .u32 (r : Int) 4294967295 = ((r ^^^ F : Nat) : Int) := Z2 r 4294967295 hr (by omega)
theorem JY : F < 4294967296 := by decide
theorem VC (r : Nat) (hr : r < 4294967296) : F ^^^ r < 4294967296 := Nat.xor_lt_two_pow (n := 32) JY hr
def V8 (r : Nat) (l : List Nat) : Nat := thN (F ^^^ r) l ^^^ F
theorem VI (l : List Nat) (hl : ∀ c ∈ l, c < 256) : YQ l < 4294967296 := Nat.xor_lt_two_pow (n := 32) (JP l _ JY hl) JY
theorem VZ (l : List Nat) : V8 0 l = YQ l := by unfold V8 YQ; rw [Nat.xor_zero]
theorem zcy (s : ByteArray) (hs : s.size ≤ 140737488351232) (k : Nat) (hk : s.size + 9 < k) (r : Nat) (hr : r < 4294967296) : yP.f k (r : Int) s = some ((V8 r (bl s) : Nat) : Int) := by
 unfold yP.f
 rw [xorF r hr]
 have h := zc5 s hs s.size k 0 (F ^^^ r) (VC r hr) (by omega) hk
 rw [List.drop_zero, xorF _ (JP _ _ (VC r hr) (Xx s)), Nat.xor_comm F (thN (F ^^^ r) (bl s))] at h
 exact h
theorem VS (s : ByteArray) (hs : s.size ≤ 140737488351232) (k : Nat) (hk : s.size + 9 < k) : xV.f k s = some ((YQ (bl s) : Nat) : Int) := by
 unfold xV.f
 have h := zcy s hs k hk 0 (by omega)
 rw [VZ] at h
 exact (congrArg (fun o => o.bind fun t => some t) h)
theorem zc3 (r : Nat) (hr : r < 4294967296) : qf.f (r : Int) = some ((sN r : Nat) : Int) := by
 have e1 : Int.tmod (r : Int) 2 = ((r % 2 : Nat) : Int) := by rw [Int.tmod_eq_emod_of_nonneg (by omega)]; omega
 have e2 : Int.tdiv (r : Int) 2 % 4294967296 = ((r / 2 : Nat) : Int) := by rw [Int.tdiv_eq_ediv_of_nonneg (by omega)]; omega
 unfold qf.f sN
 rw [e1, e2]
 by_cases h : r % 2 = 1
 ·rw [if_pos (by omega), if_pos h]
  have e3 : (2197175160 : Int) = ((2197175160 : Nat) : Int) := rfl
  rw [e3, Z2 _ _ (by omega) (by omega)]
 ·rw [if_neg (by omega), if_neg h]
theorem zbP (s : ByteArray) (i : Int) (d : Nat) : ∀ (k : Nat) (j : Int) (r : Nat), r < 4294967296 → 0 ≤ j → j + d = 8 → zK.l1 (k + d + 1) (r : Int) s i j = zK.l0 k ((sK d r : Nat) : Int) s (wrap64 (i + 1)) := by
 induction d with
 | zero =>
  intro k j r hr h0 hj
  simp only [zK.l1, Nat.add_zero]
  rw [if_neg (by omega)]
  rfl
 | succ d ih =>
  intro k j r hr h0 hj
  have e : k + (d + 1) + 1 = (k + d + 1) + 1 := by omega
  rw [e]
  simp only [zK.l1]
  rw [if_pos (by omega), zc3 r hr]
  simp only [Option.bind_some]
  rw [z4 h0 (by omega)]
  exact ih k (j + 1) (sN r) (V3 r hr) (by omega) (by omega)
theorem zcr (s : ByteArray) (hs : s.size ≤ 140737488351232) (d : Nat) : ∀ (k : Nat) (i r : Nat), r < 4294967296 → i + d = s.size → 10 * d < k → zK.l0 k (r : Int) s (i : Int) = some ((thN r ((bl s).drop i) : Nat) : Int) := by
 induction d with
 | zero =>
  intro k i r hr hi hk
  obtain ⟨k, rfl⟩ : ∃ m, k = m + 1 := ⟨k - 1, by omega⟩
  simp only [zK.l0]
  rw [if_neg (by omega), List.drop_of_length_le (by rw [yo]; omega), VO]
 | succ d ih =>
  intro k i r hr hi hk
  obtain ⟨k, rfl⟩ : ∃ m, k = m + 8 + 1 + 1 := ⟨k - 10, by omega⟩
  have hlt : i < s.size := by omega
  have hli : i < (bl s).length := by rw [yo]; exact hlt
  have hc := Qd s i hli
  simp only [zK.l0]
  have e : ((bl s)[i] : Int) % 4294967296 = (((bl s)[i] : Nat) : Int) := by omega
  have hx : r ^^^ (bl s)[i] < 4294967296 := Nat.xor_lt_two_pow (n := 32) hr (by omega)
  rw [if_pos (by omega), if_pos (by omega), ZQ s i hlt, e, Z2 _ _ hr (by omega), zbP s _ 8 k 0 _ hx (by omega) (by omega), z4 (by omega) (by omega), jX s i hlt, XO]
  exact ih k (i + 1) _ (zag 8 _ hx) (by omega) (by omega)
theorem zbA (s : ByteArray) (hs : s.size ≤ 140737488351232) (k : Nat) (hk : 10 * s.size < k) (r : Nat) (hr : r < 4294967296) : zK.f k (r : Int) s = some ((thN r (bl s) : Nat) : Int) := by
 have h := zcr s hs s.size k 0 r hr (by omega) hk
 rw [List.drop_zero] at h
 exact h
theorem V9 (s : ByteArray) (hs : s.size ≤ 140737488351232) (k : Nat) (hk : 10 * s.size < k) : xk.f k s = some ((YQ (bl s) : Nat) : Int) := by
 unfold xk.f
 have h := zbA s hs k hk F JY
 have e : ((F : Nat) : Int) = 4294967295 := rfl
 rw [e] at h
 rw [h]
 simp only [Option.bind_some]
 rw [xorF' _ (JP _ _ JY (Xx s))]
 rfl
theorem Vc {k : Nat} {s : ByteArray} {r : Int} (h : xk.f k s = some r) : 0 ≤ r ∧ r < 4294967296 := by
 unfold xk.f at h
 rw [zdK] at h
 obtain ⟨t, _, h⟩ := h
 obtain rfl := Option.some.inj h
 exact zch _ _ _
def Zk (x : Int) : Nat → List Int
 | 0 => []
 | i + 1 => Zk x i ++ [(x / 256 ^ i) % 256]
theorem Vt (x : Int) (i : Nat) : (Zk x i).length = i := by
 induction i with
 | zero => rfl
 | succ i ih => simp [Zk, ih]
theorem zbQ (x : Int) (i : Nat) : x / 256 ^ i / 256 = x / 256 ^ (i + 1) := by
 rw [Int.pow_succ, Int.ediv_ediv_of_nonneg (Int.pow_nonneg (by omega))]
def xw.f (k : Nat) (a0 : ByteArray) : Option ByteArray :=
 if a0.size ≤ 140737488351232 then (xk.f k a0).bind fun x => some (strOfNums (bytesOf a0 ++ Zk x 4)) else none
set_option maxHeartbeats 2000000 in
theorem xw.calls (k : Nat) (a0 : ByteArray) (r : ByteArray) (w : World) (h : xw.f k a0 = some r) :
  Calls Tryz.prog 11 #[.string a0] w fun e w' => e = .returned (.string r) ∧ Below w.heap.size w w' := by
 unfold xw.f at h
 split at h
 case isFalse => cases h
 case isTrue hsz =>
 rw [zdK] at h
 obtain ⟨x, hx, h⟩ := h
 have hr := Vc hx
 have A1 := za.mk hx
 have HR := za.mk (Option.some.inj h)
 have HX := za.mk hr
 clear hx h hr
 obtain ⟨i0, hi, hz0, hz1, hz2⟩ := info_parts XT
 have hcv := fun W : World => Lib.run_convert_string_bytes (P := Tryz.prog) W 9 41 5 a0 Tryz.underlying9 Tryz.underlying41 Tryz.underlying5
 go_enter Tryz.func11, Tryz.ntmps11
 go_wp2_with (first | (go_at_call 27; refine (xk.calls k a0 x _ A1.out).mono ?_; rintro e w' ⟨rfl, ⟨nd, rfl⟩⟩))
 have hcv0 := za.mk hcv
 clear hcv
 have HB0 := za.mk (qE (zb (Below.refl w.heap.size w) nd) (Nat.le_refl _) 5 a0)
 have HM0 := za.mk (yL.of_bytes (w.drewN nd) w.heap.size 5 a0 (Nat.le_refl _) (by simp only [maxLen]; omega))
 go_loopg [3, 4, 5] 4 (fun kq v3 v4 v5 wr => ∃ (i : Nat) (y : Int), v5 = .int .i64 i ∧ v3 = .int .u32 y ∧ za (i + kq = 4 ∧ y = x / 256 ^ i ∧ 0 ≤ y ∧ y < 4294967296) ∧ za (yL wr w.heap.size 5 v4 (yH .u8 (bytesOf a0 ++ Zk x i))) ∧ za (Below w.heap.size w wr))
 case atStart => exact ⟨0, x, rfl, rfl, ⟨rfl, by simp, HX.out.1, HX.out.2⟩, ⟨by simpa [Zk, ← qo] using HM0.out⟩, HB0⟩
 case round =>
  clear HB0 HM0
  obtain ⟨i, y, rfl, rfl, ⟨hik, hy, hy0, hy1⟩, HM, HB⟩ := hrel
  have HY := za.mk hy
  clear hy
  have hlen : (yH .u8 (bytesOf a0 ++ Zk x i)).length = a0.size + i := by rw [xL, zdN, yy, Vt]
  have HL := za.mk hlen
  clear hlen
  by_cases hlt : i < 4
  ·go_wp2_with (first | ((with_reducible refine zN (N := 19) rfl ?_); refine XX _ rfl (.tmp 14) (.tmp 18) 41 rfl w.heap.size 5 i0 (.int .u8 0) 1 Tryz.underlying41 hi hz0 hz1 hz2 (by decide) rfl _ (yH .u8 (bytesOf a0 ++ Zk x i)) rfl (HM.out.below (zc (Below.refl _ _) _)) ⟨wr.heap.size, 0, none⟩ 1 1 [.int .u8 (y % 256)] rfl rfl ?hn ?ho ?hl ?hb ?_))
   case hn =>
    intro j u hu
    match j, hu with
    | 0, hu => simp at hu; subst hu; simp [Addr.add]
   case ho => intro u hu; simp at hu; subst hu; rfl
   case hl => have := HL.out; omega
   case hb => have := HB.out.size; simp; omega
   intro v1 w1 hm1 hg1
   have e1 : yH .u8 (bytesOf a0 ++ Zk x i) ++ [.int .u8 (y % 256)] = yH .u8 (bytesOf a0 ++ Zk x (i + 1)) := by
    rw [HY.out]
    simp [yH, Zk]
   rw [e1] at hm1
   have HM1 := za.mk hm1
   have HB1 : za (Below w.heap.size w w1) := ⟨(HB.out.alloc HB.out.size _).grown hg1 (by have := HB.out.size; simp; omega) (fun k hk => HM.out.base_le k hk)⟩
   have HY1 : za (y / 256 = x / 256 ^ (i + 1)) := ⟨by rw [HY.out, zbQ]⟩
   clear hm1 hg1 e1 HM HB HL HY
   go_wp2
   go_roundg (gk - 1)
   case measure => omega
   case rel => exact ⟨i + 1, y / 256, by go_num, rfl, ⟨by omega, HY1.out, by omega, by omega⟩, HM1, HB1⟩
  ·obtain rfl : i = 4 := by omega
   have hcs := HM.out.to_string Tryz.underlying41 Tryz.underlying5 Tryz.underlying9
   go_wp2
   go_ret
   exact ⟨QO HR.out, HB.out⟩
def yS.f (k : Nat) (a0 : ByteArray) : Option (ByteArray × Int) := if (wrap64 ((a0.size : Int) - 4)) < 0 then (some ((⟨#[]⟩ : ByteArray), 5)) else (if 0 ≤ (wrap64 ((a0.size : Int) - 4)) then (if (wrap64 ((a0.size : Int) - 4)) ≤ (a0.size : Int) then ((xV.f k (a0.extract 0 ((wrap64 ((a0.size : Int) - 4)) : Int).toNat)).bind fun t436 => ((y8.f t436).bind fun t437 => (if t437.toList = (a0.extract ((wrap64 ((a0.size : Int) - 4)) : Int).toNat a0.size).toList then (some (a0.extract 0 ((wrap64 ((a0.size : Int) - 4)) : Int).toNat, 0)) else (some ((⟨#[]⟩ : ByteArray), 7))))) else (none)) else (none))
def yS.T4 : Bool × List (List Nat × List Nat) := (true, [([], []), ([], []), ([0, 1], [0, 1]), ([2], [2]), ([3, 3], [3]), ([], []), ([], []), ([5, 6], [5, 6]), ([4, 7], [4, 7]), ([8, 4], [8])])
def yS.B4 : List Nat := [0, 0, 3, 7, 15, 0, 0, 96, 255, 511]
theorem yS.tab4 : qr .any (Ju Tryz.f36 4) = yS.T4 := by kernel_rfl
theorem yS.bits4 : vC yS.T4.2 yS.B4 = true := by kernel_rfl
theorem yS.calls (k : Nat) (a0 : ByteArray) (r1 : ByteArray) (r2 : Int) (w : World) (h : yS.f k a0 = some (r1, r2)) :
  Calls Tryz.prog 36 #[.string a0] w fun e w' => e = .returned (.tuple #[.string r1, .int .i64 r2]) ∧ Below w.heap.size w w' := by
 have HB := za.mk (Below.refl w.heap.size w)
 have H : (if (wrap64 ((a0.size : Int) - 4)) < 0 then (some ((⟨#[]⟩ : ByteArray), 5)) else (if 0 ≤ (wrap64 ((a0.size : Int) - 4)) then (if (wrap64 ((a0.size : Int) - 4)) ≤ (a0.size : Int) then ((xV.f k (a0.extract 0 ((wrap64 ((a0.size : Int) - 4)) : Int).toNat)).bind fun t436 => ((y8.f t436).bind fun t437 => (if t437.toList = (a0.extract ((wrap64 ((a0.size : Int) - 4)) : Int).toNat a0.size).toList then (some (a0.extract 0 ((wrap64 ((a0.size : Int) - 4)) : Int).toNat, 0)) else (some ((⟨#[]⟩ : ByteArray), 7))))) else (none)) else (none))) = some (r1, r2) := h
 clear h
 by_cases c2 : (wrap64 ((a0.size : Int) - 4)) < 0
 ·rw [if_pos c2] at H
  have c2b0 : decide ((wrap64 ((a0.size : Int) - 4)) < 0) = true := decide_eq_true c2
  clear c2
  simp only [Option.some.injEq, Prod.mk.injEq] at H
  obtain ⟨rfl, rfl⟩ := H
  go_enter Tryz.func36, Tryz.ntmps36
  go_wp2
  go_ret2
  exact ⟨by first | rfl | (simp [zl, zk] <;> rfl) | (simp [*, zl, zk] <;> rfl), by repeat (first | (with_reducible first | exact HB.out | apply zc | apply zb | apply zd) | exact HB.out)⟩
 ·rw [if_neg c2] at H
  have c2b0 : decide ((wrap64 ((a0.size : Int) - 4)) < 0) = false := decide_eq_false c2
  clear c2
  obtain ⟨ji3, hji3⟩ : ∃ j_ : Int, (wrap64 ((a0.size : Int) - 4)) = j_ := ⟨_, rfl⟩
  replace H : (if 0 ≤ (ji3) then (if (ji3) ≤ (a0.size : Int) then ((xV.f k (a0.extract 0 ((ji3) : Int).toNat)).bind fun t436 => ((y8.f t436).bind fun t437 => (if t437.toList = (a0.extract ((ji3) : Int).toNat a0.size).toList then (some (a0.extract 0 ((ji3) : Int).toNat, 0)) else (some ((⟨#[]⟩ : ByteArray), 7))))) else (none)) else (none)) = some (r1, r2) := by first | (rw [hji3] at H; exact H) | (simp only [hji3] at H ⊢; exact H)
  (try rw [hji3] at c2b0)
  have hji3w : (IntKind.i64.wrap ((a0.size : Int) - 4)) = ji3 := (zT _).trans hji3
  by_cases c4 : 0 ≤ (ji3)
  ·rw [if_pos c4] at H
   have c4b0 := eq_true c4
   have c4b1 : decide (0 ≤ (ji3)) = true := decide_eq_true c4
   clear c4
   by_cases c5 : (ji3) ≤ (a0.size : Int)
   ·rw [if_pos c5] at H
    have c5b0 := eq_true c5
    have c5b1 : decide ((ji3) ≤ (a0.size : Int)) = true := decide_eq_true c5
    clear c5
    replace H := zdK.mp H
    obtain ⟨t436, A60, H⟩ := H
    replace H : ((y8.f t436).bind fun t437 => (if t437.toList = (a0.extract ((ji3) : Int).toNat a0.size).toList then (some (a0.extract 0 ((ji3) : Int).toNat, 0)) else (some ((⟨#[]⟩ : ByteArray), 7)))) = some (r1, r2) := H
    have A6 := za.mk A60
    clear A60
    replace H := zdK.mp H
    obtain ⟨t437, A70, H⟩ := H
    replace H : (if t437.toList = (a0.extract ((ji3) : Int).toNat a0.size).toList then (some (a0.extract 0 ((ji3) : Int).toNat, 0)) else (some ((⟨#[]⟩ : ByteArray), 7))) = some (r1, r2) := H
    have A7 := za.mk A70
    clear A70
    have c8b0 := eq_true (of_decide_eq_true (by first | (with_reducible assumption) | assumption) : 0 ≤ (ji3))
    have c9b0 := eq_true (of_decide_eq_true (by first | (with_reducible assumption) | assumption) : (ji3) ≤ (a0.size : Int))
    by_cases c10 : t437.toList = (a0.extract ((ji3) : Int).toNat a0.size).toList
    ·rw [if_pos c10] at H
     have c10b0 : (t437.toList == (a0.extract ((ji3) : Int).toNat a0.size).toList) = true := beq_iff_eq.mpr c10
     have c10b1 : (t437.toList != (a0.extract ((ji3) : Int).toNat a0.size).toList) = false := bne_eq_false_iff_eq.mpr c10
     clear c10
     have c11b0 := eq_true (of_decide_eq_true (by first | (with_reducible assumption) | assumption) : 0 ≤ (ji3))
     have c12b0 := eq_true (of_decide_eq_true (by first | (with_reducible assumption) | assumption) : (ji3) ≤ (a0.size : Int))
     simp only [Option.some.injEq, Prod.mk.injEq] at H
     obtain ⟨rfl, rfl⟩ := H
     go_enter Tryz.func36, Tryz.ntmps36
     try go_wp2
     refine Yv (n := 10) (S := fun w' => True) (ds := []) #[Y,Y,Y,Y,Y,Y,Y,Y,Y,Y] (by kernel_rfl) rfl rfl trivial (fun hHeld => ?_); refine ZK yS.tab4 yS.bits4 (fun HT_ HW_ => ?_)
     first | (generalize hdrew_ : (World.drewN w nd).drew = w13 at hHeld ⊢; have n0_ : za (Below _ _ w13) := za.mk (by rw [← hdrew_]; exact zd (zb HB.out nd)); clear hdrew_; clear HB; have HB := n0_; clear n0_) | (have n0_ := za.mk (zd HB.out); clear HB; have HB := n0_; clear n0_; generalize w.drew = w13 at HB hHeld ⊢)
     refine yM (i := 0) (N := some 12) (v := ?_) (a' := ?_) #[O,Y,Y,Y,Y,Y,Y,Y,Y,Y] rfl rfl (yG HT_.out (by kernel_rfl)) (fun _ _ _ h => h) (Or.inl ⟨by rfl, ?_⟩) ?_ ?_
     rotate_left
     ·intro w'
      go_simp
      with_reducible rfl
     rotate_left
     ·simp only [Act.put, zdG, zdH, zdI, zT, yc]
      rfl
     refine yM (i := 1) (N := some 13) (v := ?_) (a' := ?_) #[O,O,Y,Y,Y,Y,Y,Y,Y,Y] rfl rfl (yG HT_.out (by kernel_rfl)) (fun _ _ _ h => h) (Or.inl ⟨by rfl, ?_⟩) ?_ ?_
     rotate_left
     ·intro w'
      go_simp
      with_reducible rfl
     rotate_left
     ·simp only [Act.put, zdG, zdH, zdI, zT, yc]
      rfl
     refine yM (i := 2) (N := some 14) (v := ?_) (a' := ?_) #[O,O,O,Y,Y,Y,Y,Y,Y,Y] rfl rfl (yG HT_.out (by kernel_rfl)) (fun _ _ _ h => h) (Or.inl ⟨by rfl, ?_⟩) ?_ ?_
     rotate_left
     ·intro w'
      go_simp
      with_reducible rfl
     rotate_left
     ·simp only [Act.put, zdG, zdH, zdI, zT, yc]
      rfl
     refine yM (i := 5) (N := some 17) (v := ?_) (a' := ?_) #[O,O,O,Y,Y,O,Y,Y,Y,Y] rfl rfl (yG HT_.out (by kernel_rfl)) (fun _ _ _ h => h) (Or.inl ⟨by rfl, ?_⟩) ?_ ?_
     rotate_left
     ·intro w'
      go_simp
      with_reducible rfl
     rotate_left
     ·simp only [Act.put, zdG, zdH, zdI, zT, yc]
      rfl
     refine yM (i := 6) (N := some 18) (v := ?_) (a' := ?_) #[O,O,O,Y,Y,O,O,Y,Y,Y] rfl rfl (yG HT_.out (by kernel_rfl)) (fun _ _ _ h => h) (Or.inl ⟨by rfl, ?_⟩) ?_ ?_
     rotate_left
     ·intro w'
      go_simp
      with_reducible rfl
     rotate_left
     ·simp only [Act.put, zdG, zdH, zdI, zT, yc]
      rfl
     refine yM (i := 7) (N := some 19) (v := ?_) (a' := ?_) #[O,O,O,Y,Y,O,O,O,Y,Y] rfl rfl (yG HT_.out (by kernel_rfl)) (fun _ _ _ h => h) (Or.inl ⟨by rfl, ?_⟩) ?_ ?_
     rotate_left
     ·intro w'
      go_simp
      with_reducible rfl
     rotate_left
     ·simp only [Act.put, zdG, zdH, zdI, zT, yc]
      rfl
     refine jt (i := 3) (N := some 15) #[O,O,O,O,Y,O,O,O,Y,Y] rfl rfl (qM HT_.out (by kernel_rfl)) (by decide) (fun K hK => ?_)
     refine jV Tryz.func56 (by kernel_rfl) rfl #[.string (a0.extract 0 ((ji3) : Int).toNat)] (by rfl) rfl rfl (by (try simp only [zdJ, List.map_cons, List.map_nil]); first | done | (simp only [hji3]; rfl) | rfl | (simp only [List.length_drop, List.length_take]; rfl)) ?_
     with_reducible refine (xV.calls k (a0.extract 0 ((ji3) : Int).toNat) t436 _ A6.out).mono ?_
     rintro e w' ⟨rfl, ⟨nd, rfl⟩⟩
     refine ⟨_, rfl, ?_⟩
     refine hK.out _ _ trivial (fun hHeld => ?_)
     clear hK K
     refine xh (a' := ?_) ?_ ?_
     rotate_left
     ·show Act.put _ (some 15) _ = _
      simp only [Act.put, zdG, zdH, zdI, zT, yc]
      rfl
     refine jt (i := 4) (N := some 16) #[O,O,O,O,O,O,O,O,Y,Y] rfl rfl (qM HT_.out (by kernel_rfl)) (by decide) (fun K hK => ?_)
     refine jV Tryz.func55 (by kernel_rfl) rfl #[.int .u32 t436] (by rfl) rfl rfl (by (try simp only [zdJ, List.map_cons, List.map_nil]); first | done | rfl | (simp only [List.length_drop, List.length_take]; rfl)) ?_
     with_reducible refine (y8.calls t436 t437 _ A7.out).mono ?_
     rintro e w14 ⟨rfl, hb⟩
     refine ⟨_, rfl, ?_⟩
     have n0_ := za.mk (zp (by repeat (first | (with_reducible first | exact HB.out | apply zc | apply zb | apply zd) | exact HB.out)) hb)
     clear HB
     have HB := n0_
     clear n0_
     (try clear hb)
     (try clear hb2)
     (try clear hk)
     (try clear hi)
     refine hK.out _ _ trivial (fun hHeld => ?_)
     clear hK K
     refine xh (a' := ?_) ?_ ?_
     rotate_left
     ·show Act.put _ (some 16) _ = _
      simp only [Act.put, zdG, zdH, zdI, zT, yc]
      rfl
     refine yM (i := 8) (N := some 20) (v := ?_) (a' := ?_) #[O,O,O,O,O,O,O,O,O,Y] rfl rfl (yG HT_.out (by kernel_rfl)) (fun _ _ _ h => h) (Or.inl ⟨by rfl, ?_⟩) ?_ ?_
     rotate_left
     ·intro w'
      go_simp
      with_reducible rfl
     rotate_left
     ·simp only [Act.put, zdG, zdH, zdI, zT, yc]
      rfl
     refine yM (i := 9) (N := some 11) (v := ?_) (a' := ?_) #[O,O,O,O,O,O,O,O,O,O] rfl rfl (yG HT_.out (by kernel_rfl)) (fun _ _ _ h => h) (Or.inl ⟨by rfl, ?_⟩) ?_ ?_
     rotate_left
     ·intro w'
      go_simp
      with_reducible rfl
     rotate_left
     ·simp only [Act.put, zdG, zdH, zdI, zT, yc]
      rfl
     refine YK (YA HT_.out (by kernel_rfl)) ?_
     try go_wp2
     go_ret2
     exact ⟨by first | rfl | (simp [zl, zk] <;> rfl) | (simp only [← hji3]; first | rfl | (simp [zl, zk] <;> rfl)) | (simp [*, zl, zk] <;> rfl), by repeat (first | (with_reducible first | exact HB.out | apply zc | apply zb | apply zd) | exact HB.out)⟩
    ·rw [if_neg c10] at H
     have c10b0 : (t437.toList == (a0.extract ((ji3) : Int).toNat a0.size).toList) = false := beq_eq_false_iff_ne.mpr c10
     have c10b1 : (t437.toList != (a0.extract ((ji3) : Int).toNat a0.size).toList) = true := bne_iff_ne.mpr c10
     simp only [Option.some.injEq, Prod.mk.injEq] at H
     obtain ⟨rfl, rfl⟩ := H
     go_enter Tryz.func36, Tryz.ntmps36
     try go_wp2
     refine Yv (n := 10) (S := fun w' => True) (ds := []) #[Y,Y,Y,Y,Y,Y,Y,Y,Y,Y] (by kernel_rfl) rfl rfl trivial (fun hHeld => ?_); refine ZK yS.tab4 yS.bits4 (fun HT_ HW_ => ?_)
     first | (generalize hdrew_ : (World.drewN w nd).drew = w15 at hHeld ⊢; have n0_ : za (Below _ _ w15) := za.mk (by rw [← hdrew_]; exact zd (zb HB.out nd)); clear hdrew_; clear HB; have HB := n0_; clear n0_) | (have n0_ := za.mk (zd HB.out); clear HB; have HB := n0_; clear n0_; generalize w.drew = w15 at HB hHeld ⊢)
     refine yM (i := 0) (N := some 12) (v := ?_) (a' := ?_) #[O,Y,Y,Y,Y,Y,Y,Y,Y,Y] rfl rfl (yG HT_.out (by kernel_rfl)) (fun _ _ _ h => h) (Or.inl ⟨by rfl, ?_⟩) ?_ ?_
     rotate_left
     ·intro w'
      go_simp
      with_reducible rfl
     rotate_left
     ·simp only [Act.put, zdG, zdH, zdI, zT, yc]
      rfl
     refine yM (i := 1) (N := some 13) (v := ?_) (a' := ?_) #[O,O,Y,Y,Y,Y,Y,Y,Y,Y] rfl rfl (yG HT_.out (by kernel_rfl)) (fun _ _ _ h => h) (Or.inl ⟨by rfl, ?_⟩) ?_ ?_
     rotate_left
     ·intro w'
      go_simp
      with_reducible rfl
     rotate_left
     ·simp only [Act.put, zdG, zdH, zdI, zT, yc]
      rfl
     refine yM (i := 2) (N := some 14) (v := ?_) (a' := ?_) #[O,O,O,Y,Y,Y,Y,Y,Y,Y] rfl rfl (yG HT_.out (by kernel_rfl)) (fun _ _ _ h => h) (Or.inl ⟨by rfl, ?_⟩) ?_ ?_
     rotate_left
     ·intro w'
      go_simp
      with_reducible rfl
     rotate_left
     ·simp only [Act.put, zdG, zdH, zdI, zT, yc]
      rfl
     refine yM (i := 5) (N := some 17) (v := ?_) (a' := ?_) #[O,O,O,Y,Y,O,Y,Y,Y,Y] rfl rfl (yG HT_.out (by kernel_rfl)) (fun _ _ _ h => h) (Or.inl ⟨by rfl, ?_⟩) ?_ ?_
     rotate_left
     ·intro w'
      go_simp
      with_reducible rfl
     rotate_left
     ·simp only [Act.put, zdG, zdH, zdI, zT, yc]
      rfl
     refine yM (i := 6) (N := some 18) (v := ?_) (a' := ?_) #[O,O,O,Y,Y,O,O,Y,Y,Y] rfl rfl (yG HT_.out (by kernel_rfl)) (fun _ _ _ h => h) (Or.inl ⟨by rfl, ?_⟩) ?_ ?_
     rotate_left
     ·intro w'
      go_simp
      with_reducible rfl
     rotate_left
     ·simp only [Act.put, zdG, zdH, zdI, zT, yc]
      rfl
     refine yM (i := 7) (N := some 19) (v := ?_) (a' := ?_) #[O,O,O,Y,Y,O,O,O,Y,Y] rfl rfl (yG HT_.out (by kernel_rfl)) (fun _ _ _ h => h) (Or.inl ⟨by rfl, ?_⟩) ?_ ?_
     rotate_left
     ·intro w'
      go_simp
      with_reducible rfl
     rotate_left
     ·simp only [Act.put, zdG, zdH, zdI, zT, yc]
      rfl
     refine jt (i := 3) (N := some 15) #[O,O,O,O,Y,O,O,O,Y,Y] rfl rfl (qM HT_.out (by kernel_rfl)) (by decide) (fun K hK => ?_)
     refine jV Tryz.func56 (by kernel_rfl) rfl #[.string (a0.extract 0 ((ji3) : Int).toNat)] (by rfl) rfl rfl (by (try simp only [zdJ, List.map_cons, List.map_nil]); first | done | (simp only [hji3]; rfl) | rfl | (simp only [List.length_drop, List.length_take]; rfl)) ?_
     with_reducible refine (xV.calls k (a0.extract 0 ((ji3) : Int).toNat) t436 _ A6.out).mono ?_
     rintro e w' ⟨rfl, ⟨nd, rfl⟩⟩
     refine ⟨_, rfl, ?_⟩
     refine hK.out _ _ trivial (fun hHeld => ?_)
     clear hK K
     refine xh (a' := ?_) ?_ ?_
     rotate_left
     ·show Act.put _ (some 15) _ = _
      simp only [Act.put, zdG, zdH, zdI, zT, yc]
      rfl
     refine jt (i := 4) (N := some 16) #[O,O,O,O,O,O,O,O,Y,Y] rfl rfl (qM HT_.out (by kernel_rfl)) (by decide) (fun K hK => ?_)
     refine jV Tryz.func55 (by kernel_rfl) rfl #[.int .u32 t436] (by rfl) rfl rfl (by (try simp only [zdJ, List.map_cons, List.map_nil]); first | done | rfl | (simp only [List.length_drop, List.length_take]; rfl)) ?_
     with_reducible refine (y8.calls t436 t437 _ A7.out).mono ?_
     rintro e w16 ⟨rfl, hb⟩
     refine ⟨_, rfl, ?_⟩
     have n0_ := za.mk (zp (by repeat (first | (with_reducible first | exact HB.out | apply zc | apply zb | apply zd) | exact HB.out)) hb)
     clear HB
     have HB := n0_
     clear n0_
     (try clear hb)
     (try clear hb2)
     (try clear hk)
     (try clear hi)
     refine hK.out _ _ trivial (fun hHeld => ?_)
     clear hK K
     refine xh (a' := ?_) ?_ ?_
     rotate_left
     ·show Act.put _ (some 16) _ = _
      simp only [Act.put, zdG, zdH, zdI, zT, yc]
      rfl
     refine yM (i := 8) (N := some 20) (v := ?_) (a' := ?_) #[O,O,O,O,O,O,O,O,O,Y] rfl rfl (yG HT_.out (by kernel_rfl)) (fun _ _ _ h => h) (Or.inl ⟨by rfl, ?_⟩) ?_ ?_
     rotate_left
     ·intro w'
      go_simp
      with_reducible rfl
     rotate_left
     ·simp only [Act.put, zdG, zdH, zdI, zT, yc]
      rfl
     refine yM (i := 9) (N := some 11) (v := ?_) (a' := ?_) #[O,O,O,O,O,O,O,O,O,O] rfl rfl (yG HT_.out (by kernel_rfl)) (fun _ _ _ h => h) (Or.inl ⟨by rfl, ?_⟩) ?_ ?_
     rotate_left
     ·intro w'
      go_simp
      with_reducible rfl
     rotate_left
     ·simp only [Act.put, zdG, zdH, zdI, zT, yc]
      rfl
     refine YK (YA HT_.out (by kernel_rfl)) ?_
     try go_wp2
     go_ret2
     exact ⟨by first | rfl | (simp [zl, zk] <;> rfl) | (simp only [← hji3]; first | rfl | (simp [zl, zk] <;> rfl)) | (simp [*, zl, zk] <;> rfl), by repeat (first | (with_reducible first | exact HB.out | apply zc | apply zb | apply zd) | exact HB.out)⟩
   ·rw [if_neg c5] at H
    exact absurd H (by simp)
  ·rw [if_neg c4] at H
   exact absurd H (by simp)
def XR (x : Nat) : List Nat := [x % 256, x / 256 % 256, x / 65536 % 256, x / 16777216 % 256]
def ZV (x : Nat) : ByteArray := strOfNums ((XR x).map fun (n : Nat) => (n : Int))
theorem zcX (x : Nat) : ∀ c ∈ XR x, c < 256 := by
 intro c hc
 simp only [XR, List.mem_cons, List.not_mem_nil, or_false] at hc
 omega
theorem zb7 (x : Nat) : bl (ZV x) = XR x := by
 unfold ZV
 rw [VE]
 ·rw [List.map_map]
  have e : (Int.toNat ∘ fun (n : Nat) => (n : Int)) = id := by funext n; rfl
  rw [e, List.map_id]
 ·intro y hy
  rw [List.mem_map] at hy
  obtain ⟨n, hn, rfl⟩ := hy
  have := zcX x n hn
  omega
theorem zam (x : Nat) : (ZV x).size = 4 := by
 rw [← yo, zb7]
 rfl
theorem QQ (x : Nat) (hx : x < 4294967296) : y8.f (x : Int) = some (ZV x) := by
 unfold y8.f ZV XR
 simp only [List.map_cons, List.map_nil]
 congr 2
theorem zbC (x : Nat) : Zk (x : Int) 4 = (XR x).map fun (n : Nat) => (n : Int) := by
 simp [Zk, XR]
theorem zb4 (s : ByteArray) (hs : s.size ≤ 140737488351232) (k : Nat) (hk : s.size + 9 < k) : jY.f k s = some (s ++ ZV (YQ (bl s))) := by
 unfold jY.f
 rw [VS s hs k hk]
 simp only [Option.bind_some]
 rw [QQ _ (VI _ (Xx s))]
 simp only [Option.bind_some]
 rw [zam, if_pos (by omega)]
theorem Vm (s : ByteArray) (hs : s.size ≤ 140737488351232) (k : Nat) (hk : 10 * s.size < k) : xw.f k s = some (s ++ ZV (YQ (bl s))) := by
 unfold xw.f
 rw [if_pos hs, V9 s hs k hk]
 simp only [Option.bind_some]
 rw [zbC, vz, xc]
 rfl
def zcS (s : ByteArray) : ByteArray × Int :=
 if s.size < 4 then (⟨#[]⟩, 5) else if ZV (YQ (bl (s.extract 0 (s.size - 4)))) = s.extract (s.size - 4) s.size then (s.extract 0 (s.size - 4), 0) else (⟨#[]⟩, 7)
theorem zbW (s : ByteArray) (hs : s.size ≤ 140737488351232) (k : Nat) (hk : s.size + 9 < k) : yS.f k s = some (zcS s) := by
 unfold yS.f zcS
 rw [xo (by omega) (by omega)]
 by_cases h : s.size < 4
 ·rw [if_pos (by omega), if_pos h]
 ·have e : ((s.size : Int) - 4).toNat = s.size - 4 := by omega
  have hsz : (s.extract 0 (s.size - 4)).size = s.size - 4 := by rw [ByteArray.size_extract]; omega
  rw [if_neg (by omega), if_pos (by omega), if_pos (by omega), if_neg h, e, VS _ (by omega) k (by omega)]
  simp only [Option.bind_some]
  rw [QQ _ (VI _ (Xx _))]
  simp only [Option.bind_some, j7]
  split <;> rfl
def YN (y : S52) : Prop := (Lit.int .i64 y.f0).wf = true ∧ (Lit.int .i64 y.f1).wf = true ∧ y.f2.size ≤ 140737488351232 ∧ (Lit.int .i64 y.f3).wf = true ∧ vT y.f4 ∧ (Lit.int .i64 y.f5).wf = true
def Yo (y : S46) : Prop := (Lit.int .i64 y.f0).wf = true ∧ y.f1.size ≤ 140737488351232 ∧ (y.f2.length ≤ 1048576 ∧ ∀ e ∈ y.f2, YL e) ∧ (Lit.int .i64 y.f3).wf = true ∧ (Lit.int .i64 y.f4).wf = true
structure FmB (x : Fm) : Prop where
 n0 : (Lit.int .i64 x.f0).wf = true
 n1 : (Lit.int .i64 x.f1).wf = true
 n2 : (Lit.int .i64 x.f2).wf = true
 n3 : (Lit.int .i64 x.f3).wf = true
 n4 : (Lit.int .i64 x.f4).wf = true
 fil : x.f5.length ≤ 1048576 ∧ ∀ y ∈ x.f5, y.size ≤ 140737488351232
 cmd : x.f6.length ≤ 1048576 ∧ ∀ y ∈ x.f6, YN y
 ent : x.f7.length ≤ 1048576 ∧ ∀ y ∈ x.f7, Yo y
 ite : x.f8.length ≤ 524288 ∧ (∀ y ∈ x.f8, y.f0.size ≤ 1048576) ∧ ∀ y ∈ x.f8, Xl y
 ver : x.f9.length ≤ 1048576 ∧ ∀ y ∈ x.f9, Qq y
theorem XN (b : Bool) (y : ByteArray) : ((qB b y).2 == 0) = b := by cases b <;> rfl
theorem zaR (b : Bool) (y : ByteArray) : (qB b y).2 = if b = true then 0 else 2 := by cases b <;> rfl
def jf (cl : Int) : Option Int → List S52 → Bool
 | _, [] => true
 | p, y :: l => (jo y.f0 y.f1 y.f2 y.f3 y.f4 y.f5 && ((y.f0 == cl) && qx p y.f1)) && jf cl (some y.f1) l
theorem putc (y : S52) (h : YN y) (k : Nat) (hk : 3000000 ≤ k) : yT.f k y.f0 y.f1 y.f2 y.f3 y.f4 y.f5 = some (qB (jo y.f0 y.f1 y.f2 y.f3 y.f4 y.f5) (Y4 y.f0 y.f1 y.f2 y.f3 y.f4 y.f5)) := Vo _ _ _ _ _ _ h.1 h.2.1 h.2.2.1 h.2.2.2.1 h.2.2.2.2.1 h.2.2.2.2.2 k hk
theorem J0 (cl : Int) : ∀ (l : List S52) (p : Option Int), (∀ y ∈ l, YN y) → Jt cl p l (jf cl p l)
 | [], _, _ => rfl
 | y :: l, p, h => by
  refine ⟨3000000, (qB (jo y.f0 y.f1 y.f2 y.f3 y.f4 y.f5) (Y4 y.f0 y.f1 y.f2 y.f3 y.f4 y.f5)).1, (qB (jo y.f0 y.f1 y.f2 y.f3 y.f4 y.f5) (Y4 y.f0 y.f1 y.f2 y.f3 y.f4 y.f5)).2, putc y (h y (.head _)) _ (Nat.le_refl _), ?_⟩
  rw [XN]
  cases hb : (jo y.f0 y.f1 y.f2 y.f3 y.f4 y.f5 && ((y.f0 == cl) && qx p y.f1)) with
  | false => exact .inl ⟨rfl, by rw [jf, hb]; rfl⟩
  | true =>
   refine .inr ⟨rfl, ?_⟩
   rw [jf, hb, Bool.true_and]
   exact J0 cl l _ (fun z hz => h z (.tail _ hz))
def Ze (y : S46) : Bool := Vb (if ju y.f2 = true then 0 else 2) y.f1 y.f2.length y.f3 y.f4
theorem pute (y : S46) (h : Yo y) (k : Nat) (hk : 3000000 ≤ k) : ql.f k y.f0 y.f1 y.f2 y.f3 y.f4 = some (Ze y) := by
 unfold ql.f Ze
 rw [zC (Yy y.f2 h.2.2.1.1 h.2.2.1.2 k hk), zaR]
def jc (fr up : Int) : Option Int → List S46 → Bool
 | _, [] => true
 | p, y :: l => (Ze y && (decide (fr ≤ y.f0) && (decide (y.f0 < up) && qx p y.f0))) && jc fr up (some y.f0) l
theorem Q1 (fr up : Int) : ∀ (l : List S46) (p : Option Int), (∀ y ∈ l, Yo y) → Qg fr up p l (jc fr up p l)
 | [], _, _ => rfl
 | y :: l, p, h => by
  refine ⟨3000000, _, pute y (h y (.head _)) _ (Nat.le_refl _), ?_⟩
  cases hb : (Ze y && (decide (fr ≤ y.f0) && (decide (y.f0 < up) && qx p y.f0))) with
  | false => exact .inl ⟨rfl, by rw [jc, hb]; rfl⟩
  | true =>
   refine .inr ⟨rfl, ?_⟩
   rw [jc, hb, Bool.true_and]
   exact Q1 fr up l _ (fun z hz => h z (.tail _ hz))
abbrev MS : Int := 1099511627776
def ji (x : Fm) : Bool :=
 if x.f0 = 1 then vv x.f5 && (inB x.f3 0 MS && inB x.f4 1 MS) else
 if x.f0 = 2 then jf x.f1 none x.f6 && inB (x.f6.length : Int) 1 8 else
 if x.f0 = 3 then inB x.f4 0 MS else
 if x.f0 = 4 then jc x.f3 x.f4 none x.f7 && (inB x.f3 0 MS && (inB x.f4 0 MS && (decide (x.f3 ≤ x.f4) && decide ((x.f7.length : Int) ≤ 16)))) else
 inB x.f4 0 MS && (xR x.f8 && yY x.f9)
theorem zaA {x : Fm} (hB : FmB x) (h0 : 1 ≤ x.f0 ∧ x.f0 ≤ 5) : Ys x (ji x) := by
 unfold ji Ys
 by_cases c1 : x.f0 = 1
 ·rw [if_pos c1]
  obtain ⟨r, e1, e2⟩ := X5 x.f5 (by have := hB.fil.1; omega) (x.f5.length + 301) (Nat.le_refl _)
  exact .inl ⟨c1, _, _, _, e1, by rw [e2]⟩
 rw [if_neg c1]
 by_cases c2 : x.f0 = 2
 ·rw [if_pos c2]
  exact .inr (.inl ⟨c2, _, J0 _ _ _ hB.cmd.2, rfl⟩)
 rw [if_neg c2]
 by_cases c3 : x.f0 = 3
 ·rw [if_pos c3]
  exact .inr (.inr (.inl ⟨c3, rfl⟩))
 rw [if_neg c3]
 by_cases c4 : x.f0 = 4
 ·rw [if_pos c4]
  exact .inr (.inr (.inr (.inl ⟨c4, _, Q1 _ _ _ _ hB.ent.2, rfl⟩)))
 rw [if_neg c4]
 exact .inr (.inr (.inr (.inr ⟨by omega, _, (qB (xR x.f8) (yt itY x.f8)).1, (qB (xR x.f8) (yt itY x.f8)).2, _, (qB (yY x.f9) (yt veY x.f9)).1, (qB (yY x.f9) (yt veY x.f9)).2, Y0 x.f8 hB.ite.1 hB.ite.2.1 hB.ite.2.2 3000000 (Nat.le_refl _), Z6 x.f9 hB.ver.1 hB.ver.2 3000000 (Nat.le_refl _), by rw [XN, XN]⟩)))
instance (x : Fm) : Decidable (qz x) := inferInstanceAs (Decidable ((0 ≤ x.f1 ∧ x.f1 ≤ 5) ∧ (1 ≤ x.f2 ∧ x.f2 ≤ 1099511627776) ∧ (1 ≤ x.f0 ∧ x.f0 ≤ 5)))
def yO (x : Fm) : Bool := decide (qz x) && (qT x && ji x)
theorem Q2 {x : Fm} (hB : FmB x) : ZB x (yO x) := by
 unfold yO ZB
 by_cases h : qz x
 ·rw [decide_eq_true h, Bool.true_and]
  cases ho : qT x with
  | false => exact .inr (.inl ⟨h, rfl, rfl⟩)
  | true => exact .inr (.inr ⟨h, rfl, by rw [Bool.true_and]; exact zaA hB h.2.2⟩)
 ·rw [decide_eq_false h]
  exact .inl ⟨h, rfl⟩
theorem Vx (l : List Int) (h : ∀ n ∈ l, (Lit.int .i64 n).wf = true) (hl : l.length ≤ 1048576) (d : Nat) : ∀ (k i : Nat) (acc : ByteArray), i + d = l.length → d + 1 ≤ k → acc.size + 10 * d < 140737488355328 →
  zy.l0 k (bytesOf acc) l (l.length : Int) (i : Int) = some (acc ++ yB (l.drop i)) := by
 induction d with
 | zero =>
  intro k i acc hi hk ha
  obtain ⟨k, rfl⟩ : ∃ m, k = m + 1 := ⟨k - 1, by omega⟩
  rw [zy.l0, if_neg (by omega), List.drop_of_length_le (by omega), yB, xO, qe, xc]
 | succ d ih =>
  intro k i acc hi hk ha
  obtain ⟨k, rfl⟩ : ∃ m, k = m + 1 := ⟨k - 1, by omega⟩
  have hlt : i < l.length := by omega
  have hb := X9 (h _ (List.getElem_mem hlt))
  have hs := zE l[i]
  rw [zy.l0, if_pos (by omega), if_pos (by omega), if_pos (by omega), XS l i hlt, zC (jC _ hb.1 hb.2), if_pos (by rw [yy]; omega), z4 (by omega) (by omega), List.drop_eq_getElem_cons hlt, ← xr]
  have := ih k (i + 1) (acc ++ yn l[i]) (by omega) (by omega) (by rw [zq]; omega)
  rw [yz] at this
  exact this
theorem xW (l : List Int) (h : ∀ n ∈ l, (Lit.int .i64 n).wf = true) (hl : l.length ≤ 1048576) (k : Nat) (hk : l.length + 1 ≤ k) : zy.f k l = some (yB l) := by
 have := Vx l h hl l.length k 0 ⟨#[]⟩ (by omega) hk (by show 0 + _ < _; omega)
 rw [List.drop_zero, Z3] at this
 exact this
theorem vn {n : Nat} (h : n ≤ 1048576) : (Lit.int .i64 (n : Int)).wf = true := Xm _ (by omega) (by omega)
def vk (y : S52) : ByteArray := Y4 y.f0 y.f1 y.f2 y.f3 y.f4 y.f5
def jE (y : S46) : ByteArray := ((yn y.f0 ++ xi y.f1) ++ yt evY y.f2) ++ (yn y.f3 ++ yn y.f4)
theorem Yj {y : S52} (h : jo y.f0 y.f1 y.f2 y.f3 y.f4 y.f5 = true) : (vk y).size ≤ 3000 := by
 obtain ⟨_, _, h3, _, _, h6, _⟩ := JX h
 have b1 := zE y.f0
 have b2 := zE y.f1
 have b3 := xa y.f2
 have b4 := zE y.f3
 have b5 := xn y.f4
 have b6 := zE y.f5
 unfold vk Y4
 simp only [zq]
 omega
theorem J2 {l : List S108} (h : ju l = true) : (yt evY l).size ≤ 8000 := by
 obtain ⟨h1, h2⟩ := JA h
 have b1 := zE (l.length : Int)
 have b2 := jI evY 2600 l (fun x hx => by
  have c1 := zE x.f0
  have c2 := xn x.f1
  have c3 := (h2 x hx).2
  unfold evY
  rw [zq]
  omega)
 unfold yt
 rw [zq]
 omega
theorem Xt {y : S46} (h : Ze y = true) : ju y.f2 = true ∧ y.f1.size ≤ 32 := by
 unfold Ze Vb at h
 simp only [Bool.and_eq_true] at h
 obtain ⟨h1, h2, h3, _⟩ := h
 cases he : ju y.f2 with
 | false => rw [he] at h1; exact absurd h1 (by decide)
 | true =>
  refine ⟨rfl, ?_⟩
  cases hn : decide (0 < y.f2.length) with
  | true =>
   rw [hn, beq_iff_eq] at h2
   exact Xq h2.symm
  | false =>
   rw [hn, Bool.false_or, beq_iff_eq] at h3
   have := (ZU y.f1).1 h3
   omega
theorem Xn {y : S46} (h : Ze y = true) : (jE y).size ≤ 9000 := by
 obtain ⟨h1, h2⟩ := Xt h
 have b1 := zE y.f0
 have b3 := xa y.f1
 have b4 := J2 h1
 have b5 := zE y.f3
 have b6 := zE y.f4
 unfold jE
 simp only [zq]
 omega
theorem Yg (cl : Int) : ∀ (l : List S52) (p : Option Int), jf cl p l = true → ∀ y ∈ l, jo y.f0 y.f1 y.f2 y.f3 y.f4 y.f5 = true
 | [], _, _ => by simp
 | z :: l, p, h => by
  rw [jf, Bool.and_eq_true, Bool.and_eq_true] at h
  intro y hy
  rcases List.mem_cons.1 hy with rfl | hy
  ·exact h.1.1
  ·exact Yg cl l _ h.2 y hy
theorem ZD (fr up : Int) : ∀ (l : List S46) (p : Option Int), jc fr up p l = true → ∀ y ∈ l, Ze y = true
 | [], _, _ => by simp
 | z :: l, p, h => by
  rw [jc, Bool.and_eq_true, Bool.and_eq_true] at h
  intro y hy
  rcases List.mem_cons.1 hy with rfl | hy
  ·exact h.1.1
  ·exact ZD fr up l _ h.2 y hy
def Za (x : Fm) : ByteArray :=
 if x.f0 = 1 then yB [x.f3, x.f4] ++ yt xi x.f5 else
 if x.f0 = 2 then yB [(x.f6.length : Int)] ++ yV vk x.f6 else
 if x.f0 = 3 then yB [x.f4] else
 if x.f0 = 4 then yB [x.f3, x.f4, (x.f7.length : Int)] ++ yV jE x.f7 else
 (yB [x.f4] ++ yt itY x.f8) ++ yt veY x.f9
theorem ZL {b : Bool} {y : ByteArray} (h : b = true) : qB b y = (y, 0) := by rw [h]; rfl
theorem q7 (l : List Int) (n : Nat) (h : l.length ≤ n) : (yB l).size ≤ 10 * n := Nat.le_trans (xu l) (Nat.mul_le_mul_left _ h)
theorem jr {α : Type} (B : α → ByteArray) (M n : Nat) (l : List α) (hl : l.length ≤ n) (h : ∀ x ∈ l, (B x).size ≤ M) : (yt B l).size ≤ 10 + M * n := by
 have h1 := zE (l.length : Int)
 have h2 := Nat.le_trans (jI B M l h) (Nat.mul_le_mul_left M hl)
 unfold yt
 rw [zq]
 omega
theorem Q8 (y : S52) (h : YN y) (hb : jo y.f0 y.f1 y.f2 y.f3 y.f4 y.f5 = true) (a : ByteArray) (ha : a.size + 3000 < 140737488355328) : jb 3000000 (bytesOf a) y = some (bytesOf (a ++ vk y)) := by
 have := Yj hb
 unfold jb
 rw [zC (putc y h _ (Nat.le_refl _)), ZL hb]
 show (if (bytesOf a).length + (vk y).size ≤ _ then _ else none) = _
 rw [if_pos (by rw [yy]; omega), xr]
 rfl
theorem QN (y : S46) (h : Yo y) (hb : Ze y = true) (a : ByteArray) (ha : a.size + 9000 < 140737488355328) : qF 3000000 (bytesOf a) y = some (bytesOf (a ++ jE y)) := by
 obtain ⟨h1, h2⟩ := Xt hb
 have b1 := zE y.f0
 have b3 := xa y.f1
 have b4 := J2 h1
 have b5 := zE y.f3
 have b6 := zE y.f4
 unfold qF
 rw [zC (Xj y.f1 h.2.1), vt y.f1 (by omega), zC (Yy y.f2 h.2.2.1.1 h.2.2.1.2 3000000 (Nat.le_refl _)), ZL h1, zC (xW [y.f0] (Xb h.1) (by simp) _ (by simp)), ZH]
 dsimp only
 rw [if_pos (by rw [yy]; omega), ← xr, if_pos (by rw [yy, zq]; omega), ← xr, if_pos (by rw [yy, zq, zq]; omega), ← xr, zC (xW [y.f3, y.f4] (qw h.2.2.2.1 h.2.2.2.2) (by simp) _ (by simp)), qX, if_pos (by rw [yy]; simp only [zq]; omega), ← xr]
 unfold jE
 simp only [yz]
theorem zac {x : Fm} (hB : FmB x) (h0 : 1 ≤ x.f0 ∧ x.f0 ≤ 5) (hs : ji x = true) : YC x (Za x) ∧ (Za x).size ≤ 1000000 := by
 refine ⟨⟨3000000, ?_⟩, ?_⟩
 ·unfold qQ.f Za
  unfold ji at hs
  by_cases c1 : x.f0 = 1
  ·rw [if_pos c1] at hs ⊢
   rw [if_pos c1]
   rw [Bool.and_eq_true] at hs
   have e := Qx x.f5 hB.fil.1 hB.fil.2 3000000 (Nat.le_refl _)
   rw [ZL hs.1] at e
   have g := Xk hs.1
   have b1 := q7 [x.f3, x.f4] 2 (Nat.le_refl _)
   have b2 := jr xi 50 8 x.f5 g.1 (fun y hy => by have := xa y; have := g.2 y hy; omega)
   unfold qc.f
   rw [zC e, zC (xW [x.f3, x.f4] (qw hB.n3 hB.n4) (by simp) _ (by simp))]
   dsimp only
   rw [if_pos (by omega)]
  rw [if_neg c1] at hs ⊢
  rw [if_neg c1]
  by_cases c2 : x.f0 = 2
  ·rw [if_pos c2] at hs ⊢
   rw [if_pos c2]
   rw [Bool.and_eq_true] at hs
   have hl : (x.f6.length : Int) ≤ 8 := of_decide_eq_true (Bool.and_eq_true_iff.1 hs.2).2
   have ha := Yg _ _ _ hs.1
   have b1 := q7 [(x.f6.length : Int)] 1 (Nat.le_refl _)
   unfold xT.f
   rw [zC (xW [(x.f6.length : Int)] (Xb (vn hB.cmd.1)) (by simp) _ (by simp)), if_pos (by omega), zC (ZR (jb 3000000) vk 3000 x.f6 _ (fun y hy => Yj (ha y hy)) (fun y hy a h => Q8 y (hB.cmd.2 y hy) (ha y hy) a h) (by omega)), xc]
  rw [if_neg c2] at hs ⊢
  rw [if_neg c2]
  by_cases c3 : x.f0 = 3
  ·rw [if_pos c3] at hs ⊢
   rw [if_pos c3]
   unfold qG.f
   rw [zC (xW [x.f4] (Xb hB.n4) (by simp) _ (by simp))]
  rw [if_neg c3] at hs ⊢
  rw [if_neg c3]
  by_cases c4 : x.f0 = 4
  ·rw [if_pos c4] at hs ⊢
   rw [if_pos c4]
   simp only [Bool.and_eq_true, decide_eq_true_eq] at hs
   have hl := hs.2.2.2.2
   have ha := ZD _ _ _ _ hs.1
   have b1 := q7 [x.f3, x.f4, (x.f7.length : Int)] 3 (Nat.le_refl _)
   unfold xI.f
   rw [zC (xW [x.f3, x.f4, (x.f7.length : Int)] (fun n hn => by rcases List.mem_cons.1 hn with rfl | hn; exact hB.n3; exact qw hB.n4 (vn hB.ent.1) n hn) (by simp) _ (by simp)), if_pos (by omega), zC (ZR (qF 3000000) jE 9000 x.f7 _ (fun y hy => Xn (ha y hy)) (fun y hy a h => QN y (hB.ent.2 y hy) (ha y hy) a h) (by omega)), xc]
  rw [if_neg c4] at hs ⊢
  rw [if_neg c4]
  simp only [Bool.and_eq_true] at hs
  have e1 := Y0 x.f8 hB.ite.1 hB.ite.2.1 hB.ite.2.2 3000000 (Nat.le_refl _)
  have e2 := Z6 x.f9 hB.ver.1 hB.ver.2 3000000 (Nat.le_refl _)
  rw [ZL hs.2.1] at e1
  rw [ZL hs.2.2] at e2
  have g1 := Z9 hs.2.1
  have g2 := Zw hs.2.2
  have b1 := q7 [x.f4] 1 (Nat.le_refl _)
  have b2 := jr itY 3000 64 x.f8 g1.1 (fun y hy => by
   have := xa y.f0
   have := zE y.f1.f0
   have := zE y.f1.f1
   have := xn y.f1.f2
   have := (g1.2 y hy).2
   unfold itY
   simp only [zq]
   omega)
  have b3 := jr veY 20 32 x.f9 g2.1 (fun y _ => YV y)
  unfold qJ.f
  rw [zC e1, zC e2, zC (xW [x.f4] (Xb hB.n4) (by simp) _ (by simp))]
  dsimp only
  rw [if_pos (by omega), if_pos (by rw [zq]; omega)]
 ·unfold Za
  unfold ji at hs
  by_cases c1 : x.f0 = 1
  ·rw [if_pos c1] at hs ⊢
   rw [Bool.and_eq_true] at hs
   have g := Xk hs.1
   have b1 := q7 [x.f3, x.f4] 2 (Nat.le_refl _)
   have b2 := jr xi 50 8 x.f5 g.1 (fun y hy => by have := xa y; have := g.2 y hy; omega)
   rw [zq]
   omega
  rw [if_neg c1] at hs ⊢
  by_cases c2 : x.f0 = 2
  ·rw [if_pos c2] at hs ⊢
   rw [Bool.and_eq_true] at hs
   have hl : (x.f6.length : Int) ≤ 8 := of_decide_eq_true (Bool.and_eq_true_iff.1 hs.2).2
   have b1 := q7 [(x.f6.length : Int)] 1 (Nat.le_refl _)
   have b2 := jI vk 3000 x.f6 (fun y hy => Yj (Yg _ _ _ hs.1 y hy))
   rw [zq]
   omega
  rw [if_neg c2] at hs ⊢
  by_cases c3 : x.f0 = 3
  ·rw [if_pos c3]
   have b1 := q7 [x.f4] 1 (Nat.le_refl _)
   omega
  rw [if_neg c3] at hs ⊢
  by_cases c4 : x.f0 = 4
  ·rw [if_pos c4] at hs ⊢
   simp only [Bool.and_eq_true, decide_eq_true_eq] at hs
   have hl := hs.2.2.2.2
   have b1 := q7 [x.f3, x.f4, (x.f7.length : Int)] 3 (Nat.le_refl _)
   have b2 := jI jE 9000 x.f7 (fun y hy => Xn (ZD _ _ _ _ hs.1 y hy))
   rw [zq]
   omega
  rw [if_neg c4] at hs ⊢
  simp only [Bool.and_eq_true] at hs
  have g1 := Z9 hs.2.1
  have g2 := Zw hs.2.2
  have b1 := q7 [x.f4] 1 (Nat.le_refl _)
  have b2 := jr itY 3000 64 x.f8 g1.1 (fun y hy => by
   have := xa y.f0
   have := zE y.f1.f0
   have := zE y.f1.f1
   have := xn y.f1.f2
   have := (g1.2 y hy).2
   unfold itY
   simp only [zq]
   omega)
  have b3 := jr veY 20 32 x.f9 g2.1 (fun y _ => YV y)
  rw [zq, zq]
  omega
def Zq (x : Fm) : ByteArray := yB [x.f0, x.f1, x.f2] ++ Za x
def zcQ (t : ByteArray) : ByteArray := t ++ ZV (YQ (bl t))
theorem VG {x : Fm} (hB : FmB x) : (yO x = false ∧ YS x ⟨#[]⟩ 2) ∨ (yO x = true ∧ YS x (zcQ (Zq x)) 0 ∧ (Zq x).size ≤ 1000030) := by
 have hr := Q2 hB
 cases h : yO x with
 | false =>
  rw [h] at hr
  exact .inl ⟨rfl, .inl ⟨hr, rfl, rfl⟩⟩
 | true =>
  rw [h] at hr
  unfold yO at h
  simp only [Bool.and_eq_true, decide_eq_true_eq] at h
  obtain ⟨hf, hz⟩ := zac hB h.1.2.2 h.2.2
  have b1 := q7 [x.f0, x.f1, x.f2] 3 (Nat.le_refl _)
  have hl : (Zq x).size ≤ 1000030 := by unfold Zq; rw [zq]; omega
  refine .inr ⟨rfl, .inr ⟨hr, yB [x.f0, x.f1, x.f2], Za x, ⟨_, xW [x.f0, x.f1, x.f2] (fun n hn => by rcases List.mem_cons.1 hn with rfl | hn; exact hB.n0; exact qw hB.n1 hB.n2 n hn) (by simp) 4 (by simp)⟩, hf, by omega, ⟨1000040, zb4 (Zq x) (by omega) 1000040 (by omega)⟩, rfl⟩, hl⟩
abbrev Tn (w : World) (g T : Nat) (new : List Value) (w' : World) : Prop := xJ [g] w w' ∧ w'.heap[g]? = some (.cells new.toArray T (0, 0))
abbrev AtB (w : World) (g T : Nat) (cs : List Value) : Prop := w.heap[g]? = some (.cells cs.toArray T (0, 0))
section
variable {P : Program} {gs : List Nat} {w0 w w1 W : World} {bs bs' bs1 : List Bk} {rs : List Rw} {f : FuncId} {args : Array Value} {K : Ending → World → Prop} {g T : Nat} {old new : List Value} {α : Type} {d : Kd α} {t e : Nat} {xs : List α} {x : α} {r : Value}
theorem Sat.tn (H : Sat gs w0 w bs rs) {Φ : Ending → World → Prop} (hc : AtB w g T old → Calls P f args w fun e w' => Φ e w' ∧ Tn w g T new w') (h : ∀ e w', Φ e w' → Sat gs w0 w' bs' rs → K e w')
  (hm : (g, old, T) ∈ bs := by ((repeat (first | exact .head _ | apply List.Mem.tail)); (first | done | fail))) (U : Up g T 0 (fun _ => new) bs bs' := by ((repeat (first | exact .here rfl | apply Up.there)); (first | done | fail))) (ht : xC T rs = true := by rfl) : Calls P f args w K :=
 (hc (H.blk _ hm).2).mono fun e w' he => h e w' he.1 (H.turn U ht he.2.1 (fun _ _ => he.2.2))
theorem Sat.tn0 (H : Sat gs w0 w bs rs) (hc : AtB w g T old → Calls P f args w fun e w' => e = .returned r ∧ Tn w g T new w') (h : ∀ w', Sat gs w0 w' bs' rs → K (.returned r) w')
  (hm : (g, old, T) ∈ bs := by ((repeat (first | exact .head _ | apply List.Mem.tail)); (first | done | fail))) (U : Up g T 0 (fun _ => new) bs bs' := by ((repeat (first | exact .here rfl | apply Up.there)); (first | done | fail))) (ht : xC T rs = true := by rfl) : Calls P f args w K :=
 H.tn hc (fun e w' he HS => by subst he; exact h w' HS) hm U ht
theorem Sat.tnR (H : Sat gs w0 w bs rs) (hc : AtB w g T old → Calls P f args w fun e w' => (∃ v, e = .returned v ∧ d.R t w' w.heap.size (fun _ => True) v xs) ∧ Tn w g T new w')
  (h : ∀ A c w', Sat gs w0 w' bs' (qA d t w0 (.slice A xs.length c) xs :: rs) → K (.returned (.slice A xs.length c)) w')
  (hm : (g, old, T) ∈ bs := by ((repeat (first | exact .head _ | apply List.Mem.tail)); (first | done | fail))) (U : Up g T 0 (fun _ => new) bs bs' := by ((repeat (first | exact .here rfl | apply Up.there)); (first | done | fail))) (ht : xC T rs = true := by rfl) : Calls P f args w K :=
 H.tn hc (fun e w' he HS => by
  obtain ⟨v, rfl, hr⟩ := he
  obtain ⟨A, c, rfl⟩ := Kd.R_slice hr
  exact h A c w' (HS.R hr H.keep.size)) hm U ht
theorem Sat.tnM (H : Sat gs w0 w bs rs) {F : List Value → Value} (hc : AtB w g T old → Calls P f args w fun e w' => (∃ cs, e = .returned (F cs) ∧ d.M w' w.heap.size (fun _ => True) x cs) ∧ Tn w g T new w')
  (h : ∀ cs w', Sat gs w0 w' bs' rs → d.M w' w0.heap.size (fun _ => True) x cs → K (.returned (F cs)) w')
  (hm : (g, old, T) ∈ bs := by ((repeat (first | exact .head _ | apply List.Mem.tail)); (first | done | fail))) (U : Up g T 0 (fun _ => new) bs bs' := by ((repeat (first | exact .here rfl | apply Up.there)); (first | done | fail))) (ht : xC T rs = true := by rfl) : Calls P f args w K :=
 H.tn hc (fun e w' he HS => by
  obtain ⟨cs, rfl, hr⟩ := he
  exact h cs w' HS (d.M_lower H.keep.size hr)) hm U ht
theorem Sat.fin (H : Sat [g] w w1 bs rs) (hm : (g, new, T) ∈ bs := by ((repeat (first | exact .head _ | apply List.Mem.tail)); (first | done | fail))) : Tn w g T new w1 := ⟨H.keep, (H.blk _ hm).2⟩
variable {ops : Array Oper} {rest : List Oper} {o o1 o2 : Oper} {a : Act} {Q : Exit → Act → World → Prop} {v : Value} {p : α}
theorem gL {w : World} {t n : Nat} {l : Array (Nat × Operand)} (_ho : o.op = .buildSlice t n l) (h : wpList P ops Q (o :: rest) a w) : wpList P ops Q (o :: rest) a w := h
theorem Jn (H : Sat gs w0 W bs (qA d e w0 v xs :: rs)) {cs : List Value} {s y : Operand} {t : TypeId} {z : Value} {bytes : Nat} (hp : d.M W w0.heap.size (fun _ => True) p cs) (hl : (xs.length + 1) * bytes ≤ 140737488355328)
  (h : ∀ A c w1, Sat gs w0 w1 bs (qA d e w0 (.slice A (xs ++ [p]).length c) (xs ++ [p]) :: rs) → wpList P ops Q rest ((a.put o1.dst (.slice (some ⟨W.heap.size, 0, none⟩) 1 1)).put o2.dst (.slice A (xs ++ [p]).length c)) w1)
  (hg1 : o1.guard = none := by rfl) (hr1 : (execOp a.eval o1).run P W = .ok (.value (.slice (some ⟨W.heap.size, 0, none⟩) 1 1)) (W.alloc (.cells cs.toArray e)) := by (go_simp; try rfl))
  (hg2 : o2.guard = none := by rfl) (hop : o2.op = .call { callee := .builtin .append, args := #[s, y], argTypes := #[t, t] } := by rfl)
  (hs : (a.put o1.dst (.slice (some ⟨W.heap.size, 0, none⟩) 1 1)).eval s = v := by rfl) (hx : (a.put o1.dst (.slice (some ⟨W.heap.size, 0, none⟩) 1 1)).eval y = .slice (some ⟨W.heap.size, 0, none⟩) 1 1 := by rfl)
  (ht : P.underlying t = some (.slice e) := by rfl) (hinfo : (P.info? e).map (fun i => (i.zero, i.size, i.bytes)) = some (some z, d.sz, bytes) := by rfl) (hz : z.cells.size = d.sz := by rfl) (hs0 : 0 < d.sz := by decide) (hb0 : 0 < bytes := by decide)
  (hE : d.E.contains e = false := by rfl) (hf : xC e rs = true := by rfl) (hb : (bs.all fun b => b.2.2 != e) = true := by rfl) : wpList P ops Q (o1 :: o2 :: rest) a W := by
 have h0 := (H.rows _ (.head _)).2
 refine Kd.event_run hg1 hr1 ?_
 refine Kd.R_append d (w0 := xM W w0.heap.size) (W := W) w0.heap.size hg2 s y t e z bytes hop ht hinfo hz hs0 hb0 v xs p cs (fun _ => True) _ hs hx (zcO h0 hp hE) (fun _ hk => hk) (fun _ _ => trivial) h0
  ⟨rfl, rfl, rfl, by rw [ZJ H.keep.size]; exact H.keep.size, (YR H.keep.size).block |> fun hb k hk => hb k (by rw [ZJ H.keep.size]; exact hk)⟩ H.keep.size hl ?_
 intro v1 w1 hr hbl hg _
 obtain ⟨A, c, rfl⟩ := Kd.R_slice hr
 exact h A c w1 (H.grown hr hg (show W.tape = w1.tape from hbl.tape.symm) (H.apartOf hb) hf)
variable {i D : Nat} {r0 : PT} {a' : Act}
theorem Xe {X : Act → World → Prop} (H : Sat gs w0 w bs rs) (hs : bs1.Sublist bs) {fn : Func} {c : Operand} {ax : Array Operand} {ts : Array TypeId} {F : Value → Value} (hc : Calls P f args w fun e w' => ∃ v, e = .returned (F v) ∧ d.R t w' w.heap.size (fun _ => True) v xs ∧ Below w.heap.size w w')
  (h : ∀ A c w', Sat gs w0 w' bs (qA d t w0 (.slice A xs.length c) xs :: rs) → X (a.put (some D) (F (.slice A xs.length c))) w')
  (hd : o.dst = some D := by rfl) (hop : o.op = .call { callee := .value c, args := ax, argTypes := ts } := by rfl) (hcv : a.eval c = .func (Fn.func f) #[] #[] := by rfl) (hargs : ax.map a.eval = args := by (simp only [zdJ, List.map_cons, List.map_nil]; rfl)) (hf : P.funcs[f]? = some fn := by rfl)
  (hname : (fn.name == "runtime.NumGoroutine") = false := by rfl) (hbd : fn.body.isSome = true := by rfl) (hw : Region.wanted o (yielded ops a.tmps) = true := by rfl) : Stp P ops Q (fun W => Lk W bs1) X o D a w :=
 fun K hK => Z1 (hc.mono fun e w' he => by
  obtain ⟨v, rfl, hr, hb⟩ := he
  obtain ⟨A, c, rfl⟩ := Kd.R_slice hr
  have HS := (H.call hb).R hr H.keep.size
  exact ⟨_, rfl, hK _ _ (xv hs HS.lk) (fun _ => h A c w' HS)⟩) hf hop hcv hargs hname hbd hw hd
theorem zdt {X : Act → World → Prop} (H : Sat gs w0 w bs rs) (hs : bs1.Sublist bs) {fn : Func} {c : Operand} {ax : Array Operand} {ts : Array TypeId} {F : List Value → Value} (hc : Calls P f args w fun e w' => (∃ cs, e = .returned (F cs) ∧ d.M w' w.heap.size (fun _ => True) x cs) ∧ Below w.heap.size w w')
  (h : ∀ cs w', Sat gs w0 w' bs rs → d.M w' w0.heap.size (fun _ => True) x cs → X (a.put (some D) (F cs)) w')
  (hd : o.dst = some D := by rfl) (hop : o.op = .call { callee := .value c, args := ax, argTypes := ts } := by rfl) (hcv : a.eval c = .func (Fn.func f) #[] #[] := by rfl) (hargs : ax.map a.eval = args := by (simp only [zdJ, List.map_cons, List.map_nil]; rfl)) (hf : P.funcs[f]? = some fn := by rfl)
  (hname : (fn.name == "runtime.NumGoroutine") = false := by rfl) (hbd : fn.body.isSome = true := by rfl) (hw : Region.wanted o (yielded ops a.tmps) = true := by rfl) : Stp P ops Q (fun W => Lk W bs1) X o D a w :=
 fun K hK => Z1 (hc.mono fun e w' he => by
  obtain ⟨⟨cs, rfl, hr⟩, hb⟩ := he
  have HS := H.call hb
  exact ⟨_, rfl, hK _ _ (xv hs HS.lk) (fun _ => h cs w' HS (d.M_lower H.keep.size hr))⟩) hf hop hcv hargs hname hbd hw hd
end
abbrev rdC (s : ByteArray) (p e : Int) : List Value := [.string s, .int .i64 p, .int .i64 e]
def beh {α : Type} (z : α) (f : ByteArray → Int → α → Int → Int → Prop) (s : ByteArray) (p q : Int) (v : α) (p' q' : Int) : Prop := (q ≠ 0 ∧ v = z ∧ p' = p ∧ q' = q) ∨ (q = 0 ∧ f s p v p' q')
def xP := beh (0 : Int) fun s p v p' q' => ∃ k, zo.f k s p = some (v, p', q')
def Zu := beh (⟨#[]⟩ : ByteArray) fun s p v p' q' => ∃ k, qU.f k s p = some (v, p', q')
def Jr := beh ([] : List Int) fun s p v p' q' => ∃ k, qZ.f k s p = some (v, p', q')
def rEv (s : ByteArray) (p q : Int) (x : S108) (p' q' : Int) : Prop := ∃ p1 q1, xP s p q x.f0 p1 q1 ∧ Jr s p1 q1 x.f1 p' q'
def rVer (s : ByteArray) (p q : Int) (x : S77) (p' q' : Int) : Prop := ∃ p1 q1, xP s p q x.f0 p1 q1 ∧ xP s p1 q1 x.f1 p' q'
def rIt (s : ByteArray) (p q : Int) (x : S86) (p' q' : Int) : Prop := ∃ p1 q1 p2 q2 p3 q3, Zu s p q x.f0 p1 q1 ∧ xP s p1 q1 x.f1.f0 p2 q2 ∧ xP s p2 q2 x.f1.f1 p3 q3 ∧ Jr s p3 q3 x.f1.f2 p' q'
def Xr {α : Type} (one : Int → Int → α → Int → Int → Prop) : List α → Int → Int → Int → Int → Int → Prop
 | [], n, p, q, p', q' => ¬ (0 < n ∧ q = 0) ∧ p' = p ∧ q' = q
 | x :: l, n, p, q, p', q' => 0 < n ∧ q = 0 ∧ ∃ p1 q1, one p q x p1 q1 ∧ Xr one l (n - 1) p1 q1 p' q'
def X6 {α : Type} (one : ByteArray → Int → Int → α → Int → Int → Prop) (s : ByteArray) (p q m : Int) (xs : List α) (p' q' : Int) : Prop := ∃ n p1 q0 q1, xP s p q n p1 q0 ∧ ((q0 ≠ 0 ∧ q1 = q0) ∨ (q0 = 0 ∧ wiB n 0 m = false ∧ q1 = 6) ∨ (q0 = 0 ∧ wiB n 0 m = true ∧ q1 = 0)) ∧ Xr (one s) xs n p1 q1 p' q'
def XQ {α : Type} (z x : α) (ok : Bool) (p q : Int) (y : α) (n e : Int) : Prop := (q ≠ 0 ∧ y = z ∧ n = 0 ∧ e = q) ∨ (q = 0 ∧ ok = false ∧ y = z ∧ n = 0 ∧ e = 6) ∨ (q = 0 ∧ ok = true ∧ y = x ∧ n = p ∧ e = 0)
def Jp {α : Type} (one : ByteArray → Int → Int → α → Int → Int → Prop) (m : Int) (ok : List α → Bool → Prop) (s : ByteArray) (at_ : Int) (ys : List α) (n e : Int) : Prop := ∃ xs p q b, X6 one s at_ 0 m xs p q ∧ ok xs b ∧ XQ [] xs b p q ys n e
def VA := Jp rIt 64 (fun l b => xR l = b)
def X7 := Jp rVer 32 (fun l b => yY l = b)
def zcN (s : ByteArray) (at_ : Int) (y : S52) (n e : Int) : Prop := ∃ (x : S52) (p1 q1 p2 q2 p3 q3 p4 q4 p5 q5 p q : Int), xP s at_ 0 x.f0 p1 q1 ∧ xP s p1 q1 x.f1 p2 q2 ∧ Zu s p2 q2 x.f2 p3 q3 ∧ xP s p3 q3 x.f3 p4 q4 ∧ Jr s p4 q4 x.f4 p5 q5 ∧ xP s p5 q5 x.f5 p q ∧ XQ z52 x (jo x.f0 x.f1 x.f2 x.f3 x.f4 x.f5) p q y n e
theorem qS {s : ByteArray} {p q p' q' : Int} {a : Int} {w : World} {g : Nat} (h : xP s p q a p' q') (hg : AtB w g 156 (rdC s p q)) : Calls Tryz.prog 152 #[.pointer (some ⟨g, 0, none⟩)] w fun e w' => e = .returned (.int .i64 a) ∧ Tn w g 156 (rdC s p' q') w' := by
 have HS := Sat.one hg
 have hc := HS.lk
 simp only [Lk, LkC, Value.cells, List.toList_toArray, Nat.reduceAdd, Nat.zero_add, and_true, zf, zg, ze, zh] at HS hc
 rcases h with ⟨c, rfl, rfl, rfl⟩ | ⟨rfl, k, h⟩
 ·have d1 := bne_iff_ne.mpr c
  go_enter Tryz.func152, Tryz.ntmps152
  go_wp2_with ((first | ((with_reducible refine gB rfl ?_); refine zz HS ?_) | ((with_reducible refine gA rfl ?_); refine zt HS ?_) | ((with_reducible refine gS rfl ?_); refine zu HS ?_)); clear HS; (try clear hc); intros; rename_i HS; have hc := HS.lk; simp only [Lk, LkC, Value.cells, List.toList_toArray, Nat.reduceAdd, Nat.zero_add, and_true, zf, zg, ze, zh] at HS hc)
  go_ret
  exact ⟨rfl, HS.fin⟩
 ·replace h := za.mk h
  go_enter Tryz.func152, Tryz.ntmps152
  go_wp2_with (first | ((first | ((with_reducible refine gB rfl ?_); refine zz HS ?_) | ((with_reducible refine gA rfl ?_); refine zt HS ?_) | ((with_reducible refine gS rfl ?_); refine zu HS ?_)); clear HS; (try clear hc); intros; rename_i HS; have hc := HS.lk; simp only [Lk, LkC, Value.cells, List.toList_toArray, Nat.reduceAdd, Nat.zero_add, and_true, zf, zg, ze, zh] at HS hc) | (refine yE (.op 0 0 12 (.op 1 0 13 (.op 2 0 14 (.op 3 0 15 (.op 4 0 16 (.op 5 0 17 (.op 6 0 18 (.op 7 0 19 (.op 8 2 20 (.op 9 1 11 (.op 10 1 21 (.op 11 1 22 (.op 12 1 23 (.op 13 1 3 (.op 14 1 4 (.op 15 1 5 .nil)))))))))))))))) [] HS (List.Sublist.refl _) ?_; clear HS hc; intro HS hS; (repeat' (first | refine RT.tk ?_ | refine RT.pu ?_ | (refine RT.o1 ?_; refine xS HS (List.Sublist.refl _) (qq (zo.calls k _ _ _ _ _ _ h.out)) ?_; clear HS; intro w_ HS; refine RT.nm ?_))); have hc := HS.lk; simp only [Lk, LkC, Value.cells, List.toList_toArray, Nat.reduceAdd, Nat.zero_add, and_true, zf, zg, ze, zh] at HS hc; refine RT.nil ?_))
  go_ret
  exact ⟨rfl, HS.fin⟩
theorem JL {s : ByteArray} {p q p' q' : Int} {a : ByteArray} {w : World} {g : Nat} (h : Zu s p q a p' q') (hg : AtB w g 156 (rdC s p q)) : Calls Tryz.prog 150 #[.pointer (some ⟨g, 0, none⟩)] w fun e w' => e = .returned (.string a) ∧ Tn w g 156 (rdC s p' q') w' := by
 have HS := Sat.one hg
 have hc := HS.lk
 simp only [Lk, LkC, Value.cells, List.toList_toArray, Nat.reduceAdd, Nat.zero_add, and_true, zf, zg, ze, zh] at HS hc
 rcases h with ⟨c, rfl, rfl, rfl⟩ | ⟨rfl, k, h⟩
 ·have d1 := bne_iff_ne.mpr c
  go_enter Tryz.func150, Tryz.ntmps150
  go_wp2_with ((first | ((with_reducible refine gB rfl ?_); refine zz HS ?_) | ((with_reducible refine gA rfl ?_); refine zt HS ?_) | ((with_reducible refine gS rfl ?_); refine zu HS ?_)); clear HS; (try clear hc); intros; rename_i HS; have hc := HS.lk; simp only [Lk, LkC, Value.cells, List.toList_toArray, Nat.reduceAdd, Nat.zero_add, and_true, zf, zg, ze, zh] at HS hc)
  go_ret
  exact ⟨rfl, HS.fin⟩
 ·replace h := za.mk h
  go_enter Tryz.func150, Tryz.ntmps150
  go_wp2_with (first | ((first | ((with_reducible refine gB rfl ?_); refine zz HS ?_) | ((with_reducible refine gA rfl ?_); refine zt HS ?_) | ((with_reducible refine gS rfl ?_); refine zu HS ?_)); clear HS; (try clear hc); intros; rename_i HS; have hc := HS.lk; simp only [Lk, LkC, Value.cells, List.toList_toArray, Nat.reduceAdd, Nat.zero_add, and_true, zf, zg, ze, zh] at HS hc) | (refine yE (.op 0 0 12 (.op 1 0 13 (.op 2 0 14 (.op 3 0 15 (.op 4 0 16 (.op 5 0 17 (.op 6 0 18 (.op 7 0 19 (.op 8 2 20 (.op 9 1 11 (.op 10 1 21 (.op 11 1 22 (.op 12 1 23 (.op 13 1 3 (.op 14 1 4 (.op 15 1 5 .nil)))))))))))))))) [] HS (List.Sublist.refl _) ?_; clear HS hc; intro HS hS; (repeat' (first | refine RT.tk ?_ | refine RT.pu ?_ | (refine RT.o1 ?_; refine xS HS (List.Sublist.refl _) (qq (qU.calls k _ _ _ _ _ _ h.out)) ?_; clear HS; intro w_ HS; refine RT.nm ?_))); have hc := HS.lk; simp only [Lk, LkC, Value.cells, List.toList_toArray, Nat.reduceAdd, Nat.zero_add, and_true, zf, zg, ze, zh] at HS hc; refine RT.nil ?_))
  go_ret
  exact ⟨rfl, HS.fin⟩
theorem J6 {s : ByteArray} {p q p' q' : Int} {a : List Int} {w : World} {g : Nat} (h : Jr s p q a p' q') (hg : AtB w g 156 (rdC s p q)) : Calls Tryz.prog 153 #[.pointer (some ⟨g, 0, none⟩)] w fun e w' => (∃ v, e = .returned v ∧ (Kd.int .i64).R 3 w' w.heap.size (fun _ => True) v a) ∧ Tn w g 156 (rdC s p' q') w' := by
 have HS := Sat.one hg
 have hc := HS.lk
 simp only [Lk, LkC, Value.cells, List.toList_toArray, Nat.reduceAdd, Nat.zero_add, and_true, zf, zg, ze, zh] at HS hc
 rcases h with ⟨c, rfl, rfl, rfl⟩ | ⟨rfl, k, h⟩
 ·have d1 := bne_iff_ne.mpr c
  go_enter Tryz.func153, Tryz.ntmps153
  go_wp2_with ((first | ((with_reducible refine gB rfl ?_); refine zz HS ?_) | ((with_reducible refine gA rfl ?_); refine zt HS ?_) | ((with_reducible refine gS rfl ?_); refine zu HS ?_)); clear HS; (try clear hc); intros; rename_i HS; have hc := HS.lk; simp only [Lk, LkC, Value.cells, List.toList_toArray, Nat.reduceAdd, Nat.zero_add, and_true, zf, zg, ze, zh] at HS hc)
  go_ret
  exact ⟨⟨_, rfl, Kd.R_nil _ _ _ _ _⟩, HS.fin⟩
 ·replace h := za.mk h
  go_enter Tryz.func153, Tryz.ntmps153
  go_wp2_with (first | ((first | ((with_reducible refine gB rfl ?_); refine zz HS ?_) | ((with_reducible refine gA rfl ?_); refine zt HS ?_) | ((with_reducible refine gS rfl ?_); refine zu HS ?_)); clear HS; (try clear hc); intros; rename_i HS; have hc := HS.lk; simp only [Lk, LkC, Value.cells, List.toList_toArray, Nat.reduceAdd, Nat.zero_add, and_true, zf, zg, ze, zh] at HS hc) | (refine yE (.op 0 0 12 (.op 1 0 13 (.op 2 0 14 (.op 3 0 15 (.op 4 0 16 (.op 5 0 17 (.op 6 0 18 (.op 7 0 19 (.op 8 2 20 (.op 9 1 11 (.op 10 1 21 (.op 11 1 22 (.op 12 1 23 (.op 13 1 3 (.op 14 1 4 (.op 15 1 5 .nil)))))))))))))))) [] HS (List.Sublist.refl _) ?_; clear HS hc; intro HS hS; (repeat' (first | refine RT.tk ?_ | refine RT.pu ?_ | (refine RT.o1 ?_; refine Xe (F := fun v => .tuple #[v, .int .i64 p', .int .i64 q']) HS (List.Sublist.refl _) (qZ.calls k _ _ _ _ _ _ h.out ) ?_; clear HS; intro A_ c_ w_ HS; refine RT.nm ?_))); have hc := HS.lk; simp only [Lk, LkC, Value.cells, List.toList_toArray, Nat.reduceAdd, Nat.zero_add, and_true, zf, zg, ze, zh] at HS hc; refine RT.nil ?_))
  go_ret
  exact ⟨⟨_, rfl, (HS.rows _ (.head _)).2⟩, HS.fin⟩
theorem ev_c {s : ByteArray} {p q p' q' : Int} {x : S108} {w : World} {g : Nat} (h : rEv s p q x p' q') (hg : AtB w g 156 (rdC s p q)) : Calls Tryz.prog 158 #[.pointer (some ⟨g, 0, none⟩)] w fun e w' => (∃ cs : List Value, e = .returned (.agg cs.toArray) ∧ k108.M w' w.heap.size (fun _ => True) x cs) ∧ Tn w g 156 (rdC s p' q') w' := by
 have HS := Sat.one hg
 obtain ⟨p1, q1, h1, h2⟩ := h
 replace h1 := za.mk h1
 replace h2 := za.mk h2
 go_enter Tryz.func158, Tryz.ntmps158
 go_wp2_with ((first | ((with_reducible refine gB rfl ?_); refine zz HS ?_) | ((with_reducible refine gA rfl ?_); refine zt HS ?_) | ((with_reducible refine gS rfl ?_); refine zu HS ?_) | (go_at_call 152; refine HS.tn0 (qS h1.out) ?_) | (go_at_call 153; refine HS.tnR (J6 h2.out) ?_)); clear HS; (try clear hc); intros; rename_i HS; have hc := HS.lk; simp only [Lk, LkC, Value.cells, List.toList_toArray, Nat.reduceAdd, Nat.zero_add, and_true, zf, zg, ze, zh] at HS hc)
 refine bodyPost_ret (yZ rfl (.cell _ _ _ _ _ rfl (HS.blk _ (.head _)).2 Tryz.underlying108 rfl (by kernel_rfl) .nil)) rfl ?_
 exact ⟨⟨_, rfl, zbR _ _ _ x (HS.rows _ (.head _)).2⟩, HS.fin⟩
theorem it_c {s : ByteArray} {p q p' q' : Int} {x : S86} {w : World} {g : Nat} (h : rIt s p q x p' q') (hg : AtB w g 156 (rdC s p q)) : Calls Tryz.prog 161 #[.pointer (some ⟨g, 0, none⟩)] w fun e w' => (∃ cs : List Value, e = .returned (.agg cs.toArray) ∧ k86.M w' w.heap.size (fun _ => True) x cs) ∧ Tn w g 156 (rdC s p' q') w' := by
 have HS := Sat.one hg
 obtain ⟨p1, q1, p2, q2, p3, q3, h1, h2, h3, h4⟩ := h
 replace h1 := za.mk h1
 replace h2 := za.mk h2
 replace h3 := za.mk h3
 replace h4 := za.mk h4
 go_enter Tryz.func161, Tryz.ntmps161
 go_wp2_with ((first | ((with_reducible refine gB rfl ?_); refine zz HS ?_) | ((with_reducible refine gA rfl ?_); refine zt HS ?_) | ((with_reducible refine gS rfl ?_); refine zu HS ?_) | (go_at_call 150; refine HS.tn0 (JL h1.out) ?_) | (go_at_call 152; refine HS.tn0 (qS h2.out) ?_) | (go_at_call 152; refine HS.tn0 (qS h3.out) ?_) | (go_at_call 153; refine HS.tnR (J6 h4.out) ?_)); clear HS; (try clear hc); intros; rename_i HS; have hc := HS.lk; simp only [Lk, LkC, Value.cells, List.toList_toArray, Nat.reduceAdd, Nat.zero_add, and_true, zf, zg, ze, zh] at HS hc)
 refine bodyPost_ret (yZ rfl (.cell _ _ _ _ _ rfl (HS.blk _ (.head _)).2 Tryz.underlying86 rfl (by kernel_rfl) .nil)) rfl ?_
 exact ⟨⟨_, rfl, zc7 _ _ _ x (HS.rows _ (.head _)).2⟩, HS.fin⟩
theorem ver_c {s : ByteArray} {p q p' q' : Int} {x : S77} {w : World} {g : Nat} (h : rVer s p q x p' q') (hg : AtB w g 156 (rdC s p q)) : Calls Tryz.prog 164 #[.pointer (some ⟨g, 0, none⟩)] w fun e w' => (∃ cs : List Value, e = .returned (.agg cs.toArray) ∧ k77.M w' w.heap.size (fun _ => True) x cs) ∧ Tn w g 156 (rdC s p' q') w' := by
 have HS := Sat.one hg
 obtain ⟨p1, q1, h1, h2⟩ := h
 replace h1 := za.mk h1
 replace h2 := za.mk h2
 go_enter Tryz.func164, Tryz.ntmps164
 go_wp2_with ((first | ((with_reducible refine gB rfl ?_); refine zz HS ?_) | ((with_reducible refine gA rfl ?_); refine zt HS ?_) | ((with_reducible refine gS rfl ?_); refine zu HS ?_) | (go_at_call 152; refine HS.tn0 (qS h1.out) ?_) | (go_at_call 152; refine HS.tn0 (qS h2.out) ?_)); clear HS; (try clear hc); intros; rename_i HS; have hc := HS.lk; simp only [Lk, LkC, Value.cells, List.toList_toArray, Nat.reduceAdd, Nat.zero_add, and_true, zf, zg, ze, zh] at HS hc)
 refine bodyPost_ret (yZ rfl (.cell _ _ _ _ _ rfl (HS.blk _ (.head _)).2 Tryz.underlying77 rfl (by kernel_rfl) .nil)) rfl ?_
 exact ⟨⟨_, rfl, zdc _ _ _ x⟩, HS.fin⟩
theorem str_c {s : ByteArray} {p q p' q' : Int} {x : ByteArray} {w : World} {g : Nat} (h : Zu s p q x p' q') (hg : AtB w g 156 (rdC s p q)) : Calls Tryz.prog 149 #[.pointer (some ⟨g, 0, none⟩)] w fun e w' => e = .returned (.string x) ∧ Tn w g 156 (rdC s p' q') w' := by
 have HS := Sat.one hg
 replace h := za.mk h
 go_enter Tryz.func149, Tryz.ntmps149
 go_wp2_with ((first | ((with_reducible refine gB rfl ?_); refine zz HS ?_) | ((with_reducible refine gA rfl ?_); refine zt HS ?_) | ((with_reducible refine gS rfl ?_); refine zu HS ?_) | (go_at_call 150; refine HS.tn0 (JL h.out) ?_)); clear HS; (try clear hc); intros; rename_i HS; have hc := HS.lk; simp only [Lk, LkC, Value.cells, List.toList_toArray, Nat.reduceAdd, Nat.zero_add, and_true, zf, zg, ze, zh] at HS hc)
 go_ret
 exact ⟨rfl, HS.fin⟩
theorem zb0 {s : ByteArray} {p q m p' q' : Int} {xs : List S108} {w : World} {g : Nat} (h : X6 rEv s p q m xs p' q') (hM : m ≤ 1024) (hg : AtB w g 156 (rdC s p q)) : Calls Tryz.prog 157 #[.pointer (some ⟨g, 0, none⟩), .int .i64 m, .func (Fn.func 158) #[] #[]] w fun e w' => (∃ v, e = .returned v ∧ k108.R 108 w' w.heap.size (fun _ => True) v xs) ∧ Tn w g 156 (rdC s p' q') w' := by
 have HS := (Sat.one hg).R (Kd.R_nil k108 108 w w.heap.size (fun _ => True)) (Nat.le_refl _)
 obtain ⟨n, p1, q0, q1, h1, h2, h3⟩ := h
 replace h1 := za.mk h1
 have HL := za.mk h3
 have HN : za (q1 = 0 → n ≤ 1024) := ⟨fun hq => by rcases h2 with ⟨c, e⟩ | ⟨_, _, e⟩ | ⟨_, c, _⟩; exact absurd (e.symm.trans hq) c; rw [e] at hq; cases hq; have := of_decide_eq_true c; omega⟩
 clear h3
 go_enter Tryz.func157, Tryz.ntmps157
 go_upto_region 2 with ((first | ((with_reducible refine gB rfl ?_); refine zz HS ?_) | ((with_reducible refine gA rfl ?_); refine zt HS ?_) | ((with_reducible refine gS rfl ?_); refine zu HS ?_) | (go_at_call 152; refine HS.tn0 (qS h1.out) ?_) | (go_at_call 170; refine HS.go (xE c.out) ?_)); clear HS; (try clear hc); intros; rename_i HS; have hc := HS.lk; simp only [Lk, LkC, Value.cells, List.toList_toArray, Nat.reduceAdd, Nat.zero_add, and_true, zf, zg, ze, zh] at HS hc)
 rcases h2 with ⟨c, rfl⟩ | ⟨rfl, c, rfl⟩ | ⟨rfl, c, rfl⟩
 case' inl => have c1 : (q1 == 0) = false := beq_eq_false_iff_ne.mpr c
 all_goals
  replace c := za.mk c
  go_wp2_with ((first | ((with_reducible refine gB rfl ?_); refine zz HS ?_) | ((with_reducible refine gA rfl ?_); refine zt HS ?_) | ((with_reducible refine gS rfl ?_); refine zu HS ?_) | (go_at_call 152; refine HS.tn0 (qS h1.out) ?_) | (go_at_call 170; refine HS.go (xE c.out) ?_)); clear HS; (try clear hc); intros; rename_i HS; have hc := HS.lk; simp only [Lk, LkC, Value.cells, List.toList_toArray, Nat.reduceAdd, Nat.zero_add, and_true, zf, zg, ze, zh] at HS hc)
  have HZ := za.mk HS
  clear HS hc
  go_loopg [8, 9] xs.length (fun kq v8 v9 wr => ∃ (ys zs : List S108) (i : Nat) (P_ Q_ : Int) (A_ : Option Addr) (c_ : Nat), v8 = .slice A_ ys.length c_ ∧ v9 = .int .i64 i ∧ i = ys.length ∧ kq = zs.length ∧ za (ys ++ zs = xs) ∧ za (Q_ = 0 → n ≤ 1024) ∧ za (Xr (rEv s) zs (n - i) P_ Q_ p' q') ∧ za (Sat [g] w wr [(g, rdC s P_ Q_, 156)] [qA k108 108 w (.slice A_ ys.length c_) ys]))
  case atStart => exact ⟨[], xs, 0, _, _, _, _, rfl, rfl, rfl, rfl, ⟨rfl⟩, ⟨fun h_ => HN.out (by first | exact h_ | trivial)⟩, ⟨by rw [show n - ((0 : Nat) : Int) = n by omega]; exact HL.out⟩, HZ⟩
  case round =>
   clear HZ HL HN
   obtain ⟨ys, zs, i, P_, Q_, A_, c_, rfl, rfl, hi, hk, HX, HN, HL, HT⟩ := hrel
   have HS := HT.out
   clear HT
   have hc := HS.lk; simp only [Lk, LkC, Value.cells, List.toList_toArray, Nat.reduceAdd, Nat.zero_add, and_true, zf, zg, ze, zh] at HS hc
   have hl := HL.out
   cases zs with
   | nil =>
    obtain ⟨hz, rfl, rfl⟩ := hl
    have hx := HX.out
    rw [List.append_nil] at hx
    subst hx
    clear HX HL
    by_cases h0 : (i : Int) < n
    case' pos => have h9 : (q' == 0) = false := beq_eq_false_iff_ne.mpr (fun h => hz ⟨by omega, h⟩)
    all_goals
     clear hz
     go_wp2
     go_ret
     exact ⟨⟨_, rfl, (HS.rows _ (.head _)).2⟩, HS.fin⟩
   | cons y zs =>
    obtain ⟨h6, rfl, p2, q2, h5, hl⟩ := hl
    replace h5 := za.mk h5
    have hn := HN.out rfl
    have h0 : (i : Int) < n := by omega
    clear HL h6
    go_wp2_with (first | (go_at_call 158; refine HS.tnM (d := k108) (F := fun cs => .agg cs.toArray) (ev_c h5.out) ?_; clear HS hc; intro cs w_ HS hm; have hm0 := hm; obtain ⟨v_, rfl, g_⟩ := VX hm; obtain ⟨A3_, c3_, rfl⟩ := Kd.R_slice g_; clear g_; clear hm; have hc := HS.lk; simp only [Lk, LkC, Value.cells, List.toList_toArray, Nat.reduceAdd, Nat.zero_add, and_true, zf, zg, ze, zh] at HS hc) | ((with_reducible refine gL rfl ?_); refine Jn (bytes := 32) HS hm0 (by omega) ?_; clear hm0; clear HS hc; intro A1_ c1_ w_ HS; have hc := HS.lk; simp only [Lk, LkC, Value.cells, List.toList_toArray, Nat.reduceAdd, Nat.zero_add, and_true, zf, zg, ze, zh] at HS hc))
    go_roundg zs.length
    case measure => rw [hk]; simp
    case rel => exact ⟨ys ++ [y], zs, i + 1, p2, q2, _, _, by simp, by have h_ : wrap64 ((i : Int) + 1) = ((i + 1 : Nat) : Int) := z4 (by omega) (by omega); first | (rw [h_]) | (simp only [h_]) | (simp [hi]) | rfl, by simp [hi], rfl, ⟨by rw [← HX.out]; simp⟩, ⟨fun _ => hn⟩, ⟨by rw [show n - ((i + 1 : Nat) : Int) = n - i - 1 by omega]; exact hl⟩, ⟨HS⟩⟩
theorem zcC {s : ByteArray} {p q m p' q' : Int} {xs : List S86} {w : World} {g : Nat} (h : X6 rIt s p q m xs p' q') (hM : m ≤ 1024) (hg : AtB w g 156 (rdC s p q)) : Calls Tryz.prog 160 #[.pointer (some ⟨g, 0, none⟩), .int .i64 m, .func (Fn.func 161) #[] #[]] w fun e w' => (∃ v, e = .returned v ∧ k86.R 86 w' w.heap.size (fun _ => True) v xs) ∧ Tn w g 156 (rdC s p' q') w' := by
 have HS := (Sat.one hg).R (Kd.R_nil k86 86 w w.heap.size (fun _ => True)) (Nat.le_refl _)
 obtain ⟨n, p1, q0, q1, h1, h2, h3⟩ := h
 replace h1 := za.mk h1
 have HL := za.mk h3
 have HN : za (q1 = 0 → n ≤ 1024) := ⟨fun hq => by rcases h2 with ⟨c, e⟩ | ⟨_, _, e⟩ | ⟨_, c, _⟩; exact absurd (e.symm.trans hq) c; rw [e] at hq; cases hq; have := of_decide_eq_true c; omega⟩
 clear h3
 go_enter Tryz.func160, Tryz.ntmps160
 go_upto_region 2 with ((first | ((with_reducible refine gB rfl ?_); refine zz HS ?_) | ((with_reducible refine gA rfl ?_); refine zt HS ?_) | ((with_reducible refine gS rfl ?_); refine zu HS ?_) | (go_at_call 152; refine HS.tn0 (qS h1.out) ?_) | (go_at_call 170; refine HS.go (xE c.out) ?_)); clear HS; (try clear hc); intros; rename_i HS; have hc := HS.lk; simp only [Lk, LkC, Value.cells, List.toList_toArray, Nat.reduceAdd, Nat.zero_add, and_true, zf, zg, ze, zh] at HS hc)
 rcases h2 with ⟨c, rfl⟩ | ⟨rfl, c, rfl⟩ | ⟨rfl, c, rfl⟩
 case' inl => have c1 : (q1 == 0) = false := beq_eq_false_iff_ne.mpr c
 all_goals
  replace c := za.mk c
  go_wp2_with ((first | ((with_reducible refine gB rfl ?_); refine zz HS ?_) | ((with_reducible refine gA rfl ?_); refine zt HS ?_) | ((with_reducible refine gS rfl ?_); refine zu HS ?_) | (go_at_call 152; refine HS.tn0 (qS h1.out) ?_) | (go_at_call 170; refine HS.go (xE c.out) ?_)); clear HS; (try clear hc); intros; rename_i HS; have hc := HS.lk; simp only [Lk, LkC, Value.cells, List.toList_toArray, Nat.reduceAdd, Nat.zero_add, and_true, zf, zg, ze, zh] at HS hc)
  have HZ := za.mk HS
  clear HS hc
  go_loopg [8, 9] xs.length (fun kq v8 v9 wr => ∃ (ys zs : List S86) (i : Nat) (P_ Q_ : Int) (A_ : Option Addr) (c_ : Nat), v8 = .slice A_ ys.length c_ ∧ v9 = .int .i64 i ∧ i = ys.length ∧ kq = zs.length ∧ za (ys ++ zs = xs) ∧ za (Q_ = 0 → n ≤ 1024) ∧ za (Xr (rIt s) zs (n - i) P_ Q_ p' q') ∧ za (Sat [g] w wr [(g, rdC s P_ Q_, 156)] [qA k86 86 w (.slice A_ ys.length c_) ys]))
  case atStart => exact ⟨[], xs, 0, _, _, _, _, rfl, rfl, rfl, rfl, ⟨rfl⟩, ⟨fun h_ => HN.out (by first | exact h_ | trivial)⟩, ⟨by rw [show n - ((0 : Nat) : Int) = n by omega]; exact HL.out⟩, HZ⟩
  case round =>
   clear HZ HL HN
   obtain ⟨ys, zs, i, P_, Q_, A_, c_, rfl, rfl, hi, hk, HX, HN, HL, HT⟩ := hrel
   have HS := HT.out
   clear HT
   have hc := HS.lk; simp only [Lk, LkC, Value.cells, List.toList_toArray, Nat.reduceAdd, Nat.zero_add, and_true, zf, zg, ze, zh] at HS hc
   have hl := HL.out
   cases zs with
   | nil =>
    obtain ⟨hz, rfl, rfl⟩ := hl
    have hx := HX.out
    rw [List.append_nil] at hx
    subst hx
    clear HX HL
    by_cases h0 : (i : Int) < n
    case' pos => have h9 : (q' == 0) = false := beq_eq_false_iff_ne.mpr (fun h => hz ⟨by omega, h⟩)
    all_goals
     clear hz
     go_wp2
     go_ret
     exact ⟨⟨_, rfl, (HS.rows _ (.head _)).2⟩, HS.fin⟩
   | cons y zs =>
    obtain ⟨h6, rfl, p2, q2, h5, hl⟩ := hl
    replace h5 := za.mk h5
    have hn := HN.out rfl
    have h0 : (i : Int) < n := by omega
    clear HL h6
    go_wp2_with (first | (go_at_call 161; refine HS.tnM (d := k86) (F := fun cs => .agg cs.toArray) (it_c h5.out) ?_; clear HS hc; intro cs w_ HS hm; have hm0 := hm; obtain ⟨v_, rfl, g_⟩ := zaN hm; obtain ⟨A3_, c3_, rfl⟩ := Kd.R_slice g_; clear g_; clear hm; have hc := HS.lk; simp only [Lk, LkC, Value.cells, List.toList_toArray, Nat.reduceAdd, Nat.zero_add, and_true, zf, zg, ze, zh] at HS hc) | ((with_reducible refine gL rfl ?_); refine Jn (bytes := 56) HS hm0 (by omega) ?_; clear hm0; clear HS hc; intro A1_ c1_ w_ HS; have hc := HS.lk; simp only [Lk, LkC, Value.cells, List.toList_toArray, Nat.reduceAdd, Nat.zero_add, and_true, zf, zg, ze, zh] at HS hc))
    go_roundg zs.length
    case measure => rw [hk]; simp
    case rel => exact ⟨ys ++ [y], zs, i + 1, p2, q2, _, _, by simp, by have h_ : wrap64 ((i : Int) + 1) = ((i + 1 : Nat) : Int) := z4 (by omega) (by omega); first | (rw [h_]) | (simp only [h_]) | (simp [hi]) | rfl, by simp [hi], rfl, ⟨by rw [← HX.out]; simp⟩, ⟨fun _ => hn⟩, ⟨by rw [show n - ((i + 1 : Nat) : Int) = n - i - 1 by omega]; exact hl⟩, ⟨HS⟩⟩
theorem zba {s : ByteArray} {p q m p' q' : Int} {xs : List S77} {w : World} {g : Nat} (h : X6 rVer s p q m xs p' q') (hM : m ≤ 1024) (hg : AtB w g 156 (rdC s p q)) : Calls Tryz.prog 163 #[.pointer (some ⟨g, 0, none⟩), .int .i64 m, .func (Fn.func 164) #[] #[]] w fun e w' => (∃ v, e = .returned v ∧ k77.R 77 w' w.heap.size (fun _ => True) v xs) ∧ Tn w g 156 (rdC s p' q') w' := by
 have HS := (Sat.one hg).R (Kd.R_nil k77 77 w w.heap.size (fun _ => True)) (Nat.le_refl _)
 obtain ⟨n, p1, q0, q1, h1, h2, h3⟩ := h
 replace h1 := za.mk h1
 have HL := za.mk h3
 have HN : za (q1 = 0 → n ≤ 1024) := ⟨fun hq => by rcases h2 with ⟨c, e⟩ | ⟨_, _, e⟩ | ⟨_, c, _⟩; exact absurd (e.symm.trans hq) c; rw [e] at hq; cases hq; have := of_decide_eq_true c; omega⟩
 clear h3
 go_enter Tryz.func163, Tryz.ntmps163
 go_upto_region 2 with ((first | ((with_reducible refine gB rfl ?_); refine zz HS ?_) | ((with_reducible refine gA rfl ?_); refine zt HS ?_) | ((with_reducible refine gS rfl ?_); refine zu HS ?_) | (go_at_call 152; refine HS.tn0 (qS h1.out) ?_) | (go_at_call 170; refine HS.go (xE c.out) ?_)); clear HS; (try clear hc); intros; rename_i HS; have hc := HS.lk; simp only [Lk, LkC, Value.cells, List.toList_toArray, Nat.reduceAdd, Nat.zero_add, and_true, zf, zg, ze, zh] at HS hc)
 rcases h2 with ⟨c, rfl⟩ | ⟨rfl, c, rfl⟩ | ⟨rfl, c, rfl⟩
 case' inl => have c1 : (q1 == 0) = false := beq_eq_false_iff_ne.mpr c
 all_goals
  replace c := za.mk c
  go_wp2_with ((first | ((with_reducible refine gB rfl ?_); refine zz HS ?_) | ((with_reducible refine gA rfl ?_); refine zt HS ?_) | ((with_reducible refine gS rfl ?_); refine zu HS ?_) | (go_at_call 152; refine HS.tn0 (qS h1.out) ?_) | (go_at_call 170; refine HS.go (xE c.out) ?_)); clear HS; (try clear hc); intros; rename_i HS; have hc := HS.lk; simp only [Lk, LkC, Value.cells, List.toList_toArray, Nat.reduceAdd, Nat.zero_add, and_true, zf, zg, ze, zh] at HS hc)
  have HZ := za.mk HS
  clear HS hc
  go_loopg [8, 9] xs.length (fun kq v8 v9 wr => ∃ (ys zs : List S77) (i : Nat) (P_ Q_ : Int) (A_ : Option Addr) (c_ : Nat), v8 = .slice A_ ys.length c_ ∧ v9 = .int .i64 i ∧ i = ys.length ∧ kq = zs.length ∧ za (ys ++ zs = xs) ∧ za (Q_ = 0 → n ≤ 1024) ∧ za (Xr (rVer s) zs (n - i) P_ Q_ p' q') ∧ za (Sat [g] w wr [(g, rdC s P_ Q_, 156)] [qA k77 77 w (.slice A_ ys.length c_) ys]))
  case atStart => exact ⟨[], xs, 0, _, _, _, _, rfl, rfl, rfl, rfl, ⟨rfl⟩, ⟨fun h_ => HN.out (by first | exact h_ | trivial)⟩, ⟨by rw [show n - ((0 : Nat) : Int) = n by omega]; exact HL.out⟩, HZ⟩
  case round =>
   clear HZ HL HN
   obtain ⟨ys, zs, i, P_, Q_, A_, c_, rfl, rfl, hi, hk, HX, HN, HL, HT⟩ := hrel
   have HS := HT.out
   clear HT
   have hc := HS.lk; simp only [Lk, LkC, Value.cells, List.toList_toArray, Nat.reduceAdd, Nat.zero_add, and_true, zf, zg, ze, zh] at HS hc
   have hl := HL.out
   cases zs with
   | nil =>
    obtain ⟨hz, rfl, rfl⟩ := hl
    have hx := HX.out
    rw [List.append_nil] at hx
    subst hx
    clear HX HL
    by_cases h0 : (i : Int) < n
    case' pos => have h9 : (q' == 0) = false := beq_eq_false_iff_ne.mpr (fun h => hz ⟨by omega, h⟩)
    all_goals
     clear hz
     go_wp2
     go_ret
     exact ⟨⟨_, rfl, (HS.rows _ (.head _)).2⟩, HS.fin⟩
   | cons y zs =>
    obtain ⟨h6, rfl, p2, q2, h5, hl⟩ := hl
    replace h5 := za.mk h5
    have hn := HN.out rfl
    have h0 : (i : Int) < n := by omega
    clear HL h6
    go_wp2_with (first | (go_at_call 164; refine HS.tnM (d := k77) (F := fun cs => .agg cs.toArray) (ver_c h5.out) ?_; clear HS hc; intro cs w_ HS hm; have hm0 := hm; obtain rfl := zbm hm; clear hm; have hc := HS.lk; simp only [Lk, LkC, Value.cells, List.toList_toArray, Nat.reduceAdd, Nat.zero_add, and_true, zf, zg, ze, zh] at HS hc) | ((with_reducible refine gL rfl ?_); refine Jn (bytes := 16) HS hm0 (by omega) ?_; clear hm0; clear HS hc; intro A1_ c1_ w_ HS; have hc := HS.lk; simp only [Lk, LkC, Value.cells, List.toList_toArray, Nat.reduceAdd, Nat.zero_add, and_true, zf, zg, ze, zh] at HS hc))
    go_roundg zs.length
    case measure => rw [hk]; simp
    case rel => exact ⟨ys ++ [y], zs, i + 1, p2, q2, _, _, by simp, by have h_ : wrap64 ((i : Int) + 1) = ((i + 1 : Nat) : Int) := z4 (by omega) (by omega); first | (rw [h_]) | (simp only [h_]) | (simp [hi]) | rfl, by simp [hi], rfl, ⟨by rw [← HX.out]; simp⟩, ⟨fun _ => hn⟩, ⟨by rw [show n - ((i + 1 : Nat) : Int) = n - i - 1 by omega]; exact hl⟩, ⟨HS⟩⟩
theorem za4 {s : ByteArray} {p q m p' q' : Int} {xs : List ByteArray} {w : World} {g : Nat} (h : X6 Zu s p q m xs p' q') (hM : m ≤ 1024) (hg : AtB w g 156 (rdC s p q)) : Calls Tryz.prog 148 #[.pointer (some ⟨g, 0, none⟩), .int .i64 m, .func (Fn.func 149) #[] #[]] w fun e w' => (∃ v, e = .returned v ∧ Kd.string.R 9 w' w.heap.size (fun _ => True) v xs) ∧ Tn w g 156 (rdC s p' q') w' := by
 have HS := (Sat.one hg).R (Kd.R_nil Kd.string 9 w w.heap.size (fun _ => True)) (Nat.le_refl _)
 obtain ⟨n, p1, q0, q1, h1, h2, h3⟩ := h
 replace h1 := za.mk h1
 have HL := za.mk h3
 have HN : za (q1 = 0 → n ≤ 1024) := ⟨fun hq => by rcases h2 with ⟨c, e⟩ | ⟨_, _, e⟩ | ⟨_, c, _⟩; exact absurd (e.symm.trans hq) c; rw [e] at hq; cases hq; have := of_decide_eq_true c; omega⟩
 clear h3
 go_enter Tryz.func148, Tryz.ntmps148
 go_upto_region 2 with ((first | ((with_reducible refine gB rfl ?_); refine zz HS ?_) | ((with_reducible refine gA rfl ?_); refine zt HS ?_) | ((with_reducible refine gS rfl ?_); refine zu HS ?_) | (go_at_call 152; refine HS.tn0 (qS h1.out) ?_) | (go_at_call 170; refine HS.go (xE c.out) ?_)); clear HS; (try clear hc); intros; rename_i HS; have hc := HS.lk; simp only [Lk, LkC, Value.cells, List.toList_toArray, Nat.reduceAdd, Nat.zero_add, and_true, zf, zg, ze, zh] at HS hc)
 rcases h2 with ⟨c, rfl⟩ | ⟨rfl, c, rfl⟩ | ⟨rfl, c, rfl⟩
 case' inl => have c1 : (q1 == 0) = false := beq_eq_false_iff_ne.mpr c
 all_goals
  replace c := za.mk c
  go_wp2_with ((first | ((with_reducible refine gB rfl ?_); refine zz HS ?_) | ((with_reducible refine gA rfl ?_); refine zt HS ?_) | ((with_reducible refine gS rfl ?_); refine zu HS ?_) | (go_at_call 152; refine HS.tn0 (qS h1.out) ?_) | (go_at_call 170; refine HS.go (xE c.out) ?_)); clear HS; (try clear hc); intros; rename_i HS; have hc := HS.lk; simp only [Lk, LkC, Value.cells, List.toList_toArray, Nat.reduceAdd, Nat.zero_add, and_true, zf, zg, ze, zh] at HS hc)
  have HZ := za.mk HS
  clear HS hc
  go_loopg [8, 9] xs.length (fun kq v8 v9 wr => ∃ (ys zs : List ByteArray) (i : Nat) (P_ Q_ : Int) (A_ : Option Addr) (c_ : Nat), v8 = .slice A_ ys.length c_ ∧ v9 = .int .i64 i ∧ i = ys.length ∧ kq = zs.length ∧ za (ys ++ zs = xs) ∧ za (Q_ = 0 → n ≤ 1024) ∧ za (Xr (Zu s) zs (n - i) P_ Q_ p' q') ∧ za (Sat [g] w wr [(g, rdC s P_ Q_, 156)] [qA Kd.string 9 w (.slice A_ ys.length c_) ys]))
  case atStart => exact ⟨[], xs, 0, _, _, _, _, rfl, rfl, rfl, rfl, ⟨rfl⟩, ⟨fun h_ => HN.out (by first | exact h_ | trivial)⟩, ⟨by rw [show n - ((0 : Nat) : Int) = n by omega]; exact HL.out⟩, HZ⟩
  case round =>
   clear HZ HL HN
   obtain ⟨ys, zs, i, P_, Q_, A_, c_, rfl, rfl, hi, hk, HX, HN, HL, HT⟩ := hrel
   have HS := HT.out
   clear HT
   have hc := HS.lk; simp only [Lk, LkC, Value.cells, List.toList_toArray, Nat.reduceAdd, Nat.zero_add, and_true, zf, zg, ze, zh] at HS hc
   have hl := HL.out
   cases zs with
   | nil =>
    obtain ⟨hz, rfl, rfl⟩ := hl
    have hx := HX.out
    rw [List.append_nil] at hx
    subst hx
    clear HX HL
    by_cases h0 : (i : Int) < n
    case' pos => have h9 : (q' == 0) = false := beq_eq_false_iff_ne.mpr (fun h => hz ⟨by omega, h⟩)
    all_goals
     clear hz
     go_wp2
     go_ret
     exact ⟨⟨_, rfl, (HS.rows _ (.head _)).2⟩, HS.fin⟩
   | cons y zs =>
    obtain ⟨h6, rfl, p2, q2, h5, hl⟩ := hl
    replace h5 := za.mk h5
    have hn := HN.out rfl
    have h0 : (i : Int) < n := by omega
    clear HL h6
    go_wp2_with (first | (go_at_call 149; refine HS.tn0 (str_c h5.out) ?_; clear HS hc; intro w_ HS; have hc := HS.lk; simp only [Lk, LkC, Value.cells, List.toList_toArray, Nat.reduceAdd, Nat.zero_add, and_true, zf, zg, ze, zh] at HS hc) | ((with_reducible refine gL rfl ?_); refine Jn (bytes := 16) HS (show Kd.string.M _ _ _ y [.string y] from rfl) (by omega) ?_; clear HS hc; intro A1_ c1_ w_ HS; have hc := HS.lk; simp only [Lk, LkC, Value.cells, List.toList_toArray, Nat.reduceAdd, Nat.zero_add, and_true, zf, zg, ze, zh] at HS hc))
    go_roundg zs.length
    case measure => rw [hk]; simp
    case rel => exact ⟨ys ++ [y], zs, i + 1, p2, q2, _, _, by simp, by have h_ : wrap64 ((i : Int) + 1) = ((i + 1 : Nat) : Int) := z4 (by omega) (by omega); first | (rw [h_]) | (simp only [h_]) | (simp [hi]) | rfl, by simp [hi], rfl, ⟨by rw [← HX.out]; simp⟩, ⟨fun _ => hn⟩, ⟨by rw [show n - ((i + 1 : Nat) : Int) = n - i - 1 by omega]; exact hl⟩, ⟨HS⟩⟩
def qW.f (k : Nat) (l0 : List ByteArray) : Option (Bool) := (yu.f k l0).bind fun bt464 => (some (bt464.2 == 0))
theorem qW.calls (k : Nat) (A0 : Option Addr) (c0 : Nat) (l0 : List ByteArray) (r : Bool) (w : World) (hr0 : Kd.C Kd.string w A0 l0.length l0) (hc0 : l0.length ≤ c0) (h : qW.f k l0 = some r) :
  Calls Tryz.prog 151 #[.slice A0 l0.length c0] w fun e w' => e = .returned (.bool r) ∧ Below w.heap.size w w' := by
 have HR0 := za.mk hr0
 have HC0 := za.mk hc0
 clear hr0 hc0
 have HB := za.mk (Below.refl w.heap.size w)
 have H : ((yu.f k l0).bind fun bt464 => (some (bt464.2 == 0))) = some r := h
 clear h
 replace H := zdK.mp H
 obtain ⟨⟨t464, t465⟩, A20, H⟩ := H
 replace H : (some (t465 == 0)) = some r := H
 have A2 := za.mk A20
 clear A20
 obtain rfl := Option.some.inj H
 go_enter Tryz.func151, Tryz.ntmps151
 go_wp2_with (first | ((with_reducible refine zr (f := 127) rfl ?_); refine zL (some 7) rfl rfl Tryz.func127 (by kernel_rfl) rfl #[.slice A0 l0.length c0] rfl (by (try simp only [zdJ, List.map_cons, List.map_nil]); first | done | rfl | (simp only [List.length_drop, List.length_take]; rfl)) ?_; (with_reducible refine (yu.calls k _ _ l0 t464 t465 _ ?side1 ?side2 A2.out).mono ?_); (case side1 => repeat (first | exact HR0.out | (with_reducible refine Kd.C_alloc ?_ _) | (with_reducible refine Kd.C_drewN ?_ _) | (with_reducible refine Kd.C_drew ?_))); (case side2 => exact HC0.out); rintro e w3 ⟨rfl, hb⟩; refine ⟨_, rfl, ?_⟩; have n0_ := za.mk (zp (by repeat (first | (with_reducible first | exact HB.out | apply zc | apply zb | apply zd) | exact HB.out)) hb); clear HB; have HB := n0_; clear n0_; (try clear hb); (try clear hb2); (try clear hk); (try clear hi)))
 go_ret
 exact ⟨by first | rfl | (simp [zl, zk] <;> rfl) | (simp [*, zl, zk] <;> rfl), by repeat (first | (with_reducible first | exact HB.out | apply zc | apply zb | apply zd) | exact HB.out)⟩
end Go.Proofs.YtepipnpfggnadaaGreat.Q
