/- Texts of this session laid together (shrink.py): what the claim's law rests on. -/
import Derived.Below
import Derived.Deep.Draws
import Derived.Deep.AppendLies
import Derived.Maps.AppendAt
import Derived.OwnWalk
import Derived.Laws.BytesArg
import Derived.Laws.MakeOwn
import Derived.Laws.OwnMore
import Derived.Deep.OwnRows
import Derived.Tactics
import Derived.Lib.ConvBytes
import Derived.Laws.Slices
import Derived.WalkKit
import Derived.KernelRfl
import Derived.RowKit3
import Derived.Deep.LoopGhost
import Derived.Deep.QuietTactic
import Derived.BigQuiet
import Derived.WideLaws
import Derived.Deep.DeepCutAuto
import Derived.Deep.CutBlock
import Derived.Deep.RegionHeld3
import Derived.Laws.Rows
import Derived.Lib.AppendStr
import Derived.ArgAppend
import Derived.Laws.IdiomCopy
import Derived.RowKit
import Derived.OrdersHeld
import Derived.Laws.BitsLemmas
import Derived.Laws.StructEq
import Derived.Test.YtbfehjncllkogaaProg
import Derived.WalkMore
import Derived.Lib.Strings
import Derived.Outline
import Derived.Test.YtbfehjncllkogaaTCodecOnceg
set_option linter.unusedVariables false
set_option linter.unusedSimpArgs false
set_option maxRecDepth 100000
set_option maxHeartbeats 8000000
namespace Go.Proofs.Ytbfehjncllkogaa.Q
open Go.RowKit Go.Proofs.YtbfehjncllkogaaW.PrintWords Go.Proofs.YtbfehjncllkogaaW.PrintLast Go.Proofs.YtbfehjncllkogaaW.PrintMore
theorem number_some (n : Int) (h0 : -9223372036854775808 ≤ n) (h1 : n ≤ 9223372036854775807) : varint_Number.f n = some (numB n) := by
 unfold varint_Number.f
 rw [if_pos ⟨h0, h1⟩]
def textP (s : ByteArray) : ByteArray × Int := if 4096 < s.size then (⟨#[]⟩, 4) else (numB (s.size : Int) ++ s, 0)
def listP {α : Type} (T : α → ByteArray × Int) : List α → ByteArray → ByteArray × Int
 | [], acc => (acc, 0)
 | x :: l, acc => if (T x).2 = 0 then listP T l (acc ++ (T x).1) else (⟨#[]⟩, (T x).2)
theorem textP_size (s : ByteArray) : (textP s).1.size ≤ 4106 := by
 unfold textP
 split
 ·exact Nat.zero_le _
 ·have := numB_size (s.size : Int)
  rw [ByteArray.size_append]
  omega
theorem text_some (s : ByteArray) (hs : s.size ≤ 140737488351232) : varint_Text.f s = some (textP s) := by
 unfold varint_Text.f textP
 by_cases h : 4096 < s.size
 ·rw [if_pos (by omega), if_pos h]
 ·have := numB_size (s.size : Int)
  rw [if_neg (by omega), if_neg h, bind_of (number_some _ (by omega) (by omega)), if_pos (by omega)]
theorem listO_some {α : Type} (T : α → Option (ByteArray × Int)) (R : α → ByteArray × Int) (M : Nat) (hM : M ≤ 100000) (l : List α) : ∀ acc : List Int, (∀ x ∈ l, T x = some (R x) ∧ (R x).1.size ≤ M) → acc.length + M * l.length ≤ 140737488355328 →
  listO T l acc = some (listP R l (strOfNums acc)) := by
 induction l with
 | nil => intro acc _ _; rfl
 | cons x l ih =>
  intro acc h hb
  obtain ⟨h1, h2⟩ := h x List.mem_cons_self
  rw [List.length_cons, Nat.mul_succ] at hb
  rw [listO, bind_of h1, listP]
  by_cases he : (R x).2 = 0
  ·rw [if_pos he, if_pos he, if_pos (by omega), ih _ (fun y hy => h y (List.mem_cons_of_mem _ hy)) (by rw [List.length_append, bytesOf_length]; omega), strOfNums_append, strOfNums_bytesOf]
  ·rw [if_neg he, if_neg he]
def numbersP (l : List Int) : ByteArray × Int := if 256 < l.length then (⟨#[]⟩, 4) else listP (fun n => (numB n, 0)) l (numB (l.length : Int))
theorem i64_of {n : Int} (h : (Lit.int .i64 n).wf = true) : -9223372036854775808 ≤ n ∧ n ≤ 9223372036854775807 := by
 have m1 : IntKind.i64.min = -9223372036854775808 := rfl
 have m2 : IntKind.i64.max = 9223372036854775807 := rfl
 simp only [Lit.wf, Bool.and_eq_true, decide_eq_true_eq] at h
 omega
theorem numbers_some (l : List Int) (h : ∀ n ∈ l, (Lit.int .i64 n).wf = true) : varint_Numbers.f l = some (numbersP l) := by
 unfold varint_Numbers.f numbersP
 by_cases hl : 256 < l.length
 ·rw [if_pos hl, if_pos hl]
 ·have := numB_size (l.length : Int)
  rw [if_neg hl, if_neg hl, bind_of (number_some _ (by omega) (by omega)), listO_some _ (fun n => (numB n, (0 : Int))) 10 (by omega) l _ (fun n hn => ?_) (by rw [bytesOf_length]; omega), strOfNums_bytesOf]
  have hb := i64_of (h n hn)
  exact ⟨by simp only [number_some n hb.1 hb.2, Option.map_some], numB_size n⟩
def scan : List Nat → Nat → Nat × Nat × Int
 | [], _ => (0, 0, 5)
 | c :: l, k => if k = 9 ∧ 1 < c then (0, 0, 6) else if 128 ≤ c then (if (scan l (k + 1)).2.2 = 0 then (c - 128 + 128 * (scan l (k + 1)).1, (scan l (k + 1)).2.1 + 1, 0) else (0, 0, (scan l (k + 1)).2.2)) else if c = 0 ∧ 0 < k then (0, 0, 6) else (c, 1, 0)
def unz (u : Nat) : Int := if u % 2 = 1 then -((u / 2 : Nat) : Int) - 1 else ((u / 2 : Nat) : Int)
def outR (a : Int) (lo k : Nat) (r : Nat × Nat × Int) : Int × Int × Int := if r.2.2 = 0 then (unz (lo + 128 ^ k * r.1), a + (k : Int) + (r.2.1 : Int), 0) else (0, 0, r.2.2)
def readN (s : ByteArray) (a : Int) : Int × Int × Int := if a < 0 ∨ (s.size : Int) < a then (0, 0, 3) else outR a 0 0 (scan ((bl s).drop a.toNat) 0)
theorem outR_more (a : Int) (lo k c : Nat) (l : List Nat) (hk : k ≠ 9) (hc : 128 ≤ c) : outR a lo k (scan (c :: l) k) = outR a (lo + (c - 128) * 128 ^ k) (k + 1) (scan l (k + 1)) := by
 rw [scan, if_neg (by omega), if_pos hc]
 generalize scan l (k + 1) = r
 unfold outR
 by_cases h : r.2.2 = 0
 ·rw [if_pos h, if_pos h, if_pos rfl]
  have e1 : lo + 128 ^ k * (c - 128 + 128 * r.1) = lo + (c - 128) * 128 ^ k + 128 ^ (k + 1) * r.1 := by
   rw [Nat.mul_add, Nat.pow_succ, Nat.mul_comm (128 ^ k) (c - 128), ← Nat.mul_assoc, Nat.add_assoc]
  have e2 : a + (k : Int) + ((r.2.1 + 1 : Nat) : Int) = a + ((k + 1 : Nat) : Int) + (r.2.1 : Int) := by omega
  show (unz (lo + 128 ^ k * (c - 128 + 128 * r.1)), a + (k : Int) + ((r.2.1 + 1 : Nat) : Int), (0 : Int)) = _
  rw [e1, e2]
 ·rw [if_neg h, if_neg h, if_neg h]
theorem pow128 (k : Nat) : 128 ^ k = 2 ^ (7 * k) := by rw [Nat.pow_mul]
theorem wraps_u64 (n : Int) (h0 : 0 ≤ n) (h1 : n < 2 ^ 64) : IntKind.u64.wrap n = n := by rw [wrap_u64]; omega
theorem or_u64 (a b : Nat) (ha : a < 18446744073709551616) (hb : b < 18446744073709551616) : Go.bits .or .u64 (a : Int) (b : Int) = ((a ||| b : Nat) : Int) :=
 (bits_nat .u64 64 (by decide) wraps_u64 a b ha hb).2
theorem and127 (c : Nat) (hc : c < 256) : Go.bits .and .u8 (c : Int) 127 = ((c % 128 : Nat) : Int) := by
 have h := bits_mask .u8 8 (by decide) wraps_u8 7 (by decide) (c : Int) (by omega) (by omega)
 have e : ((2 : Int) ^ 7 - 1) = 127 := by decide
 have e2 : ((2 : Int) ^ 7) = 128 := by decide
 rw [e, e2] at h
 rw [h]
 omega
theorem digit_more (lo c k : Nat) (hlo : lo < 128 ^ k) (hc : c < 256) (hk : k ≤ 9) (h9 : k = 9 → c % 128 ≤ 1) :
  Go.bits .or .u64 (lo : Int) (shl .u64 (IntKind.u64.wrap (Go.bits .and .u8 (c : Int) 127)) (wrap64 (7 * (k : Int)))) = ((lo + (c % 128) * 128 ^ k : Nat) : Int) := by
 have hx : c % 128 < 128 := Nat.mod_lt _ (by decide)
 have hp : 128 ^ k ≤ 128 ^ 9 := Nat.pow_le_pow_right (by decide) hk
 have e9 : (128 : Nat) ^ 9 = 9223372036854775808 := by decide
 have hb : (c % 128) * 128 ^ k < 18446744073709551616 := by
  by_cases h : k = 9
  ·subst h
   have := h9 rfl
   rw [e9]
   omega
  ·have h8 : 128 ^ k ≤ 128 ^ 8 := Nat.pow_le_pow_right (by decide) (by omega)
   have e8 : (128 : Nat) ^ 8 = 72057594037927936 := by decide
   have : (c % 128) * 128 ^ k ≤ 127 * 128 ^ 8 := Nat.mul_le_mul (by omega) h8
   rw [e8] at this
   omega
 have hl : lo < 18446744073709551616 := by omega
 have e1 : wrap64 (7 * (k : Int)) = ((7 * k : Nat) : Int) := by rw [wrap_id (by omega) (by omega)]; omega
 have e2 : shl .u64 (IntKind.u64.wrap ((c % 128 : Nat) : Int)) ((7 * k : Nat) : Int) = ((c % 128 * 128 ^ k : Nat) : Int) := by
  have w1 : IntKind.u64.wrap ((c % 128 : Nat) : Int) = ((c % 128 : Nat) : Int) := by rw [wrap_u64]; omega
  have hb64 : IntKind.u64.bits = 64 := rfl
  have m1 : min ((7 * k : Nat) : Int).toNat IntKind.u64.bits = 7 * k := by rw [hb64, Int.toNat_natCast]; omega
  have c1 : ((c % 128 : Nat) : Int) * 2 ^ (7 * k) = ((c % 128 * 128 ^ k : Nat) : Int) := by
   rw [pow128]
   simp
  rw [shl, w1, m1, c1, wrap_u64]
  omega
 rw [and127 c hc, e1, e2, or_u64 lo _ hl hb]
 have h3 : lo ||| c % 128 * 128 ^ k = lo + c % 128 * 128 ^ k := by
  have := Nat.two_pow_add_eq_or_of_lt (i := 7 * k) (b := lo) (by rw [← pow128]; exact hlo) (c % 128)
  rw [← pow128, Nat.mul_comm] at this
  rw [Nat.or_comm, ← this, Nat.add_comm]
 rw [h3]
theorem not_i64 (u : Nat) (h : u < 9223372036854775808) : Go.bits .xor .i64 (-1) (u : Int) = -(u : Int) - 1 := by
 have e : BitVec.ofInt 64 (-1) = BitVec.allOnes 64 := by decide
 have e2 : (BitVec.ofInt 64 (-1) ^^^ BitVec.ofInt 64 (u : Int)).toNat = 18446744073709551615 - u := by
  rw [e, BitVec.allOnes_xor, BitVec.toNat_not, BitVec.ofInt_natCast, BitVec.toNat_ofNat]
  omega
 show IntKind.i64.wrap ((BitVec.ofInt 64 (-1) ^^^ BitVec.ofInt 64 (u : Int)).toNat : Int) = _
 rw [e2, IntKind.wrap_i64]
 omega
theorem and1_u64 (u : Nat) (hu : u < 18446744073709551616) : Go.bits .and .u64 (u : Int) 1 = ((u % 2 : Nat) : Int) := by
 have h := bits_mask .u64 64 (by decide) wraps_u64 1 (by decide) (u : Int) (by omega) (by omega)
 simpa using h
theorem unz_odd (v : Nat) (h : v % 2 = 1) : unz v = -((v / 2 : Nat) : Int) - 1 := by rw [unz, if_pos h]
theorem unz_even (v : Nat) (h : ¬ v % 2 = 1) : unz v = ((v / 2 : Nat) : Int) := by rw [unz, if_neg h]
theorem half_cast (v : Nat) (h : v < 18446744073709551616) : wrap64 ((v : Int) / 2) = ((v / 2 : Nat) : Int) := by
 rw [wrap_id (by omega) (by omega)]
 omega
theorem vj3 (a : Int) (h0 : 0 ≤ a) (h1 : a ≤ 140737488351232) (v i : Nat) (hv : v < 18446744073709551616) (hi : i ≤ 9) (k : Nat) : varint_ReadNumber.j3 (k + 1) a (v : Int) (i : Int) false = some (unz v, a + (i : Int) + 1, 0) := by
 rw [varint_ReadNumber.j3, if_neg (by decide), and1_u64 v hv, half_cast v hv, wrap_id (i := a + (i : Int)) (by omega) (by omega), wrap_id (i := a + (i : Int) + 1) (by omega) (by omega)]
 by_cases h : v % 2 = 1
 ·rw [if_pos (by omega), not_i64 _ (by omega), unz_odd v h]
 ·rw [if_neg (by omega), unz_even v h]
theorem vj3_bad (a v i : Int) (k : Nat) : varint_ReadNumber.j3 (k + 1) a v i true = some (0, 0, 6) := by
 rw [varint_ReadNumber.j3, if_pos rfl]
theorem outR_bad (a : Int) (lo k : Nat) (e : Int) (he : e ≠ 0) (r : Nat × Nat × Int) (hr : r = (0, 0, e)) : outR a lo k r = (0, 0, e) := by
 rw [hr, outR, if_neg he]
theorem outR_last (a : Int) (lo k c : Nat) : outR a lo k (c, 1, 0) = (unz (lo + c * 128 ^ k), a + (k : Int) + 1, 0) := by
 rw [outR, if_pos rfl, Nat.mul_comm c]
 rfl
theorem low_more (lo c k : Nat) (hlo : lo < 128 ^ k) (hc : c < 128) : lo + c * 128 ^ k < 128 ^ (k + 1) := by
 have : c * 128 ^ k ≤ 127 * 128 ^ k := Nat.mul_le_mul_right _ (by omega)
 rw [Nat.pow_succ]
 omega
theorem low_top (lo c k : Nat) (hlo : lo < 128 ^ k) (hc : c < 128) (hk : k ≤ 9) (h9 : k = 9 → c ≤ 1) : lo + c * 128 ^ k < 18446744073709551616 := by
 by_cases h : k = 9
 ·subst h
  have e9 : (128 : Nat) ^ 9 = 9223372036854775808 := by decide
  have := h9 rfl
  rw [e9] at hlo ⊢
  omega
 ·have h1 := low_more lo c k hlo hc
  have h2 : 128 ^ (k + 1) ≤ 128 ^ 9 := Nat.pow_le_pow_right (by decide) (by omega)
  have e9 : (128 : Nat) ^ 9 = 9223372036854775808 := by decide
  omega
theorem vj2 (s : ByteArray) (p lo i c k : Nat) (hp : p ≤ 140737488351232) (hi : i ≤ 9) (hlo : lo < 128 ^ i) (hc : c < 256) (h9 : i = 9 → c ≤ 1) (l : List Nat)
  (go : 128 ≤ c → i ≠ 9 → varint_ReadNumber.l0 (k + 1) s (p : Int) ((lo + (c - 128) * 128 ^ i : Nat) : Int) ((i + 1 : Nat) : Int) = some (outR (p : Int) (lo + (c - 128) * 128 ^ i) (i + 1) (scan l (i + 1)))) :
  varint_ReadNumber.j2 (k + 2) s (p : Int) (lo : Int) (i : Int) (c : Int) false = some (outR (p : Int) lo i (scan (c :: l) i)) := by
 rw [varint_ReadNumber.j2, if_neg (by decide), digit_more lo c i hlo hc hi (fun h => by have := h9 h; omega), wrap_id (i := 7 * (i : Int)) (by omega) (by omega), if_pos (by omega)]
 by_cases h : 128 ≤ c
 ·have e : c % 128 = c - 128 := by omega
  have hi9 : i ≠ 9 := fun h' => by have := h9 h'; omega
  rw [if_pos (by omega), wrap_up (by omega) (by omega), e, outR_more _ _ _ _ _ hi9 h]
  have := go h hi9
  rw [← this]
  rfl
 ·have e : c % 128 = c := by omega
  rw [if_neg (by omega), e]
  have hs : scan (c :: l) i = if c = 0 ∧ 0 < i then (0, 0, 6) else (c, 1, 0) := by
   rw [scan, if_neg (fun h' => by have := h9 h'.1; omega), if_neg h]
  by_cases h0 : c = 0
  ·rw [if_pos (by omega)]
   by_cases hi0 : 0 < i
   ·have hd : decide ((i : Int) > 0) = true := decide_eq_true (by omega)
    rw [hd, vj3_bad, outR_bad _ _ _ 6 (by decide) _ (by rw [hs, if_pos ⟨h0, hi0⟩])]
   ·have hd : decide ((i : Int) > 0) = false := decide_eq_false (by omega)
    rw [hd, vj3 _ (by omega) (by omega) _ _ (low_top lo c i hlo (by omega) hi h9) hi, hs, if_neg (fun h' => hi0 h'.2), outR_last]
  ·rw [if_neg (by omega), vj3 _ (by omega) (by omega) _ _ (low_top lo c i hlo (by omega) hi h9) hi, hs, if_neg (fun h' => h0 h'.1), outR_last]
theorem vl0 (s : ByteArray) (hs : s.size ≤ 140737488351232) (p : Nat) (hp : p ≤ s.size) (e : Nat) : ∀ (i lo k : Nat), i + e = 9 → lo < 128 ^ i → 2 * e + 10 ≤ k → varint_ReadNumber.l0 k s (p : Int) (lo : Int) (i : Int) = some (outR (p : Int) lo i (scan ((bl s).drop (p + i)) i)) := by
 induction e with
 | zero =>
  intro i lo k hi hlo hk
  obtain ⟨k, rfl⟩ : ∃ k', k = k' + 3 := ⟨k - 3, by omega⟩
  have hi9 : i = 9 := by omega
  rw [varint_ReadNumber.l0, wrap_id (i := (p : Int) + (i : Int)) (by omega) (by omega)]
  by_cases h : p + i < s.size
  ·rw [if_pos (by omega), if_pos (by omega), if_pos (by omega)]
   have hb : bt s ((p : Int) + (i : Int)) = _ := bl_bt s (p + i) h
   rw [hb, bl_drop s (p + i) h]
   have hc : (bl s)[p + i]'(by rw [bl_length]; exact h) < 256 := bl_idx s _ _
   generalize (bl s)[p + i]'(by rw [bl_length]; exact h) = c at hc ⊢
   by_cases h1 : 1 < c
   ·have hd : decide ((c : Int) > 1) = true := decide_eq_true (by omega)
    rw [hd, varint_ReadNumber.j2, if_pos rfl, outR_bad _ _ _ 6 (by decide) _ (by rw [scan, if_pos ⟨hi9, h1⟩])]
   ·have hd : decide ((c : Int) > 1) = false := decide_eq_false (by omega)
    rw [hd]
    exact vj2 s p lo i c k (by omega) (by omega) hlo hc (fun _ => by omega) _ (fun h' _ => absurd h' (by omega))
  ·rw [if_neg (by omega), List.drop_eq_nil_of_le (by rw [bl_length]; omega), outR_bad _ _ _ 5 (by decide) _ (by rw [scan])]
 | succ e ih =>
  intro i lo k hi hlo hk
  obtain ⟨k, rfl⟩ : ∃ k', k = k' + 3 := ⟨k - 3, by omega⟩
  rw [varint_ReadNumber.l0, wrap_id (i := (p : Int) + (i : Int)) (by omega) (by omega)]
  by_cases h : p + i < s.size
  ·rw [if_pos (by omega), if_pos (by omega), if_neg (by omega)]
   have hb : bt s ((p : Int) + (i : Int)) = _ := bl_bt s (p + i) h
   rw [hb, bl_drop s (p + i) h]
   have hc : (bl s)[p + i]'(by rw [bl_length]; exact h) < 256 := bl_idx s _ _
   generalize (bl s)[p + i]'(by rw [bl_length]; exact h) = c at hc ⊢
   refine vj2 s p lo i c k (by omega) (by omega) hlo hc (fun h' => by omega) _ (fun h1 h2 => ?_)
   rw [ih (i + 1) _ (k + 1) (by omega) (low_more lo (c - 128) i hlo (by omega)) (by omega)]
   rfl
  ·rw [if_neg (by omega), List.drop_eq_nil_of_le (by rw [bl_length]; omega), outR_bad _ _ _ 5 (by decide) _ (by rw [scan])]
theorem read_some (s : ByteArray) (hs : s.size ≤ 140737488351232) (a : Int) (k : Nat) (hk : 40 ≤ k) : varint_ReadNumber.f k s a = some (readN s a) := by
 obtain ⟨k, rfl⟩ : ∃ k', k = k' + 1 := ⟨k - 1, by omega⟩
 unfold varint_ReadNumber.f readN
 by_cases h0 : a < 0
 ·rw [if_pos h0, if_pos (Or.inl h0), varint_ReadNumber.j0, if_pos rfl]
 ·rw [if_neg h0]
  by_cases h1 : (s.size : Int) < a
  ·have hd : decide (a > (s.size : Int)) = true := decide_eq_true h1
   rw [hd, if_pos (Or.inr h1), varint_ReadNumber.j0, if_pos rfl]
  ·have hd : decide (a > (s.size : Int)) = false := decide_eq_false h1
   have hn : ¬ (a < 0 ∨ (s.size : Int) < a) := by omega
   rw [hd, if_neg hn, varint_ReadNumber.j0, if_neg (by decide)]
   obtain ⟨p, rfl⟩ : ∃ p : Nat, a = (p : Int) := ⟨a.toNat, by omega⟩
   have := vl0 s hs p (by omega) 9 0 0 k (by omega) (by decide) (by omega)
   simpa using this
theorem scan_ok (l : List Nat) : ∀ k, (scan l k).2.2 = 0 → 1 ≤ (scan l k).2.1 ∧ (scan l k).2.1 ≤ l.length := by
 induction l with
 | nil => intro k h; rw [scan] at h; exact absurd h (by decide)
 | cons c l ih =>
  intro k
  rw [scan]
  split
  ·intro h; exact absurd h (by decide)
  ·split
   ·split
    ·rename_i h3
     intro h
     have := ih (k + 1) h3
     simp only [List.length_cons]
     omega
    ·rename_i h3
     intro h
     exact absurd h h3
   ·split
    ·intro h; exact absurd h (by decide)
    ·intro h
     simp only [List.length_cons]
     omega
theorem readN_ok (s : ByteArray) (a : Int) (h : (readN s a).2.2 = 0) : 0 ≤ a ∧ a < (readN s a).2.1 ∧ (readN s a).2.1 ≤ (s.size : Int) ∧ (scan ((bl s).drop a.toNat) 0).2.2 = 0
  ∧ readN s a = (unz (scan ((bl s).drop a.toNat) 0).1, a + ((scan ((bl s).drop a.toNat) 0).2.1 : Int), 0) := by
 unfold readN at h ⊢
 by_cases h0 : a < 0 ∨ (s.size : Int) < a
 ·rw [if_pos h0] at h; exact absurd h (by decide)
 ·rw [if_neg h0] at h ⊢
  unfold outR at h ⊢
  by_cases h1 : (scan ((bl s).drop a.toNat) 0).2.2 = 0
  ·have h2 := scan_ok _ _ h1
   rw [List.length_drop, bl_length] at h2
   rw [if_pos h1]
   refine ⟨by omega, ?_, ?_, h1, ?_⟩
   ·show a < a + ((0 : Nat) : Int) + _
    omega
   ·show a + ((0 : Nat) : Int) + _ ≤ _
    omega
   ·have e1 : 0 + 128 ^ 0 * (scan ((bl s).drop a.toNat) 0).1 = (scan ((bl s).drop a.toNat) 0).1 := by simp
    have e2 : a + ((0 : Nat) : Int) = a := by omega
    rw [e1, e2]
  ·rw [if_neg h1] at h
   exact absurd h h1
def countN (s : ByteArray) (a m : Int) : Int × Int × Int := if (readN s a).2.2 = 0 then (if (readN s a).1 < 0 then (0, 0, 6) else (if (readN s a).1 > m then (0, 0, 4) else ((readN s a).1, (readN s a).2.1, 0))) else (0, 0, (readN s a).2.2)
theorem countN_ok (s : ByteArray) (a m : Int) (hs : s.size ≤ 140737488351232) (hm : 0 ≤ m) (h : (countN s a m).2.2 = 0) : 0 ≤ (countN s a m).1 ∧ (countN s a m).1 ≤ m ∧ 0 ≤ a ∧ a < (countN s a m).2.1 ∧ (countN s a m).2.1 ≤ (s.size : Int) := by
 unfold countN at h ⊢
 by_cases h0 : (readN s a).2.2 = 0
 ·have hr := readN_ok s a h0
  rw [if_pos h0] at h ⊢
  by_cases h1 : (readN s a).1 < 0
  ·rw [if_pos h1] at h; exact absurd h (by decide)
  ·rw [if_neg h1] at h ⊢
   by_cases h2 : (readN s a).1 > m
   ·rw [if_pos h2] at h; exact absurd h (by decide)
   ·rw [if_neg h2]
    exact ⟨Int.not_lt.mp h1, Int.not_lt.mp h2, hr.1, hr.2.1, hr.2.2.1⟩
 ·rw [if_neg h0] at h
  exact absurd h h0
theorem count_some (s : ByteArray) (hs : s.size ≤ 140737488351232) (a m : Int) (k : Nat) (hk : 40 ≤ k) : varint_count.f k s a m = some (countN s a m) := by
 unfold varint_count.f countN
 rw [bind_of (read_some s hs a k hk)]
 split
 ·split
  ·rfl
  ·split <;> rfl
 ·rfl
def readT (s : ByteArray) (a : Int) : ByteArray × Int × Int := if (countN s a 4096).2.2 = 0 then (if (s.size : Int) < (countN s a 4096).2.1 + (countN s a 4096).1 then (⟨#[]⟩, 0, 5) else (s.extract (countN s a 4096).2.1.toNat ((countN s a 4096).2.1 + (countN s a 4096).1).toNat, (countN s a 4096).2.1 + (countN s a 4096).1, 0)) else (⟨#[]⟩, 0, (countN s a 4096).2.2)
theorem readtext_some (s : ByteArray) (hs : s.size ≤ 140737488351232) (a : Int) (k : Nat) (hk : 50 ≤ k) : varint_ReadText.f k s a = some (readT s a) := by
 unfold varint_ReadText.f readT
 rw [bind_of (count_some s hs a 4096 k (by omega))]
 by_cases h : (countN s a 4096).2.2 = 0
 ·obtain ⟨h1, h2, h3, h4, h5⟩ := countN_ok s a 4096 hs (by omega) h
  rw [if_pos h, if_pos h]
  generalize countN s a 4096 = c at h1 h2 h4 h5 ⊢
  rw [wrap_id (i := (s.size : Int) - c.2.1) (by omega) (by omega), wrap_id (i := c.2.1 + c.1) (by omega) (by omega)]
  by_cases h6 : (s.size : Int) < c.2.1 + c.1
  ·rw [if_pos (by omega), if_pos h6]
  ·rw [if_neg (by omega), if_neg h6, if_pos (by omega), if_pos (by omega), if_pos (by omega)]
 ·rw [if_neg h, if_neg h]
def readL {α : Type} (R : Int → α × Int × Int) : Nat → Int → List α → List α × Int × Int
 | 0, a, acc => (acc, a, 0)
 | d + 1, a, acc => if (R a).2.2 = 0 then readL R d (R a).2.1 (acc ++ [(R a).1]) else ([], 0, (R a).2.2)
def listN {α : Type} (R : Int → α × Int × Int) (s : ByteArray) (a : Int) : List α × Int × Int := if (countN s a 256).2.2 = 0 then readL R (countN s a 256).1.toNat (countN s a 256).2.1 [] else ([], 0, (countN s a 256).2.2)
theorem readL_len {α : Type} (R : Int → α × Int × Int) (d : Nat) : ∀ (a : Int) (acc : List α), (readL R d a acc).1.length ≤ acc.length + d := by
 induction d with
 | zero => intro a acc; exact Nat.le_refl _
 | succ d ih =>
  intro a acc
  rw [readL]
  split
  ·have := ih (R a).2.1 (acc ++ [(R a).1])
   rw [List.length_append, List.length_singleton] at this
   omega
  ·exact Nat.zero_le _
theorem listN_len {α : Type} (R : Int → α × Int × Int) (s : ByteArray) (hs : s.size ≤ 140737488351232) (a : Int) : (listN R s a).1.length ≤ 256 := by
 unfold listN
 split
 ·rename_i h
  obtain ⟨h1, h2, _⟩ := countN_ok s a 256 hs (by omega) h
  have := readL_len R (countN s a 256).1.toNat (countN s a 256).2.1 []
  simp only [List.length_nil] at this
  omega
 ·exact Nat.zero_le _
theorem rnums (s : ByteArray) (hs : s.size ≤ 140737488351232) (n : Nat) (hn : n ≤ 256) (d : Nat) : ∀ (k i : Nat) (a : Int) (acc : List Int), i + d = n → acc.length = i → d + 60 ≤ k → varint_read_int__by_varint_ReadNumber.l0 k s a acc (n : Int) (i : Int) = some (readL (readN s) d a acc) := by
 induction d with
 | zero =>
  intro k i a acc hi hl hk
  obtain ⟨k, rfl⟩ : ∃ k', k = k' + 1 := ⟨k - 1, by omega⟩
  rw [varint_read_int__by_varint_ReadNumber.l0, if_neg (by omega), readL]
 | succ d ih =>
  intro k i a acc hi hl hk
  obtain ⟨k, rfl⟩ : ∃ k', k = k' + 1 := ⟨k - 1, by omega⟩
  rw [varint_read_int__by_varint_ReadNumber.l0, if_pos (by omega), bind_of (read_some s hs a k (by omega)), readL]
  by_cases h : (readN s a).2.2 = 0
  ·rw [if_pos h, if_pos h, if_pos (by omega), wrap_up (by omega) (by omega)]
   exact ih k (i + 1) _ _ (by omega) (by simp [hl]) (by omega)
  ·rw [if_neg h, if_neg h]
theorem rnums_some (s : ByteArray) (hs : s.size ≤ 140737488351232) (a : Int) (k : Nat) (hk : 400 ≤ k) : varint_read_int__by_varint_ReadNumber.f k s a = some (listN (readN s) s a) := by
 unfold varint_read_int__by_varint_ReadNumber.f listN
 rw [bind_of (count_some s hs a 256 k (by omega))]
 by_cases h : (countN s a 256).2.2 = 0
 ·obtain ⟨h1, h2, h3, h4, h5⟩ := countN_ok s a 256 hs (by omega) h
  rw [if_pos h, if_pos h]
  have e : (countN s a 256).1 = (((countN s a 256).1.toNat : Nat) : Int) := by omega
  have := rnums s hs (countN s a 256).1.toNat (by omega) (countN s a 256).1.toNat k 0 (countN s a 256).2.1 [] (by omega) rfl (by omega)
  rw [← this]
  first | (rw [← e]; rfl) | rfl
 ·rw [if_neg h, if_neg h]
theorem readnums_some (s : ByteArray) (hs : s.size ≤ 140737488351232) (a : Int) (k : Nat) (hk : 400 ≤ k) : varint_ReadNumbers.f k s a = some (listN (readN s) s a) := by
 unfold varint_ReadNumbers.f
 rw [bind_of (rnums_some s hs a k hk)]
theorem zig_unz (u : Nat) : zig (unz u) = u := by
 unfold unz zig
 split <;> split <;> omega
theorem digL_scan (l : List Nat) : ∀ (f k : Nat), f + k = 10 → k ≤ 9 → (∀ c ∈ l, c < 256) → (scan l k).2.2 = 0 → digL f (scan l k).1 = l.take (scan l k).2.1 ∧ (0 < k → 0 < (scan l k).1) := by
 induction l with
 | nil => intro f k _ _ _ h; rw [scan] at h; exact absurd h (by decide)
 | cons c l ih =>
  intro f k hf hk hl
  have hc := hl c (List.mem_cons_self ..)
  obtain ⟨f, rfl⟩ : ∃ f', f = f' + 1 := ⟨f - 1, by omega⟩
  rw [scan]
  split
  ·intro h; exact absurd h (by decide)
  ·rename_i h1
   split
   ·rename_i h2
    split
    ·rename_i h3
     intro _
     have hk9 : k ≠ 9 := fun h' => h1 ⟨h', by omega⟩
     obtain ⟨i1, i2⟩ := ih f (k + 1) (by omega) (by omega) (fun x hx => hl x (List.mem_cons_of_mem _ hx)) h3
     have i3 := i2 (by omega)
     generalize scan l (k + 1) = r at i1 i3 ⊢
     show digL (f + 1) (c - 128 + 128 * r.1) = List.take (r.2.1 + 1) (c :: l) ∧ (0 < k → 0 < c - 128 + 128 * r.1)
     have e1 : (c - 128 + 128 * r.1) % 128 + 128 = c := by omega
     have e2 : (c - 128 + 128 * r.1) / 128 = r.1 := by omega
     rw [digL_more f _ (by omega), e1, e2, i1, List.take_succ_cons]
     exact ⟨rfl, fun _ => by omega⟩
    ·rename_i h3
     intro h
     exact absurd h h3
   ·rename_i h2
    split
    ·intro h; exact absurd h (by decide)
    ·rename_i h3
     intro _
     show digL (f + 1) c = List.take 1 (c :: l) ∧ (0 < k → 0 < c)
     rw [digL_last f c (by omega)]
     exact ⟨rfl, fun h => by have := fun h' => h3 ⟨h', h⟩; omega⟩
theorem digL_lt (f : Nat) : ∀ u, ∀ c ∈ digL f u, c < 256 := by
 induction f with
 | zero => intro u c h; simp [digL] at h
 | succ f ih =>
  intro u c h
  by_cases hu : u < 128
  ·rw [digL_last f u hu, List.mem_singleton] at h
   omega
  ·rw [digL_more f u (by omega), List.mem_cons] at h
   rcases h with rfl | h
   ·omega
   ·exact ih _ c h
theorem ints_nat (l : List Nat) : (ints l).map Int.toNat = l := by
 rw [ints, List.map_map]
 have : (Int.toNat ∘ fun (n : Nat) => (n : Int)) = id := by
  funext n
  rfl
 rw [this, List.map_id]
theorem bl_numB (n : Int) : bl (numB n) = digL 10 (zig n) := by
 rw [numB, bl_nums _ (fun x hx => ?_), ints_nat]
 obtain ⟨m, hm, rfl⟩ := List.mem_map.mp hx
 have := digL_lt _ _ m hm
 omega
theorem size_app (x y : ByteArray) : (x ++ y).size = x.size + y.size := ByteArray.size_append
def catP {α : Type} (T : α → ByteArray × Int) : List α → ByteArray
 | [] => ⟨#[]⟩
 | x :: l => (T x).1 ++ catP T l
theorem app_assoc (a b c : ByteArray) : a ++ b ++ c = a ++ (b ++ c) := bl_inj (by simp only [bl_append, List.append_assoc])
theorem app_nil (a : ByteArray) : a ++ (⟨#[]⟩ : ByteArray) = a := bl_inj (by rw [bl_append]; exact List.append_nil _)
theorem listP_ok {α : Type} (T : α → ByteArray × Int) (l : List α) : ∀ acc, (listP T l acc).2 = 0 → (∀ x ∈ l, (T x).2 = 0) ∧ (listP T l acc).1 = acc ++ catP T l := by
 induction l with
 | nil => intro acc _; exact ⟨fun x hx => absurd hx (List.not_mem_nil), by rw [listP, catP, app_nil]⟩
 | cons x l ih =>
  intro acc
  rw [listP]
  by_cases h : (T x).2 = 0
  ·rw [if_pos h]
   intro h2
   obtain ⟨i1, i2⟩ := ih _ h2
   refine ⟨fun y hy => ?_, by rw [i2, catP, app_assoc]⟩
   rcases List.mem_cons.mp hy with rfl | hy
   ·exact h
   ·exact i1 y hy
  ·rw [if_neg h]
   intro h2
   exact absurd h2 h
theorem listP_all {α : Type} (T : α → ByteArray × Int) (l : List α) : ∀ acc, (∀ x ∈ l, (T x).2 = 0) → listP T l acc = (acc ++ catP T l, 0) := by
 induction l with
 | nil => intro acc _; rw [listP, catP, app_nil]
 | cons x l ih =>
  intro acc h
  rw [listP, if_pos (h x (List.mem_cons_self ..)), ih _ (fun y hy => h y (List.mem_cons_of_mem _ hy)), catP, app_assoc]
theorem textP_ok (t : ByteArray) (h : (textP t).2 = 0) : t.size ≤ 4096 ∧ textP t = (numB (t.size : Int) ++ t, 0) := by
 unfold textP at h ⊢
 by_cases h0 : 4096 < t.size
 ·rw [if_pos h0] at h; exact absurd h (by decide)
 ·rw [if_neg h0]
  exact ⟨by omega, rfl⟩
theorem cut_join (s : ByteArray) (a b c : Nat) (h1 : a ≤ b) (h2 : b ≤ c) (h3 : c ≤ s.size) : s.extract a b ++ s.extract b c = s.extract a c := by
 apply bl_inj
 rw [bl_append, bl_extract, bl_extract, bl_extract]
 have hl : (bl s).length = s.size := bl_length s
 generalize bl s = l at hl ⊢
 have e1 : l.take b = (l.take c).take b := by rw [List.take_take, Nat.min_eq_left h2]
 rw [e1]
 have hm : (l.take c).length = c := by rw [List.length_take]; omega
 generalize l.take c = m at hm ⊢
 have e2 : m = m.take b ++ m.drop b := (List.take_append_drop b m).symm
 have e3 : m.drop a = (m.take b ++ m.drop b).drop a := by rw [List.take_append_drop]
 rw [e3, List.drop_append_of_le_length (by rw [List.length_take]; omega)]
def Ahead {α : Type} (s : ByteArray) (a : Int) (r : α × Int × Int) : Prop := 0 ≤ a ∧ a < r.2.1 ∧ r.2.1 ≤ (s.size : Int)
theorem readN_once (s : ByteArray) (a : Int) (h : (readN s a).2.2 = 0) : Ahead s a (readN s a) ∧ numB (readN s a).1 = s.extract a.toNat (readN s a).2.1.toNat := by
 obtain ⟨h1, h2, h3, h4, h5⟩ := readN_ok s a h
 refine ⟨⟨h1, h2, h3⟩, ?_⟩
 have hd := (digL_scan _ 10 0 (by omega) (by omega) (fun c hc => bl_lt s c (List.mem_of_mem_drop hc)) h4).1
 apply bl_inj
 rw [h5, bl_numB, bl_extract, List.drop_take]
 show digL 10 (zig (unz (scan ((bl s).drop a.toNat) 0).1)) = List.take ((a + ((scan ((bl s).drop a.toNat) 0).2.1 : Int)).toNat - a.toNat) ((bl s).drop a.toNat)
 rw [zig_unz, hd]
 congr 1
 omega
theorem countN_once (s : ByteArray) (hs : s.size ≤ 140737488351232) (a m : Int) (hm : 0 ≤ m) (h : (countN s a m).2.2 = 0) : numB (countN s a m).1 = s.extract a.toNat (countN s a m).2.1.toNat := by
 have h0 := countN_ok s a m hs hm h
 unfold countN at h ⊢
 by_cases h1 : (readN s a).2.2 = 0
 ·rw [if_pos h1] at h ⊢
  by_cases h2 : (readN s a).1 < 0
  ·rw [if_pos h2] at h; exact absurd h (by decide)
  ·rw [if_neg h2] at h ⊢
   by_cases h3 : (readN s a).1 > m
   ·rw [if_pos h3] at h; exact absurd h (by decide)
   ·rw [if_neg h3]
    exact (readN_once s a h1).2
 ·rw [if_neg h1] at h
  exact absurd h h1
theorem readT_once (s : ByteArray) (hs : s.size ≤ 140737488351232) (a : Int) (h : (readT s a).2.2 = 0) : Ahead s a (readT s a) ∧ textP (readT s a).1 = (s.extract a.toNat (readT s a).2.1.toNat, 0) := by
 unfold readT at h ⊢
 by_cases h1 : (countN s a 4096).2.2 = 0
 ·obtain ⟨c1, c2, c3, c4, c5⟩ := countN_ok s a 4096 hs (by omega) h1
  have hc := countN_once s hs a 4096 (by omega) h1
  rw [if_pos h1] at h ⊢
  generalize countN s a 4096 = c at c1 c2 c4 c5 hc h ⊢
  by_cases h2 : (s.size : Int) < c.2.1 + c.1
  ·rw [if_pos h2] at h; exact absurd h (by decide)
  ·rw [if_neg h2]
   refine ⟨⟨c3, ?_, ?_⟩, ?_⟩
   ·show a < c.2.1 + c.1
    omega
   ·show c.2.1 + c.1 ≤ _
    omega
   ·show textP (s.extract c.2.1.toNat (c.2.1 + c.1).toNat) = (s.extract a.toNat (c.2.1 + c.1).toNat, 0)
    have hz : (s.extract c.2.1.toNat (c.2.1 + c.1).toNat).size = c.1.toNat := by
     rw [← bl_length, bl_extract, List.length_drop, List.length_take, bl_length]
     omega
    have e : ((c.1.toNat : Nat) : Int) = c.1 := by omega
    rw [textP, hz, if_neg (by omega), e, hc, cut_join s _ _ _ (by omega) (by omega) (by omega)]
 ·rw [if_neg h1] at h
  exact absurd h h1
theorem readL_once {α : Type} (s : ByteArray) (hs : s.size ≤ 140737488351232) (R : Int → α × Int × Int) (T : α → ByteArray × Int) (hR : ∀ a, (R a).2.2 = 0 → Ahead s a (R a) ∧ T (R a).1 = (s.extract a.toNat (R a).2.1.toNat, 0)) (d : Nat) : ∀ (a : Int) (acc : List α), 0 ≤ a → a ≤ (s.size : Int) → (readL R d a acc).2.2 = 0 →
  a ≤ (readL R d a acc).2.1 ∧ (readL R d a acc).2.1 ≤ (s.size : Int) ∧ ∃ l, (readL R d a acc).1 = acc ++ l ∧ l.length = d ∧ (∀ x ∈ l, (T x).2 = 0) ∧ catP T l = s.extract a.toNat (readL R d a acc).2.1.toNat := by
 induction d with
 | zero =>
  intro a acc h0 h1 _
  refine ⟨Int.le_refl _, h1, [], (List.append_nil _).symm, rfl, fun x hx => absurd hx (List.not_mem_nil), ?_⟩
  apply bl_inj
  show bl ⟨#[]⟩ = bl (s.extract a.toNat a.toNat)
  rw [bl_extract, List.drop_eq_nil_of_le (by rw [List.length_take]; omega)]
  rfl
 | succ d ih =>
  intro a acc h0 h1
  rw [readL]
  by_cases h : (R a).2.2 = 0
  ·rw [if_pos h]
   intro h2
   obtain ⟨⟨r1, r2, r3⟩, r4⟩ := hR a h
   obtain ⟨i1, i2, l, i3, i4, i5, i6⟩ := ih (R a).2.1 (acc ++ [(R a).1]) (by omega) r3 h2
   generalize readL R d (R a).2.1 (acc ++ [(R a).1]) = r at i1 i2 i3 i6 ⊢
   refine ⟨by omega, i2, (R a).1 :: l, by rw [i3, List.append_assoc]; rfl, by rw [List.length_cons, i4], ?_, ?_⟩
   ·intro x hx
    rcases List.mem_cons.mp hx with rfl | hx
    ·rw [r4]
    ·exact i5 x hx
   ·rw [catP, r4, i6]
    exact cut_join s _ _ _ (by omega) (by omega) (by omega)
  ·rw [if_neg h]
   intro h2
   exact absurd h2 h
theorem listN_once {α : Type} (s : ByteArray) (hs : s.size ≤ 140737488351232) (R : Int → α × Int × Int) (T : α → ByteArray × Int) (hR : ∀ a, (R a).2.2 = 0 → Ahead s a (R a) ∧ T (R a).1 = (s.extract a.toNat (R a).2.1.toNat, 0)) (a : Int) (h : (listN R s a).2.2 = 0) :
  Ahead s a (listN R s a) ∧ (listN R s a).1.length ≤ 256 ∧ listP T (listN R s a).1 (numB ((listN R s a).1.length : Int)) = (s.extract a.toNat (listN R s a).2.1.toNat, 0) := by
 have hlen := listN_len R s hs a
 unfold listN at h hlen ⊢
 by_cases h1 : (countN s a 256).2.2 = 0
 ·obtain ⟨c1, c2, c3, c4, c5⟩ := countN_ok s a 256 hs (by omega) h1
  have hc := countN_once s hs a 256 (by omega) h1
  rw [if_pos h1] at h hlen ⊢
  generalize countN s a 256 = c at c1 c2 c4 c5 hc h hlen ⊢
  obtain ⟨i1, i2, l, i3, i4, i5, i6⟩ := readL_once s hs R T hR c.1.toNat c.2.1 [] (by omega) (by omega) h
  generalize readL R c.1.toNat c.2.1 [] = r at i1 i2 i3 i6 hlen ⊢
  have e : ((l.length : Nat) : Int) = c.1 := by rw [i4]; omega
  rw [List.nil_append] at i3
  refine ⟨⟨c3, by omega, i2⟩, hlen, ?_⟩
  rw [i3, listP_all T l _ i5, e, hc, i6, cut_join s _ _ _ (by omega) (by omega) (by omega)]
 ·rw [if_neg h1] at h
  exact absurd h h1
theorem numbers_once (s : ByteArray) (hs : s.size ≤ 140737488351232) (a : Int) (h : (listN (readN s) s a).2.2 = 0) : Ahead s a (listN (readN s) s a) ∧ numbersP (listN (readN s) s a).1 = (s.extract a.toNat (listN (readN s) s a).2.1.toNat, 0) := by
 obtain ⟨h1, h2, h3⟩ := listN_once s hs (readN s) (fun n => (numB n, 0)) (fun b hb => by have := readN_once s b hb; exact ⟨this.1, by rw [this.2]⟩) a h
 refine ⟨h1, ?_⟩
 rw [numbersP, if_neg (by omega), h3]
theorem wf_i64 (n : Int) (h0 : -9223372036854775808 ≤ n) (h1 : n ≤ 9223372036854775807) : (Lit.int .i64 n).wf = true := by
 have m1 : IntKind.i64.min = -9223372036854775808 := rfl
 have m2 : IntKind.i64.max = 9223372036854775807 := rfl
 simp only [Lit.wf, Bool.and_eq_true, decide_eq_true_eq]
 omega
theorem catP_size {α : Type} (T : α → ByteArray × Int) (M : Nat) (l : List α) : (∀ x ∈ l, (T x).1.size ≤ M) → (catP T l).size ≤ M * l.length := by
 induction l with
 | nil => intro _; exact Nat.zero_le _
 | cons x l ih =>
  intro h
  have h1 := h x (List.mem_cons_self ..)
  have h2 := ih (fun y hy => h y (List.mem_cons_of_mem _ hy))
  rw [catP, size_app, List.length_cons, Nat.mul_succ]
  omega
theorem numbersP_size (l : List Int) : (numbersP l).2 = 0 → (numbersP l).1.size ≤ 10000000 := by
 unfold numbersP
 by_cases hl : 256 < l.length
 ·rw [if_pos hl]; intro h; exact absurd h (by decide)
 ·rw [if_neg hl]
  intro h
  rw [(listP_ok _ l _ h).2, size_app]
  have h1 := numB_size (l.length : Int)
  have h2 := catP_size (fun n => (numB n, (0 : Int))) 10 l (fun x _ => numB_size x)
  omega
theorem getD_at8 (l : List Nat) (i : Nat) (h : i < l.length) : l.getD i 0 = l[i] := by simp [List.getD, h]
theorem bt_getD8 (s : ByteArray) (i : Nat) (h : i < s.size) : bt s (i : Int) = (((bl s).getD i 0 : Nat) : Int) := by
 rw [bl_bt s i h, getD_at8 _ _ (by rw [bl_length]; exact h)]
def cuts (s : ByteArray) : Nat → Nat → List ByteArray
 | 0, a => [s.extract a s.size]
 | d + 1, a => if (bl s).getD (s.size - (d + 1)) 0 = 47 then s.extract a (s.size - (d + 1)) :: cuts s d (s.size - d) else cuts s d a
def partsP (s : ByteArray) : List ByteArray := cuts s s.size 0
theorem cuts_len (s : ByteArray) (d : Nat) : ∀ a, 1 ≤ (cuts s d a).length ∧ (cuts s d a).length ≤ d + 1 := by
 induction d with
 | zero => intro a; exact ⟨Nat.le_refl _, Nat.le_refl _⟩
 | succ d ih =>
  intro a
  rw [cuts]
  split
  ·have := ih (s.size - d)
   rw [List.length_cons]
   omega
  ·have := ih a
   omega
theorem parts_len (s : ByteArray) : 1 ≤ (partsP s).length ∧ (partsP s).length ≤ s.size + 1 := cuts_len s s.size 0
theorem parts_l0 (s : ByteArray) (hs : s.size ≤ 8796093022000) (d : Nat) : ∀ (k i a : Nat) (acc : List ByteArray), i + d = s.size → a ≤ i → acc.length ≤ i → d + 1 ≤ k → pattern_parts.l0 k s acc (a : Int) (s.size : Int) (i : Int) = some (acc ++ cuts s d a) := by
 induction d with
 | zero =>
  intro k i a acc hi ha hl hk
  obtain ⟨k, rfl⟩ : ∃ k', k = k' + 1 := ⟨k - 1, by omega⟩
  rw [pattern_parts.l0, if_neg (by omega), if_pos (by omega), if_pos (by omega), if_pos (by omega), cuts, Int.toNat_natCast]
 | succ d ih =>
  intro k i a acc hi ha hl hk
  obtain ⟨k, rfl⟩ : ∃ k', k = k' + 1 := ⟨k - 1, by omega⟩
  have e : s.size - (d + 1) = i := by omega
  have e2 : s.size - d = i + 1 := by omega
  rw [pattern_parts.l0, if_pos (by omega), if_pos (by omega), if_pos (by omega), bt_getD8 s i (by omega), cuts, e, e2]
  by_cases h : (bl s).getD i 0 = 47
  ·rw [if_pos (by omega), if_pos (by omega), if_pos (by omega), if_pos (by omega), if_pos (by omega), if_pos h, wrap_up (by omega) (by omega), Int.toNat_natCast, Int.toNat_natCast]
   have := ih k (i + 1) (i + 1) (acc ++ [s.extract a i]) (by omega) (Nat.le_refl _) (by simp; omega) (by omega)
   rw [List.append_assoc] at this
   exact this
  ·rw [if_neg (by omega), if_neg h, wrap_up (by omega) (by omega)]
   exact ih k (i + 1) a acc (by omega) (by omega) (by omega) (by omega)
theorem parts_some (s : ByteArray) (hs : s.size ≤ 8796093022000) (k : Nat) (hk : s.size + 1 ≤ k) : pattern_parts.f k s = some (partsP s) := by
 have := parts_l0 s hs s.size k 0 0 [] (by omega) (Nat.le_refl _) (Nat.le_refl _) hk
 rw [List.nil_append] at this
 exact this
def okB (c : Nat) : Bool := decide (97 ≤ c ∧ c ≤ 122 ∨ 48 ≤ c ∧ c ≤ 57 ∨ c = 45 ∨ c = 95)
def allOk (l : List Nat) : Bool := l.all okB
def plainB (s : ByteArray) : Bool := decide (0 < s.size) && allOk (bl s)
theorem plain_l0 (s : ByteArray) (hs : s.size ≤ 8796093022000) (d : Nat) : ∀ (k i : Nat), i + d = s.size → 3 * d + 3 ≤ k → pattern_plain.l0 k s (s.size : Int) (i : Int) = some (allOk ((bl s).drop i)) := by
 induction d with
 | zero =>
  intro k i hi hk
  obtain ⟨k, rfl⟩ : ∃ k', k = k' + 1 := ⟨k - 1, by omega⟩
  rw [pattern_plain.l0, if_neg (by omega), List.drop_eq_nil_of_le (by rw [bl_length]; omega)]
  rfl
 | succ d ih =>
  intro k i hi hk
  obtain ⟨k, rfl⟩ : ∃ k', k = k' + 3 := ⟨k - 3, by omega⟩
  have hb := bl_bt s i (by omega)
  have hi1 := ih (k + 1) (i + 1) (by omega) (by omega)
  have hi2 := ih k (i + 1) (by omega) (by omega)
  rw [pattern_plain.l0, if_pos (by omega), if_pos (by omega), if_pos (by omega), hb, bl_drop s i (by omega)]
  generalize (bl s)[i]'(by rw [bl_length]; omega) = c
  have ha : allOk (c :: (bl s).drop (i + 1)) = (okB c && allOk ((bl s).drop (i + 1))) := rfl
  have hok : okB c = decide (97 ≤ c ∧ c ≤ 122 ∨ 48 ≤ c ∧ c ≤ 57 ∨ c = 45 ∨ c = 95) := rfl
  have hj2 : ∀ b : Bool, pattern_plain.j2 (k + 1) s (c : Int) (s.size : Int) (i : Int) b = some ((b || decide (c = 45 ∨ c = 95)) && allOk ((bl s).drop (i + 1))) := by
   intro b
   rw [pattern_plain.j2, wrap_up (by omega) (by omega)]
   cases b with
   | true => rw [if_pos rfl]; exact hi2
   | false =>
    rw [if_neg (by decide)]
    by_cases h1 : c = 45
    ·rw [if_pos (by omega), decide_eq_true (by omega : c = 45 ∨ c = 95)]; exact hi2
    ·rw [if_neg (by omega)]
     by_cases h2 : c = 95
     ·rw [if_pos (by omega), decide_eq_true (by omega : c = 45 ∨ c = 95)]; exact hi2
     ·rw [if_neg (by omega), decide_eq_false (by omega : ¬ (c = 45 ∨ c = 95))]; rfl
  have hj1 : ∀ b : Bool, pattern_plain.j1 (k + 2) s (c : Int) (s.size : Int) (i : Int) b = some ((b || (decide (48 ≤ c ∧ c ≤ 57) || decide (c = 45 ∨ c = 95))) && allOk ((bl s).drop (i + 1))) := by
   intro b
   rw [pattern_plain.j1, wrap_up (by omega) (by omega)]
   cases b with
   | true => rw [if_pos rfl]; exact hi1
   | false =>
    rw [if_neg (by decide)]
    by_cases h1 : 48 ≤ c
    ·rw [if_pos (by omega), hj2]
     by_cases h2 : c ≤ 57
     ·rw [decide_eq_true (by omega : (c : Int) ≤ 57), decide_eq_true (by omega : 48 ≤ c ∧ c ≤ 57)]; rfl
     ·rw [decide_eq_false (by omega : ¬ (c : Int) ≤ 57), decide_eq_false (by omega : ¬ (48 ≤ c ∧ c ≤ 57))]; rfl
    ·rw [if_neg (by omega), hj2, decide_eq_false (by omega : ¬ (48 ≤ c ∧ c ≤ 57))]; rfl
  rw [ha, hok]
  by_cases h1 : 97 ≤ c
  ·rw [if_pos (by omega), hj1]
   by_cases h2 : c ≤ 122
   ·rw [decide_eq_true (by omega : (c : Int) ≤ 122), decide_eq_true (by omega : 97 ≤ c ∧ c ≤ 122 ∨ 48 ≤ c ∧ c ≤ 57 ∨ c = 45 ∨ c = 95)]; rfl
   ·rw [decide_eq_false (by omega : ¬ (c : Int) ≤ 122), decide_eq_false (by omega : ¬ (97 ≤ c ∧ c ≤ 122 ∨ 48 ≤ c ∧ c ≤ 57 ∨ c = 45 ∨ c = 95)), decide_eq_false (by omega : ¬ (48 ≤ c ∧ c ≤ 57)), decide_eq_false (by omega : ¬ (c = 45 ∨ c = 95))]; rfl
  ·rw [if_neg (by omega), hj1]
   have e : (false || (decide (48 ≤ c ∧ c ≤ 57) || decide (c = 45 ∨ c = 95))) = decide (97 ≤ c ∧ c ≤ 122 ∨ 48 ≤ c ∧ c ≤ 57 ∨ c = 45 ∨ c = 95) := by
    rw [Bool.false_or, ← Bool.decide_or]
    exact decide_eq_decide.mpr (by omega)
   rw [e]
theorem toList_nil (s : ByteArray) : s.toList = ([] : List UInt8) ↔ s.size = 0 := by
 have e : ([] : List UInt8) = (⟨#[]⟩ : ByteArray).toList := by rw [ByteArray.toList, ByteArray.toList.loop]; rfl
 rw [e, toList_iff]
 constructor
 ·rintro rfl; rfl
 ·intro h
  apply bl_inj
  have : (bl s).length = 0 := by rw [bl_length]; exact h
  rw [List.length_eq_zero_iff.mp this]
  rfl
theorem plain_some (s : ByteArray) (hs : s.size ≤ 8796093022000) (k : Nat) (hk : 3 * s.size + 3 ≤ k) : pattern_plain.f k s = some (plainB s) := by
 unfold pattern_plain.f plainB
 by_cases h : s.size = 0
 ·rw [if_pos ((toList_nil s).mpr h), decide_eq_false (by omega)]; rfl
 ·rw [if_neg (fun h' => h ((toList_nil s).mp h')), decide_eq_true (by omega)]
  have := plain_l0 s hs s.size k 0 (by omega) hk
  rw [List.drop_zero] at this
  rw [Bool.true_and]
  exact this
theorem rd_at8 (l : List ByteArray) (i : Nat) (h : i < l.length) : rdOf ByteArray.empty l (i : Int) = l[i] := by
 simp [rdOf, h]
theorem cuts_size (s : ByteArray) (d : Nat) : ∀ a, ∀ x ∈ cuts s d a, x.size ≤ s.size := by
 have hz : ∀ a b, (s.extract a b).size ≤ s.size := fun a b => by
  rw [← bl_length, bl_extract, List.length_drop, List.length_take, bl_length]
  omega
 induction d with
 | zero => intro a x hx; rw [cuts, List.mem_singleton] at hx; rw [hx]; exact hz _ _
 | succ d ih =>
  intro a x
  rw [cuts]
  split
  ·intro hx
   rcases List.mem_cons.mp hx with rfl | hx
   ·exact hz _ _
   ·exact ih _ x hx
  ·exact ih _ x
theorem parts_size (s : ByteArray) : ∀ x ∈ partsP s, x.size ≤ s.size := cuts_size s s.size 0
def streamL (l : List ByteArray) : Bool := l.all plainB && decide (l.length ≤ 4)
def streamB (s : ByteArray) : Bool := decide (s.size ≤ 32) && streamL (partsP s)
theorem all_stream_l0 (l : List ByteArray) (hl : l.length ≤ 1000000) (M : Nat) (hM : M ≤ 1000) (hz : ∀ x ∈ l, x.size ≤ M) (d : Nat) : ∀ (k i : Nat), i + d = l.length → d + 3 * M + 5 ≤ k → pattern_all_by_pattern_Stream_1.l0 k l l (l.length : Int) (i : Int) = some ((l.drop i).all plainB && decide (l.length ≤ 4)) := by
 induction d with
 | zero =>
  intro k i hi hk
  obtain ⟨k, rfl⟩ : ∃ k', k = k' + 1 := ⟨k - 1, by omega⟩
  have e : decide ((l.length : Int) ≤ 4) = decide (l.length ≤ 4) := decide_eq_decide.mpr (by omega)
  rw [pattern_all_by_pattern_Stream_1.l0, if_neg (by omega), List.drop_eq_nil_of_le (by omega), e]
  rfl
 | succ d ih =>
  intro k i hi hk
  obtain ⟨k, rfl⟩ : ∃ k', k = k' + 1 := ⟨k - 1, by omega⟩
  have hx : l[i].size ≤ M := hz _ (List.getElem_mem _)
  have hp : pattern_Stream_1.f k (i : Int) (l.length : Int) l[i] = some (plainB l[i]) := by
   unfold pattern_Stream_1.f
   rw [bind_of (plain_some l[i] (by omega) k (by omega))]
  rw [pattern_all_by_pattern_Stream_1.l0, if_pos (by omega), if_pos (by omega), if_pos (by omega), rd_at8 l i (by omega), bind_of hp, List.drop_eq_getElem_cons (by omega), List.all_cons, wrap_up (by omega) (by omega)]
  cases plainB l[i] with
  | true => rw [if_pos rfl, Bool.true_and]; exact ih k (i + 1) (by omega) (by omega)
  | false => rw [if_neg (by decide), Bool.false_and, Bool.false_and]
theorem stream_some (s : ByteArray) (k : Nat) (hk : 300 ≤ k) : pattern_Stream.f k s = some (streamB s) := by
 have h : pattern_all_by_pattern_Stream_1.f k s = some (streamB s) := by
  unfold pattern_all_by_pattern_Stream_1.f streamB streamL
  by_cases h : s.size ≤ 32
  ·have := parts_len s
   rw [if_neg (by omega), bind_of (parts_some s (by omega) k (by omega)), decide_eq_true h, Bool.true_and]
   exact all_stream_l0 (partsP s) (by omega) 32 (by omega) (fun x hx => Nat.le_trans (parts_size s x hx) h) (partsP s).length k 0 (by omega) (by omega)
  ·rw [if_pos (by omega), decide_eq_false h, Bool.false_and]
 unfold pattern_Stream.f
 rw [bind_of h]
instance : DecidableEq ByteArray := fun a b => decidable_of_iff (a.toList = b.toList) toList_iff
def lessN : List Nat → List Nat → Bool
 | [], [] => false
 | [], _ :: _ => true
 | _ :: _, [] => false
 | a :: x, b :: y => if a = b then lessN x y else decide (a < b)
theorem lessN_bytes : ∀ x y : List UInt8, lessN (x.map (·.toNat)) (y.map (·.toNat)) = Op.bytesLess x y
 | [], [] => rfl
 | [], _ :: _ => rfl
 | _ :: _, [] => rfl
 | a :: x, b :: y => by
  have ih := lessN_bytes x y
  rw [List.map_cons, List.map_cons, lessN, Op.bytesLess, ih]
  by_cases h : a = b
  ·subst h
   have h1 : decide (a < a) = false := decide_eq_false (by simp)
   have h3 : (a == a) = true := by simp
   rw [if_pos rfl, h1, h3, Bool.false_or, Bool.true_and]
  ·have h3 : (a == b) = false := by simp [h]
   have hab : ¬ a.toNat = b.toNat := fun h' => h (UInt8.toNat_inj.mp h')
   rw [if_neg hab, h3, Bool.false_and, Bool.or_false]
   exact decide_eq_decide.mpr UInt8.lt_iff_toNat_lt.symm
theorem bytesLess_bl (s t : ByteArray) : Op.bytesLess s.toList t.toList = lessN (bl s) (bl t) := by
 rw [Go.Lib.toList_data, Go.Lib.toList_data, ← lessN_bytes]
 rfl
def wiB (n a b : Int) : Bool := decide (a ≤ n ∧ n ≤ b)
theorem within_some (n a b : Int) : codec_within.f n a b = some (wiB n a b) := by
 unfold codec_within.f wiB
 by_cases h : n ≥ a
 ·rw [if_pos h]
  exact congrArg some (decide_eq_decide.mpr ⟨fun h2 => ⟨h, h2⟩, fun h2 => h2.2⟩)
 ·rw [if_neg h, decide_eq_false (fun h2 => h h2.1)]
def vB (n : Int) : Bool := wiB n (-1099511627776) 1099511627776
theorem prevdown {i : Nat} (h : 0 < i) (hi : i < 9223372036854775807) : wrap64 ((i : Int) - 1) = ((i - 1 : Nat) : Int) := by
 rw [wrap_id (by omega) (by omega)]
 omega
def chainB {α : Type} (P : α → Bool) (R : α → α → Bool) : Option α → List α → Bool
 | _, [] => true
 | none, x :: l => P x && chainB P R (some x) l
 | some p, x :: l => P x && (R p x && chainB P R (some x) l)
def prevO {α : Type} (l : List α) (i : Nat) : Option α := if i = 0 then none else l[i - 1]?
theorem prevO_next {α : Type} (l : List α) (i : Nat) (h : i < l.length) : prevO l (i + 1) = some l[i] := by
 unfold prevO
 rw [if_neg (by omega), Nat.add_sub_cancel]
 exact List.getElem?_eq_getElem h
theorem prevO_some {α : Type} (l : List α) (i : Nat) (h : 0 < i) (h2 : i < l.length) : prevO l i = some (l[i - 1]'(by omega)) := by
 unfold prevO
 rw [if_neg (by omega)]
 exact List.getElem?_eq_getElem _
theorem prevO_zero {α : Type} (l : List α) : prevO l 0 = none := if_pos rfl
theorem rdE_at (l : List S81) (i : Nat) (h : i < l.length) : rd_T81 l (i : Int) = l[i] := by simp [rd_T81, h]
theorem rdI_at (l : List S93) (i : Nat) (h : i < l.length) : rd_T93 l (i : Int) = l[i] := by simp [rd_T93, h]
theorem rdV_at (l : List S97) (i : Nat) (h : i < l.length) : rd_T97 l (i : Int) = l[i] := by simp [rd_T97, h]
theorem values_l0 (l : List Int) (hl : l.length < 9223372036854775807) (m : Int) (d : Nat) : ∀ (k i : Nat), i + d = l.length → d + 1 ≤ k → codec_values.l0 k l m l (l.length : Int) (i : Int) = some ((l.drop i).all vB && decide ((l.length : Int) ≤ m)) := by
 induction d with
 | zero =>
  intro k i hi hk
  obtain ⟨k, rfl⟩ : ∃ k', k = k' + 1 := ⟨k - 1, by omega⟩
  rw [codec_values.l0, if_neg (by omega), List.drop_eq_nil_of_le (by omega)]
  rfl
 | succ d ih =>
  intro k i hi hk
  obtain ⟨k, rfl⟩ : ∃ k', k = k' + 1 := ⟨k - 1, by omega⟩
  have hs := ih k (i + 1) (by omega) (by omega)
  rw [codec_values.l0, if_pos (by omega), if_pos (by omega), if_pos (by omega), rd_at l i (by omega), bind_of (within_some _ _ _), (List.drop_eq_getElem_cons (by omega) : l.drop i = l[i] :: l.drop (i + 1)), List.all_cons, wrap_up (by omega) (by omega)]
  show (if vB l[i] = true then _ else _) = _
  cases hb : vB l[i] with
  | true => rw [if_pos rfl, Bool.true_and]; exact hs
  | false => rw [if_neg (by decide), Bool.false_and, Bool.false_and]
def valB (l : List Int) (m : Int) : Bool := l.all vB && decide ((l.length : Int) ≤ m)
theorem values_some (l : List Int) (hl : l.length < 9223372036854775807) (m : Int) (k : Nat) (hk : l.length + 1 ≤ k) : codec_values.f k l m = some (valB l m) := by
 unfold codec_values.f valB
 exact values_l0 l hl m l.length k 0 (by omega) hk
def headB (c s : Int) (st : ByteArray) : Bool := wiB c 0 5 && (wiB s 1 1099511627776 && streamB st)
theorem head_some (c s : Int) (st : ByteArray) (k : Nat) (hk : 300 ≤ k) : codec_head.f k c s st = some (headB c s st) := by
 unfold codec_head.f headB
 rw [bind_of (within_some _ _ _)]
 cases wiB c 0 5 with
 | false => rfl
 | true =>
  rw [if_pos rfl, bind_of (within_some _ _ _), Bool.true_and]
  cases wiB s 1 1099511627776 with
  | false => rfl
  | true => rw [if_pos rfl, bind_of (stream_some st k hk), Bool.true_and]
def cmdB (c s : Int) (st : ByteArray) (r : Int) (l : List Int) (x : Int) : Bool := headB c s st && (wiB r 0 11 && (valB l 4 && wiB x (-1) 1099511627776))
theorem cmd_some (c s : Int) (st : ByteArray) (r : Int) (l : List Int) (x : Int) (hl : l.length < 9223372036854775807) (k : Nat) (hk : l.length + 300 ≤ k) : codec_cmd.f k c s st r l x = some (cmdB c s st r l x) := by
 unfold codec_cmd.f cmdB
 rw [bind_of (head_some c s st k (by omega))]
 cases headB c s st with
 | false => rfl
 | true =>
  rw [if_pos rfl, bind_of (within_some _ _ _), Bool.true_and]
  cases wiB r 0 11 with
  | false => rfl
  | true =>
   rw [if_pos rfl, bind_of (values_some l hl 4 k (by omega)), Bool.true_and]
   cases valB l 4 with
   | false => rfl
   | true => rw [if_pos rfl, bind_of (within_some _ _ _), Bool.true_and]
def evB (e : S81) : Bool := wiB e.f0 0 7 && valB e.f1 6
theorem event_some (a : Int) (l : List Int) (hl : l.length < 9223372036854775807) (k : Nat) (hk : l.length + 1 ≤ k) : codec_event.f k a l = some (wiB a 0 7 && valB l 6) := by
 unfold codec_event.f
 rw [bind_of (within_some _ _ _)]
 cases wiB a 0 7 with
 | false => rfl
 | true => rw [if_pos rfl, bind_of (values_some l hl 6 k hk), Bool.true_and]
theorem events_l0 (l : List S81) (hl : l.length < 9223372036854775807) (M : Nat) (hz : ∀ x ∈ l, x.f1.length + 1 ≤ M ∧ x.f1.length < 9223372036854775807) (d : Nat) : ∀ (k i : Nat), i + d = l.length → d + M + 1 ≤ k → codec_events.l0 k l l (l.length : Int) (i : Int) = some ((l.drop i).all evB && decide ((l.length : Int) ≤ 3)) := by
 induction d with
 | zero =>
  intro k i hi hk
  obtain ⟨k, rfl⟩ : ∃ k', k = k' + 1 := ⟨k - 1, by omega⟩
  rw [codec_events.l0, if_neg (by omega), List.drop_eq_nil_of_le (by omega)]
  rfl
 | succ d ih =>
  intro k i hi hk
  obtain ⟨k, rfl⟩ : ∃ k', k = k' + 1 := ⟨k - 1, by omega⟩
  have hs := ih k (i + 1) (by omega) (by omega)
  rw [codec_events.l0, if_pos (by omega), if_pos (by omega), if_pos (by omega), rdE_at l i (by omega), bind_of (event_some _ _ (hz _ (List.getElem_mem _)).2 k (by have := (hz _ (List.getElem_mem (h := by omega) : l[i] ∈ l)).1; omega)), (List.drop_eq_getElem_cons (by omega) : l.drop i = l[i] :: l.drop (i + 1)), List.all_cons, wrap_up (by omega) (by omega)]
  show (if evB l[i] = true then _ else _) = _
  cases hb : evB l[i] with
  | true => rw [if_pos rfl, Bool.true_and]; exact hs
  | false => rw [if_neg (by decide), Bool.false_and, Bool.false_and]
def evsB (l : List S81) : Bool := l.all evB && decide ((l.length : Int) ≤ 3)
theorem events_some (l : List S81) (hl : l.length < 9223372036854775807) (M : Nat) (hz : ∀ x ∈ l, x.f1.length + 1 ≤ M ∧ x.f1.length < 9223372036854775807) (k : Nat) (hk : l.length + (M + 1) ≤ k) : codec_events.f k l = some (evsB l) := by
 unfold codec_events.f evsB
 exact events_l0 l hl M hz l.length k 0 (by omega) hk
def recB (c s : Int) (st : ByteArray) (r : Int) (l : List S81) : Bool := headB c s st && (wiB r 0 63 && (evsB l && (decide (r = 0) || decide (l.length = 0))))
theorem record_some (c s : Int) (st : ByteArray) (r : Int) (l : List S81) (hl : l.length < 9223372036854775807) (M : Nat) (hz : ∀ x ∈ l, x.f1.length + 1 ≤ M ∧ x.f1.length < 9223372036854775807) (k : Nat) (hk : l.length + M + 300 ≤ k) : codec_record.f k c s st r l = some (recB c s st r l) := by
 unfold codec_record.f recB
 rw [bind_of (head_some c s st k (by omega))]
 cases headB c s st with
 | false => rfl
 | true =>
  rw [if_pos rfl, bind_of (within_some _ _ _), Bool.true_and]
  cases wiB r 0 63 with
  | false => rfl
  | true =>
   rw [if_pos rfl, bind_of (events_some l hl M hz k (by omega)), Bool.true_and]
   cases evsB l with
   | false => rfl
   | true =>
    rw [if_pos rfl, Bool.true_and]
    by_cases h : r = 0
    ·rw [if_pos h, decide_eq_true h, Bool.true_or]
    ·rw [if_neg h, decide_eq_false h, Bool.false_or]
     have e : ((l.length : Int) == 0) = decide (l.length = 0) := by
      rw [Bool.eq_iff_iff, beq_iff_eq, decide_eq_true_eq]
      omega
     rw [e]
def staB (s : S91) : Bool := wiB s.f0 0 7 && (valB s.f2 6 && wiB s.f1 0 1099511627776)
theorem state_some (a v : Int) (l : List Int) (hl : l.length < 9223372036854775807) (k : Nat) (hk : l.length + 1 ≤ k) : codec_state.f k a v l = some (wiB a 0 7 && (valB l 6 && wiB v 0 1099511627776)) := by
 unfold codec_state.f
 rw [bind_of (event_some a l hl k hk)]
 cases wiB a 0 7 with
 | false => rfl
 | true =>
  rw [Bool.true_and, Bool.true_and]
  cases valB l 6 with
  | false => rfl
  | true => rw [if_pos rfl, bind_of (within_some _ _ _), Bool.true_and]
def itB (x : S93) : Bool := streamB x.f0 && staB x.f1
def itR (p x : S93) : Bool := lessN (bl p.f0) (bl x.f0)
def verB (x : S97) : Bool := wiB x.f0 1 1099511627776 && wiB x.f1 0 63
def verR (p x : S97) : Bool := !decide (x.f0 ≤ p.f0)
theorem items_l0 (l : List S93) (hl : l.length < 9223372036854775807) (M : Nat) (hz : ∀ x ∈ l, x.f1.f2.length + 300 ≤ M ∧ x.f1.f2.length < 9223372036854775807 ∧ x.f0.size ≤ 140737488351232 ∧ 2 * x.f0.size + 2 ≤ M) (d : Nat) : ∀ (k i : Nat), i + d = l.length → d + M + 1 ≤ k → codec_items.l0 k l l (l.length : Int) (i : Int) = some (chainB itB itR (prevO l i) (l.drop i) && decide ((l.length : Int) ≤ 64)) := by
 induction d with
 | zero =>
  intro k i hi hk
  obtain ⟨k, rfl⟩ : ∃ k', k = k' + 1 := ⟨k - 1, by omega⟩
  rw [codec_items.l0, if_neg (by omega), List.drop_eq_nil_of_le (by omega), chainB]
  rfl
 | succ d ih =>
  intro k i hi hk
  obtain ⟨k, rfl⟩ : ∃ k', k = k' + 1 := ⟨k - 1, by omega⟩
  have hs := ih k (i + 1) (by omega) (by omega)
  rw [prevO_next l i (by omega)] at hs
  have hgo : ∀ b : Bool, b = itB l[i] → (if b = true then (if (i : Int) > 0 then (if 0 ≤ (wrap64 ((i : Int) - 1)) then (if (wrap64 ((i : Int) - 1)) < (l.length : Int) then (if ((Op.bytesLess (((rd_T93 l (wrap64 ((i : Int) - 1))).f0).toList) ((l[i].f0).toList)) = true) then (codec_items.l0 k l l (l.length : Int) (wrap64 ((i : Int) + 1))) else (some false)) else none) else none) else (codec_items.l0 k l l (l.length : Int) (wrap64 ((i : Int) + 1)))) else some false) = some (chainB itB itR (prevO l i) (l.drop i) && decide ((l.length : Int) ≤ 64)) := by
   intro b hb
   rw [(List.drop_eq_getElem_cons (by omega) : l.drop i = l[i] :: l.drop (i + 1)), wrap_up (by omega) (by omega)]
   cases b with
   | false =>
    rw [if_neg (by decide)]
    cases prevO l i with
    | none => rw [chainB, ← hb, Bool.false_and, Bool.false_and]
    | some p => rw [chainB, ← hb, Bool.false_and, Bool.false_and]
   | true =>
    rw [if_pos rfl]
    by_cases h0 : i = 0
    ·subst h0
     rw [if_neg (by omega), prevO_zero, chainB, ← hb, Bool.true_and]
     exact hs
    ·rw [if_pos (by omega), prevdown (by omega) (by omega), if_pos (by omega), if_pos (by omega), prevO_some l i (by omega) (by omega), chainB, ← hb, Bool.true_and]
     rw [rdI_at l (i - 1) (by omega), bytesLess_bl]
     show (if itR _ _ = true then _ else _) = _
     cases itR (l[i - 1]'(by omega)) l[i] with
     | true => rw [if_pos rfl, Bool.true_and]; exact hs
     | false => rw [if_neg (by decide), Bool.false_and, Bool.false_and]
  rw [codec_items.l0, if_pos (by omega), if_pos (by omega), if_pos (by omega)]
  have hm := hz l[i] (List.getElem_mem _)
  rw [rdI_at l i (by omega), bind_of (stream_some l[i].f0 k (by omega))]
  cases h1 : streamB l[i].f0 with
  | false => rw [if_neg (by decide)]; have := hgo false (by unfold itB; rw [h1]; rfl); rw [if_neg (by decide)] at this; exact this
  | true =>
   rw [if_pos rfl, bind_of (state_some l[i].f1.f0 l[i].f1.f1 l[i].f1.f2 hm.2.1 k (by omega))]
   exact hgo (staB l[i].f1) (by unfold itB; rw [h1, Bool.true_and])
theorem verdicts_l0 (l : List S97) (hl : l.length < 9223372036854775807) (d : Nat) : ∀ (k i : Nat), i + d = l.length → d + 1 ≤ k → codec_verdicts.l0 k l l (l.length : Int) (i : Int) = some (chainB verB verR (prevO l i) (l.drop i) && decide ((l.length : Int) ≤ 32)) := by
 induction d with
 | zero =>
  intro k i hi hk
  obtain ⟨k, rfl⟩ : ∃ k', k = k' + 1 := ⟨k - 1, by omega⟩
  rw [codec_verdicts.l0, if_neg (by omega), List.drop_eq_nil_of_le (by omega), chainB]
  rfl
 | succ d ih =>
  intro k i hi hk
  obtain ⟨k, rfl⟩ : ∃ k', k = k' + 1 := ⟨k - 1, by omega⟩
  have hs := ih k (i + 1) (by omega) (by omega)
  rw [prevO_next l i (by omega)] at hs
  have hgo : ∀ b : Bool, b = verB l[i] → (if b = true then (if (i : Int) > 0 then (if 0 ≤ (wrap64 ((i : Int) - 1)) then (if (wrap64 ((i : Int) - 1)) < (l.length : Int) then (if (l[i].f0) ≤ ((rd_T97 l (wrap64 ((i : Int) - 1))).f0) then (some false) else (codec_verdicts.l0 k l l (l.length : Int) (wrap64 ((i : Int) + 1)))) else none) else none) else (codec_verdicts.l0 k l l (l.length : Int) (wrap64 ((i : Int) + 1)))) else some false) = some (chainB verB verR (prevO l i) (l.drop i) && decide ((l.length : Int) ≤ 32)) := by
   intro b hb
   rw [(List.drop_eq_getElem_cons (by omega) : l.drop i = l[i] :: l.drop (i + 1)), wrap_up (by omega) (by omega)]
   cases b with
   | false =>
    rw [if_neg (by decide)]
    cases prevO l i with
    | none => rw [chainB, ← hb, Bool.false_and, Bool.false_and]
    | some p => rw [chainB, ← hb, Bool.false_and, Bool.false_and]
   | true =>
    rw [if_pos rfl]
    by_cases h0 : i = 0
    ·subst h0
     rw [if_neg (by omega), prevO_zero, chainB, ← hb, Bool.true_and]
     exact hs
    ·rw [if_pos (by omega), prevdown (by omega) (by omega), if_pos (by omega), if_pos (by omega), prevO_some l i (by omega) (by omega), chainB, ← hb, Bool.true_and]
     rw [rdV_at l (i - 1) (by omega)]
     unfold verR
     by_cases h : l[i].f0 ≤ (l[i - 1]'(by omega)).f0
     ·rw [if_pos h, decide_eq_true h]; rfl
     ·rw [if_neg h, decide_eq_false h]; exact hs
  rw [codec_verdicts.l0, if_pos (by omega), if_pos (by omega), if_pos (by omega)]
  rw [rdV_at l i (by omega), bind_of (within_some _ _ _)]
  cases h1 : wiB l[i].f0 1 1099511627776 with
  | false => rw [if_neg (by decide)]; have := hgo false (by unfold verB; rw [h1]; rfl); rw [if_neg (by decide)] at this; exact this
  | true =>
   rw [if_pos rfl, bind_of (within_some _ _ _)]
   exact hgo (wiB l[i].f1 0 63) (by unfold verB; rw [h1, Bool.true_and])
def itemsB (l : List S93) : Bool := chainB itB itR none l && decide ((l.length : Int) ≤ 64)
def verdictsB (l : List S97) : Bool := chainB verB verR none l && decide ((l.length : Int) ≤ 32)
theorem items_some (l : List S93) (hl : l.length < 9223372036854775807) (M : Nat) (hz : ∀ x ∈ l, x.f1.f2.length + 300 ≤ M ∧ x.f1.f2.length < 9223372036854775807 ∧ x.f0.size ≤ 140737488351232 ∧ 2 * x.f0.size + 2 ≤ M) (k : Nat) (hk : l.length + (M + 1) ≤ k) : codec_items.f k l = some (itemsB l) := by
 unfold codec_items.f itemsB
 have h := items_l0 l hl M hz l.length k 0 (by omega) hk
 rw [prevO_zero] at h
 exact h
theorem verdicts_some (l : List S97) (hl : l.length < 9223372036854775807) (k : Nat) (hk : l.length + 1 ≤ k) : codec_verdicts.f k l = some (verdictsB l) := by
 unfold codec_verdicts.f verdictsB
 have h := verdicts_l0 l hl l.length k 0 (by omega) hk
 rw [prevO_zero] at h
 exact h
theorem bytesOf_append (a b : ByteArray) : bytesOf (a ++ b) = bytesOf a ++ bytesOf b := by
 rw [bytesOf_bl, bytesOf_bl, bytesOf_bl, bl_append, List.map_append]
theorem bytesOf_nil : bytesOf (⟨#[]⟩ : ByteArray) = [] := rfl
theorem nil_app (a : ByteArray) : (⟨#[]⟩ : ByteArray) ++ a = a := bl_inj (by rw [bl_append]; rfl)
def catB {α : Type} (B : α → ByteArray) (l : List α) : ByteArray := catP (fun x => (B x, (0 : Int))) l
def listB {α : Type} (B : α → ByteArray) (l : List α) : ByteArray := numB (l.length : Int) ++ catB B l
def numsB (l : List Int) : ByteArray := catB numB l
def textR (s : ByteArray) : ByteArray := numB (s.size : Int) ++ s
theorem catB_nil {α : Type} (B : α → ByteArray) : catB B [] = ⟨#[]⟩ := rfl
theorem catB_cons {α : Type} (B : α → ByteArray) (x : α) (l : List α) : catB B (x :: l) = B x ++ catB B l := rfl
theorem numsB_two (a b : Int) : numsB [a, b] = numB a ++ numB b := by
 unfold numsB
 rw [catB_cons, catB_cons, catB_nil, app_nil]
theorem numsB_one (a : Int) : numsB [a] = numB a := by
 unfold numsB
 rw [catB_cons, catB_nil, app_nil]
theorem numbersP_le (l : List Int) : (numbersP l).1.size ≤ 10000000 := by
 by_cases h : 256 < l.length
 ·unfold numbersP
  rw [if_pos h]
  exact Nat.zero_le _
 ·exact numbersP_size l (by
   unfold numbersP
   rw [if_neg h, listP_all _ _ _ (fun _ _ => rfl)])
theorem numbersP_short (l : List Int) (h : l.length ≤ 256) : numbersP l = (listB numB l, 0) := by
 unfold numbersP
 rw [if_neg (by omega), listP_all _ _ _ (fun _ _ => rfl)]
 rfl
theorem textP_short (s : ByteArray) (h : s.size ≤ 4096) : textP s = (textR s, 0) := by
 unfold textP
 rw [if_neg (by omega)]
 rfl
theorem number_l0 (l : List Int) (h : ∀ n ∈ l, (Lit.int .i64 n).wf = true) (hl : l.length ≤ 1048576) (d : Nat) : ∀ (k i : Nat) (acc : ByteArray), i + d = l.length → d + 1 ≤ k → acc.size + 10 * d < 140737488355328 →
  codec_number.l0 k (bytesOf acc) l (l.length : Int) (i : Int) = some (bytesOf (acc ++ numsB (l.drop i))) := by
 induction d with
 | zero =>
  intro k i acc hi hk ha
  obtain ⟨k, rfl⟩ : ∃ m, k = m + 1 := ⟨k - 1, by omega⟩
  rw [codec_number.l0, if_neg (by omega), List.drop_of_length_le (by omega), numsB, catB_nil, app_nil]
 | succ d ih =>
  intro k i acc hi hk ha
  obtain ⟨k, rfl⟩ : ∃ m, k = m + 1 := ⟨k - 1, by omega⟩
  have hlt : i < l.length := by omega
  have hb := i64_of (h _ (List.getElem_mem hlt))
  have hs := numB_size l[i]
  rw [codec_number.l0, if_pos (by omega), if_pos (by omega), if_pos (by omega), rd_at l i hlt, bind_of (number_some _ hb.1 hb.2), if_pos (by rw [bytesOf_length]; omega), wrap_up (by omega) (by omega), List.drop_eq_getElem_cons hlt, ← bytesOf_append]
  have := ih k (i + 1) (acc ++ numB l[i]) (by omega) (by omega) (by rw [size_app]; omega)
  rw [app_assoc] at this
  exact this
theorem codecnumber_some (l : List Int) (h : ∀ n ∈ l, (Lit.int .i64 n).wf = true) (hl : l.length ≤ 1048576) (acc : ByteArray) (ha : acc.size + 10 * l.length < 140737488355328) (k : Nat) (hk : l.length + 1 ≤ k) :
  codec_number.f k (bytesOf acc) l = some (bytesOf (acc ++ numsB l)) := by
 unfold codec_number.f
 exact number_l0 l h hl l.length k 0 acc (by omega) hk ha
theorem wf_two {a b : Int} (ha : (Lit.int .i64 a).wf = true) (hb : (Lit.int .i64 b).wf = true) : ∀ n ∈ [a, b], (Lit.int .i64 n).wf = true := by
 intro n hn
 rcases List.mem_cons.1 hn with rfl | hn
 ·exact ha
 ·rcases List.mem_cons.1 hn with rfl | hn
  ·exact hb
  ·cases hn
theorem wf_one {a : Int} (ha : (Lit.int .i64 a).wf = true) : ∀ n ∈ [a], (Lit.int .i64 n).wf = true := by
 intro n hn
 rcases List.mem_cons.1 hn with rfl | hn
 ·exact ha
 ·cases hn
theorem number_two (a b : Int) (ha : (Lit.int .i64 a).wf = true) (hb : (Lit.int .i64 b).wf = true) (acc : ByteArray) (hacc : acc.size + 20 < 140737488355328) (k : Nat) (hk : 3 ≤ k) :
  codec_number.f k (bytesOf acc) [a, b] = some (bytesOf (acc ++ (numB a ++ numB b))) := by
 rw [codecnumber_some [a, b] (wf_two ha hb) (by simp) acc (by simp; omega) k (by simp; omega), numsB_two]
theorem number_one (a : Int) (ha : (Lit.int .i64 a).wf = true) (acc : ByteArray) (hacc : acc.size + 20 < 140737488355328) (k : Nat) (hk : 3 ≤ k) :
  codec_number.f k (bytesOf acc) [a] = some (bytesOf (acc ++ numB a)) := by
 rw [codecnumber_some [a] (wf_one ha) (by simp) acc (by simp; omega) k (by simp; omega), numsB_one]
theorem codectext_some (s : ByteArray) (hs : s.size ≤ 140737488351232) (acc : ByteArray) (ha : acc.size + 4106 < 140737488355328) : codec_text.f (bytesOf acc) s = some (bytesOf (acc ++ (textP s).1)) := by
 have := textP_size s
 unfold codec_text.f
 rw [bind_of (text_some s hs), if_pos (by rw [bytesOf_length]; omega), ← bytesOf_append]
theorem codecnumbers_some (l : List Int) (h : ∀ n ∈ l, (Lit.int .i64 n).wf = true) (acc : ByteArray) (ha : acc.size + 10000000 < 140737488355328) : codec_numbers.f (bytesOf acc) l = some (bytesOf (acc ++ (numbersP l).1)) := by
 have := numbersP_le l
 unfold codec_numbers.f
 rw [bind_of (numbers_some l h), if_pos (by rw [bytesOf_length]; omega), ← bytesOf_append]
def laidP (b : Bool) (y : ByteArray) : ByteArray × Int := if b = true then (y, 0) else (⟨#[]⟩, 2)
theorem laid_some (b : Bool) (y : ByteArray) : codec_laid.f b (bytesOf y) = some (laidP b y) := by
 unfold codec_laid.f laidP
 cases b with
 | true => rw [if_pos rfl, if_pos rfl, strOfNums_bytesOf]
 | false => rw [if_neg (by decide), if_neg (by decide)]
theorem foldO_laid {α : Type} (T : List Int → α → Option (List Int)) (B : α → ByteArray) (M : Nat) (l : List α) : ∀ acc : ByteArray, (∀ x ∈ l, (B x).size ≤ M) → (∀ x ∈ l, ∀ a : ByteArray, a.size + M < 140737488355328 → T (bytesOf a) x = some (bytesOf (a ++ B x))) → acc.size + M * l.length < 140737488355328 →
  foldO T l (bytesOf acc) = some (bytesOf (acc ++ catB B l)) := by
 induction l with
 | nil => intro acc _ _ _; rw [catB_nil, app_nil]; rfl
 | cons x l ih =>
  intro acc hM hT ha
  rw [List.length_cons, Nat.mul_succ] at ha
  have h1 := hM x List.mem_cons_self
  rw [foldO, bind_of (hT x List.mem_cons_self acc (by omega)), ih (acc ++ B x) (fun y hy => hM y (List.mem_cons_of_mem _ hy)) (fun y hy => hT y (List.mem_cons_of_mem _ hy)) (by rw [size_app]; omega), catB_cons, app_assoc]
def numE (s : ByteArray) (a e : Int) : Int × Int × Int := if e = 0 then readN s a else (0, a, e)
def textE (s : ByteArray) (a e : Int) : ByteArray × Int × Int := if e = 0 then readT s a else (⟨#[]⟩, a, e)
def intsE (s : ByteArray) (a e : Int) : List Int × Int × Int := if e = 0 then listN (readN s) s a else ([], a, e)
theorem rnumber_some (s : ByteArray) (hs : s.size ≤ 140737488351232) (a e : Int) (k : Nat) (hk : 40 ≤ k) : codec_reader_number.f k s a e = some ((numE s a e).1, s, (numE s a e).2.1, (numE s a e).2.2) := by
 unfold codec_reader_number.f numE
 by_cases h : e = 0
 ·rw [if_pos h, if_pos h, bind_of (read_some s hs a k hk)]
 ·rw [if_neg h, if_neg h]
theorem rtext_some (s : ByteArray) (hs : s.size ≤ 140737488351232) (a e : Int) (k : Nat) (hk : 50 ≤ k) : codec_reader_text.f k s a e = some ((textE s a e).1, s, (textE s a e).2.1, (textE s a e).2.2) := by
 unfold codec_reader_text.f textE
 by_cases h : e = 0
 ·rw [if_pos h, if_pos h, bind_of (readtext_some s hs a k hk)]
 ·rw [if_neg h, if_neg h]
theorem rints_some (s : ByteArray) (hs : s.size ≤ 140737488351232) (a e : Int) (k : Nat) (hk : 400 ≤ k) : codec_reader_numbers.f k s a e = some ((intsE s a e).1, s, (intsE s a e).2.1, (intsE s a e).2.2) := by
 unfold codec_reader_numbers.f intsE
 by_cases h : e = 0
 ·rw [if_pos h, if_pos h, bind_of (readnums_some s hs a k hk)]
 ·rw [if_neg h, if_neg h]
def Took (s : ByteArray) (a e : Int) (x : ByteArray) (r : Int × Int) : Prop := r.2 = 0 → e = 0 ∧ 0 ≤ a ∧ a < r.1 ∧ r.1 ≤ (s.size : Int) ∧ x = s.extract a.toNat r.1.toNat
theorem Took.next {s : ByteArray} {a e : Int} {x y : ByteArray} {r q : Int × Int} (h1 : Took s a e x r) (h2 : Took s r.1 r.2 y q) : Took s a e (x ++ y) q := by
 intro h
 obtain ⟨b1, b2, b3, b4, b5⟩ := h2 h
 obtain ⟨a1, a2, a3, a4, a5⟩ := h1 b1
 refine ⟨a1, a2, by omega, b4, ?_⟩
 rw [a5, b5]
 exact cut_join s a.toNat r.1.toNat q.1.toNat (by omega) (by omega) (by omega)
theorem numE_took (s : ByteArray) (a e : Int) : Took s a e (numB (numE s a e).1) (numE s a e).2 := by
 unfold numE
 by_cases h : e = 0
 ·rw [if_pos h]
  intro h2
  obtain ⟨⟨h3, h4, h5⟩, h6⟩ := readN_once s a h2
  exact ⟨h, h3, h4, h5, h6⟩
 ·rw [if_neg h]
  intro h2
  exact absurd h2 h
theorem textE_took (s : ByteArray) (hs : s.size ≤ 140737488351232) (a e : Int) : Took s a e (textR (textE s a e).1) (textE s a e).2 := by
 unfold textE
 by_cases h : e = 0
 ·rw [if_pos h]
  intro h2
  obtain ⟨⟨h3, h4, h5⟩, h6⟩ := readT_once s hs a h2
  have h7 := (textP_ok _ (by rw [h6])).2
  rw [h6] at h7
  refine ⟨h, h3, h4, h5, ?_⟩
  injection h7 with h7 _
  exact h7.symm
 ·rw [if_neg h]
  intro h2
  exact absurd h2 h
theorem intsE_took (s : ByteArray) (hs : s.size ≤ 140737488351232) (a e : Int) : Took s a e (listB numB (intsE s a e).1) (intsE s a e).2 := by
 unfold intsE
 by_cases h : e = 0
 ·rw [if_pos h]
  intro h2
  obtain ⟨⟨h3, h4, h5⟩, h6⟩ := numbers_once s hs a h2
  rw [numbersP_short _ (listN_len _ s hs a)] at h6
  refine ⟨h, h3, h4, h5, ?_⟩
  injection h6 with h6 _
 ·rw [if_neg h]
  intro h2
  exact absurd h2 h
theorem readT_le (s : ByteArray) (hs : s.size ≤ 140737488351232) (a : Int) : (readT s a).1.size ≤ 4096 := by
 by_cases h : (readT s a).2.2 = 0
 ·exact (textP_ok _ (by rw [(readT_once s hs a h).2])).1
 ·unfold readT at h ⊢
  split at h
  ·split at h
   ·rw [if_pos ‹_›, if_pos ‹_›]; exact Nat.zero_le _
   ·exact absurd rfl h
  ·rw [if_neg ‹_›]; exact Nat.zero_le _
theorem textE_le (s : ByteArray) (hs : s.size ≤ 140737488351232) (a e : Int) : (textE s a e).1.size ≤ 4096 := by
 unfold textE
 split
 ·exact readT_le s hs a
 ·exact Nat.zero_le _
theorem intsE_le (s : ByteArray) (hs : s.size ≤ 140737488351232) (a e : Int) : (intsE s a e).1.length ≤ 256 := by
 unfold intsE
 split
 ·exact listN_len _ s hs a
 ·exact Nat.zero_le _
def manyL {α : Type} (R : Int → α × Int × Int) : Nat → Int → Int → List α → List α × Int × Int
 | 0, a, e, acc => (acc, a, e)
 | d + 1, a, e, acc => if e = 0 then manyL R d (R a).2.1 (R a).2.2 (acc ++ [(R a).1]) else (acc, a, e)
def someE {α : Type} (R : Int → α × Int × Int) (m : Int) (s : ByteArray) (a e : Int) : List α × Int × Int :=
 if (numE s a e).2.2 = 0 then (if wiB (numE s a e).1 0 m = true then manyL R (numE s a e).1.toNat (numE s a e).2.1 0 [] else ([], (numE s a e).2.1, 6)) else ([], (numE s a e).2.1, (numE s a e).2.2)
theorem wiB_iff (n a b : Int) : wiB n a b = true ↔ a ≤ n ∧ n ≤ b := by
 unfold wiB
 exact decide_eq_true_iff
theorem manyL_all {α : Type} (Q : α → Prop) (R : Int → α × Int × Int) (hR : ∀ a, Q (R a).1) (d : Nat) : ∀ (a e : Int) (acc : List α), (∀ x ∈ acc, Q x) → ∀ x ∈ (manyL R d a e acc).1, Q x := by
 induction d with
 | zero => intro a e acc h; exact h
 | succ d ih =>
  intro a e acc h
  rw [manyL]
  split
  ·refine ih _ _ _ (fun x hx => ?_)
   rcases List.mem_append.1 hx with hx | hx
   ·exact h x hx
   ·rw [List.mem_singleton.1 hx]; exact hR a
  ·exact h
theorem manyL_len {α : Type} (R : Int → α × Int × Int) (d : Nat) : ∀ (a e : Int) (acc : List α), (manyL R d a e acc).1.length ≤ acc.length + d := by
 induction d with
 | zero => intro a e acc; exact Nat.le_refl _
 | succ d ih =>
  intro a e acc
  rw [manyL]
  split
  ·refine Nat.le_trans (ih _ _ _) ?_
   rw [List.length_append, List.length_singleton]
   omega
  ·show acc.length ≤ acc.length + (d + 1)
   omega
theorem someE_all {α : Type} (Q : α → Prop) (R : Int → α × Int × Int) (hR : ∀ a, Q (R a).1) (m : Int) (s : ByteArray) (a e : Int) : ∀ x ∈ (someE R m s a e).1, Q x := by
 unfold someE
 split
 ·split
  ·exact manyL_all Q R hR _ _ _ _ (fun x hx => by cases hx)
  ·intro x hx; cases hx
 ·intro x hx; cases hx
theorem someE_len {α : Type} (R : Int → α × Int × Int) (m : Nat) (s : ByteArray) (a e : Int) : (someE R (m : Int) s a e).1.length ≤ m := by
 unfold someE
 split
 ·split
  ·rename_i h
   have h1 := (wiB_iff _ _ _).1 h
   refine Nat.le_trans (manyL_len R _ _ _ _) ?_
   rw [List.length_nil]
   omega
  ·exact Nat.zero_le _
 ·exact Nat.zero_le _
theorem manyL_took {α : Type} (s : ByteArray) (R : Int → α × Int × Int) (B : α → ByteArray) (hR : ∀ a, Took s a 0 (B (R a).1) (R a).2) (a0 : Int) (d : Nat) : ∀ (a e : Int) (acc : List α) (pre : ByteArray), Took s a0 0 (pre ++ catB B acc) (a, e) → (manyL R d a e acc).2.2 = 0 →
  (manyL R d a e acc).1.length = acc.length + d ∧ Took s a0 0 (pre ++ catB B (manyL R d a e acc).1) (manyL R d a e acc).2 := by
 induction d with
 | zero => intro a e acc pre h h2; exact ⟨rfl, h⟩
 | succ d ih =>
  intro a e acc pre h h2
  rw [manyL] at h2 ⊢
  by_cases he : e = 0
  ·rw [if_pos he] at h2 ⊢
   subst he
   have hc : ∀ (l : List α) (x : α), catB B (l ++ [x]) = catB B l ++ B x := by
    intro l x
    induction l with
    | nil => rw [List.nil_append, catB_cons, catB_nil, app_nil, nil_app]
    | cons y l ihl => rw [List.cons_append, catB_cons, ihl, catB_cons, app_assoc]
   have := ih (R a).2.1 (R a).2.2 (acc ++ [(R a).1]) pre (by
    rw [hc, ← app_assoc]
    exact h.next (hR a)) h2
   rw [List.length_append, List.length_singleton] at this
   exact ⟨by omega, this.2⟩
  ·rw [if_neg he] at h2
   exact absurd h2 he
theorem someE_took {α : Type} (s : ByteArray) (R : Int → α × Int × Int) (B : α → ByteArray) (hR : ∀ a, Took s a 0 (B (R a).1) (R a).2) (m a e : Int) : Took s a e (listB B (someE R m s a e).1) (someE R m s a e).2 := by
 intro h
 have h1 := numE_took s a e
 unfold someE at h ⊢
 by_cases hn : (numE s a e).2.2 = 0
 ·rw [if_pos hn] at h ⊢
  by_cases hm : wiB (numE s a e).1 0 m = true
  ·rw [if_pos hm] at h ⊢
   have hb := (wiB_iff _ _ _).1 hm
   obtain ⟨he, h2⟩ := h1 hn
   have ht := manyL_took s R B hR a (numE s a e).1.toNat (numE s a e).2.1 0 [] (numB (numE s a e).1) (by
    rw [catB_nil, app_nil]
    intro _
    exact ⟨rfl, h2⟩) h
   obtain ⟨_, h3⟩ := ht.2 h
   refine ⟨he, ?_⟩
   unfold listB
   have hlen : (((manyL R (numE s a e).1.toNat (numE s a e).2.1 0 []).1.length : Nat) : Int) = (numE s a e).1 := by
    have := ht.1
    rw [List.length_nil] at this
    omega
   rw [hlen]
   exact h3
  ·rw [if_neg hm] at h
   have h6 : (6 : Int) = 0 := h
   exact absurd h6 (by decide)
 ·rw [if_neg hn] at h
  exact absurd h hn
def evE (s : ByteArray) (a e : Int) : S81 × Int × Int := ((⟨(numE s a e).1, (intsE s (numE s a e).2.1 (numE s a e).2.2).1⟩ : S81), (intsE s (numE s a e).2.1 (numE s a e).2.2).2)
def evY (x : S81) : ByteArray := numB x.f0 ++ listB numB x.f1
theorem evE_took (s : ByteArray) (hs : s.size ≤ 140737488351232) (a e : Int) : Took s a e (evY (evE s a e).1) (evE s a e).2 := (numE_took s a e).next (intsE_took s hs _ _)
theorem event_read (s : ByteArray) (hs : s.size ≤ 140737488351232) (a e : Int) (k : Nat) (hk : 400 ≤ k) : codec_oneEvent.f k s a e = some ((evE s a e).1.f0, (evE s a e).1.f1, s, (evE s a e).2.1, (evE s a e).2.2) := by
 unfold codec_oneEvent.f
 rw [bind_of (rnumber_some s hs a e k (by omega)), bind_of (rints_some s hs _ _ k hk)]
 rfl
def veE (s : ByteArray) (a e : Int) : S97 × Int × Int := ((⟨(numE s a e).1, (numE s (numE s a e).2.1 (numE s a e).2.2).1⟩ : S97), (numE s (numE s a e).2.1 (numE s a e).2.2).2)
def veY (x : S97) : ByteArray := numB x.f0 ++ numB x.f1
theorem veE_took (s : ByteArray) (a e : Int) : Took s a e (veY (veE s a e).1) (veE s a e).2 := (numE_took s a e).next (numE_took s _ _)
theorem verdict_read (s : ByteArray) (hs : s.size ≤ 140737488351232) (a e : Int) (k : Nat) (hk : 400 ≤ k) : codec_ReadVerdicts_1.f k s a e = some ((veE s a e).1.f0, (veE s a e).1.f1, s, (veE s a e).2.1, (veE s a e).2.2) := by
 unfold codec_ReadVerdicts_1.f
 rw [bind_of (rnumber_some s hs a e k (by omega)), bind_of (rnumber_some s hs _ _ k (by omega))]
 rfl
def itE (s : ByteArray) (a e : Int) : S93 × Int × Int :=
 let t := textE s a e
 let n := numE s t.2.1 t.2.2
 let v := numE s n.2.1 n.2.2
 let l := intsE s v.2.1 v.2.2
 ((⟨t.1, (⟨n.1, v.1, l.1⟩ : S91)⟩ : S93), l.2)
def itY (x : S93) : ByteArray := ((textR x.f0 ++ numB x.f1.f0) ++ numB x.f1.f1) ++ listB numB x.f1.f2
theorem itE_took (s : ByteArray) (hs : s.size ≤ 140737488351232) (a e : Int) : Took s a e (itY (itE s a e).1) (itE s a e).2 := (((textE_took s hs a e).next (numE_took s _ _)).next (numE_took s _ _)).next (intsE_took s hs _ _)
theorem item_read (s : ByteArray) (hs : s.size ≤ 140737488351232) (a e : Int) (k : Nat) (hk : 400 ≤ k) : codec_ReadItems_1.f k s a e = some ((itE s a e).1.f0, (itE s a e).1.f1.f0, (itE s a e).1.f1.f1, (itE s a e).1.f1.f2, s, (itE s a e).2.1, (itE s a e).2.2) := by
 unfold codec_ReadItems_1.f
 rw [bind_of (rtext_some s hs a e k (by omega)), bind_of (rnumber_some s hs _ _ k (by omega)), bind_of (rnumber_some s hs _ _ k (by omega)), bind_of (rints_some s hs _ _ k hk)]
 rfl
theorem sevents_l0 (s : ByteArray) (hs : s.size ≤ 140737488351232) (n : Nat) (hn : n ≤ 1000) (d : Nat) : ∀ (k i : Nat) (a e : Int) (acc : List S81), i + d = n → acc.length = i → d + 420 ≤ k →
  api_Event__by_codec_oneEvent.l0 k (n : Int) acc (i : Int) s a e = some ((manyL (fun a => evE s a 0) d a e acc).1, s, (manyL (fun a => evE s a 0) d a e acc).2.1, (manyL (fun a => evE s a 0) d a e acc).2.2) := by
 induction d with
 | zero =>
  intro k i a e acc hi hl hk
  obtain ⟨k, rfl⟩ : ∃ m, k = m + 1 := ⟨k - 1, by omega⟩
  rw [api_Event__by_codec_oneEvent.l0, if_neg (by omega)]
  rfl
 | succ d ih =>
  intro k i a e acc hi hl hk
  obtain ⟨k, rfl⟩ : ∃ m, k = m + 1 := ⟨k - 1, by omega⟩
  rw [api_Event__by_codec_oneEvent.l0, if_pos (by omega), manyL]
  by_cases he : e = 0
  ·rw [if_pos he, if_pos he, he, bind_of (event_read s hs a 0 k (by omega)), if_pos (by omega), wrap_up (by omega) (by omega)]
   exact ih k (i + 1) _ _ _ (by omega) (by rw [List.length_append, List.length_singleton]; omega) (by omega)
  ·rw [if_neg he, if_neg he]
theorem sevents_some (s : ByteArray) (hs : s.size ≤ 140737488351232) (m : Nat) (hm : m ≤ 1000) (a e : Int) (k : Nat) (hk : 1500 ≤ k) :
  api_Event__by_codec_oneEvent.f k s a e (m : Int) = some ((someE (fun a => evE s a 0) m s a e).1, s, (someE (fun a => evE s a 0) m s a e).2.1, (someE (fun a => evE s a 0) m s a e).2.2) := by
 obtain ⟨k, rfl⟩ : ∃ j, k = j + 3 := ⟨k - 3, by omega⟩
 have hbad : ∀ (n : Int) (b x : Int), x ≠ 0 → api_Event__by_codec_oneEvent.l0 (k + 1) n [] 0 s b x = some ([], s, b, x) := by
  intro n b x hx
  rw [api_Event__by_codec_oneEvent.l0]
  split <;> rfl
 unfold api_Event__by_codec_oneEvent.f
 rw [bind_of (rnumber_some s hs a e (k + 3) (by omega))]
 unfold someE
 by_cases h : (numE s a e).2.2 = 0
 ·rw [if_pos h, if_pos h, bind_of (within_some _ _ _), api_Event__by_codec_oneEvent.j0]
  cases hw : wiB (numE s a e).1 0 (m : Int) with
  | false =>
   rw [if_pos (by rfl), api_Event__by_codec_oneEvent.j1, hbad _ _ 6 (by decide), if_neg (by decide)]
  | true =>
   have hb := (wiB_iff _ _ _).1 hw
   rw [if_neg (by decide), api_Event__by_codec_oneEvent.j1, h, if_pos rfl]
   have := sevents_l0 s hs (numE s a e).1.toNat (by omega) (numE s a e).1.toNat (k + 1) 0 (numE s a e).2.1 0 [] (by omega) rfl (by omega)
   rw [Int.toNat_of_nonneg hb.1] at this
   exact this
 ·rw [if_neg h, if_neg h, api_Event__by_codec_oneEvent.j0, if_neg (by decide), api_Event__by_codec_oneEvent.j1, hbad _ _ _ h]
theorem sitems_l0 (s : ByteArray) (hs : s.size ≤ 140737488351232) (n : Nat) (hn : n ≤ 1000) (d : Nat) : ∀ (k i : Nat) (a e : Int) (acc : List S93), i + d = n → acc.length = i → d + 420 ≤ k →
  api_Item__by_codec_ReadItems_1.l0 k (n : Int) acc (i : Int) s a e = some ((manyL (fun a => itE s a 0) d a e acc).1, s, (manyL (fun a => itE s a 0) d a e acc).2.1, (manyL (fun a => itE s a 0) d a e acc).2.2) := by
 induction d with
 | zero =>
  intro k i a e acc hi hl hk
  obtain ⟨k, rfl⟩ : ∃ m, k = m + 1 := ⟨k - 1, by omega⟩
  rw [api_Item__by_codec_ReadItems_1.l0, if_neg (by omega)]
  rfl
 | succ d ih =>
  intro k i a e acc hi hl hk
  obtain ⟨k, rfl⟩ : ∃ m, k = m + 1 := ⟨k - 1, by omega⟩
  rw [api_Item__by_codec_ReadItems_1.l0, if_pos (by omega), manyL]
  by_cases he : e = 0
  ·rw [if_pos he, if_pos he, he, bind_of (item_read s hs a 0 k (by omega)), if_pos (by omega), wrap_up (by omega) (by omega)]
   exact ih k (i + 1) _ _ _ (by omega) (by rw [List.length_append, List.length_singleton]; omega) (by omega)
  ·rw [if_neg he, if_neg he]
theorem sitems_some (s : ByteArray) (hs : s.size ≤ 140737488351232) (m : Nat) (hm : m ≤ 1000) (a e : Int) (k : Nat) (hk : 1500 ≤ k) :
  api_Item__by_codec_ReadItems_1.f k s a e (m : Int) = some ((someE (fun a => itE s a 0) m s a e).1, s, (someE (fun a => itE s a 0) m s a e).2.1, (someE (fun a => itE s a 0) m s a e).2.2) := by
 obtain ⟨k, rfl⟩ : ∃ j, k = j + 3 := ⟨k - 3, by omega⟩
 have hbad : ∀ (n : Int) (b x : Int), x ≠ 0 → api_Item__by_codec_ReadItems_1.l0 (k + 1) n [] 0 s b x = some ([], s, b, x) := by
  intro n b x hx
  rw [api_Item__by_codec_ReadItems_1.l0]
  split <;> rfl
 unfold api_Item__by_codec_ReadItems_1.f
 rw [bind_of (rnumber_some s hs a e (k + 3) (by omega))]
 unfold someE
 by_cases h : (numE s a e).2.2 = 0
 ·rw [if_pos h, if_pos h, bind_of (within_some _ _ _), api_Item__by_codec_ReadItems_1.j0]
  cases hw : wiB (numE s a e).1 0 (m : Int) with
  | false =>
   rw [if_pos (by rfl), api_Item__by_codec_ReadItems_1.j1, hbad _ _ 6 (by decide), if_neg (by decide)]
  | true =>
   have hb := (wiB_iff _ _ _).1 hw
   rw [if_neg (by decide), api_Item__by_codec_ReadItems_1.j1, h, if_pos rfl]
   have := sitems_l0 s hs (numE s a e).1.toNat (by omega) (numE s a e).1.toNat (k + 1) 0 (numE s a e).2.1 0 [] (by omega) rfl (by omega)
   rw [Int.toNat_of_nonneg hb.1] at this
   exact this
 ·rw [if_neg h, if_neg h, api_Item__by_codec_ReadItems_1.j0, if_neg (by decide), api_Item__by_codec_ReadItems_1.j1, hbad _ _ _ h]
theorem sverdicts_l0 (s : ByteArray) (hs : s.size ≤ 140737488351232) (n : Nat) (hn : n ≤ 1000) (d : Nat) : ∀ (k i : Nat) (a e : Int) (acc : List S97), i + d = n → acc.length = i → d + 420 ≤ k →
  api_Verdict__by_codec_ReadVerdicts_1.l0 k (n : Int) acc (i : Int) s a e = some ((manyL (fun a => veE s a 0) d a e acc).1, s, (manyL (fun a => veE s a 0) d a e acc).2.1, (manyL (fun a => veE s a 0) d a e acc).2.2) := by
 induction d with
 | zero =>
  intro k i a e acc hi hl hk
  obtain ⟨k, rfl⟩ : ∃ m, k = m + 1 := ⟨k - 1, by omega⟩
  rw [api_Verdict__by_codec_ReadVerdicts_1.l0, if_neg (by omega)]
  rfl
 | succ d ih =>
  intro k i a e acc hi hl hk
  obtain ⟨k, rfl⟩ : ∃ m, k = m + 1 := ⟨k - 1, by omega⟩
  rw [api_Verdict__by_codec_ReadVerdicts_1.l0, if_pos (by omega), manyL]
  by_cases he : e = 0
  ·rw [if_pos he, if_pos he, he, bind_of (verdict_read s hs a 0 k (by omega)), if_pos (by omega), wrap_up (by omega) (by omega)]
   exact ih k (i + 1) _ _ _ (by omega) (by rw [List.length_append, List.length_singleton]; omega) (by omega)
  ·rw [if_neg he, if_neg he]
theorem sverdicts_some (s : ByteArray) (hs : s.size ≤ 140737488351232) (m : Nat) (hm : m ≤ 1000) (a e : Int) (k : Nat) (hk : 1500 ≤ k) :
  api_Verdict__by_codec_ReadVerdicts_1.f k s a e (m : Int) = some ((someE (fun a => veE s a 0) m s a e).1, s, (someE (fun a => veE s a 0) m s a e).2.1, (someE (fun a => veE s a 0) m s a e).2.2) := by
 obtain ⟨k, rfl⟩ : ∃ j, k = j + 3 := ⟨k - 3, by omega⟩
 have hbad : ∀ (n : Int) (b x : Int), x ≠ 0 → api_Verdict__by_codec_ReadVerdicts_1.l0 (k + 1) n [] 0 s b x = some ([], s, b, x) := by
  intro n b x hx
  rw [api_Verdict__by_codec_ReadVerdicts_1.l0]
  split <;> rfl
 unfold api_Verdict__by_codec_ReadVerdicts_1.f
 rw [bind_of (rnumber_some s hs a e (k + 3) (by omega))]
 unfold someE
 by_cases h : (numE s a e).2.2 = 0
 ·rw [if_pos h, if_pos h, bind_of (within_some _ _ _), api_Verdict__by_codec_ReadVerdicts_1.j0]
  cases hw : wiB (numE s a e).1 0 (m : Int) with
  | false =>
   rw [if_pos (by rfl), api_Verdict__by_codec_ReadVerdicts_1.j1, hbad _ _ 6 (by decide), if_neg (by decide)]
  | true =>
   have hb := (wiB_iff _ _ _).1 hw
   rw [if_neg (by decide), api_Verdict__by_codec_ReadVerdicts_1.j1, h, if_pos rfl]
   have := sverdicts_l0 s hs (numE s a e).1.toNat (by omega) (numE s a e).1.toNat (k + 1) 0 (numE s a e).2.1 0 [] (by omega) rfl (by omega)
   rw [Int.toNat_of_nonneg hb.1] at this
   exact this
 ·rw [if_neg h, if_neg h, api_Verdict__by_codec_ReadVerdicts_1.j0, if_neg (by decide), api_Verdict__by_codec_ReadVerdicts_1.j1, hbad _ _ _ h]
theorem laidP_same {b : Bool} {y z : ByteArray} (h : b = true → y = z) : laidP b y = laidP b z := by
 cases b with
 | true => rw [h rfl]
 | false => rfl
theorem catB_congr {α : Type} {B C : α → ByteArray} (l : List α) (h : ∀ x ∈ l, B x = C x) : catB B l = catB C l := by
 induction l with
 | nil => rfl
 | cons x l ih => rw [catB_cons, catB_cons, h x List.mem_cons_self, ih (fun y hy => h y (List.mem_cons_of_mem _ hy))]
theorem stream_le {s : ByteArray} (h : streamB s = true) : s.size ≤ 32 := by
 unfold streamB at h
 rw [Bool.and_eq_true, decide_eq_true_eq] at h
 exact h.1
theorem wi_wf {n a b : Int} (h : wiB n a b = true) (ha : -9223372036854775808 ≤ a) (hb : b ≤ 9223372036854775807) : (Lit.int .i64 n).wf = true := by
 have := (wiB_iff _ _ _).1 h
 exact wf_i64 n (by omega) (by omega)
theorem val_wf {l : List Int} {m : Int} (h : valB l m = true) : (∀ n ∈ l, (Lit.int .i64 n).wf = true) ∧ (l.length : Int) ≤ m := by
 unfold valB at h
 rw [Bool.and_eq_true, decide_eq_true_eq, List.all_eq_true] at h
 exact ⟨fun n hn => wi_wf (h.1 n hn) (by decide) (by decide), h.2⟩
theorem head_wf {c s : Int} {st : ByteArray} (h : headB c s st = true) : (Lit.int .i64 c).wf = true ∧ (Lit.int .i64 s).wf = true ∧ st.size ≤ 32 := by
 unfold headB at h
 rw [Bool.and_eq_true, Bool.and_eq_true] at h
 exact ⟨wi_wf h.1 (by decide) (by decide), wi_wf h.2.1 (by decide) (by decide), stream_le h.2.2⟩
def intsOK (l : List Int) : Prop := l.length ≤ 1048576 ∧ ∀ n ∈ l, (Lit.int .i64 n).wf = true
theorem val_ok {l : List Int} {m : Int} (h : valB l m = true) (hm : m ≤ 256) : intsOK l ∧ l.length ≤ 256 := by
 have := val_wf h
 exact ⟨⟨by omega, this.1⟩, by omega⟩
theorem cmd_wf {c s : Int} {st : ByteArray} {r : Int} {l : List Int} {x : Int} (h : cmdB c s st r l x = true) : (Lit.int .i64 c).wf = true ∧ (Lit.int .i64 s).wf = true ∧ st.size ≤ 32 ∧ (Lit.int .i64 r).wf = true ∧ intsOK l ∧ l.length ≤ 256 ∧ (Lit.int .i64 x).wf = true := by
 unfold cmdB at h
 rw [Bool.and_eq_true, Bool.and_eq_true, Bool.and_eq_true] at h
 have h1 := head_wf h.1
 have h2 := val_ok h.2.2.1 (by decide)
 exact ⟨h1.1, h1.2.1, h1.2.2, wi_wf h.2.1 (by decide) (by decide), h2.1, h2.2, wi_wf h.2.2.2 (by decide) (by decide)⟩
def evOK (x : S81) : Prop := (Lit.int .i64 x.f0).wf = true ∧ intsOK x.f1
theorem ev_wf {x : S81} (h : evB x = true) : evOK x ∧ x.f1.length ≤ 256 := by
 unfold evB at h
 rw [Bool.and_eq_true] at h
 have h2 := val_ok h.2 (by decide)
 exact ⟨⟨wi_wf h.1 (by decide) (by decide), h2.1⟩, h2.2⟩
theorem evs_wf {l : List S81} (h : evsB l = true) : l.length ≤ 3 ∧ ∀ x ∈ l, evOK x ∧ x.f1.length ≤ 256 := by
 unfold evsB at h
 rw [Bool.and_eq_true, decide_eq_true_eq, List.all_eq_true] at h
 exact ⟨by omega, fun x hx => ev_wf (h.1 x hx)⟩
theorem rec_wf {c s : Int} {st : ByteArray} {r : Int} {l : List S81} (h : recB c s st r l = true) : (Lit.int .i64 c).wf = true ∧ (Lit.int .i64 s).wf = true ∧ st.size ≤ 32 ∧ (Lit.int .i64 r).wf = true ∧ l.length ≤ 3 ∧ ∀ x ∈ l, evOK x ∧ x.f1.length ≤ 256 := by
 unfold recB at h
 rw [Bool.and_eq_true, Bool.and_eq_true, Bool.and_eq_true] at h
 have h1 := head_wf h.1
 have h2 := evs_wf h.2.2.1
 exact ⟨h1.1, h1.2.1, h1.2.2, wi_wf h.2.1 (by decide) (by decide), h2.1, h2.2⟩
theorem chain_all {α : Type} {P : α → Bool} {R : α → α → Bool} (l : List α) : ∀ o, chainB P R o l = true → ∀ x ∈ l, P x = true := by
 induction l with
 | nil => intro o _ x hx; cases hx
 | cons y l ih =>
  intro o h x hx
  have h2 : P y = true ∧ chainB P R (some y) l = true := by
   cases o with
   | none => rw [chainB, Bool.and_eq_true] at h; exact h
   | some p => rw [chainB, Bool.and_eq_true, Bool.and_eq_true] at h; exact ⟨h.1, h.2.2⟩
  rcases List.mem_cons.1 hx with rfl | hx
  ·exact h2.1
  ·exact ih _ h2.2 x hx
def itOK (x : S93) : Prop := x.f0.size ≤ 140737488351232 ∧ (Lit.int .i64 x.f1.f0).wf = true ∧ (Lit.int .i64 x.f1.f1).wf = true ∧ intsOK x.f1.f2
theorem it_wf {x : S93} (h : itB x = true) : itOK x ∧ x.f0.size ≤ 32 ∧ x.f1.f2.length ≤ 256 := by
 unfold itB staB at h
 rw [Bool.and_eq_true, Bool.and_eq_true, Bool.and_eq_true] at h
 have h1 := stream_le h.1
 have h2 := val_ok h.2.2.1 (by decide)
 exact ⟨⟨by omega, wi_wf h.2.1 (by decide) (by decide), wi_wf h.2.2.2 (by decide) (by decide), h2.1⟩, h1, h2.2⟩
theorem items_wf {l : List S93} (h : itemsB l = true) : l.length ≤ 64 ∧ ∀ x ∈ l, itOK x ∧ x.f0.size ≤ 32 ∧ x.f1.f2.length ≤ 256 := by
 unfold itemsB at h
 rw [Bool.and_eq_true, decide_eq_true_eq] at h
 exact ⟨by omega, fun x hx => it_wf (chain_all l none h.1 x hx)⟩
def veOK (x : S97) : Prop := (Lit.int .i64 x.f0).wf = true ∧ (Lit.int .i64 x.f1).wf = true
theorem verdicts_wf {l : List S97} (h : verdictsB l = true) : l.length ≤ 32 ∧ ∀ x ∈ l, veOK x := by
 unfold verdictsB at h
 rw [Bool.and_eq_true, decide_eq_true_eq] at h
 refine ⟨by omega, fun x hx => ?_⟩
 have h2 := chain_all l none h.1 x hx
 unfold verB at h2
 rw [Bool.and_eq_true] at h2
 exact ⟨wi_wf h2.1 (by decide) (by decide), wi_wf h2.2 (by decide) (by decide)⟩
def cmdY (c s : Int) (st : ByteArray) (r : Int) (l : List Int) (x : Int) : ByteArray := ((((numB c ++ numB s) ++ textR st) ++ numB r) ++ listB numB l) ++ numB x
theorem putcmd_some (c s : Int) (st : ByteArray) (r : Int) (l : List Int) (x : Int) (h1 : (Lit.int .i64 c).wf = true) (h2 : (Lit.int .i64 s).wf = true) (h3 : st.size ≤ 140737488351232) (h4 : (Lit.int .i64 r).wf = true) (h5 : intsOK l) (h6 : (Lit.int .i64 x).wf = true) (k : Nat) (hk : 3000000 ≤ k) :
  codec_PutCmd.f k c s st r l x = some (laidP (cmdB c s st r l x) (cmdY c s st r l x)) := by
 have b1 := numB_size c
 have b2 := numB_size s
 have b3 := textP_size st
 have b4 := numB_size r
 have b5 := numbersP_le l
 have e1 := number_two c s h1 h2 ⟨#[]⟩ (by decide) k (by omega)
 rw [bytesOf_nil, nil_app] at e1
 unfold codec_PutCmd.f
 rw [bind_of e1, bind_of (codectext_some st h3 _ (by simp only [size_app]; omega)), bind_of (number_one r h4 _ (by simp only [size_app]; omega) k (by omega)), bind_of (codecnumbers_some l h5.2 _ (by simp only [size_app]; omega)), bind_of (cmd_some c s st r l x (by have := h5.1; omega) k (by have := h5.1; omega)), bind_of (number_one x h6 _ (by simp only [size_app]; omega) k (by omega)), bind_of (laid_some _ _)]
 refine congrArg some (laidP_same fun hb => ?_)
 obtain ⟨_, _, g3, _, _, g6, _⟩ := cmd_wf hb
 rw [textP_short st (by omega), numbersP_short l g6]
 rfl
def evZ (x : S81) : ByteArray := numB x.f0 ++ (numbersP x.f1).1
theorem evZ_size (x : S81) : (evZ x).size ≤ 10000010 := by
 have h1 := numB_size x.f0
 have h2 := numbersP_le x.f1
 unfold evZ
 rw [size_app]
 omega
theorem putevent_some (x : S81) (h : evOK x) (a : ByteArray) (ha : a.size + 10000030 < 140737488355328) (k : Nat) (hk : 3 ≤ k) : codec_putEvent.f k (bytesOf a) x.f0 x.f1 = some (bytesOf (a ++ evZ x)) := by
 have h1 := numB_size x.f0
 unfold codec_putEvent.f
 rw [bind_of (number_one x.f0 h.1 a (by omega) k hk), bind_of (codecnumbers_some x.f1 h.2.2 _ (by rw [size_app]; omega)), app_assoc]
 rfl
theorem putlist_events (l : List S81) (hl : l.length ≤ 1048576) (h : ∀ x ∈ l, evOK x) (a : ByteArray) (ha : a.size ≤ 100000000) (k : Nat) (hk : 3000000 ≤ k) : api_Event__by_codec_putEvent.f k (bytesOf a) l = some (bytesOf (a ++ listB evZ l)) := by
 have h1 := numB_size (l.length : Int)
 unfold api_Event__by_codec_putEvent.f
 rw [bind_of (number_one (l.length : Int) (wf_i64 _ (by omega) (by omega)) a (by omega) k (by omega)), foldO_laid _ evZ 10000030 l _ (fun x _ => Nat.le_trans (evZ_size x) (by decide)) (fun x hx b hb => putevent_some x (h x hx) b hb k (by omega)) (by rw [size_app]; omega), app_assoc]
 rfl
theorem evZ_right (l : List S81) (h : evsB l = true) : listB evZ l = listB evY l := by
 unfold listB
 rw [catB_congr l (fun x hx => ?_)]
 unfold evZ evY
 rw [numbersP_short x.f1 ((evs_wf h).2 x hx).2]
theorem evsz {l : List S81} (h : ∀ x ∈ l, evOK x) : ∀ x ∈ l, x.f1.length + 1 ≤ 1048577 ∧ x.f1.length < 9223372036854775807 := fun x hx => by
 have := (h x hx).2.1
 omega
def recY (c s : Int) (st : ByteArray) (r : Int) (l : List S81) : ByteArray := (((numB c ++ numB s) ++ textR st) ++ numB r) ++ listB evY l
theorem putrecord_some (c s : Int) (st : ByteArray) (r : Int) (l : List S81) (h1 : (Lit.int .i64 c).wf = true) (h2 : (Lit.int .i64 s).wf = true) (h3 : st.size ≤ 140737488351232) (h4 : (Lit.int .i64 r).wf = true) (hl : l.length ≤ 1048576) (h : ∀ x ∈ l, evOK x) (k : Nat) (hk : 3000000 ≤ k) :
  codec_PutRecord.f k c s st r l = some (laidP (recB c s st r l) (recY c s st r l)) := by
 have b1 := numB_size c
 have b2 := numB_size s
 have b3 := textP_size st
 have b4 := numB_size r
 have e1 := number_two c s h1 h2 ⟨#[]⟩ (by decide) k (by omega)
 rw [bytesOf_nil, nil_app] at e1
 unfold codec_PutRecord.f
 rw [bind_of e1, bind_of (codectext_some st h3 _ (by simp only [size_app]; omega)), bind_of (number_one r h4 _ (by simp only [size_app]; omega) k (by omega)), bind_of (record_some c s st r l (by omega) 1048577 (evsz h) k (by omega)), bind_of (putlist_events l hl h _ (by simp only [size_app]; omega) k hk), bind_of (laid_some _ _)]
 refine congrArg some (laidP_same fun hb => ?_)
 obtain ⟨_, _, g3, _, _, _⟩ := rec_wf hb
 have he : evsB l = true := by
  unfold recB at hb
  rw [Bool.and_eq_true, Bool.and_eq_true, Bool.and_eq_true] at hb
  exact hb.2.2.1
 rw [textP_short st (by omega), evZ_right l he]
 rfl
def itZ (x : S93) : ByteArray := (textP x.f0).1 ++ ((numB x.f1.f0 ++ numB x.f1.f1) ++ (numbersP x.f1.f2).1)
theorem itZ_size (x : S93) : (itZ x).size ≤ 10004126 := by
 have h1 := textP_size x.f0
 have h2 := numB_size x.f1.f0
 have h3 := numB_size x.f1.f1
 have h4 := numbersP_le x.f1.f2
 unfold itZ
 rw [size_app, size_app, size_app]
 omega
theorem putitem_some (x : S93) (h : itOK x) (a : ByteArray) (ha : a.size + 10008126 < 140737488355328) (k : Nat) (hk : 3 ≤ k) : codec_PutItems_1.f k (bytesOf a) x.f0 x.f1.f0 x.f1.f1 x.f1.f2 = some (bytesOf (a ++ itZ x)) := by
 have h1 := textP_size x.f0
 have h2 := numB_size x.f1.f0
 have h3 := numB_size x.f1.f1
 unfold codec_PutItems_1.f
 rw [bind_of (codectext_some x.f0 h.1 a (by omega)), bind_of (number_two x.f1.f0 x.f1.f1 h.2.1 h.2.2.1 _ (by rw [size_app]; omega) k hk), bind_of (codecnumbers_some x.f1.f2 h.2.2.2.2 _ (by rw [size_app, size_app, size_app]; omega)), app_assoc, app_assoc]
 rfl
theorem putlist_items (l : List S93) (hl : l.length ≤ 1048576) (h : ∀ x ∈ l, itOK x) (a : ByteArray) (ha : a.size ≤ 100000000) (k : Nat) (hk : 3000000 ≤ k) : api_Item__by_codec_PutItems_1.f k (bytesOf a) l = some (bytesOf (a ++ listB itZ l)) := by
 have h1 := numB_size (l.length : Int)
 unfold api_Item__by_codec_PutItems_1.f
 rw [bind_of (number_one (l.length : Int) (wf_i64 _ (by omega) (by omega)) a (by omega) k (by omega)), foldO_laid _ itZ 10008126 l _ (fun x _ => Nat.le_trans (itZ_size x) (by decide)) (fun x hx b hb => putitem_some x (h x hx) b hb k (by omega)) (by rw [size_app]; omega), app_assoc]
 rfl
theorem itZ_right (l : List S93) (h : itemsB l = true) : listB itZ l = listB itY l := by
 unfold listB
 rw [catB_congr l (fun x hx => ?_)]
 obtain ⟨_, h1, h2⟩ := (items_wf h).2 x hx
 unfold itZ itY
 rw [numbersP_short x.f1.f2 h2, textP_short x.f0 (by omega), app_assoc, app_assoc, app_assoc]
theorem itsz {l : List S93} (hs : ∀ x ∈ l, x.f0.size ≤ 1048576) (h : ∀ x ∈ l, itOK x) : ∀ x ∈ l, x.f1.f2.length + 300 ≤ 2097200 ∧ x.f1.f2.length < 9223372036854775807 ∧ x.f0.size ≤ 140737488351232 ∧ 2 * x.f0.size + 2 ≤ 2097200 := fun x hx => by
 have h1 := (h x hx).2.2.2.1
 have h2 := hs x hx
 omega
theorem putitems_some (l : List S93) (hl : l.length ≤ 524288) (hs : ∀ x ∈ l, x.f0.size ≤ 1048576) (h : ∀ x ∈ l, itOK x) (k : Nat) (hk : 3000000 ≤ k) : codec_PutItems.f k l = some (laidP (itemsB l) (listB itY l)) := by
 have e1 := putlist_items l (by omega) h ⟨#[]⟩ (by decide) k hk
 rw [bytesOf_nil, nil_app] at e1
 unfold codec_PutItems.f
 rw [bind_of (items_some l (by omega) 2097200 (itsz hs h) k (by omega)), bind_of e1, bind_of (laid_some _ _)]
 exact congrArg some (laidP_same fun hb => itZ_right l hb)
theorem veY_size (x : S97) : (veY x).size ≤ 20 := by
 have h2 := numB_size x.f0
 have h3 := numB_size x.f1
 unfold veY
 rw [size_app]
 omega
theorem putverdicts_l0 (l : List S97) (hl : l.length ≤ 1048576) (h : ∀ x ∈ l, veOK x) (d : Nat) : ∀ (k i : Nat) (acc : ByteArray), i + d = l.length → d + 10 ≤ k → acc.size ≤ 100000000 + 20 * i →
  api_Verdict__by_codec_PutVerdicts_1.l0 k (bytesOf acc) l (l.length : Int) (i : Int) = some (bytesOf (acc ++ catB veY (l.drop i))) := by
 induction d with
 | zero =>
  intro k i acc hi hk ha
  obtain ⟨k, rfl⟩ : ∃ m, k = m + 1 := ⟨k - 1, by omega⟩
  rw [api_Verdict__by_codec_PutVerdicts_1.l0, if_neg (by omega), List.drop_of_length_le (by omega), catB_nil, app_nil]
 | succ d ih =>
  intro k i acc hi hk ha
  obtain ⟨k, rfl⟩ : ∃ m, k = m + 1 := ⟨k - 1, by omega⟩
  have hlt : i < l.length := by omega
  have hx := h _ (List.getElem_mem hlt)
  have hz := veY_size l[i]
  have e : codec_PutVerdicts_1.f k (bytesOf acc) l[i].f0 l[i].f1 = some (bytesOf (acc ++ veY l[i])) := by
   unfold codec_PutVerdicts_1.f
   rw [bind_of (number_two _ _ hx.1 hx.2 acc (by omega) k (by omega))]
   rfl
  rw [api_Verdict__by_codec_PutVerdicts_1.l0, if_pos (by omega), if_pos (by omega), if_pos (by omega), rdV_at l i hlt, bind_of e, wrap_up (by omega) (by omega), List.drop_eq_getElem_cons hlt, catB_cons, ← app_assoc]
  exact ih k (i + 1) (acc ++ veY l[i]) (by omega) (by omega) (by rw [size_app]; omega)
theorem putverdicts_some (l : List S97) (hl : l.length ≤ 1048576) (h : ∀ x ∈ l, veOK x) (k : Nat) (hk : 3000000 ≤ k) : codec_PutVerdicts.f k l = some (laidP (verdictsB l) (listB veY l)) := by
 have h1 := numB_size (l.length : Int)
 have e1 := number_one (l.length : Int) (wf_i64 _ (by omega) (by omega)) ⟨#[]⟩ (by decide) k (by omega)
 rw [bytesOf_nil, nil_app] at e1
 have e2 := putverdicts_l0 l hl h l.length k 0 (numB (l.length : Int)) (by omega) (by omega) (by omega)
 rw [List.drop_zero] at e2
 have e3 : api_Verdict__by_codec_PutVerdicts_1.f k ([] : List Int) l = some (bytesOf (listB veY l)) := by
  unfold api_Verdict__by_codec_PutVerdicts_1.f
  rw [bind_of e1]
  exact e2
 unfold codec_PutVerdicts.f
 rw [bind_of (verdicts_some l (by omega) k (by omega)), bind_of e3, bind_of (laid_some _ _)]
theorem readcmd_once (s : ByteArray) (hs : s.size ≤ 140737488351232) (a : Int) (k : Nat) (hk : 1500 ≤ k) : ∃ r, codec_ReadCmd.f k s a = some r ∧ (r.2.2.2.2.2.2.2 = 0 → cmdB r.1 r.2.1 r.2.2.1 r.2.2.2.1 r.2.2.2.2.1 r.2.2.2.2.2.1 = true ∧ 0 ≤ a ∧ a < r.2.2.2.2.2.2.1 ∧ r.2.2.2.2.2.2.1 ≤ (s.size : Int) ∧
  cmdY r.1 r.2.1 r.2.2.1 r.2.2.2.1 r.2.2.2.2.1 r.2.2.2.2.2.1 = s.extract a.toNat r.2.2.2.2.2.2.1.toNat) := by
 have f1 := rnumber_some s hs a 0 k (by omega)
 have g1 := numE_took s a 0
 generalize numE s a 0 = t1 at f1 g1
 have f2 := rnumber_some s hs t1.2.1 t1.2.2 k (by omega)
 have g2 := numE_took s t1.2.1 t1.2.2
 generalize numE s t1.2.1 t1.2.2 = t2 at f2 g2
 have f3 := rtext_some s hs t2.2.1 t2.2.2 k (by omega)
 have g3 := textE_took s hs t2.2.1 t2.2.2
 generalize textE s t2.2.1 t2.2.2 = t3 at f3 g3
 have f4 := rnumber_some s hs t3.2.1 t3.2.2 k (by omega)
 have g4 := numE_took s t3.2.1 t3.2.2
 generalize numE s t3.2.1 t3.2.2 = t4 at f4 g4
 have f5 := rints_some s hs t4.2.1 t4.2.2 k (by omega)
 have g5 := intsE_took s hs t4.2.1 t4.2.2
 have h5 := intsE_le s hs t4.2.1 t4.2.2
 generalize intsE s t4.2.1 t4.2.2 = t5 at f5 g5 h5
 have f6 := rnumber_some s hs t5.2.1 t5.2.2 k (by omega)
 have g6 := numE_took s t5.2.1 t5.2.2
 generalize numE s t5.2.1 t5.2.2 = t6 at f6 g6
 have f7 := cmd_some t1.1 t2.1 t3.1 t4.1 t5.1 t6.1 (by omega) k (by omega)
 unfold codec_ReadCmd.f
 rw [bind_of f1, bind_of f2, bind_of f3, bind_of f4, bind_of f5, bind_of f6]
 by_cases h : t6.2.2 = 0
 ·rw [if_pos h, bind_of f7]
  cases hb : cmdB t1.1 t2.1 t3.1 t4.1 t5.1 t6.1 with
  | true =>
   refine ⟨_, rfl, fun _ => ⟨hb, ?_⟩⟩
   exact ((((((g1.next g2).next g3).next g4).next g5).next g6) h).2
  | false =>
   refine ⟨_, rfl, fun h6 => ?_⟩
   have h7 : (6 : Int) = 0 := h6
   exact absurd h7 (by decide)
 ·rw [if_neg h]
  exact ⟨_, rfl, fun h6 => absurd h6 h⟩
theorem evE_small (s : ByteArray) (hs : s.size ≤ 140737488351232) (m a e : Int) : ∀ x ∈ (someE (fun a => evE s a 0) m s a e).1, x.f1.length + 1 ≤ 300 ∧ x.f1.length < 9223372036854775807 :=
 someE_all (fun x : S81 => x.f1.length + 1 ≤ 300 ∧ x.f1.length < 9223372036854775807) _ (fun a => by
  have := intsE_le s hs (numE s a 0).2.1 (numE s a 0).2.2
  show (intsE s (numE s a 0).2.1 (numE s a 0).2.2).1.length + 1 ≤ 300 ∧ (intsE s (numE s a 0).2.1 (numE s a 0).2.2).1.length < 9223372036854775807
  omega) m s a e
theorem readrecord_once (s : ByteArray) (hs : s.size ≤ 140737488351232) (a : Int) (k : Nat) (hk : 1500 ≤ k) : ∃ r, codec_ReadRecord.f k s a = some r ∧ (r.2.2.2.2.2.2 = 0 → recB r.1 r.2.1 r.2.2.1 r.2.2.2.1 r.2.2.2.2.1 = true ∧ 0 ≤ a ∧ a < r.2.2.2.2.2.1 ∧ r.2.2.2.2.2.1 ≤ (s.size : Int) ∧
  recY r.1 r.2.1 r.2.2.1 r.2.2.2.1 r.2.2.2.2.1 = s.extract a.toNat r.2.2.2.2.2.1.toNat) := by
 have f1 := rnumber_some s hs a 0 k (by omega)
 have g1 := numE_took s a 0
 generalize numE s a 0 = t1 at f1 g1
 have f2 := rnumber_some s hs t1.2.1 t1.2.2 k (by omega)
 have g2 := numE_took s t1.2.1 t1.2.2
 generalize numE s t1.2.1 t1.2.2 = t2 at f2 g2
 have f3 := rtext_some s hs t2.2.1 t2.2.2 k (by omega)
 have g3 := textE_took s hs t2.2.1 t2.2.2
 generalize textE s t2.2.1 t2.2.2 = t3 at f3 g3
 have f4 := rnumber_some s hs t3.2.1 t3.2.2 k (by omega)
 have g4 := numE_took s t3.2.1 t3.2.2
 generalize numE s t3.2.1 t3.2.2 = t4 at f4 g4
 have f5 : api_Event__by_codec_oneEvent.f k s t4.2.1 t4.2.2 3 = _ := sevents_some s hs 3 (by omega) t4.2.1 t4.2.2 k hk
 have g5 := someE_took s (fun a => evE s a 0) evY (fun a => evE_took s hs a 0) 3 t4.2.1 t4.2.2
 have h5 := evE_small s hs 3 t4.2.1 t4.2.2
 have l5 : (someE (fun a => evE s a 0) 3 s t4.2.1 t4.2.2).1.length ≤ 3 := someE_len (fun a => evE s a 0) 3 s t4.2.1 t4.2.2
 change _ = some ((someE (fun a => evE s a 0) 3 s t4.2.1 t4.2.2).1, s, (someE (fun a => evE s a 0) 3 s t4.2.1 t4.2.2).2.1, (someE (fun a => evE s a 0) 3 s t4.2.1 t4.2.2).2.2) at f5
 generalize someE (fun a => evE s a 0) 3 s t4.2.1 t4.2.2 = t5 at f5 g5 h5 l5
 have f7 := record_some t1.1 t2.1 t3.1 t4.1 t5.1 (by omega) 300 h5 k (by omega)
 unfold codec_ReadRecord.f
 rw [bind_of f1, bind_of f2, bind_of f3, bind_of f4, bind_of f5]
 by_cases h : t5.2.2 = 0
 ·rw [if_pos h, bind_of f7]
  cases hb : recB t1.1 t2.1 t3.1 t4.1 t5.1 with
  | true =>
   refine ⟨_, rfl, fun _ => ⟨hb, ?_⟩⟩
   exact (((((g1.next g2).next g3).next g4).next g5) h).2
  | false =>
   refine ⟨_, rfl, fun h6 => ?_⟩
   have h7 : (6 : Int) = 0 := h6
   exact absurd h7 (by decide)
 ·rw [if_neg h]
  exact ⟨_, rfl, fun h6 => absurd h6 h⟩
theorem itE_small (s : ByteArray) (hs : s.size ≤ 140737488351232) (m a e : Int) : ∀ x ∈ (someE (fun a => itE s a 0) m s a e).1, x.f1.f2.length + 300 ≤ 9000 ∧ x.f1.f2.length < 9223372036854775807 ∧ x.f0.size ≤ 140737488351232 ∧ 2 * x.f0.size + 2 ≤ 9000 :=
 someE_all (fun x : S93 => x.f1.f2.length + 300 ≤ 9000 ∧ x.f1.f2.length < 9223372036854775807 ∧ x.f0.size ≤ 140737488351232 ∧ 2 * x.f0.size + 2 ≤ 9000) _ (fun a => by
  have h1 : (itE s a 0).1.f0.size ≤ 4096 := textE_le s hs a 0
  have h2 : (itE s a 0).1.f1.f2.length ≤ 256 := intsE_le s hs _ _
  show (itE s a 0).1.f1.f2.length + 300 ≤ 9000 ∧ (itE s a 0).1.f1.f2.length < 9223372036854775807 ∧ (itE s a 0).1.f0.size ≤ 140737488351232 ∧ 2 * (itE s a 0).1.f0.size + 2 ≤ 9000
  omega) m s a e
theorem readitems_once (s : ByteArray) (hs : s.size ≤ 140737488351232) (a : Int) (k : Nat) (hk : 15000 ≤ k) : ∃ r, codec_ReadItems.f k s a = some r ∧ (r.2.2 = 0 → itemsB r.1 = true ∧ 0 ≤ a ∧ a < r.2.1 ∧ r.2.1 ≤ (s.size : Int) ∧
  listB itY r.1 = s.extract a.toNat r.2.1.toNat) := by
 have f5 : api_Item__by_codec_ReadItems_1.f k s a 0 64 = _ := sitems_some s hs 64 (by omega) a 0 k (by omega)
 have g5 := someE_took s (fun a => itE s a 0) itY (fun a => itE_took s hs a 0) 64 a 0
 have h5 := itE_small s hs 64 a 0
 have l5 : (someE (fun a => itE s a 0) 64 s a 0).1.length ≤ 64 := someE_len (fun a => itE s a 0) 64 s a 0
 change _ = some ((someE (fun a => itE s a 0) 64 s a 0).1, s, (someE (fun a => itE s a 0) 64 s a 0).2.1, (someE (fun a => itE s a 0) 64 s a 0).2.2) at f5
 generalize someE (fun a => itE s a 0) 64 s a 0 = t5 at f5 g5 h5 l5
 have f7 := items_some t5.1 (by omega) 9000 h5 k (by omega)
 unfold codec_ReadItems.f
 rw [bind_of f5]
 by_cases h : t5.2.2 = 0
 ·rw [if_pos h, bind_of f7]
  cases hb : itemsB t5.1 with
  | true =>
   refine ⟨_, rfl, fun _ => ⟨hb, ?_⟩⟩
   exact (g5 h).2
  | false =>
   refine ⟨_, rfl, fun h6 => ?_⟩
   have h7 : (6 : Int) = 0 := h6
   exact absurd h7 (by decide)
 ·rw [if_neg h]
  exact ⟨_, rfl, fun h6 => absurd h6 h⟩
theorem readverdicts_once (s : ByteArray) (hs : s.size ≤ 140737488351232) (a : Int) (k : Nat) (hk : 1500 ≤ k) : ∃ r, codec_ReadVerdicts.f k s a = some r ∧ (r.2.2 = 0 → verdictsB r.1 = true ∧ 0 ≤ a ∧ a < r.2.1 ∧ r.2.1 ≤ (s.size : Int) ∧
  listB veY r.1 = s.extract a.toNat r.2.1.toNat) ∧ (r.2.2 ≠ 0 → r.2.1 = 0 ∧ r.1 = []) := by
 have f5 : api_Verdict__by_codec_ReadVerdicts_1.f k s a 0 32 = _ := sverdicts_some s hs 32 (by omega) a 0 k (by omega)
 have g5 := someE_took s (fun a => veE s a 0) veY (fun a => veE_took s a 0) 32 a 0
 have l5 : (someE (fun a => veE s a 0) 32 s a 0).1.length ≤ 32 := someE_len (fun a => veE s a 0) 32 s a 0
 change _ = some ((someE (fun a => veE s a 0) 32 s a 0).1, s, (someE (fun a => veE s a 0) 32 s a 0).2.1, (someE (fun a => veE s a 0) 32 s a 0).2.2) at f5
 generalize someE (fun a => veE s a 0) 32 s a 0 = t5 at f5 g5 l5
 have f7 := verdicts_some t5.1 (by omega) k (by omega)
 unfold codec_ReadVerdicts.f
 rw [bind_of f5]
 by_cases h : t5.2.2 = 0
 ·rw [if_pos h, bind_of f7]
  cases hb : verdictsB t5.1 with
  | true =>
   refine ⟨_, rfl, fun _ => ⟨hb, ?_⟩, fun h6 => absurd rfl h6⟩
   exact (g5 h).2
  | false =>
   refine ⟨_, rfl, fun h6 => ?_, fun _ => ⟨rfl, rfl⟩⟩
   have h7 : (6 : Int) = 0 := h6
   exact absurd h7 (by decide)
 ·rw [if_neg h]
  exact ⟨_, rfl, fun h6 => absurd h6 h, fun _ => ⟨rfl, rfl⟩⟩
theorem awake10_true (k : Nat) (hk : 60 ≤ k) : surmiselaw10_awake.f k = some true := by
 have h : surmiselaw10_awake.f 60 = some true := by decide +kernel
 exact at_rounds (fun k => surmiselaw10_awake.mono k) hk h
end Go.Proofs.Ytbfehjncllkogaa.Q
namespace Go.Proofs.Ytbfehjncllkogaa.Pure
open Go.RowKit Go.Proofs.Ytbfehjncllkogaa.Q Go.Proofs.YtbfehjncllkogaaW.PrintWords Go.Proofs.YtbfehjncllkogaaW.PrintLast
theorem laid_true {b : Bool} (h : b = true) (y : ByteArray) : laidP b y = (y, 0) := by rw [h]; rfl
theorem once_j3 (s : ByteArray) (hs : s.size ≤ 140737488351232) (a : Int) (k : Nat) (hk : 3000000 ≤ k) : surmiselaw10_CodecOnce.j3 (k + 1) s a = some true := by
 obtain ⟨r, e, h1, h2⟩ := readverdicts_once s hs a k (by omega)
 rw [surmiselaw10_CodecOnce.j3, bind_of e]
 by_cases h : r.2.2 = 0
 ·obtain ⟨hb, g1, g2, g3, g4⟩ := h1 h
  have hw := verdicts_wf hb
  rw [if_pos h, bind_of (putverdicts_some r.1 (by omega) hw.2 k hk), laid_true hb, if_pos rfl, if_pos g1, if_pos (by omega), if_pos g3, g4, beq_self_eq_true]
 ·obtain ⟨g1, g2⟩ := h2 h
  rw [if_neg h, if_pos g1, g2]
  rfl
theorem once_j2 (s : ByteArray) (hs : s.size ≤ 140737488351232) (a : Int) (k : Nat) (hk : 3000000 ≤ k) : surmiselaw10_CodecOnce.j2 (k + 2) s a = some true := by
 obtain ⟨r, e, h1⟩ := readitems_once s hs a (k + 1) (by omega)
 rw [surmiselaw10_CodecOnce.j2, bind_of e]
 by_cases h : r.2.2 = 0
 ·obtain ⟨hb, g1, g2, g3, g4⟩ := h1 h
  have hw := items_wf hb
  rw [if_pos h, bind_of (putitems_some r.1 (by omega) (fun x hx => by have := (hw.2 x hx).2.1; omega) (fun x hx => (hw.2 x hx).1) (k + 1) (by omega)), laid_true hb, if_pos rfl, if_pos g1, if_pos (by omega), if_pos g3, g4, if_pos rfl, once_j3 s hs a k hk]
 ·rw [if_neg h, once_j3 s hs a k hk]
theorem once_j1 (s : ByteArray) (hs : s.size ≤ 140737488351232) (a : Int) (k : Nat) (hk : 3000000 ≤ k) : surmiselaw10_CodecOnce.j1 (k + 3) s a = some true := by
 obtain ⟨r, e, h1⟩ := readrecord_once s hs a (k + 2) (by omega)
 rw [surmiselaw10_CodecOnce.j1, bind_of e]
 by_cases h : r.2.2.2.2.2.2 = 0
 ·obtain ⟨hb, g1, g2, g3, g4⟩ := h1 h
  obtain ⟨w1, w2, w3, w4, w5, w6⟩ := rec_wf hb
  rw [if_pos h, bind_of (putrecord_some _ _ _ _ _ w1 w2 (by omega) w4 (by omega) (fun x hx => (w6 x hx).1) (k + 2) (by omega)), laid_true hb, if_pos rfl, if_pos g1, if_pos (by omega), if_pos g3, g4, if_pos rfl, once_j2 s hs a k hk]
 ·rw [if_neg h, once_j2 s hs a k hk]
theorem CodecOnce : surmiselaw10_CodecOnce.Pure := by
 intro s a hs ha
 obtain ⟨k, hk⟩ : ∃ k, k = 3000000 := ⟨_, rfl⟩
 refine ⟨k + 4, ?_⟩
 unfold surmiselaw10_CodecOnce.f
 rw [bind_of (awake10_true (k + 4) (by omega)), if_pos rfl]
 have hbad : surmiselaw10_CodecOnce.j0 (k + 4) s a true = some true := by
  rw [surmiselaw10_CodecOnce.j0, if_pos rfl, bind_of (awake10_true (k + 3) (by omega))]
 have hok : surmiselaw10_CodecOnce.j0 (k + 4) s a false = some true := by
  obtain ⟨r, e, h1⟩ := readcmd_once s hs a (k + 3) (by omega)
  rw [surmiselaw10_CodecOnce.j0, if_neg (by decide), bind_of e]
  by_cases h : r.2.2.2.2.2.2.2 = 0
  ·obtain ⟨hb, g1, g2, g3, g4⟩ := h1 h
   obtain ⟨w1, w2, w3, w4, w5, w6, w7⟩ := cmd_wf hb
   rw [if_pos h, bind_of (putcmd_some _ _ _ _ _ _ w1 w2 (by omega) w4 w5 w7 (k + 3) (by omega)), laid_true hb, if_pos rfl, if_pos g1, if_pos (by omega), if_pos g3, g4, if_pos rfl, once_j1 s hs a k (by omega)]
  ·rw [if_neg h, once_j1 s hs a k (by omega)]
 by_cases h0 : a < 0
 ·rw [if_pos h0, hbad]
 ·rw [if_neg h0]
  cases decide (a > (s.size : Int)) with
  | true => exact hbad
  | false => exact hok
end Go.Proofs.Ytbfehjncllkogaa.Pure
