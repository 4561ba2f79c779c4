/- Texts of this session laid together (shrink.py): what the claim's law rests on. -/
import Derived.Below
import Derived.Deep.Draws
import Derived.Deep.AppendLies
import Derived.Maps.AppendAt
import Derived.OwnWalk
import Derived.Laws.BytesArg
import Derived.Laws.MakeOwn
import Derived.Laws.OwnMore
import Derived.Deep.OwnRows
import Derived.Tactics
import Derived.Lib.ConvBytes
import Derived.Laws.Slices
import Derived.WalkKit
import Derived.KernelRfl
import Derived.RowKit3
import Derived.Deep.LoopGhost
import Derived.Deep.QuietTactic
import Derived.BigQuiet
import Derived.WideLaws
import Derived.Deep.DeepCutAuto
import Derived.Deep.CutBlock
import Derived.Deep.RegionHeld3
import Derived.Laws.Rows
import Derived.Lib.AppendStr
import Derived.ArgAppend
import Derived.Laws.IdiomCopy
import Derived.RowKit
import Derived.OrdersHeld
import Derived.Laws.BitsLemmas
import Derived.Laws.StructEq
import Derived.Test.YtepipnpfggnadaaGreatProg
import Derived.WalkMore
import Derived.Lib.Strings
import Derived.ChangeArms
import Derived.Deep.Slices
import Derived.SizedLaws
import Derived.Test.YtepipnpfggnadaaGreatRows
import Derived.Test.YtepipnpfggnadaaGreatTFramesBackf
set_option linter.unusedVariables false
set_option linter.unusedSimpArgs false
set_option maxRecDepth 100000
set_option maxHeartbeats 8000000
open List renaming setIfInBounds_toArray → zdF
open List renaming set_cons_zero → zdG
open List renaming set_cons_succ → zdH
open List renaming map_toArray → zdI
open Option renaming bind_eq_some_iff → zdJ
open Go.World renaming block_lt_of_cell? → zdK
open Bool renaming eq_false_iff → zdL
open List renaming length_append → zdM
namespace Go.Proofs.YtepipnpfggnadaaGreat.Q
open Go.RowKit Go.Proofs.YtepipnpfggnadaaGreatW.PrintWords Go.Proofs.YtepipnpfggnadaaGreatW.PrintLast Go.Proofs.YtepipnpfggnadaaGreatW.PrintMore Go.Proofs.YtepipnpfggnadaaGreat.Crc
def Jt (s : ByteArray) (p q : Int) : Prop := q = 0 → 0 ≤ p ∧ p ≤ (s.size : Int)
def yV (s : ByteArray) (p q p' q' : Int) (b : ByteArray) : Prop := q' = 0 → q = 0 ∧ 0 ≤ p ∧ p ≤ p' ∧ p' ≤ (s.size : Int) ∧ s.extract p.toNat p'.toNat = b
section
variable {s : ByteArray} {p q p1 q1 p2 q2 : Int} {b c : ByteArray}
theorem yV.then (h : yV s p q p1 q1 b) (k : yV s p1 q1 p2 q2 c) : yV s p q p2 q2 (b ++ c) := fun e => by
 obtain ⟨e1, k1, k2, k3, k4⟩ := k e
 obtain ⟨e0, h1, h2, h3, h4⟩ := h e1
 exact ⟨e0, h1, by omega, k3, by rw [← h4, ← k4, Yp s _ _ _ (by omega) (by omega) (by omega)]⟩
theorem yV.fine (h : yV s p q p1 q1 b) : Jt s p1 q1 := fun e => by
 obtain ⟨_, h1, h2, h3, _⟩ := h e
 exact ⟨by omega, h3⟩
theorem yV.nil (h : Jt s p q) : yV s p q p q ⟨#[]⟩ := fun e => ⟨e, (h e).1, Int.le_refl _, (h e).2, qo (by rw [yK, List.drop_eq_nil_of_le (by rw [List.length_take]; omega)]; rfl)⟩
theorem yV.bad (h : q1 ≠ 0) : yV s p q p1 q1 b := fun e => absurd e h
theorem yV.eq (h : yV s p q p1 q1 b) (e : q1 = 0 → b = c) : yV s p q p1 q1 c := fun k => e k ▸ h k
end
section
variable {s : ByteArray} (hs : s.size ≤ 140737488351232)
include hs
theorem yO (p q : Int) : ∃ v p' q', xp s p q v p' q' ∧ wfI v ∧ yV s p q p' q' (zW v) := by
 by_cases h : q = 0
 ·refine ⟨_, _, _, .inr ⟨h, 40, vQ s hs p 40 (Nat.le_refl _)⟩, J4 p, fun e => ?_⟩
  obtain ⟨⟨h1, h2, h3⟩, h4⟩ := YD s p e
  exact ⟨h, h1, Int.le_of_lt h2, h3, h4.symm⟩
 ·exact ⟨_, _, _, .inl ⟨h, rfl, rfl, rfl⟩, rfl, .bad h⟩
theorem YB (p q : Int) : ∃ v p' q', jA s p q v p' q' ∧ v.size ≤ 4096 ∧ yV s p q p' q' (qE v) := by
 by_cases h : q = 0
 ·refine ⟨_, _, _, .inr ⟨h, 50, YI s hs p 50 (Nat.le_refl _)⟩, J5 hs p, fun e => ?_⟩
  obtain ⟨⟨h1, h2, h3⟩, h4⟩ := VS s hs p e
  rw [q7 _ (J5 hs p)] at h4
  exact ⟨h, h1, Int.le_of_lt h2, h3, (Prod.mk.inj h4).1.symm⟩
 ·exact ⟨_, _, _, .inl ⟨h, rfl, rfl, rfl⟩, Nat.zero_le _, .bad h⟩
theorem XM (p q : Int) : ∃ v p' q', Xn s p q v p' q' ∧ vV v ∧ yV s p q p' q' (yh zW v) := by
 by_cases h : q = 0
 ·have hl := QY (yo s) s hs p
  refine ⟨_, _, _, .inr ⟨h, 400, YG s hs p 400 (Nat.le_refl _)⟩, ⟨Nat.le_trans hl (by decide), zaK _ _ (fun a _ => J4 a) s p⟩, fun e => ?_⟩
  obtain ⟨⟨h1, h2, h3⟩, h4⟩ := JG s hs p e
  rw [qI _ hl] at h4
  exact ⟨h, h1, Int.le_of_lt h2, h3, (Prod.mk.inj h4).1.symm⟩
 ·exact ⟨_, _, _, .inl ⟨h, rfl, rfl, rfl⟩, ⟨Nat.zero_le _, by simp⟩, .bad h⟩
theorem zdw (p q : Int) : ∃ x p' q', rEv s p q x p' q' ∧ ZB x ∧ yV s p q p' q' (evY x) := by
 obtain ⟨a, p1, q1, h1, g1, o1⟩ := yO hs p q
 obtain ⟨l, p2, q2, h2, g2, o2⟩ := XM hs p1 q1
 exact ⟨⟨a, l⟩, _, _, ⟨_, _, h1, h2⟩, ⟨g1, g2⟩, o1.then o2⟩
theorem zc1 (p q : Int) : ∃ x p' q', QO s p q x p' q' ∧ YT x ∧ yV s p q p' q' (veY x) := by
 obtain ⟨a, p1, q1, h1, g1, o1⟩ := yO hs p q
 obtain ⟨l, p2, q2, h2, g2, o2⟩ := yO hs p1 q1
 exact ⟨⟨a, l⟩, _, _, ⟨_, _, h1, h2⟩, ⟨g1, g2⟩, o1.then o2⟩
theorem zdn (p q : Int) : ∃ x p' q', rIt s p q x p' q' ∧ (x.f0.size ≤ 1048576 ∧ Z1 x) ∧ yV s p q p' q' (itY x) := by
 obtain ⟨t, p1, q1, h1, g1, o1⟩ := YB hs p q
 obtain ⟨a, p2, q2, h2, g2, o2⟩ := yO hs p1 q1
 obtain ⟨b, p3, q3, h3, g3, o3⟩ := yO hs p2 q2
 obtain ⟨l, p4, q4, h4, g4, o4⟩ := XM hs p3 q3
 exact ⟨⟨t, ⟨a, b, l⟩⟩, _, _, ⟨_, _, _, _, _, _, h1, h2, h3, h4⟩, ⟨by show t.size ≤ _; omega, by show t.size ≤ _; omega, g2, g3, g4⟩, ((o1.then o2).then o3).then o4⟩
omit hs in
theorem JU {α : Type} {one : Int → Int → α → Int → Int → Prop} {Q : α → Prop} {B : α → ByteArray} (h : ∀ p q, ∃ x p' q', one p q x p' q' ∧ Q x ∧ yV s p q p' q' (B x)) : ∀ (m : Nat) (n p q : Int), n ≤ m → Jt s p q → ∃ xs p' q', ZL one xs n p q p' q' ∧ xs.length ≤ m ∧ (∀ x ∈ xs, Q x) ∧ yV s p q p' q' (ql B xs) ∧ (q' = 0 → 0 ≤ n → (xs.length : Int) = n)
 | 0, n, p, q, hn, hf => ⟨[], p, q, ⟨fun hz => by omega, rfl, rfl⟩, Nat.le_refl _, by simp, .nil hf, fun _ h0 => by simp; omega⟩
 | m + 1, n, p, q, hn, hf => by
  by_cases hz : 0 < n ∧ q = 0
  ·obtain ⟨x, p1, q1, h1, g1, o1⟩ := h p q
   obtain ⟨xs, p2, q2, h2, h3, h4, o2, h5⟩ := JU h m (n - 1) p1 q1 (by omega) o1.fine
   exact ⟨x :: xs, p2, q2, ⟨hz.1, hz.2, p1, q1, h1, h2⟩, by simpa using h3, by simpa using ⟨g1, h4⟩, o1.then o2, fun e h0 => by have := h5 e (by omega); rw [List.length_cons]; omega⟩
  ·exact ⟨[], p, q, ⟨hz, rfl, rfl⟩, Nat.zero_le _, by simp, .nil hf, fun e h0 => by
    have : ¬ 0 < n := fun h => hz ⟨h, e⟩
    simp; omega⟩
theorem zbN {α : Type} {one : ByteArray → Int → Int → α → Int → Int → Prop} {Q : α → Prop} {B : α → ByteArray} (h : ∀ p q, ∃ x p' q', one s p q x p' q' ∧ Q x ∧ yV s p q p' q' (B x)) (p q : Int) (m : Nat) : ∃ xs p' q', Ym one s p q m xs p' q' ∧ xs.length ≤ m ∧ (∀ x ∈ xs, Q x) ∧ yV s p q p' q' (yh B xs) := by
 obtain ⟨n, p1, q0, h1, _, o1⟩ := yO hs p q
 by_cases c : q0 = 0
 ·subst c
  cases hw : wiB n 0 m with
  | false => exact ⟨[], p1, 6, ⟨n, p1, 0, 6, h1, .inr (.inl ⟨rfl, hw, rfl⟩), ⟨fun hz => absurd hz.2 (by decide), rfl, rfl⟩⟩, Nat.zero_le _, by simp, .bad (by decide)⟩
  | true =>
   have hn := of_decide_eq_true hw
   obtain ⟨xs, p2, q2, h2, h3, h4, o2, h5⟩ := JU (s := s) (one := one s) h m n p1 0 hn.2 o1.fine
   exact ⟨xs, p2, q2, ⟨n, p1, 0, 0, h1, .inr (.inr ⟨rfl, hw, rfl⟩), h2⟩, h3, h4, (o1.then o2).eq fun e => by rw [yh, h5 e hn.1]⟩
 ·exact ⟨[], p1, q0, ⟨n, p1, q0, q0, h1, .inl ⟨c, rfl⟩, ⟨fun hz => c hz.2, rfl, rfl⟩⟩, Nat.zero_le _, by simp, .bad c⟩
omit hs in
theorem Vt {α : Type} (z x : α) (b : Bool) (p q : Int) : ∃ y n e, YQ z x b p q y n e ∧ ((e ≠ 0 ∧ y = z) ∨ (e = 0 ∧ q = 0 ∧ n = p ∧ b = true ∧ y = x)) := by
 by_cases h : q = 0
 ·cases b with
  | false => exact ⟨z, 0, 6, .inr (.inl ⟨h, rfl, rfl, rfl, rfl⟩), .inl ⟨by decide, rfl⟩⟩
  | true => exact ⟨x, p, 0, .inr (.inr ⟨h, rfl, rfl, rfl, rfl⟩), .inr ⟨rfl, h, rfl, rfl, rfl⟩⟩
 ·exact ⟨z, 0, q, .inl ⟨h, rfl, rfl, rfl⟩, .inl ⟨h, rfl⟩⟩
theorem YC {α : Type} {one : ByteArray → Int → Int → α → Int → Int → Prop} {Q : α → Prop} {B : α → ByteArray} {ok : List α → Bool → Prop} (h : ∀ p q, ∃ x p' q', one s p q x p' q' ∧ Q x ∧ yV s p q p' q' (B x)) (m : Nat) (hm : m ≤ 1024) (V : List α → Bool) (hok : ∀ l, l.length ≤ 1024 → (∀ x ∈ l, Q x) → ok l (V l)) (p : Int) : ∃ ys n e, Xi one m ok s p ys n e ∧ (ys.length ≤ 1024 ∧ ∀ x ∈ ys, Q x) ∧ yV s p 0 n e (yh B ys) := by
 obtain ⟨xs, p1, q1, h1, h2, h3, o1⟩ := zbN hs h p 0 m
 obtain ⟨y, n, e, h4, h5⟩ := Vt [] xs (V xs) p1 q1
 refine ⟨y, n, e, ⟨xs, p1, q1, _, h1, hok xs (by omega) h3, h4⟩, ?_⟩
 rcases h5 with ⟨c, rfl⟩ | ⟨rfl, rfl, rfl, _, rfl⟩
 ·exact ⟨⟨Nat.zero_le _, by simp⟩, .bad c⟩
 ·exact ⟨⟨by omega, h3⟩, o1⟩
omit hs in
theorem Y8 {α : Type} {z : α} {f : ByteArray → Int → α → Int → Int → Prop} {Q : α → Prop} {B : α → ByteArray} (hz : Q z) (h : ∀ p, ∃ v p' q', f s p v p' q' ∧ Q v ∧ yV s p 0 p' q' (B v)) (p q : Int) : ∃ v p' q', beh z f s p q v p' q' ∧ Q v ∧ yV s p q p' q' (B v) := by
 by_cases c : q = 0
 ·obtain ⟨v, p', q', h1, h2, h3⟩ := h p
  subst c
  exact ⟨v, p', q', .inr ⟨rfl, h1⟩, h2, h3⟩
 ·exact ⟨z, p, q, .inl ⟨c, rfl, rfl, rfl⟩, hz, .bad c⟩
theorem za5 (p q : Int) : ∃ v p' q', YW s p q v p' q' ∧ (v.length ≤ 1024 ∧ ∀ x ∈ v, x.f0.size ≤ 1048576 ∧ Z1 x) ∧ yV s p q p' q' (yh itY v) :=
 Y8 (Q := fun v : List S86 => v.length ≤ 1024 ∧ ∀ x ∈ v, x.f0.size ≤ 1048576 ∧ Z1 x) (by simp) (fun p => YC hs (zdn hs) 64 (by decide) qr (fun l _ _ => rfl) p) p q
theorem JK (p q : Int) : ∃ v p' q', vZ s p q v p' q' ∧ (v.length ≤ 1024 ∧ ∀ x ∈ v, YT x) ∧ yV s p q p' q' (yh veY v) :=
 Y8 (Q := fun v : List S77 => v.length ≤ 1024 ∧ ∀ x ∈ v, YT x) (by simp) (fun p => YC hs (zc1 hs) 32 (by decide) xu (fun l _ _ => rfl) p) p q
theorem VJ (p q : Int) : ∃ v p' q', Yf s p q v p' q' ∧ (v.length ≤ 1024 ∧ ∀ x ∈ v, ZB x) ∧ yV s p q p' q' (yh evY v) :=
 Y8 (Q := fun v : List S108 => v.length ≤ 1024 ∧ ∀ x ∈ v, ZB x) (by simp) (fun p => YC hs (zdw hs) 3 (by decide) Zd (fun l hl h => ⟨_, ZZ l (by omega) 1048577 (fun x hx => by have := (h x hx).2.1; omega) (l.length + (1048577 + 1)) (Nat.le_refl _)⟩) p) p q
theorem V9 (p q : Int) : ∃ v p' q', Yj s p q v p' q' ∧ (v.length ≤ 1024 ∧ ∀ x ∈ v, x.size ≤ 4096) ∧ yV s p q p' q' (yh qE v) :=
 Y8 (Q := fun v : List ByteArray => v.length ≤ 1024 ∧ ∀ x ∈ v, x.size ≤ 4096) (by simp) (fun p => YC hs (YB hs) 8 (by decide) Xc (fun l hl h => by
  obtain ⟨r, e, e2⟩ := Zg l (by omega) (l.length + 301) (Nat.le_refl _)
  exact ⟨l.length + 301, by unfold xt.f; rw [zD e, e2]⟩) p) p q
theorem zcY (p q : Int) : ∃ v p' q', Qt s p q v p' q' ∧ Ys v ∧ yV s p q p' q' (vy v) := by
 refine Y8 (Q := Ys) ⟨rfl, rfl, Nat.zero_le _, rfl, ⟨Nat.zero_le _, by simp [z52]⟩, rfl⟩ (fun p => ?_) p q
 obtain ⟨v0, p1, q1, h1, g1, o1⟩ := yO hs p 0
 obtain ⟨v1, p2, q2, h2, g2, o2⟩ := yO hs p1 q1
 obtain ⟨v2, p3, q3, h3, g3, o3⟩ := YB hs p2 q2
 obtain ⟨v3, p4, q4, h4, g4, o4⟩ := yO hs p3 q3
 obtain ⟨v4, p5, q5, h5, g5, o5⟩ := XM hs p4 q4
 obtain ⟨v5, p6, q6, h6, g6, o6⟩ := yO hs p5 q5
 obtain ⟨y, n, e, h7, h8⟩ := Vt z52 ⟨v0, v1, v2, v3, v4, v5⟩ (qU v0 v1 v2 v3 v4 v5) p6 q6
 refine ⟨y, n, e, ⟨⟨v0, v1, v2, v3, v4, v5⟩, _, _, _, _, _, _, _, _, _, _, _, _, h1, h2, h3, h4, h5, h6, h7⟩, ?_⟩
 rcases h8 with ⟨c, rfl⟩ | ⟨rfl, rfl, rfl, _, rfl⟩
 ·exact ⟨⟨rfl, rfl, Nat.zero_le _, rfl, ⟨Nat.zero_le _, by simp [z52]⟩, rfl⟩, .bad c⟩
 ·exact ⟨⟨g1, g2, by show v2.size ≤ _; omega, g4, g5, g6⟩, ((((o1.then o2).then o3).then o4).then o5).then o6⟩
theorem Jq (p q : Int) (m : Nat) : ∃ (n : Nat) (p' q' : Int), ZS s p q m (n : Int) p' q' ∧ n ≤ m ∧ yV s p q p' q' (zW (n : Int)) := by
 obtain ⟨n, p1, q1, h1, _, o1⟩ := yO hs p q
 by_cases c : q1 = 0
 ·subst c
  cases hw : inB n 0 m with
  | false => exact ⟨0, p1, 6, ⟨n, 0, h1, .inr (.inl ⟨rfl, hw, rfl, rfl⟩)⟩, Nat.zero_le _, .bad (by decide)⟩
  | true =>
   have h2 := Bool.and_eq_true_iff.1 hw
   have h3 := of_decide_eq_true h2.1
   have h4 := of_decide_eq_true h2.2
   have h5 : (n.toNat : Int) = n := by omega
   exact ⟨n.toNat, p1, 0, ⟨n, 0, h1, .inl ⟨rfl, hw, h5, rfl⟩⟩, by omega, by rw [h5]; exact o1⟩
 ·exact ⟨0, p1, q1, ⟨n, q1, h1, .inr (.inr ⟨c, rfl, rfl⟩)⟩, Nat.zero_le _, .bad c⟩
theorem J6 : ∀ (n : Nat) (p q : Int), Jt s p q → ∃ l p' q', jR s n p q l p' q' ∧ (l.length ≤ n ∧ ∀ x ∈ l, Ys x) ∧ yV s p q p' q' (ql vy l) ∧ (q' = 0 → l.length = n)
 | 0, p, q, hf => ⟨[], p, q, .done, ⟨Nat.le_refl _, by simp⟩, .nil hf, fun _ => rfl⟩
 | n + 1, p, q, hf => by
  by_cases c : q = 0
  ·subst c
   obtain ⟨x, p1, q1, h1, g1, o1⟩ := zcY hs p 0
   obtain ⟨l, p2, q2, h2, ⟨h3, h4⟩, o2, h5⟩ := J6 n p1 q1 o1.fine
   exact ⟨x :: l, p2, q2, .step h1 h2, ⟨by simpa using h3, by simpa using ⟨g1, h4⟩⟩, o1.then o2, fun e => by rw [List.length_cons, h5 e]⟩
  ·exact ⟨[], p, q, .stop c, ⟨Nat.zero_le _, by simp⟩, .bad c, fun e => absurd e c⟩
theorem zaB (p q : Int) : ∃ x p' q', X4 s p q x p' q' ∧ ZM x ∧ yV s p q p' q' (vA x) := by
 obtain ⟨v0, p1, q1, h1, g1, o1⟩ := yO hs p q
 obtain ⟨v1, p2, q2, h2, g2, o2⟩ := YB hs p1 q1
 obtain ⟨v2, p3, q3, h3, g3, o3⟩ := VJ hs p2 q2
 obtain ⟨v3, p4, q4, h4, g4, o4⟩ := yO hs p3 q3
 obtain ⟨v4, p5, q5, h5, g5, o5⟩ := yO hs p4 q4
 exact ⟨⟨v0, v1, v2, v3, v4⟩, _, _, ⟨_, _, _, _, _, _, _, _, _, _, _, _, _, h1, h2, h3, h4, h5, rfl⟩, ⟨g1, by show v1.size ≤ _; omega, ⟨by show v2.length ≤ _; omega, g3.2⟩, g4, g5⟩, ((o1.then o2).then o3).then (o4.then o5)⟩
theorem Xt : ∀ (n : Nat) (p q : Int), Jt s p q → ∃ l p' q', qg s n p q l p' q' ∧ (l.length ≤ n ∧ ∀ x ∈ l, ZM x) ∧ yV s p q p' q' (ql vA l) ∧ (q' = 0 → l.length = n)
 | 0, p, q, hf => ⟨[], p, q, .done, ⟨Nat.le_refl _, by simp⟩, .nil hf, fun _ => rfl⟩
 | n + 1, p, q, hf => by
  by_cases c : q = 0
  ·subst c
   obtain ⟨x, p1, q1, h1, g1, o1⟩ := zaB hs p 0
   obtain ⟨l, p2, q2, h2, ⟨h3, h4⟩, o2, h5⟩ := Xt n p1 q1 o1.fine
   exact ⟨x :: l, p2, q2, .step h1 h2, ⟨by simpa using h3, by simpa using ⟨g1, h4⟩⟩, o1.then o2, fun e => by rw [List.length_cons, h5 e]⟩
  ·exact ⟨[], p, q, .stop c, ⟨Nat.zero_le _, by simp⟩, .bad c, fun e => absurd e c⟩
omit hs in
theorem XB (a b c : Int) : xv [a, b, c] = (zW a ++ zW b) ++ zW c := by
 unfold xv
 rw [yE, yE, yE, qw, qJ, yJ]
theorem zbG (p q : Int) {a0 a1 a2 : Int} (h0 : wfI a0) (h1 : wfI a1) (h2 : wfI a2) : ∃ y p' q', ZW s p q a0 a1 a2 y p' q' ∧ FmB y ∧ (y.f0 = a0 ∧ y.f1 = a1 ∧ y.f2 = a2) ∧ yV s p q p' q' (xg y) := by
 have hw0 : wfI 0 := rfl
 unfold ZW
 by_cases c1 : a0 = 1
 ·simp only [if_pos c1]
  obtain ⟨v1, p1, q1, e1, g1, o1⟩ := yO hs p q
  obtain ⟨v2, p2, q2, e2, g2, o2⟩ := yO hs p1 q1
  obtain ⟨l, p3, q3, e3, g3, o3⟩ := V9 hs p2 q2
  exact ⟨_, _, _, ⟨_, _, _, _, _, _, _, e1, e2, e3, rfl⟩, ⟨h0, h1, h2, g1, g2, ⟨by show l.length ≤ _; omega, fun y hy => by have := g3.2 y hy; omega⟩, by simp, by simp, by simp, by simp⟩, ⟨rfl, rfl, rfl⟩, ((o1.then o2).then o3).eq fun _ => by rw [xg, if_pos c1, ZV]⟩
 simp only [if_neg c1]
 by_cases c2 : a0 = 2
 ·simp only [if_pos c2]
  obtain ⟨n, p1, q1, e1, g1, o1⟩ := Jq hs p q 8
  obtain ⟨l, p2, q2, e2, ⟨g2, g3⟩, o2, g4⟩ := J6 hs n p1 q1 o1.fine
  exact ⟨_, _, _, ⟨_, _, _, _, e1, e2, rfl⟩, ⟨h0, h1, h2, hw0, hw0, by simp, ⟨by show l.length ≤ _; omega, g3⟩, by simp, by simp, by simp⟩, ⟨rfl, rfl, rfl⟩, (o1.then o2).eq fun e => by rw [xg, if_neg c1, if_pos c2, qL, g4 e]⟩
 simp only [if_neg c2]
 by_cases c3 : a0 = 3
 ·simp only [if_pos c3]
  obtain ⟨v1, p1, q1, e1, g1, o1⟩ := yO hs p q
  exact ⟨_, _, _, ⟨_, e1, rfl⟩, ⟨h0, h1, h2, hw0, g1, by simp, by simp, by simp, by simp, by simp⟩, ⟨rfl, rfl, rfl⟩, o1.eq fun _ => by rw [xg, if_neg c1, if_neg c2, if_pos c3, qL]⟩
 simp only [if_neg c3]
 by_cases c4 : a0 = 4
 ·simp only [if_pos c4]
  obtain ⟨v1, p1, q1, e1, g1, o1⟩ := yO hs p q
  obtain ⟨v2, p2, q2, e2, g2, o2⟩ := yO hs p1 q1
  obtain ⟨n, p3, q3, e3, g3, o3⟩ := Jq hs p2 q2 16
  obtain ⟨l, p4, q4, e4, ⟨g4, g5⟩, o4, g6⟩ := Xt hs n p3 q3 o3.fine
  exact ⟨_, _, _, ⟨_, _, _, _, _, _, _, _, _, _, e1, e2, e3, e4, rfl⟩, ⟨h0, h1, h2, g1, g2, by simp, by simp, ⟨by show l.length ≤ _; omega, g5⟩, by simp, by simp⟩, ⟨rfl, rfl, rfl⟩, (((o1.then o2).then o3).then o4).eq fun e => by rw [xg, if_neg c1, if_neg c2, if_neg c3, if_pos c4, XB, g6 e]⟩
 simp only [if_neg c4]
 obtain ⟨v1, p1, q1, e1, g1, o1⟩ := yO hs p q
 obtain ⟨l, p2, q2, e2, g2, o2⟩ := za5 hs p1 q1
 obtain ⟨m, p3, q3, e3, g3, o3⟩ := JK hs p2 q2
 exact ⟨_, _, _, ⟨_, _, _, _, _, _, _, e1, e2, e3, rfl⟩, ⟨h0, h1, h2, hw0, g1, by simp, by simp, by simp, ⟨by show l.length ≤ _; omega, fun y hy => (g2.2 y hy).1, fun y hy => (g2.2 y hy).2⟩, ⟨by show m.length ≤ _; omega, g3.2⟩⟩, ⟨rfl, rfl, rfl⟩, ((o1.then o2).then o3).eq fun _ => by rw [xg, if_neg c1, if_neg c2, if_neg c3, if_neg c4, qL]⟩
theorem zcJ : ∃ x e, Ze s x e ∧ (e = 0 → FmB x ∧ qV x = true ∧ qj (jZ x) = s) := by
 obtain ⟨t, e1, ho⟩ : ∃ t e1, Xj s = (t, e1) := ⟨_, _, rfl⟩
 have hop : Jj s t e1 := ⟨s.size + 10, by rw [← ho]; exact XH s hs _ (by omega)⟩
 by_cases c : e1 = 0
 ·subst c
  have hst : t.size ≤ s.size ∧ qj t = s := by
   unfold Xj at ho
   split at ho
   ·injection ho with _ h; exact absurd h (by decide)
   ·rename_i h4
    split at ho
    ·rename_i h5
     injection ho with h _
     refine ⟨by rw [← h, ← z8, yK, List.length_drop, List.length_take, z8]; omega, ?_⟩
     unfold qj
     rw [← h, h5]
     exact (zbX s h4).symm
    ·injection ho with _ h; exact absurd h (by decide)
  have hs2 : t.size ≤ 140737488351232 := by omega
  obtain ⟨a0, p, q, h0, g0, o0⟩ := yO hs2 0 0
  by_cases d : q = 0 ∧ ¬ (1 ≤ a0 ∧ a0 ≤ 5)
  ·exact ⟨fm0, 6, ⟨t, 0, hop, .inr ⟨rfl, by omega, a0, p, q, h0, .inl ⟨d.1, d.2, rfl, rfl⟩⟩⟩, fun h => absurd h (by decide)⟩
  ·obtain ⟨a1, p1, q1, h1, g1, o1⟩ := yO hs2 p q
   obtain ⟨a2, p2, q2, h2, g2, o2⟩ := yO hs2 p1 q1
   by_cases f : q2 = 0
   ·obtain ⟨y, p3, q3, h3, g3, ⟨rfl, rfl, rfl⟩, o3⟩ := zbG hs2 p2 q2 g0 g1 g2
    have key : ∃ x e, za7 t y p3 q3 x e ∧ (e = 0 → x = y ∧ qV y = true ∧ q3 = 0 ∧ ¬ p3 < t.size) := by
     by_cases h : q3 = 0
     ·by_cases hp : p3 < t.size
      ·exact ⟨_, _, .inr (.inl ⟨h, hp, rfl, rfl⟩), fun h => absurd h (by decide)⟩
      ·cases hr : qV y with
       | false => exact ⟨_, _, .inr (.inr ⟨h, hp, _, Za g3, .inl ⟨hr, rfl, rfl⟩⟩), fun h => absurd h (by decide)⟩
       | true => exact ⟨_, _, .inr (.inr ⟨h, hp, _, Za g3, .inr ⟨hr, rfl, rfl⟩⟩), fun _ => ⟨rfl, rfl, h, hp⟩⟩
     ·exact ⟨_, _, .inl ⟨h, rfl, rfl⟩, fun e => absurd e h⟩
    obtain ⟨x, e, hk, hk2⟩ := key
    refine ⟨x, e, ⟨t, 0, hop, .inr ⟨rfl, by omega, _, p, q, h0, .inr ⟨d, _, p1, q1, _, p2, q2, h1, h2, .inr ⟨f, y, p3, q3, f ▸ h3, hk⟩⟩⟩⟩, fun he => ?_⟩
    obtain ⟨rfl, hr, hq, hp⟩ := hk2 he
    obtain ⟨_, _, k1, k2, k3⟩ := (((o0.then o1).then o2).then o3) hq
    have hl : jZ x = t := by
     unfold jZ
     rw [XB, ← k3]
     have e3 : p3.toNat = t.size := by omega
     rw [e3]
     apply qo
     rw [yK]
     show List.drop 0 (List.take t.size (bl t)) = bl t
     rw [List.drop_zero, ← z8, List.take_length]
    exact ⟨g3, hr, by rw [hl]; exact hst.2⟩
   ·exact ⟨fm0, q2, ⟨t, 0, hop, .inr ⟨rfl, by omega, a0, p, q, h0, .inr ⟨d, a1, p1, q1, a2, p2, q2, h1, h2, .inl ⟨f, rfl, rfl⟩⟩⟩⟩, fun h => absurd h f⟩
 ·exact ⟨fm0, e1, ⟨t, e1, hop, .inl ⟨c, rfl, rfl⟩⟩, fun h => absurd h c⟩
end
def qN {α : Type} (s : ByteArray) (one : Int → Int → α → Int → Int → Prop) (x : α) (b : ByteArray) : Prop := ∀ p : Nat, At s p b → one (p : Int) 0 x ((p + b.size : Nat) : Int) 0
theorem q8 (p : Nat) (b c : ByteArray) : ((p + (b ++ c).size : Nat) : Int) = ((p + b.size + c.size : Nat) : Int) := by rw [zK, Nat.add_assoc]
section
variable {s : ByteArray} (hs : s.size ≤ 140737488351232)
include hs
theorem yL {v : Int} (hw : wfI v) : qN s (xp s) v (zW v) := fun p h => .inr ⟨rfl, 40, by
 have := YU hw
 rw [vQ s hs p 40 (Nat.le_refl _), Xd s v this.1 this.2 p h]⟩
theorem Yo {t : ByteArray} (ht : t.size ≤ 4096) : qN s (jA s) t (qE t) := fun p h => .inr ⟨rfl, 50, by
 rw [YI s hs p 50 (Nat.le_refl _), V4 s t ht p h]
 rfl⟩
theorem XN {l : List Int} (hl : l.length ≤ 256) (hw : ∀ n ∈ l, wfI n) : qN s (Xn s) l (yh zW l) := fun p h => .inr ⟨rfl, 400, by
 have e := qI l hl
 rw [YG s hs p 400 (Nat.le_refl _), J1 s l hw p (by rw [e]) (by rw [e]; exact h), e]⟩
theorem zdE {x : S108} (h : ZB x ∧ x.f1.length ≤ 256) : qN s (rEv s) x (evY x) := fun p ha => by
 unfold evY at ha ⊢
 rw [q8]
 exact ⟨_, _, yL hs h.1.1 p ha.left, XN hs h.2 h.1.2.2 _ ha.right⟩
theorem zcI {x : S77} (h : YT x) : qN s (QO s) x (veY x) := fun p ha => by
 unfold veY at ha ⊢
 rw [q8]
 exact ⟨_, _, yL hs h.1 p ha.left, yL hs h.2 _ ha.right⟩
theorem zdr {x : S86} (h : Z1 x ∧ x.f0.size ≤ 32 ∧ x.f1.f2.length ≤ 256) : qN s (rIt s) x (itY x) := fun p ha => by
 unfold itY at ha ⊢
 have h1 := Yo hs (t := x.f0) (by omega) p ha.left.left.left
 have h2 := yL hs h.1.2.1 _ ha.left.left.right
 have h3 := yL hs h.1.2.2.1 _ ha.left.right
 have h4 := XN hs h.2.2 h.1.2.2.2.2 _ ha.right
 simp only [zK, ← Nat.add_assoc] at h1 h2 h3 h4 ⊢
 exact ⟨_, _, _, _, _, _, h1, h2, h3, h4⟩
omit hs in
theorem JH {α : Type} {one : Int → Int → α → Int → Int → Prop} {B : α → ByteArray} : ∀ (l : List α) (p : Nat), (∀ x ∈ l, qN s one x (B x)) → At s p (ql B l) → ZL one l (l.length : Int) p 0 ((p + (ql B l).size : Nat) : Int) 0
 | [], p, _, _ => ⟨fun hz => by simp at hz, by rw [qw]; rfl, rfl⟩
 | x :: l, p, h, ha => by
  rw [yE] at ha ⊢
  rw [q8]
  refine ⟨by rw [List.length_cons]; omega, rfl, _, _, h x (.head _) p ha.left, ?_⟩
  rw [show ((x :: l).length : Int) - 1 = (l.length : Int) by rw [List.length_cons]; omega]
  exact JH l _ (fun y hy => h y (.tail _ hy)) ha.right
theorem zbA {α : Type} {one : ByteArray → Int → Int → α → Int → Int → Prop} {B : α → ByteArray} {l : List α} {m : Nat} (hl : l.length ≤ m) (hm : m ≤ 1024) (h : ∀ x ∈ l, qN s (one s) x (B x)) (p : Nat) (ha : At s p (yh B l)) : Ym one s p 0 m l ((p + (yh B l).size : Nat) : Int) 0 := by
 unfold yh at ha ⊢
 rw [q8]
 exact ⟨_, _, 0, 0, yL hs (Qd (by omega)) p ha.left, .inr (.inr ⟨rfl, decide_eq_true ⟨by omega, by omega⟩, rfl⟩), JH l _ h ha.right⟩
theorem YA {α : Type} {one : ByteArray → Int → Int → α → Int → Int → Prop} {B : α → ByteArray} {ok : List α → Bool → Prop} {l : List α} {m : Nat} (hl : l.length ≤ m) (hm : m ≤ 1024) (h : ∀ x ∈ l, qN s (one s) x (B x)) (hok : ok l true) (p : Nat) (ha : At s p (yh B l)) : Xi one m ok s p l ((p + (yh B l).size : Nat) : Int) 0 :=
 ⟨l, _, 0, true, zbA hs hl hm h p ha, hok, .inr (.inr ⟨rfl, rfl, rfl, rfl, rfl⟩)⟩
theorem zbf {l : List S86} (h : qr l = true) : qN s (YW s) l (yh itY l) := fun p ha =>
 .inr ⟨rfl, YA hs (Zt h).1 (by decide) (fun x hx => zdr hs ((Zt h).2 x hx)) h p ha⟩
theorem Jx {l : List S77} (h : xu l = true) : qN s (vZ s) l (yh veY l) := fun p ha =>
 .inr ⟨rfl, YA hs (vE h).1 (by decide) (fun x hx => zcI hs ((vE h).2 x hx)) h p ha⟩
theorem V5 {l : List S108} (h : Zd l = true) : qN s (Yf s) l (yh evY l) := fun p ha =>
 .inr ⟨rfl, YA hs (Z5 h).1 (by decide) (fun x hx => zdE hs ((Z5 h).2 x hx)) ⟨_, by rw [← h]; exact ZZ l (by have := (Z5 h).1; omega) 1048577 (fun x hx => by have := (Z5 h).2 x hx; omega) (l.length + (1048577 + 1)) (Nat.le_refl _)⟩ p ha⟩
theorem zao {l : List ByteArray} (h : Xc l = true) : qN s (Yj s) l (yh qE l) := fun p ha =>
 .inr ⟨rfl, YA hs (Yb h).1 (by decide) (fun x hx => Yo hs (by have := (Yb h).2 x hx; omega)) (by
  obtain ⟨r, e, e2⟩ := Zg l (by have := (Yb h).1; omega) (l.length + 301) (Nat.le_refl _)
  exact ⟨l.length + 301, by unfold xt.f; rw [zD e, e2, h]⟩) p ha⟩
theorem zcU {x : S52} (h : qU x.f0 x.f1 x.f2 x.f3 x.f4 x.f5 = true) : qN s (Qt s) x (vy x) := fun p ha => by
 obtain ⟨g0, g1, g2, g3, g4, g5, g6⟩ := JP h
 unfold vy XI at ha ⊢
 have h1 := yL hs g0 p ha.left.left.left.left.left
 have h2 := yL hs g1 _ ha.left.left.left.left.right
 have h3 := Yo hs (t := x.f2) (by omega) _ ha.left.left.left.right
 have h4 := yL hs g3 _ ha.left.left.right
 have h5 := XN hs g5 g4.2 _ ha.left.right
 have h6 := yL hs g6 _ ha.right
 simp only [zK, ← Nat.add_assoc] at h1 h2 h3 h4 h5 h6 ⊢
 exact .inr ⟨rfl, x, _, _, _, _, _, _, _, _, _, _, _, _, h1, h2, h3, h4, h5, h6, .inr (.inr ⟨rfl, h, rfl, rfl, rfl⟩)⟩
theorem JL {n m : Nat} (hn : n ≤ m) (hm : m ≤ 1024) (p : Nat) (ha : At s p (zW (n : Int))) : ZS s p 0 m (n : Int) ((p + (zW (n : Int)).size : Nat) : Int) 0 :=
 ⟨_, 0, yL hs (Qd (by omega)) p ha, .inl ⟨rfl, Bool.and_eq_true_iff.2 ⟨decide_eq_true (by omega), decide_eq_true (by omega)⟩, rfl, rfl⟩⟩
theorem J8 : ∀ (l : List S52) (p : Nat), (∀ x ∈ l, qU x.f0 x.f1 x.f2 x.f3 x.f4 x.f5 = true) → At s p (ql vy l) → jR s l.length p 0 l ((p + (ql vy l).size : Nat) : Int) 0
 | [], p, _, _ => .done
 | x :: l, p, h, ha => by
  rw [yE] at ha ⊢
  rw [q8]
  exact .step (zcU hs (h x (.head _)) p ha.left) (J8 l _ (fun y hy => h y (.tail _ hy)) ha.right)
theorem zbd {x : S46} (hx : ZM x) (h : Zu x = true) : qN s (X4 s) x (vA x) := fun p ha => by
 obtain ⟨g1, g2⟩ := QE h
 unfold vA at ha ⊢
 have h1 := yL hs hx.1 p ha.left.left.left
 have h2 := Yo hs (t := x.f1) (by omega) _ ha.left.left.right
 have h3 := V5 hs g1 _ ha.left.right
 have h4 := yL hs hx.2.2.2.1 _ ha.right.left
 have h5 := yL hs hx.2.2.2.2 _ ha.right.right
 simp only [zK, ← Nat.add_assoc] at h1 h2 h3 h4 h5 ⊢
 exact ⟨_, _, _, _, _, _, _, _, _, _, _, _, _, h1, h2, h3, h4, h5, rfl⟩
theorem Xv : ∀ (l : List S46) (p : Nat), (∀ x ∈ l, ZM x) → (∀ x ∈ l, Zu x = true) → At s p (ql vA l) → qg s l.length p 0 l ((p + (ql vA l).size : Nat) : Int) 0
 | [], p, _, _, _ => .done
 | x :: l, p, hx, h, ha => by
  rw [yE] at ha ⊢
  rw [q8]
  exact .step (zbd hs (hx x (.head _)) (h x (.head _)) p ha.left) (Xv l _ (fun y hy => hx y (.tail _ hy)) (fun y hy => h y (.tail _ hy)) ha.right)
theorem zb0 {x : Fm} (hB : FmB x) (h0 : 1 ≤ x.f0 ∧ x.f0 ≤ 5) (ho : jy x = true) (hv : vW x = true) (p : Nat) (ha : At s p (xg x)) : ZW s p 0 x.f0 x.f1 x.f2 x ((p + (xg x).size : Nat) : Int) 0 := by
 obtain ⟨f0, f1, f2, f3, f4, f5, f6, f7, f8, f9⟩ := x
 unfold jy at ho
 unfold vW at hv
 unfold xg at ha ⊢
 unfold ZW
 dsimp only at h0 ho hv ha ⊢
 simp only [Bool.and_eq_true, Bool.or_eq_true, beq_iff_eq, List.isEmpty_iff] at ho
 obtain ⟨o3, o4, o5, o6, o7, o8, o9⟩ := ho
 by_cases c1 : f0 = 1
 ·subst c1
  simp only [if_true] at hv ha ⊢
  rw [Bool.and_eq_true] at hv
  obtain rfl := o6.resolve_left (by decide)
  obtain rfl := o7.resolve_left (by decide)
  obtain rfl := o8.resolve_left (by decide)
  obtain rfl := o9.resolve_left (by decide)
  rw [ZV] at ha ⊢
  have h1 := yL hs hB.n3 p ha.left.left
  have h2 := yL hs hB.n4 _ ha.left.right
  have h3 := zao hs hv.1 _ ha.right
  simp only [zK, ← Nat.add_assoc] at h1 h2 h3 ⊢
  exact ⟨_, _, _, _, _, _, _, h1, h2, h3, rfl⟩
 by_cases c2 : f0 = 2
 ·subst c2
  simp only [if_true, show ¬ (2 : Int) = 1 by decide, if_false] at hv ha ⊢
  rw [Bool.and_eq_true] at hv
  have hl : (f6.length : Int) ≤ 8 := of_decide_eq_true (Bool.and_eq_true_iff.1 hv.2).2
  have e3 : f3 = 0 := by simpa using o3
  have e4 : f4 = 0 := o4.resolve_left (by decide)
  obtain rfl := o5.resolve_left (by decide)
  obtain rfl := o7.resolve_left (by decide)
  obtain rfl := o8.resolve_left (by decide)
  obtain rfl := o9.resolve_left (by decide)
  subst e3 e4
  rw [qL] at ha ⊢
  rw [q8]
  exact ⟨_, _, _, _, JL hs (n := f6.length) (m := 8) (by omega) (by decide) p ha.left, J8 hs f6 _ (ZR _ _ _ hv.1) ha.right, rfl⟩
 by_cases c3 : f0 = 3
 ·subst c3
  simp only [if_true, show ¬ (3 : Int) = 1 by decide, show ¬ (3 : Int) = 2 by decide, if_false] at hv ha ⊢
  have e3 : f3 = 0 := by simpa using o3
  obtain rfl := o5.resolve_left (by decide)
  obtain rfl := o6.resolve_left (by decide)
  obtain rfl := o7.resolve_left (by decide)
  obtain rfl := o8.resolve_left (by decide)
  obtain rfl := o9.resolve_left (by decide)
  subst e3
  rw [qL] at ha ⊢
  exact ⟨_, yL hs hB.n4 p ha, rfl⟩
 by_cases c4 : f0 = 4
 ·subst c4
  simp only [if_true, show ¬ (4 : Int) = 1 by decide, show ¬ (4 : Int) = 2 by decide, show ¬ (4 : Int) = 3 by decide, if_false] at hv ha ⊢
  simp only [Bool.and_eq_true, decide_eq_true_eq] at hv
  have hl := hv.2.2.2.2
  obtain rfl := o5.resolve_left (by decide)
  obtain rfl := o6.resolve_left (by decide)
  obtain rfl := o8.resolve_left (by decide)
  obtain rfl := o9.resolve_left (by decide)
  have e : xv [f3, f4, (f7.length : Int)] = (zW f3 ++ zW f4) ++ zW (f7.length : Int) := by
   unfold xv
   rw [yE, yE, yE, qw, qJ, yJ]
  rw [e] at ha ⊢
  have h1 := yL hs hB.n3 p ha.left.left.left
  have h2 := yL hs hB.n4 _ ha.left.left.right
  have h3 := JL hs (n := f7.length) (m := 16) (by omega) (by decide) _ ha.left.right
  have h4 := Xv hs f7 _ hB.ent.2 (ZU _ _ _ _ hv.1) ha.right
  simp only [zK, ← Nat.add_assoc] at h1 h2 h3 h4 ⊢
  exact ⟨_, _, _, _, _, _, _, _, _, _, h1, h2, h3, h4, rfl⟩
 obtain rfl : f0 = 5 := by omega
 simp only [show ¬ (5 : Int) = 1 by decide, show ¬ (5 : Int) = 2 by decide, show ¬ (5 : Int) = 3 by decide, show ¬ (5 : Int) = 4 by decide, if_false] at hv ha ⊢
 simp only [Bool.and_eq_true] at hv
 have e3 : f3 = 0 := by simpa using o3
 obtain rfl := o5.resolve_left (by decide)
 obtain rfl := o6.resolve_left (by decide)
 obtain rfl := o7.resolve_left (by decide)
 subst e3
 rw [qL] at ha ⊢
 have h1 := yL hs hB.n4 p ha.left.left
 have h2 := zbf hs hv.2.1 _ ha.left.right
 have h3 := Jx hs hv.2.2 _ ha.right
 simp only [zK, ← Nat.add_assoc] at h1 h2 h3 ⊢
 exact ⟨_, _, _, _, _, _, _, h1, h2, h3, rfl⟩
end
theorem zaX (t : ByteArray) : Xj (qj t) = (t, 0) := by
 have hz := Zf t
 have e1 : (qj t).extract 0 ((qj t).size - 4) = t := by
  apply qo
  rw [yK, hz, Nat.add_sub_cancel, List.drop_zero, qj, xZ, ← z8, List.take_left]
 have e2 : (qj t).extract ((qj t).size - 4) (qj t).size = vK (Z0 (bl t)) := by
  apply qo
  rw [yK, hz, Nat.add_sub_cancel, List.take_of_length_le (by rw [z8, hz]; exact Nat.le_refl _), qj, xZ, ← z8, List.drop_left]
 unfold Xj
 rw [if_neg (by omega), e1, if_pos e2.symm]
theorem zc4 {x : Fm} (hB : FmB x) (h : qV x = true) : Ze (qj (jZ x)) x 0 := by
 have hr := Za hB
 rw [h] at hr
 unfold qV at h
 simp only [Bool.and_eq_true, decide_eq_true_eq] at h
 obtain ⟨hh, ho, hv⟩ := h
 have hz := (Qe hB hh.2.2 hv).2
 have b1 := qf [x.f0, x.f1, x.f2] 3 (Nat.le_refl _)
 obtain ⟨t, ht⟩ : ∃ t, t = jZ x := ⟨_, rfl⟩
 have hl : t.size ≤ 1000030 := by rw [ht, jZ, zK]; omega
 have hs : t.size ≤ 140737488351232 := by omega
 have e : jZ x = ((zW x.f0 ++ zW x.f1) ++ zW x.f2) ++ xg x := by
  unfold jZ xv
  rw [yE, yE, yE, qw, qJ]
  simp only [yJ]
 have ha : At t 0 (((zW x.f0 ++ zW x.f1) ++ zW x.f2) ++ xg x) := by
  rw [← e, ← ht]
  exact ⟨Nat.zero_le _, [], by rw [List.drop_zero, List.append_nil]⟩
 have h1 := yL hs hB.n0 0 ha.left.left.left
 have h2 := yL hs hB.n1 _ ha.left.left.right
 have h3 := yL hs hB.n2 _ ha.left.right
 have h4 := zb0 hs hB hh.2.2 ho hv _ ha.right
 have hend : 0 + (((zW x.f0 ++ zW x.f1) ++ zW x.f2)).size + (xg x).size = t.size := by rw [ht, e]; simp only [zK]; omega
 rw [hend] at h4
 rw [← ht]
 simp only [zK, ← Nat.add_assoc] at h1 h2 h3 h4
 refine ⟨t, 0, ⟨t.size + 20, by rw [XH (qj t) (by rw [Zf]; omega) _ (by rw [Zf]; omega), zaX]⟩, .inr ⟨rfl, by omega, _, _, _, h1, .inr ⟨fun hn => hn.2 hh.2.2, _, _, _, _, _, _, h2, h3, .inr ⟨rfl, x, _, 0, h4, .inr (.inr ⟨rfl, by omega, true, hr, .inr ⟨rfl, rfl, rfl⟩⟩)⟩⟩⟩⟩
open Go.RowKit Go.Proofs.YtepipnpfggnadaaGreatW.PrintWords Go.Proofs.YtepipnpfggnadaaGreatW.PrintLast Go.Proofs.YtepipnpfggnadaaGreatW.PrintMore
abbrev XR (f : FuncId) (w : World) (v u : Value) : Prop := ∀ w', Below w.heap.size w w' → Calls Tryz.prog f #[v, u] w' fun e w2 => e = .returned (.bool true) ∧ Below w'.heap.size w' w2
theorem zdc {a0 a1 a2 a3 a4 : Int} {v5 v6 v7 v8 v9 u5 u6 u7 u8 u9 : Value} {w : World} (h5 : XR 40 w v5 u5) (h6 : XR 41 w v6 u6) (h7 : XR 42 w v7 u7) (h8 : XR 43 w v8 u8) (h9 : XR 44 w v9 u9) : Calls Tryz.prog 14 #[.agg #[.int .i64 a0, .int .i64 a1, .int .i64 a2, .int .i64 a3, .int .i64 a4, v5, v6, v7, v8, v9], .agg #[.int .i64 a0, .int .i64 a1, .int .i64 a2, .int .i64 a3, .int .i64 a4, u5, u6, u7, u8, u9]] w fun e w' => e = .returned (.bool true) ∧ Below w.heap.size w w' := by
 have HS := Sat.nil w
 replace h5 := za.mk h5
 replace h6 := za.mk h6
 replace h7 := za.mk h7
 replace h8 := za.mk h8
 replace h9 := za.mk h9
 go_enter Tryz.func14, Tryz.ntmps14
 go_wp2_with ((first | ((with_reducible refine gB rfl ?_); refine zC HS ?_) | ((with_reducible refine gA rfl ?_); refine zt HS ?_) | ((with_reducible refine gS rfl ?_); refine zr HS ?_) | (go_at_call 40; refine HS.go (h5.out _ HS.below) ?_) | (go_at_call 41; refine HS.go (h6.out _ HS.below) ?_) | (go_at_call 42; refine HS.go (h7.out _ HS.below) ?_) | (go_at_call 43; refine HS.go (h8.out _ HS.below) ?_) | (go_at_call 44; refine HS.go (h9.out _ HS.below) ?_)); clear HS; (try clear hc); intros; rename_i HS; have hc := HS.lk; simp only [Lk, LkC, Value.cells, List.toList_toArray, Nat.reduceAdd, Nat.zero_add, and_true, zf, zg, ze, zh] at HS hc)
 go_ret
 exact ⟨rfl, HS.below⟩
def PT.pre : List (Nat × Nat × Nat) → PT → PT
 | [], t => t
 | (i, k, d) :: l, t => .op i k d (PT.pre l t)
def XW (ops : Array Oper) : List (Nat × Nat × Nat) → Array Bool → Bool
 | [], _ => true
 | (i, 0, _) :: l, a => ZH .any ops [] a (a.setIfInBounds i true) i && XW ops l (a.setIfInBounds i true)
 | (i, _, _) :: l, a => qn .any ops a (a.setIfInBounds i true) i && XW ops l (a.setIfInBounds i true)
def za2 : List (Nat × Nat × Nat) → Array Bool → Array Bool
 | [], a => a
 | (i, _, _) :: l, a => za2 l (a.setIfInBounds i true)
theorem jq {ops : Array Oper} {t : PT} : ∀ {l : List (Nat × Nat × Nat)} {a : Array Bool}, XW ops l a = true → xi ops [] t (za2 l a) = true → (l.all fun x => x.2.1 == 0 || x.2.1 == 2) = true → xi ops [] (PT.pre l t) a = true
 | [], _, _, h, _ => h
 | (i, 0, d) :: l, a, h1, h2, h3 => by
  rw [XW, Bool.and_eq_true] at h1
  rw [List.all_cons, Bool.and_eq_true] at h3
  rw [PT.pre, xi, h1.1, Bool.true_and]
  exact jq h1.2 h2 h3.2
 | (i, 2, d) :: l, a, h1, h2, h3 => by
  rw [XW, Bool.and_eq_true] at h1
  rw [List.all_cons, Bool.and_eq_true] at h3
  rw [PT.pre, xi, h1.1, Bool.true_and, List.contains_nil, Bool.not_false, Bool.true_and]
  ·exact jq h1.2 h2 h3.2
  ·exact fun h => absurd h (by decide)
 | (i, 1, d) :: l, a, h1, h2, h3 => by simp at h3
 | (i, k + 3, d) :: l, a, h1, h2, h3 => by simp at h3
theorem QP {l : List Int} {A B : Option Addr} {c d : Nat} {w : World} (hr : (Kd.int .i64).C w A l.length l) (hr2 : (Kd.int .i64).C w B l.length l) : Calls Tryz.prog 125 #[.slice A l.length c, .slice B l.length d] w fun e w' => e = .returned (.bool true) ∧ Below w.heap.size w w' := by
 have HR := za.mk hr
 have HR2 := za.mk hr2
 have HLEN := za.mk hr.2.1
 have HS := Sat.nil w
 clear hr hr2
 go_enter Tryz.func125, Tryz.ntmps125
 go_wp2
 have HZ := za.mk HS
 clear HS
 go_loopg [5] l.length (fun kq vi wr => ∃ i : Nat, vi = .int .i64 i ∧ za (i + kq = l.length) ∧ za (Sat [] w wr [] []))
 case atStart => exact ⟨0, rfl, ⟨by simp⟩, HZ⟩
 case round =>
  clear HZ
  obtain ⟨i, rfl, HK, HT⟩ := hrel
  have HS := HT.out
  clear HT
  have hil : i ≤ l.length := by have := HK.out; omega
  by_cases hlt : i < l.length
  ·obtain ⟨ad, e0, x0⟩ := Kd.at_int HR.out (i : Int) (by omega) (by omega)
   obtain ⟨ae, f0, z0⟩ := Kd.at_int HR2.out (i : Int) (by omega) (by omega)
   subst e0 f0
   rw [Int.toNat_natCast] at x0 z0
   generalize rd l (i : Int) = y at x0 z0
   have b0 : (0 : Int) ≤ (i : Int) := by omega
   have b1 : (i : Int) < (l.length : Int) := by omega
   go_wp2
   replace HS := HS.drewN 1
   refine qP (.op 0 0 17 (.op 1 0 18 (.op 2 0 19 (.op 3 0 20 (.op 4 0 21 (.op 5 0 22 (.op 6 0 23 (.op 7 0 24 (.op 8 0 25 .nil))))))))) [] (fun W => W.cell? (ad.add i) = some (.int .i64 y) ∧ W.cell? (ae.add i) = some (.int .i64 y)) ((fun _ H => ⟨H.at_ x0, H.at_ z0⟩) _ HS) (fun hS => ?_)
   (repeat (first | refine RT.tk ?_))
   refine RT.nil ?_
   clear hS x0 z0
   go_wp2
   go_roundg (l.length - (i + 1))
   case measure => have := HK.out; omega
   case rel => exact ⟨i + 1, by have h_ : wrap64 ((i : Int) + 1) = ((i + 1 : Nat) : Int) := z9 (by omega) (by have := HLEN.out; omega); first | (rw [h_]) | (simp only [h_]) | rfl, ⟨by have := HK.out; omega⟩, ⟨HS⟩⟩
  ·go_wp2
   go_ret
   exact ⟨rfl, HS.below⟩
theorem zcf {l : List ByteArray} {A B : Option Addr} {c d : Nat} {w : World} (hr : Kd.string.C w A l.length l) (hr2 : Kd.string.C w B l.length l) : Calls Tryz.prog 40 #[.slice A l.length c, .slice B l.length d] w fun e w' => e = .returned (.bool true) ∧ Below w.heap.size w w' := by
 have HR := za.mk hr
 have HR2 := za.mk hr2
 have HLEN := za.mk hr.2.1
 have HS := Sat.nil w
 clear hr hr2
 go_enter Tryz.func40, Tryz.ntmps40
 go_wp2
 have HZ := za.mk HS
 clear HS
 go_loopg [5] l.length (fun kq vi wr => ∃ i : Nat, vi = .int .i64 i ∧ za (i + kq = l.length) ∧ za (Sat [] w wr [] []))
 case atStart => exact ⟨0, rfl, ⟨by simp⟩, HZ⟩
 case round =>
  clear HZ
  obtain ⟨i, rfl, HK, HT⟩ := hrel
  have HS := HT.out
  clear HT
  have hil : i ≤ l.length := by have := HK.out; omega
  by_cases hlt : i < l.length
  ·obtain ⟨ad, e0, x0⟩ := Kd.at_string HR.out (i : Int) (by omega) (by omega)
   obtain ⟨ae, f0, z0⟩ := Kd.at_string HR2.out (i : Int) (by omega) (by omega)
   subst e0 f0
   rw [Int.toNat_natCast] at x0 z0
   generalize yW ByteArray.empty l (i : Int) = y at x0 z0
   have b0 : (0 : Int) ≤ (i : Int) := by omega
   have b1 : (i : Int) < (l.length : Int) := by omega
   go_wp2
   replace HS := HS.drewN 1
   refine qP (.op 0 0 17 (.op 1 0 18 (.op 2 0 19 (.op 3 0 20 (.op 4 0 21 (.op 5 0 22 (.op 6 0 23 (.op 7 0 24 (.op 8 0 25 .nil))))))))) [] (fun W => W.cell? (ad.add i) = some (.string y) ∧ W.cell? (ae.add i) = some (.string y)) ((fun _ H => ⟨H.at_ x0, H.at_ z0⟩) _ HS) (fun hS => ?_)
   (repeat (first | refine RT.tk ?_))
   refine RT.nil ?_
   clear hS x0 z0
   go_wp2
   go_roundg (l.length - (i + 1))
   case measure => have := HK.out; omega
   case rel => exact ⟨i + 1, by have h_ : wrap64 ((i : Int) + 1) = ((i + 1 : Nat) : Int) := z9 (by omega) (by have := HLEN.out; omega); first | (rw [h_]) | (simp only [h_]) | rfl, ⟨by have := HK.out; omega⟩, ⟨HS⟩⟩
  ·go_wp2
   go_ret
   exact ⟨rfl, HS.below⟩
theorem Vg {l : List S77} {A B : Option Addr} {c d : Nat} {w : World} (hr : k77.C w A l.length l) (hr2 : k77.C w B l.length l) : Calls Tryz.prog 44 #[.slice A l.length c, .slice B l.length d] w fun e w' => e = .returned (.bool true) ∧ Below w.heap.size w w' := by
 have HR := za.mk hr
 have HR2 := za.mk hr2
 have HLEN := za.mk hr.2.1
 have HS := Sat.nil w
 clear hr hr2
 go_enter Tryz.func44, Tryz.ntmps44
 go_wp2
 have HZ := za.mk HS
 clear HS
 go_loopg [5] l.length (fun kq vi wr => ∃ i : Nat, vi = .int .i64 i ∧ za (i + kq = l.length) ∧ za (Sat [] w wr [] []))
 case atStart => exact ⟨0, rfl, ⟨by simp⟩, HZ⟩
 case round =>
  clear HZ
  obtain ⟨i, rfl, HK, HT⟩ := hrel
  have HS := HT.out
  clear HT
  have hil : i ≤ l.length := by have := HK.out; omega
  by_cases hlt : i < l.length
  ·obtain ⟨ad, e0, x0, x1⟩ := jS HR.out (i : Int) (by omega) (by omega)
   obtain ⟨ae, f0, z0, z1⟩ := jS HR2.out (i : Int) (by omega) (by omega)
   subst e0 f0
   rw [Int.toNat_natCast] at x0 x1 z0 z1
   generalize yi l (i : Int) = y at x0 x1 z0 z1
   have b0 : (0 : Int) ≤ (i : Int) := by omega
   have b1 : (i : Int) < (l.length : Int) := by omega
   go_wp2
   replace HS := HS.drewN 1
   refine qP (.op 0 0 17 (.op 1 0 18 (.op 2 0 19 (.op 3 0 20 (.op 4 0 21 (.op 5 0 22 (.op 6 0 23 (.op 7 0 24 (.op 8 0 25 .nil))))))))) [] (fun W => W.cell? (ad.add (i * 2)) = some (.int .i64 y.f0) ∧ W.cell? ⟨(ad.add (i * 2)).block, (ad.add (i * 2)).off + 1, none⟩ = some (.int .i64 y.f1) ∧ W.cell? (ae.add (i * 2)) = some (.int .i64 y.f0) ∧ W.cell? ⟨(ae.add (i * 2)).block, (ae.add (i * 2)).off + 1, none⟩ = some (.int .i64 y.f1)) ((fun _ H => ⟨H.at_ x0, H.at_ x1, H.at_ z0, H.at_ z1⟩) _ HS) (fun hS => ?_)
   (repeat (first | refine RT.tk ?_))
   refine RT.nil ?_
   clear hS x0 x1 z0 z1
   go_wp2
   go_roundg (l.length - (i + 1))
   case measure => have := HK.out; omega
   case rel => exact ⟨i + 1, by have h_ : wrap64 ((i : Int) + 1) = ((i + 1 : Nat) : Int) := z9 (by omega) (by have := HLEN.out; omega); first | (rw [h_]) | (simp only [h_]) | rfl, ⟨by have := HK.out; omega⟩, ⟨HS⟩⟩
  ·go_wp2
   go_ret
   exact ⟨rfl, HS.below⟩
theorem zbu {l : List S108} {A B : Option Addr} {c d : Nat} {w : World} (hr : k108.C w A l.length l) (hr2 : k108.C w B l.length l) : Calls Tryz.prog 82 #[.slice A l.length c, .slice B l.length d] w fun e w' => e = .returned (.bool true) ∧ Below w.heap.size w w' := by
 have HR := za.mk hr
 have HR2 := za.mk hr2
 have HLEN := za.mk hr.2.1
 have HS := Sat.nil w
 clear hr hr2
 go_enter Tryz.func82, Tryz.ntmps82
 go_wp2
 have HZ := za.mk HS
 clear HS
 go_loopg [5] l.length (fun kq vi wr => ∃ i : Nat, vi = .int .i64 i ∧ za (i + kq = l.length) ∧ za (Sat [] w wr [] []))
 case atStart => exact ⟨0, rfl, ⟨by simp⟩, HZ⟩
 case round =>
  clear HZ
  obtain ⟨i, rfl, HK, HT⟩ := hrel
  have HS := HT.out
  clear HT
  have hil : i ≤ l.length := by have := HK.out; omega
  by_cases hlt : i < l.length
  ·obtain ⟨ad, A1, c1, e0, x0, x1, hll, hin⟩ := jO HR.out (i : Int) (by omega) (by omega)
   obtain ⟨ae, B1, d1, f0, z0, z1, kll, kin⟩ := jO HR2.out (i : Int) (by omega) (by omega)
   subst e0 f0
   rw [Int.toNat_natCast] at x0 x1 z0 z1
   generalize yw l (i : Int) = y at x0 x1 z0 z1 hll hin kll kin
   have HL := za.mk hll
   have HI := za.mk hin
   have KL := za.mk kll
   have KI := za.mk kin
   clear hll hin kll kin
   have b0 : (0 : Int) ≤ (i : Int) := by omega
   have b1 : (i : Int) < (l.length : Int) := by omega
   go_wp2
   replace HS := HS.drewN 1
   refine qP (.op 0 0 17 (.op 1 0 18 (.op 2 0 19 (.op 3 0 20 (.op 4 0 21 (.op 5 0 22 (.op 6 0 23 (.op 7 0 24 (.op 8 0 25 (.op 9 0 26 (.op 10 0 27 (.op 11 0 28 (.op 12 0 29 (.op 13 0 30 (.op 14 0 31 (.op 15 0 32 (.op 16 0 33 (.op 17 0 34 (.op 18 0 35 (.op 19 0 36 (.op 20 0 37 (.op 21 0 38 (.op 22 2 39 (.op 23 0 40 (.op 24 0 41 .nil))))))))))))))))))))))))) [] (fun W => W.cell? (ad.add (i * 2)) = some (.int .i64 y.f0) ∧ W.cell? ⟨(ad.add (i * 2)).block, (ad.add (i * 2)).off + 1, none⟩ = some (.slice A1 y.f1.length c1) ∧ W.cell? (ae.add (i * 2)) = some (.int .i64 y.f0) ∧ W.cell? ⟨(ae.add (i * 2)).block, (ae.add (i * 2)).off + 1, none⟩ = some (.slice B1 y.f1.length d1)) ((fun _ H => ⟨H.at_ x0, H.at_ x1, H.at_ z0, H.at_ z1⟩) _ HS) (fun hS => ?_)
   (repeat (first | refine RT.tk ?_ | (refine RT.o1 ?_; refine ju HS (fun _ H => ⟨H.at_ x0, H.at_ x1, H.at_ z0, H.at_ z1⟩) (QP (Kd.C_below HI.out HS.below) (Kd.C_below KI.out HS.below)) ?_; clear HS hS; intro w_ hS HS; refine RT.nm ?_)))
   refine RT.nil ?_
   clear hS x0 x1 z0 z1
   go_wp2
   go_roundg (l.length - (i + 1))
   case measure => have := HK.out; omega
   case rel => exact ⟨i + 1, by have h_ : wrap64 ((i : Int) + 1) = ((i + 1 : Nat) : Int) := z9 (by omega) (by have := HLEN.out; omega); first | (rw [h_]) | (simp only [h_]) | rfl, ⟨by have := HK.out; omega⟩, ⟨HS⟩⟩
  ·go_wp2
   go_ret
   exact ⟨rfl, HS.below⟩
theorem zdu {y : S52} {A B : Option Addr} {c d : Nat} {w : World} (hr : (Kd.int .i64).C w A y.f4.length y.f4) (hr2 : (Kd.int .i64).C w B y.f4.length y.f4) : Calls Tryz.prog 81 #[.agg #[.int .i64 y.f0, .int .i64 y.f1, .string y.f2, .int .i64 y.f3, .slice A y.f4.length c, .int .i64 y.f5], .agg #[.int .i64 y.f0, .int .i64 y.f1, .string y.f2, .int .i64 y.f3, .slice B y.f4.length d, .int .i64 y.f5]] w fun e w' => e = .returned (.bool true) ∧ Below w.heap.size w w' := by
 have HS := Sat.nil w
 replace hr := za.mk hr
 replace hr2 := za.mk hr2
 go_enter Tryz.func81, Tryz.ntmps81
 go_wp2_with ((first | ((with_reducible refine gB rfl ?_); refine zC HS ?_) | ((with_reducible refine gA rfl ?_); refine zt HS ?_) | ((with_reducible refine gS rfl ?_); refine zr HS ?_) | (go_at_call 125; refine HS.go (QP (Kd.C_below hr.out HS.below) (Kd.C_below hr2.out HS.below)) ?_)); clear HS; (try clear hc); intros; rename_i HS; have hc := HS.lk; simp only [Lk, LkC, Value.cells, List.toList_toArray, Nat.reduceAdd, Nat.zero_add, and_true, zf, zg, ze, zh] at HS hc)
 go_ret
 exact ⟨rfl, HS.below⟩
theorem zcc {y : S84} {A B : Option Addr} {c d : Nat} {w : World} (hr : (Kd.int .i64).C w A y.f2.length y.f2) (hr2 : (Kd.int .i64).C w B y.f2.length y.f2) : Calls Tryz.prog 83 #[.agg #[.int .i64 y.f0, .int .i64 y.f1, .slice A y.f2.length c], .agg #[.int .i64 y.f0, .int .i64 y.f1, .slice B y.f2.length d]] w fun e w' => e = .returned (.bool true) ∧ Below w.heap.size w w' := by
 have HS := Sat.nil w
 replace hr := za.mk hr
 replace hr2 := za.mk hr2
 go_enter Tryz.func83, Tryz.ntmps83
 go_wp2_with ((first | ((with_reducible refine gB rfl ?_); refine zC HS ?_) | ((with_reducible refine gA rfl ?_); refine zt HS ?_) | ((with_reducible refine gS rfl ?_); refine zr HS ?_) | (go_at_call 125; refine HS.go (QP (Kd.C_below hr.out HS.below) (Kd.C_below hr2.out HS.below)) ?_)); clear HS; (try clear hc); intros; rename_i HS; have hc := HS.lk; simp only [Lk, LkC, Value.cells, List.toList_toArray, Nat.reduceAdd, Nat.zero_add, and_true, zf, zg, ze, zh] at HS hc)
 go_ret
 exact ⟨rfl, HS.below⟩
theorem zcW {l : List S52} {A B : Option Addr} {c d : Nat} {w : World} (hr : k52.C w A l.length l) (hr2 : k52.C w B l.length l) : Calls Tryz.prog 41 #[.slice A l.length c, .slice B l.length d] w fun e w' => e = .returned (.bool true) ∧ Below w.heap.size w w' := by
 have HR := za.mk hr
 have HR2 := za.mk hr2
 have HLEN := za.mk hr.2.1
 have HS := Sat.nil w
 clear hr hr2
 go_enter Tryz.func41, Tryz.ntmps41
 go_wp2
 have HZ := za.mk HS
 clear HS
 go_loopg [5] l.length (fun kq vi wr => ∃ i : Nat, vi = .int .i64 i ∧ za (i + kq = l.length) ∧ za (Sat [] w wr [] []))
 case atStart => exact ⟨0, rfl, ⟨by simp⟩, HZ⟩
 case round =>
  clear HZ
  obtain ⟨i, rfl, HK, HT⟩ := hrel
  have HS := HT.out
  clear HT
  have hil : i ≤ l.length := by have := HK.out; omega
  by_cases hlt : i < l.length
  ·obtain ⟨ad, A1, c1, e0, x0, x1, x2, x3, x4, x5, hll, hin⟩ := ZA HR.out (i : Int) (by omega) (by omega)
   obtain ⟨ae, B1, d1, f0, z0, z1, z2, z3, z4, z5, kll, kin⟩ := ZA HR2.out (i : Int) (by omega) (by omega)
   subst e0 f0
   rw [Int.toNat_natCast] at x0 x1 x2 x3 x4 x5 z0 z1 z2 z3 z4 z5
   generalize xB l (i : Int) = y at x0 x1 x2 x3 x4 x5 z0 z1 z2 z3 z4 z5 hll hin kll kin
   have HL := za.mk hll
   have HI := za.mk hin
   have KL := za.mk kll
   have KI := za.mk kin
   clear hll hin kll kin
   have b0 : (0 : Int) ≤ (i : Int) := by omega
   have b1 : (i : Int) < (l.length : Int) := by omega
   go_wp2
   replace HS := HS.drewN 1
   refine qP (.op 0 0 17 (.op 1 0 18 (.op 2 0 19 (.op 3 0 20 (.op 4 0 21 (.op 5 0 22 (.op 6 0 23 (.op 7 0 24 (.op 8 2 25 (.op 9 0 26 .nil)))))))))) [] (fun W => W.cell? (ad.add (i * 6)) = some (.int .i64 y.f0) ∧ W.cell? ⟨(ad.add (i * 6)).block, (ad.add (i * 6)).off + 1, none⟩ = some (.int .i64 y.f1) ∧ W.cell? ⟨(ad.add (i * 6)).block, (ad.add (i * 6)).off + 2, none⟩ = some (.string y.f2) ∧ W.cell? ⟨(ad.add (i * 6)).block, (ad.add (i * 6)).off + 3, none⟩ = some (.int .i64 y.f3) ∧ W.cell? ⟨(ad.add (i * 6)).block, (ad.add (i * 6)).off + 4, none⟩ = some (.slice A1 y.f4.length c1) ∧ W.cell? ⟨(ad.add (i * 6)).block, (ad.add (i * 6)).off + 5, none⟩ = some (.int .i64 y.f5) ∧ W.cell? (ae.add (i * 6)) = some (.int .i64 y.f0) ∧ W.cell? ⟨(ae.add (i * 6)).block, (ae.add (i * 6)).off + 1, none⟩ = some (.int .i64 y.f1) ∧ W.cell? ⟨(ae.add (i * 6)).block, (ae.add (i * 6)).off + 2, none⟩ = some (.string y.f2) ∧ W.cell? ⟨(ae.add (i * 6)).block, (ae.add (i * 6)).off + 3, none⟩ = some (.int .i64 y.f3) ∧ W.cell? ⟨(ae.add (i * 6)).block, (ae.add (i * 6)).off + 4, none⟩ = some (.slice B1 y.f4.length d1) ∧ W.cell? ⟨(ae.add (i * 6)).block, (ae.add (i * 6)).off + 5, none⟩ = some (.int .i64 y.f5)) ((fun _ H => ⟨H.at_ x0, H.at_ x1, H.at_ x2, H.at_ x3, H.at_ x4, H.at_ x5, H.at_ z0, H.at_ z1, H.at_ z2, H.at_ z3, H.at_ z4, H.at_ z5⟩) _ HS) (fun hS => ?_)
   (repeat (first | refine RT.tk ?_ | (refine RT.o1 ?_; refine ju HS (fun _ H => ⟨H.at_ x0, H.at_ x1, H.at_ x2, H.at_ x3, H.at_ x4, H.at_ x5, H.at_ z0, H.at_ z1, H.at_ z2, H.at_ z3, H.at_ z4, H.at_ z5⟩) (zdu (Kd.C_below HI.out HS.below) (Kd.C_below KI.out HS.below)) ?_; clear HS hS; intro w_ hS HS; refine RT.nm ?_)))
   refine RT.nil ?_
   clear hS x0 x1 x2 x3 x4 x5 z0 z1 z2 z3 z4 z5
   go_wp2
   go_roundg (l.length - (i + 1))
   case measure => have := HK.out; omega
   case rel => exact ⟨i + 1, by have h_ : wrap64 ((i : Int) + 1) = ((i + 1 : Nat) : Int) := z9 (by omega) (by have := HLEN.out; omega); first | (rw [h_]) | (simp only [h_]) | rfl, ⟨by have := HK.out; omega⟩, ⟨HS⟩⟩
  ·go_wp2
   go_ret
   exact ⟨rfl, HS.below⟩
theorem zbJ {l : List S86} {A B : Option Addr} {c d : Nat} {w : World} (hr : k86.C w A l.length l) (hr2 : k86.C w B l.length l) : Calls Tryz.prog 43 #[.slice A l.length c, .slice B l.length d] w fun e w' => e = .returned (.bool true) ∧ Below w.heap.size w w' := by
 have HR := za.mk hr
 have HR2 := za.mk hr2
 have HLEN := za.mk hr.2.1
 have HS := Sat.nil w
 clear hr hr2
 go_enter Tryz.func43, Tryz.ntmps43
 go_wp2
 have HZ := za.mk HS
 clear HS
 go_loopg [5] l.length (fun kq vi wr => ∃ i : Nat, vi = .int .i64 i ∧ za (i + kq = l.length) ∧ za (Sat [] w wr [] []))
 case atStart => exact ⟨0, rfl, ⟨by simp⟩, HZ⟩
 case round =>
  clear HZ
  obtain ⟨i, rfl, HK, HT⟩ := hrel
  have HS := HT.out
  clear HT
  have hil : i ≤ l.length := by have := HK.out; omega
  by_cases hlt : i < l.length
  ·obtain ⟨ad, A1, c1, e0, x0, x1, x2, x3, hll, hin⟩ := vR HR.out (i : Int) (by omega) (by omega)
   obtain ⟨ae, B1, d1, f0, z0, z1, z2, z3, kll, kin⟩ := vR HR2.out (i : Int) (by omega) (by omega)
   subst e0 f0
   rw [Int.toNat_natCast] at x0 x1 x2 x3 z0 z1 z2 z3
   generalize xR l (i : Int) = y at x0 x1 x2 x3 z0 z1 z2 z3 hll hin kll kin
   have HL := za.mk hll
   have HI := za.mk hin
   have KL := za.mk kll
   have KI := za.mk kin
   clear hll hin kll kin
   have b0 : (0 : Int) ≤ (i : Int) := by omega
   have b1 : (i : Int) < (l.length : Int) := by omega
   go_wp2
   replace HS := HS.drewN 1
   refine qP (.op 0 0 17 (.op 1 0 18 (.op 2 0 19 (.op 3 0 20 (.op 4 0 21 (.op 5 0 22 (.op 6 0 23 (.op 7 0 24 (.op 8 0 25 (.op 9 0 26 (.op 10 0 27 (.op 11 0 28 (.op 12 0 29 (.op 13 0 30 (.op 14 0 31 (.op 15 0 32 (.op 16 0 33 (.op 17 0 34 (.op 18 0 35 (.op 19 0 36 (.op 20 0 37 (.op 21 0 38 (.op 22 2 39 (.op 23 0 40 (.op 24 0 41 .nil))))))))))))))))))))))))) [] (fun W => W.cell? (ad.add (i * 4)) = some (.string y.f0) ∧ W.cell? ⟨(ad.add (i * 4)).block, (ad.add (i * 4)).off + 1, none⟩ = some (.int .i64 y.f1.f0) ∧ W.cell? ⟨(ad.add (i * 4)).block, (ad.add (i * 4)).off + 2, none⟩ = some (.int .i64 y.f1.f1) ∧ W.cell? ⟨(ad.add (i * 4)).block, (ad.add (i * 4)).off + 3, none⟩ = some (.slice A1 y.f1.f2.length c1) ∧ W.cell? (ae.add (i * 4)) = some (.string y.f0) ∧ W.cell? ⟨(ae.add (i * 4)).block, (ae.add (i * 4)).off + 1, none⟩ = some (.int .i64 y.f1.f0) ∧ W.cell? ⟨(ae.add (i * 4)).block, (ae.add (i * 4)).off + 2, none⟩ = some (.int .i64 y.f1.f1) ∧ W.cell? ⟨(ae.add (i * 4)).block, (ae.add (i * 4)).off + 3, none⟩ = some (.slice B1 y.f1.f2.length d1)) ((fun _ H => ⟨H.at_ x0, H.at_ x1, H.at_ x2, H.at_ x3, H.at_ z0, H.at_ z1, H.at_ z2, H.at_ z3⟩) _ HS) (fun hS => ?_)
   (repeat (first | refine RT.tk ?_ | (refine RT.o1 ?_; refine ju HS (fun _ H => ⟨H.at_ x0, H.at_ x1, H.at_ x2, H.at_ x3, H.at_ z0, H.at_ z1, H.at_ z2, H.at_ z3⟩) (zcc (y := y.f1) (Kd.C_below HI.out HS.below) (Kd.C_below KI.out HS.below)) ?_; clear HS hS; intro w_ hS HS; refine RT.nm ?_)))
   refine RT.nil ?_
   clear hS x0 x1 x2 x3 z0 z1 z2 z3
   go_wp2
   go_roundg (l.length - (i + 1))
   case measure => have := HK.out; omega
   case rel => exact ⟨i + 1, by have h_ : wrap64 ((i : Int) + 1) = ((i + 1 : Nat) : Int) := z9 (by omega) (by have := HLEN.out; omega); first | (rw [h_]) | (simp only [h_]) | rfl, ⟨by have := HK.out; omega⟩, ⟨HS⟩⟩
  ·go_wp2
   go_ret
   exact ⟨rfl, HS.below⟩
theorem V2 {l : List S46} {A B : Option Addr} {c d : Nat} {w : World} (hr : k46.C w A l.length l) (hr2 : k46.C w B l.length l) : Calls Tryz.prog 42 #[.slice A l.length c, .slice B l.length d] w fun e w' => e = .returned (.bool true) ∧ Below w.heap.size w w' := by
 have HR := za.mk hr
 have HR2 := za.mk hr2
 have HLEN := za.mk hr.2.1
 have HS := Sat.nil w
 clear hr hr2
 go_enter Tryz.func42, Tryz.ntmps42
 go_wp2
 have HZ := za.mk HS
 clear HS
 go_loopg [5] l.length (fun kq vi wr => ∃ i : Nat, vi = .int .i64 i ∧ za (i + kq = l.length) ∧ za (Sat [] w wr [] []))
 case atStart => exact ⟨0, rfl, ⟨by simp⟩, HZ⟩
 case round =>
  clear HZ
  obtain ⟨i, rfl, HK, HT⟩ := hrel
  have HS := HT.out
  clear HT
  have hil : i ≤ l.length := by have := HK.out; omega
  by_cases hlt : i < l.length
  ·obtain ⟨ad, A1, c1, e0, x0, x1, x2, x3, x4, hll, hin⟩ := Zr HR.out (i : Int) (by omega) (by omega)
   obtain ⟨ae, B1, d1, f0, z0, z1, z2, z3, z4, kll, kin⟩ := Zr HR2.out (i : Int) (by omega) (by omega)
   subst e0 f0
   rw [Int.toNat_natCast] at x0 x1 x2 x3 x4 z0 z1 z2 z3 z4
   generalize xH l (i : Int) = y at x0 x1 x2 x3 x4 z0 z1 z2 z3 z4 hll hin kll kin
   have HL := za.mk hll
   have HI := za.mk hin
   have KL := za.mk kll
   have KI := za.mk kin
   clear hll hin kll kin
   have b0 : (0 : Int) ≤ (i : Int) := by omega
   have b1 : (i : Int) < (l.length : Int) := by omega
   go_wp2
   replace HS := HS.drewN 1
   refine qP (.op 0 0 17 (.op 1 0 18 (.op 2 0 19 (.op 3 0 20 (.op 4 0 21 (.op 5 0 22 (.op 6 0 23 (.op 7 0 24 (.op 8 0 25 (.op 9 0 26 (.op 10 0 27 (.op 11 0 28 (.op 12 0 29 (.op 13 0 30 (.op 14 0 31 (.op 15 0 32 (.op 16 0 33 (.op 17 0 34 (.op 18 0 35 (.op 19 0 36 (.op 20 0 37 (.op 21 0 38 (.op 22 0 39 (.op 23 0 40 (.op 24 0 41 (.op 25 0 42 (.op 26 0 43 (.op 27 0 44 (.op 28 0 45 (.op 29 0 46 (.op 30 0 47 (.op 31 0 48 (.op 32 0 49 (.op 33 0 50 (.op 34 0 51 (.op 35 0 52 (.op 36 0 53 (.op 37 0 54 (.op 38 0 55 (.op 39 0 56 (.op 40 0 57 (.op 41 0 58 (.op 42 0 59 (.op 43 0 60 (.op 44 0 61 (.op 45 0 62 (.op 46 0 63 (.op 47 0 64 (.op 48 0 65 (.op 49 0 66 (.op 50 0 67 (.op 51 0 68 (.op 52 0 69 (.op 53 0 70 (.op 54 0 71 (.op 55 0 72 (.op 56 0 73 (.op 57 0 74 (.op 58 0 75 (.op 59 0 76 (.op 60 0 77 (.op 61 2 78 (.op 62 0 79 (.op 63 0 80 .nil)))))))))))))))))))))))))))))))))))))))))))))))))))))))))))))))) [] (fun W => W.cell? (ad.add (i * 5)) = some (.int .i64 y.f0) ∧ W.cell? ⟨(ad.add (i * 5)).block, (ad.add (i * 5)).off + 1, none⟩ = some (.string y.f1) ∧ W.cell? ⟨(ad.add (i * 5)).block, (ad.add (i * 5)).off + 2, none⟩ = some (.slice A1 y.f2.length c1) ∧ W.cell? ⟨(ad.add (i * 5)).block, (ad.add (i * 5)).off + 3, none⟩ = some (.int .i64 y.f3) ∧ W.cell? ⟨(ad.add (i * 5)).block, (ad.add (i * 5)).off + 4, none⟩ = some (.int .i64 y.f4) ∧ W.cell? (ae.add (i * 5)) = some (.int .i64 y.f0) ∧ W.cell? ⟨(ae.add (i * 5)).block, (ae.add (i * 5)).off + 1, none⟩ = some (.string y.f1) ∧ W.cell? ⟨(ae.add (i * 5)).block, (ae.add (i * 5)).off + 2, none⟩ = some (.slice B1 y.f2.length d1) ∧ W.cell? ⟨(ae.add (i * 5)).block, (ae.add (i * 5)).off + 3, none⟩ = some (.int .i64 y.f3) ∧ W.cell? ⟨(ae.add (i * 5)).block, (ae.add (i * 5)).off + 4, none⟩ = some (.int .i64 y.f4)) ((fun _ H => ⟨H.at_ x0, H.at_ x1, H.at_ x2, H.at_ x3, H.at_ x4, H.at_ z0, H.at_ z1, H.at_ z2, H.at_ z3, H.at_ z4⟩) _ HS) (fun hS => ?_) (hp := ?hp)
   case hp => exact (jq (l := [(0, 0, 17), (1, 0, 18), (2, 0, 19), (3, 0, 20), (4, 0, 21), (5, 0, 22), (6, 0, 23), (7, 0, 24), (8, 0, 25), (9, 0, 26), (10, 0, 27), (11, 0, 28), (12, 0, 29), (13, 0, 30), (14, 0, 31), (15, 0, 32)]) (by as_aux_lemma => kernel_rfl) (jq (l := [(16, 0, 33), (17, 0, 34), (18, 0, 35), (19, 0, 36), (20, 0, 37), (21, 0, 38), (22, 0, 39), (23, 0, 40), (24, 0, 41), (25, 0, 42), (26, 0, 43), (27, 0, 44), (28, 0, 45), (29, 0, 46), (30, 0, 47), (31, 0, 48)]) (by as_aux_lemma => kernel_rfl) (jq (l := [(32, 0, 49), (33, 0, 50), (34, 0, 51), (35, 0, 52), (36, 0, 53), (37, 0, 54), (38, 0, 55), (39, 0, 56), (40, 0, 57), (41, 0, 58), (42, 0, 59), (43, 0, 60), (44, 0, 61), (45, 0, 62), (46, 0, 63), (47, 0, 64)]) (by as_aux_lemma => kernel_rfl) (jq (l := [(48, 0, 65), (49, 0, 66), (50, 0, 67), (51, 0, 68), (52, 0, 69), (53, 0, 70), (54, 0, 71), (55, 0, 72), (56, 0, 73), (57, 0, 74), (58, 0, 75), (59, 0, 76), (60, 0, 77), (61, 2, 78), (62, 0, 79), (63, 0, 80)]) (by as_aux_lemma => kernel_rfl) (by as_aux_lemma => kernel_rfl) rfl) rfl) rfl) rfl)
   (repeat (first | refine RT.tk ?_ | (refine RT.o1 ?_; refine ju HS (fun _ H => ⟨H.at_ x0, H.at_ x1, H.at_ x2, H.at_ x3, H.at_ x4, H.at_ z0, H.at_ z1, H.at_ z2, H.at_ z3, H.at_ z4⟩) (zbu (Kd.C_below HI.out HS.below) (Kd.C_below KI.out HS.below)) ?_; clear HS hS; intro w_ hS HS; refine RT.nm ?_)))
   refine RT.nil ?_
   clear hS x0 x1 x2 x3 x4 z0 z1 z2 z3 z4
   go_wp2
   go_roundg (l.length - (i + 1))
   case measure => have := HK.out; omega
   case rel => exact ⟨i + 1, by have h_ : wrap64 ((i : Int) + 1) = ((i + 1 : Nat) : Int) := z9 (by omega) (by have := HLEN.out; omega); first | (rw [h_]) | (simp only [h_]) | rfl, ⟨by have := HK.out; omega⟩, ⟨HS⟩⟩
  ·go_wp2
   go_ret
   exact ⟨rfl, HS.below⟩
theorem zc0 {x : Fm} {cs ds : List Value} {w : World} (h : FmC w x cs) (h2 : FmC w x ds) : Calls Tryz.prog 14 #[.agg cs.toArray, .agg ds.toArray] w fun e w' => e = .returned (.bool true) ∧ Below w.heap.size w w' := by
 obtain ⟨v5, v6, v7, v8, v9, rfl, ⟨A5, c5, rfl, _, h5⟩, ⟨A6, c6, rfl, _, h6⟩, ⟨A7, c7, rfl, _, h7⟩, ⟨A8, c8, rfl, _, h8⟩, ⟨A9, c9, rfl, _, h9⟩⟩ := h
 obtain ⟨u5, u6, u7, u8, u9, rfl, ⟨B5, d5, rfl, _, k5⟩, ⟨B6, d6, rfl, _, k6⟩, ⟨B7, d7, rfl, _, k7⟩, ⟨B8, d8, rfl, _, k8⟩, ⟨B9, d9, rfl, _, k9⟩⟩ := h2
 exact zdc (fun w' hb => zcf (Kd.C_below h5 hb) (Kd.C_below k5 hb)) (fun w' hb => zcW (Kd.C_below h6 hb) (Kd.C_below k6 hb)) (fun w' hb => V2 (Kd.C_below h7 hb) (Kd.C_below k7 hb)) (fun w' hb => zbJ (Kd.C_below h8 hb) (Kd.C_below k8 hb)) (fun w' hb => Vg (Kd.C_below h9 hb) (Kd.C_below k9 hb))
theorem Sat.bare {gs : List Nat} {w0 w : World} {bs : List Bk} {rs : List Rw} (H : Sat gs w0 w bs rs) : Sat gs w0 w bs [] := H.drop (by simp)
theorem zaN {x : Fm} {cs : List Value} {s : ByteArray} {w : World} (hx : FmC w x cs) (hB : FmB x) (hs : s.size ≤ 140737488351232) : Calls Tryz.prog 4 #[.agg cs.toArray, .string s] w fun e w' => e = .returned (.bool true) ∧ Below w.heap.size w w' := by
 have HX := hx
 obtain ⟨v5, v6, v7, v8, v9, rfl, h5, h6, h7, h8, h9⟩ := hx
 obtain ⟨A5, c5, rfl, _⟩ := h5.id
 obtain ⟨A6, c6, rfl, _⟩ := h6.id
 obtain ⟨A7, c7, rfl, _⟩ := h7.id
 obtain ⟨A8, c8, rfl, _⟩ := h8.id
 obtain ⟨A9, c9, rfl, _⟩ := h9.id
 clear h5 h6 h7 h8 h9
 replace HX := za.mk HX
 have HS := Sat.nil w
 obtain ⟨S, hS⟩ : ∃ S, S = qj s := ⟨_, rfl⟩
 have hse : xc.f (10 * s.size + 10) s = some S := by rw [hS]; exact Vh s hs _ (by omega)
 have h1 : ∃ (T : ByteArray) (e : Int), ZD x T e ∧ (e = 0 → Ze T x 0) ∧ (e = 0 ∨ e = 2) := by
  rcases QB hB with ⟨_, h⟩ | ⟨hr, h, _⟩
  ·exact ⟨_, _, h, fun e => absurd e (by decide), .inr rfl⟩
  ·exact ⟨_, _, h, fun _ => zc4 hB hr, .inl rfl⟩
 obtain ⟨T, e1, hp, hg, he1⟩ := h1
 have h2 : s.size ≤ 5000 → ∃ (y : Fm) (er : Int), Ze S y er ∧ (er = 0 → ZD y S 0) := fun hl => by
  obtain ⟨y, er, h, h0⟩ := zcJ (s := S) (by rw [hS, Zf]; omega)
  refine ⟨y, er, h, fun e => ?_⟩
  obtain ⟨hb, hr, hq⟩ := h0 e
  rcases QB hb with ⟨hn, _⟩ | ⟨_, h, _⟩
  ·rw [hr] at hn; cases hn
  ·rwa [hq] at h
 clear hS hB hs
 replace hp := za.mk hp
 replace hse := za.mk hse
 by_cases hl : (5000 : Int) < (s.size : Int)
 case' pos => clear h2
 case' neg =>
  obtain ⟨y, er, hy, hq⟩ := h2 (by omega)
  replace hy := za.mk hy
  by_cases c2 : er = 0
  case' pos =>
   subst c2
   replace hq := za.mk (hq rfl)
  case' neg =>
   clear hq
   have d1 := beq_eq_false_iff_ne.mpr c2
   have d2 := bne_iff_ne.mpr c2
   clear c2
 all_goals
  rcases he1 with rfl | rfl
  case' inl => replace hg := za.mk (hg rfl)
  case' inr => clear hg
 all_goals
  go_enter Tryz.func4, Tryz.ntmps4
  go_wp2_with ((first | ((with_reducible refine gB rfl ?_); refine zC HS ?_) | ((with_reducible refine gA rfl ?_); refine zt HS ?_) | ((with_reducible refine gS rfl ?_); refine zr HS ?_) | (go_at_call 7; with_reducible refine HS.go (ZD.calls hp.out (HX.out.below HS.below)) ?_) | (go_at_call 7; with_reducible refine HS.go (ZD.calls hq.out HS.fmC) ?_) | (go_at_call 13; with_reducible refine HS.got (F := fun cs => .tuple #[.agg cs.toArray, .int .i64 0]) (Ze.calls hg.out) ?_) | (go_at_call 13; with_reducible refine HS.bare.got (F := fun cs => .tuple #[.agg cs.toArray, .int .i64 0]) (Ze.calls hy.out) ?_) | (go_at_call 13; with_reducible refine HS.bare.got (F := fun cs => .tuple #[.agg cs.toArray, .int .i64 er]) (Ze.calls hy.out) ?_) | (go_at_call 14; with_reducible refine HS.go (zc0 (HX.out.below HS.below) HS.fmC) ?_) | (go_at_call 9; refine HS.go (zcV _) ?_) | (go_at_call 11; refine HS.go (xc.calls _ s S _ hse.out) ?_)); clear HS; (try clear hc); intros; rename_i HS; have hc := HS.lk; simp only [Lk, LkC, Value.cells, List.toList_toArray, Nat.reduceAdd, Nat.zero_add, and_true, zf, zg, ze, zh] at HS hc)
  go_ret
  exact ⟨rfl, HS.below⟩
theorem YV {α : Type} (f : α → Nat) (l : List α) : ∀ x ∈ l, f x ≤ (l.map f).sum := by
 induction l with
 | nil => simp
 | cons y l ih =>
  intro x hx
  rw [List.map_cons, List.sum_cons]
  rcases List.mem_cons.1 hx with rfl | hx
  ·omega
  ·have := ih x hx; omega
theorem vt {α : Type} (f : α → Nat) (c : Nat) (h : ∀ x, c ≤ f x) (l : List α) : c * l.length ≤ (l.map f).sum := by
 induction l with
 | nil => simp
 | cons y l ih =>
  have := h y
  rw [List.map_cons, List.sum_cons, List.length_cons, Nat.mul_succ]
  omega
theorem Qx {l : List Int} (h : (l.map fun _ => 1).sum ≤ 1048576) (hw : ∀ y ∈ l, (Lit.int .i64 y).wf = true) : vV l :=
 ⟨by have := vt (fun _ : Int => 1) 1 (fun _ => Nat.le_refl _) l; omega, hw⟩
theorem FmB.of (a0 a1 a2 a3 a4 : Int) (l5 : List ByteArray) (l6 : List S52) (l7 : List S46) (l8 : List S86) (l9 : List S77) (g0 : (Lit.int .i64 a0).wf = true) (g1 : (Lit.int .i64 a1).wf = true) (g2 : (Lit.int .i64 a2).wf = true) (g3 : (Lit.int .i64 a3).wf = true) (g4 : (Lit.int .i64 a4).wf = true)
  (g5 : l5.length * 16 ≤ 140737488351232 ∧ l5.length ≤ 9223372036854775807 ∧ ∀ y2 ∈ l5, y2.size ≤ 140737488351232)
  (g6 : l6.length * 72 ≤ 140737488351232 ∧ l6.length ≤ 9223372036854775807 ∧ ∀ y2 ∈ l6, ((Lit.int .i64 y2.f0).wf = true ∧ (Lit.int .i64 y2.f1).wf = true ∧ y2.f2.size ≤ 140737488351232 ∧ (Lit.int .i64 y2.f3).wf = true ∧ (y2.f4.length * 8 ≤ 140737488351232 ∧ y2.f4.length ≤ 9223372036854775807 ∧ ∀ y3 ∈ y2.f4, (Lit.int .i64 y3).wf = true) ∧ (Lit.int .i64 y2.f5).wf = true))
  (g7 : l7.length * 64 ≤ 140737488351232 ∧ l7.length ≤ 9223372036854775807 ∧ ∀ y2 ∈ l7, ((Lit.int .i64 y2.f0).wf = true ∧ y2.f1.size ≤ 140737488351232 ∧ (y2.f2.length * 32 ≤ 140737488351232 ∧ y2.f2.length ≤ 9223372036854775807 ∧ ∀ y3 ∈ y2.f2, ((Lit.int .i64 y3.f0).wf = true ∧ (y3.f1.length * 8 ≤ 140737488351232 ∧ y3.f1.length ≤ 9223372036854775807 ∧ ∀ y4 ∈ y3.f1, (Lit.int .i64 y4).wf = true))) ∧ (Lit.int .i64 y2.f3).wf = true ∧ (Lit.int .i64 y2.f4).wf = true))
  (g8 : l8.length * 56 ≤ 140737488351232 ∧ l8.length ≤ 9223372036854775807 ∧ ∀ y2 ∈ l8, (y2.f0.size ≤ 140737488351232 ∧ ((Lit.int .i64 y2.f1.f0).wf = true ∧ (Lit.int .i64 y2.f1.f1).wf = true ∧ (y2.f1.f2.length * 8 ≤ 140737488351232 ∧ y2.f1.f2.length ≤ 9223372036854775807 ∧ ∀ y3 ∈ y2.f1.f2, (Lit.int .i64 y3).wf = true))))
  (g9 : l9.length * 16 ≤ 140737488351232 ∧ l9.length ≤ 9223372036854775807 ∧ ∀ y2 ∈ l9, ((Lit.int .i64 y2.f0).wf = true ∧ (Lit.int .i64 y2.f1).wf = true))
  (hM : (1 + (1 + (1 + (1 + (1 + (((l5.map fun y2 => (y2.size + 1)).sum + 1) + (((l6.map fun y2 => (1 + (1 + ((y2.f2.size + 1) + (1 + (((y2.f4.map fun y3 => 1).sum + 1) + 1)))))).sum + 1) + (((l7.map fun y2 => (1 + ((y2.f1.size + 1) + (((y2.f2.map fun y3 => (1 + ((y3.f1.map fun y4 => 1).sum + 1))).sum + 1) + (1 + 1))))).sum + 1) + (((l8.map fun y2 => ((y2.f0.size + 1) + (1 + (1 + ((y2.f1.f2.map fun y3 => 1).sum + 1))))).sum + 1) + ((l9.map fun y2 => (1 + 1)).sum + 1)))))))))) ≤ 1048576) : FmB ⟨a0, a1, a2, a3, a4, l5, l6, l7, l8, l9⟩ := by
 have b5 := vt (fun y2 : ByteArray => y2.size + 1) 1 (fun _ => by omega) l5
 have b6 := vt (fun y2 : S52 => (1 + (1 + ((y2.f2.size + 1) + (1 + (((y2.f4.map fun y3 => 1).sum + 1) + 1)))))) 1 (fun _ => by omega) l6
 have b7 := vt (fun y2 : S46 => (1 + ((y2.f1.size + 1) + (((y2.f2.map fun y3 => (1 + ((y3.f1.map fun y4 => 1).sum + 1))).sum + 1) + (1 + 1))))) 1 (fun _ => by omega) l7
 have b8 := vt (fun y2 : S86 => ((y2.f0.size + 1) + (1 + (1 + ((y2.f1.f2.map fun y3 => 1).sum + 1))))) 2 (fun _ => by omega) l8
 have b9 := vt (fun y2 : S77 => 1 + 1) 1 (fun _ => by omega) l9
 refine ⟨g0, g1, g2, g3, g4, ⟨by show l5.length ≤ _; omega, g5.2.2⟩, ⟨by show l6.length ≤ _; omega, fun y hy => ?_⟩, ⟨by show l7.length ≤ _; omega, fun y hy => ?_⟩, ⟨by show l8.length ≤ _; omega, fun y hy => ?_, fun y hy => ?_⟩, ⟨by show l9.length ≤ _; omega, g9.2.2⟩⟩
 ·have h := g6.2.2 y hy
  have m := YV (fun y2 : S52 => (1 + (1 + ((y2.f2.size + 1) + (1 + (((y2.f4.map fun y3 => 1).sum + 1) + 1)))))) l6 y hy
  exact ⟨h.1, h.2.1, h.2.2.1, h.2.2.2.1, Qx (by omega) h.2.2.2.2.1.2.2, h.2.2.2.2.2⟩
 ·have h := g7.2.2 y hy
  have m := YV (fun y2 : S46 => (1 + ((y2.f1.size + 1) + (((y2.f2.map fun y3 => (1 + ((y3.f1.map fun y4 => 1).sum + 1))).sum + 1) + (1 + 1))))) l7 y hy
  have b := vt (fun y3 : S108 => 1 + ((y3.f1.map fun y4 => 1).sum + 1)) 1 (fun _ => by omega) y.f2
  refine ⟨h.1, h.2.1, ⟨by omega, fun e he => ⟨(h.2.2.1.2.2 e he).1, Qx ?_ (h.2.2.1.2.2 e he).2.2.2⟩⟩, h.2.2.2.1, h.2.2.2.2⟩
  have m2 := YV (fun y3 : S108 => 1 + ((y3.f1.map fun y4 => 1).sum + 1)) y.f2 e he
  omega
 ·have m := YV (fun y2 : S86 => ((y2.f0.size + 1) + (1 + (1 + ((y2.f1.f2.map fun y3 => 1).sum + 1))))) l8 y hy
  omega
 ·have h := g8.2.2 y hy
  have m := YV (fun y2 : S86 => ((y2.f0.size + 1) + (1 + (1 + ((y2.f1.f2.map fun y3 => 1).sum + 1))))) l8 y hy
  exact ⟨h.1, h.2.1, h.2.2.1, Qx (by omega) h.2.2.2.2.2⟩
theorem Qn (a0 a1 a2 a3 a4 : Int) (A5 : Option Addr) (c5 : Nat) (l5 : List ByteArray) (A6 : Option Addr) (c6 : Nat) (l6 : List S52) (A7 : Option Addr) (c7 : Nat) (l7 : List S46) (A8 : Option Addr) (c8 : Nat) (l8 : List S86) (A9 : Option Addr) (c9 : Nat) (l9 : List S77) (s : ByteArray) (W : World) (g0 : (Lit.int .i64 a0).wf = true) (g1 : (Lit.int .i64 a1).wf = true) (g2 : (Lit.int .i64 a2).wf = true) (g3 : (Lit.int .i64 a3).wf = true) (g4 : (Lit.int .i64 a4).wf = true)
  (g5 : l5.length * 16 ≤ 140737488351232 ∧ l5.length ≤ 9223372036854775807 ∧ ∀ y2 ∈ l5, y2.size ≤ 140737488351232)
  (g6 : l6.length * 72 ≤ 140737488351232 ∧ l6.length ≤ 9223372036854775807 ∧ ∀ y2 ∈ l6, ((Lit.int .i64 y2.f0).wf = true ∧ (Lit.int .i64 y2.f1).wf = true ∧ y2.f2.size ≤ 140737488351232 ∧ (Lit.int .i64 y2.f3).wf = true ∧ (y2.f4.length * 8 ≤ 140737488351232 ∧ y2.f4.length ≤ 9223372036854775807 ∧ ∀ y3 ∈ y2.f4, (Lit.int .i64 y3).wf = true) ∧ (Lit.int .i64 y2.f5).wf = true))
  (g7 : l7.length * 64 ≤ 140737488351232 ∧ l7.length ≤ 9223372036854775807 ∧ ∀ y2 ∈ l7, ((Lit.int .i64 y2.f0).wf = true ∧ y2.f1.size ≤ 140737488351232 ∧ (y2.f2.length * 32 ≤ 140737488351232 ∧ y2.f2.length ≤ 9223372036854775807 ∧ ∀ y3 ∈ y2.f2, ((Lit.int .i64 y3.f0).wf = true ∧ (y3.f1.length * 8 ≤ 140737488351232 ∧ y3.f1.length ≤ 9223372036854775807 ∧ ∀ y4 ∈ y3.f1, (Lit.int .i64 y4).wf = true))) ∧ (Lit.int .i64 y2.f3).wf = true ∧ (Lit.int .i64 y2.f4).wf = true))
  (g8 : l8.length * 56 ≤ 140737488351232 ∧ l8.length ≤ 9223372036854775807 ∧ ∀ y2 ∈ l8, (y2.f0.size ≤ 140737488351232 ∧ ((Lit.int .i64 y2.f1.f0).wf = true ∧ (Lit.int .i64 y2.f1.f1).wf = true ∧ (y2.f1.f2.length * 8 ≤ 140737488351232 ∧ y2.f1.f2.length ≤ 9223372036854775807 ∧ ∀ y3 ∈ y2.f1.f2, (Lit.int .i64 y3).wf = true))))
  (g9 : l9.length * 16 ≤ 140737488351232 ∧ l9.length ≤ 9223372036854775807 ∧ ∀ y2 ∈ l9, ((Lit.int .i64 y2.f0).wf = true ∧ (Lit.int .i64 y2.f1).wf = true))
  (w1 : s.size ≤ 140737488351232) (hC5 : Kd.C Kd.string W A5 l5.length l5) (hl5 : l5.length ≤ c5) (hC6 : Kd.C k52 W A6 l6.length l6) (hl6 : l6.length ≤ c6) (hC7 : Kd.C k46 W A7 l7.length l7) (hl7 : l7.length ≤ c7) (hC8 : Kd.C k86 W A8 l8.length l8) (hl8 : l8.length ≤ c8) (hC9 : Kd.C k77 W A9 l9.length l9) (hl9 : l9.length ≤ c9)
  (hM : (1 + (1 + (1 + (1 + (1 + (((l5.map fun y2 => (y2.size + 1)).sum + 1) + (((l6.map fun y2 => (1 + (1 + ((y2.f2.size + 1) + (1 + (((y2.f4.map fun y3 => 1).sum + 1) + 1)))))).sum + 1) + (((l7.map fun y2 => (1 + ((y2.f1.size + 1) + (((y2.f2.map fun y3 => (1 + ((y3.f1.map fun y4 => 1).sum + 1))).sum + 1) + (1 + 1))))).sum + 1) + (((l8.map fun y2 => ((y2.f0.size + 1) + (1 + (1 + ((y2.f1.f2.map fun y3 => 1).sum + 1))))).sum + 1) + ((l9.map fun y2 => (1 + 1)).sum + 1)))))))))) ≤ 1048576) :
  Calls Tryz.prog 4 #[.agg #[.int .i64 a0, .int .i64 a1, .int .i64 a2, .int .i64 a3, .int .i64 a4, .slice A5 l5.length c5, .slice A6 l6.length c6, .slice A7 l7.length c7, .slice A8 l8.length c8, .slice A9 l9.length c9], .string s] W fun e w' => e = .returned (.bool true) ∧ Below W.heap.size W w' := by
 exact zaN (x := ⟨a0, a1, a2, a3, a4, l5, l6, l7, l8, l9⟩) ⟨_, _, _, _, _, rfl, ⟨A5, c5, rfl, hl5, hC5⟩, ⟨A6, c6, rfl, hl6, hC6⟩, ⟨A7, c7, rfl, hl7, hC7⟩, ⟨A8, c8, rfl, hl8, hC8⟩, ⟨A9, c9, rfl, hl9, hC9⟩⟩ (FmB.of a0 a1 a2 a3 a4 l5 l6 l7 l8 l9 g0 g1 g2 g3 g4 g5 g6 g7 g8 g9 hM) w1
section
variable {H : Type} (enc : TypeId × Value → H) (P : Program) (W : World)
def jp {α : Type} (t : TypeId) (d : Kd α) (G : α → Prop) : Prop :=
 P.cellsOf t = d.sz ∧ ∀ (fuel : Nat) (cs : List Value) (x : DataW H × List MemPlace), DataW.trod enc P W 0 (fun _ => true) true fuel t cs = some x → (∀ n ∈ x.1.weights P t, n ≤ reachBytes) → ∃ y, d.K W y cs ∧ G y
def vq {α : Type} (ts : List TypeId) (d : Kd α) (G : α → Prop) : Prop :=
 (ts.map P.cellsOf).sum = d.sz ∧ ∀ (fuel : Nat) (cs : List Value) (xs : List (DataW H × List MemPlace)), cs.length = (ts.map P.cellsOf).sum → xs.length = ts.length →
  (∀ i t, ts[i]? = some t → DataW.trod enc P W 0 (fun _ => true) true fuel t ((cs.drop ((ts.take i).map P.cellsOf).sum).take (P.cellsOf t)) = xs[i]?) →
  (∀ n ∈ DataW.weightsEach P ts (xs.map (·.1)), n ≤ reachBytes) → ∃ y, d.K W y cs ∧ G y
variable {enc P W}
theorem jp.int {t : TypeId} {k : IntKind} (ht : P.underlying t = some (.int k)) (hc : P.cellsOf t = 1) : jp enc P W t (Kd.int k) (fun n => (Lit.int k n).wf = true) := by
 refine ⟨hc, fun fuel cs x h _ => ?_⟩
 obtain ⟨n, rfl, _, hw⟩ := DataW.trod_int ht h
 exact ⟨n, rfl, hw⟩
theorem jp.bool {t : TypeId} (ht : P.underlying t = some .bool) (hc : P.cellsOf t = 1) : jp enc P W t Kd.bool (fun _ => True) := by
 refine ⟨hc, fun fuel cs x h _ => ?_⟩
 cases fuel with
 | zero => simp [DataW.trod] at h
 | succ n =>
  unfold DataW.trod at h
  rw [ht] at h
  split at h <;> first | exact ⟨_, rfl, trivial⟩ | simp_all
theorem jp.string {t : TypeId} (ht : P.underlying t = some .string) (hc : P.cellsOf t = 1) : jp enc P W t Kd.string (fun s => s.size ≤ 140737488351232) := by
 refine ⟨hc, fun fuel cs x h hw => ?_⟩
 obtain ⟨s, rfl, rfl, _⟩ := DataW.trod_string ht h
 refine ⟨s, rfl, ?_⟩
 have := hw s.data.toList.length (by simp [DataW.weights])
 simpa [reachBytes, Array.length_toList] using this
theorem Xy {e : TypeId} {ds : List (DataW H)} {d : DataW H} (h : d ∈ ds) : ∀ n ∈ d.weights P e, n ∈ DataW.weightsAll P e ds := by
 induction ds with
 | nil => cases h
 | cons d' ds ih =>
  intro n hn
  rw [DataW.weightsAll, List.mem_append]
  rcases List.mem_cons.1 h with rfl | h
  ·exact .inl hn
  ·exact .inr (ih h n hn)
open Classical in
theorem Xu {α : Type} (z : α) (R : Nat → α → Prop) (n : Nat) (h : ∀ i, i < n → ∃ y, R i y) : ∃ l : List α, l.length = n ∧ ∀ i (hi : i < n) (hl : i < l.length), R i l[i] := by
 refine ⟨(List.range n).map fun i => if h' : ∃ y, R i y then Classical.choose h' else z, by simp, fun i hi hl => ?_⟩
 have he := h i hi
 simp only [List.getElem_map, List.getElem_range, dif_pos he]
 exact Classical.choose_spec he
theorem jp.slice {α : Type} (z : α) {t e : TypeId} {d : Kd α} {G : α → Prop} (bytes : Nat) (ht : P.underlying t = some (.slice e)) (hc : P.cellsOf t = 1) (hb : P.bytesOf e = bytes) (h : jp enc P W e d G) :
  jp enc P W t (Kd.slice e d) (fun xs => xs.length * bytes ≤ 140737488351232 ∧ xs.length ≤ 9223372036854775807 ∧ ∀ x ∈ xs, G x) := by
 refine ⟨hc, fun fuel cs x hx hw => ?_⟩
 rcases Go.Deep.open_slice ht hx with ⟨rfl, rfl⟩ | ⟨a, len, cap, m, n, D, Pl, rfl, _, hlc, hcm, hm, rfl, hel⟩
 ·exact ⟨[], ⟨none, 0, rfl, Nat.le_refl _, Kd.C_nil d W⟩, by simp, by simp, fun x hx => by cases hx⟩
 ·have hlm : len ≤ m := by rw [hm]; split <;> omega
  have hwt : DataW.weights P t (.slice ((List.range len).map D) ((List.range (m - len)).map fun j => D (len + j))) =
    (((List.range len).map D).length + ((List.range (m - len)).map fun j => D (len + j)).length) * P.bytesOf e :: (DataW.weightsAll P e ((List.range len).map D) ++ DataW.weightsAll P e ((List.range (m - len)).map fun j => D (len + j))) := by
   rw [DataW.weights]
   simp only [ht]
  have hel' : ∀ i, i < len → ∃ y, (∃ cs', W.cells? 0 (a.add (i * P.cellsOf e)) (P.cellsOf e) = some cs' ∧ d.K W y cs') ∧ G y := by
   intro i hi
   obtain ⟨cs', h1, h2⟩ := hel i (by omega)
   obtain ⟨y, hy, hg⟩ := h.2 n cs' _ h2 (fun n hn => hw n (by
    rw [hwt]
    exact List.mem_cons_of_mem _ (List.mem_append_left _ (Xy (List.mem_map.2 ⟨i, List.mem_range.2 hi, rfl⟩) n hn))))
   exact ⟨y, ⟨cs', h1, hy⟩, hg⟩
  obtain ⟨l, hll, hl⟩ := Xu z _ len hel'
  have hb1 := hw _ (by rw [hwt]; exact List.mem_cons_self)
  have hle : len * bytes ≤ 140737488351232 := by
   simp only [List.length_map, List.length_range, hb, reachBytes] at hb1
   exact Nat.le_trans (Nat.mul_le_mul_right _ (by omega)) hb1
  have hmx : len ≤ 9223372036854775807 := by
   simp only [maxLen] at hcm
   omega
  refine ⟨l, ⟨some a, cap, by rw [hll], by omega, by rw [hll], by omega, fun _ => ⟨a, rfl, fun j p hj => ?_⟩⟩, by rw [hll]; exact hle, by omega, fun x hx => ?_⟩
  ·obtain ⟨hjl, rfl⟩ := List.getElem?_eq_some_iff.1 hj
   obtain ⟨⟨cs', h1, hK⟩, _⟩ := hl j (by omega) hjl
   obtain ⟨_, hcl, hcell⟩ := World.cells?_some h1
   refine ⟨cs', by rw [hcl, h.1], hK, fun i u hu => ?_⟩
   have hi : i < P.cellsOf e := by
    have := (List.getElem?_eq_some_iff.1 hu).1
    omega
   have := hcell i hi
   rw [hu, Vu, h.1] at this
   exact this
  ·obtain ⟨j, hj, rfl⟩ := List.getElem_of_mem hx
   exact (hl j (by omega) hj).2
theorem vq.one {α : Type} {t : TypeId} {d : Kd α} {G : α → Prop} (h : jp enc P W t d G) : vq enc P W [t] d G := by
 refine ⟨by simp [h.1], fun fuel cs xs hl hx hr hw => ?_⟩
 have hr0 := hr 0 t rfl
 simp only [List.take_zero, List.map_nil, List.sum_nil, List.drop_zero] at hr0
 have hc : cs.length = P.cellsOf t := by simpa using hl
 rw [List.take_of_length_le (by omega)] at hr0
 match xs, hx with
 | [x], _ =>
  exact h.2 fuel cs x hr0 (fun n hn => hw n (by simp [DataW.weightsEach, hn]))
theorem vq.cons {α β : Type} {t : TypeId} {ts : List TypeId} {d : Kd α} {d' : Kd β} {G : α → Prop} {G' : β → Prop} (h : jp enc P W t d G) (h' : vq enc P W ts d' G') :
  vq enc P W (t :: ts) (Kd.pair d d') (fun y => G y.1 ∧ G' y.2) := by
 refine ⟨by simp [Kd.pair, h.1, h'.1], fun fuel cs xs hl hx hr hw => ?_⟩
 match xs, hx with
 | x :: xs, hx =>
  have hr0 := hr 0 t rfl
  simp only [List.take_zero, List.map_nil, List.sum_nil, List.drop_zero] at hr0
  obtain ⟨y, hy, hg⟩ := h.2 fuel _ x hr0 (fun n hn => hw n (by simp [DataW.weightsEach, hn]))
  have hl2 : (cs.drop (P.cellsOf t)).length = (ts.map P.cellsOf).sum := by
   rw [List.length_drop, hl, List.map_cons, List.sum_cons]
   omega
  obtain ⟨y', hy', hg'⟩ := h'.2 fuel (cs.drop (P.cellsOf t)) xs hl2 (by simpa using hx) (fun i t' ht' => by
   have := hr (i + 1) t' (by simpa using ht')
   simp only [List.take_succ_cons, List.map_cons, List.sum_cons, List.getElem?_cons_succ] at this
   rw [List.drop_drop]
   exact this) (fun n hn => hw n (by simp only [List.map_cons, DataW.weightsEach, List.mem_append]; exact .inr hn))
  exact ⟨(y, y'), ⟨_, _, (List.take_append_drop (P.cellsOf t) cs).symm, hy, hy'⟩, hg, hg'⟩
theorem jp.struct {α β : Type} {t : TypeId} {fs : Array Field} (ts : List TypeId) {d : Kd α} {G : α → Prop} (f : β → α) (g : α → β) (hfg : ∀ a, f (g a) = a) (ht : P.underlying t = some (.struct fs)) (hts : fs.toList.map (·.type) = ts)
  (hoff0 : fs.toList.map (·.offset) = (List.range fs.size).map fun i => ((ts.take i).map P.cellsOf).sum) (hc : P.cellsOf t = (ts.map P.cellsOf).sum) (h : vq enc P W ts d G) : jp enc P W t (Kd.iso d f) (fun y => G (f y)) := by
 have hoff : ∀ i fd, fs[i]? = some fd → fd.offset = ((ts.take i).map P.cellsOf).sum := by
  intro i fd hi
  have h1 : (fs.toList.map (·.offset))[i]? = some fd.offset := by rw [List.getElem?_map, Array.getElem?_toList, hi]; rfl
  have hlt : i < fs.size := (Array.getElem?_eq_some_iff.1 hi).1
  rw [hoff0, List.getElem?_map, List.getElem?_range hlt] at h1
  simpa using h1.symm
 refine ⟨hc.trans h.1, fun fuel cs x hx hw => ?_⟩
 obtain ⟨xs, n, rfl, rfl, hcl, hxl, hfd⟩ := DataW.trod_struct ht hx
 have hwt : DataW.weights P t (.agg (xs.map (·.1)) : DataW H) = DataW.weightsEach P ts (xs.map (·.1)) := by
  rw [DataW.weights]
  simp only [ht, hts]
 obtain ⟨y, hy, hg⟩ := h.2 n cs xs (hcl.trans hc) (by rw [hxl, ← hts]; simp) (fun i t' ht' => by
  rw [← hts, List.getElem?_map, Option.map_eq_some_iff] at ht'
  obtain ⟨fd, hfi, rfl⟩ := ht'
  rw [Array.getElem?_toList] at hfi
  rw [← hoff i fd hfi]
  exact hfd i fd hfi) (fun n hn => hw n (by rw [hwt]; exact hn))
 exact ⟨g y, by show d.K W (f (g y)) cs; rw [hfg]; exact hy, by show G (f (g y)); rw [hfg]; exact hg⟩
theorem JY {ts : List TypeId} : ∀ {ds : List (DataW H)} {j : Nat} {t : TypeId} {d : DataW H}, ts[j]? = some t → ds[j]? = some d → ∀ n ∈ d.weights P t, n ∈ DataW.weightsEach P ts ds := by
 induction ts with
 | nil => intro ds j t d h; simp at h
 | cons t' ts ih =>
  intro ds j t d h h' n hn
  cases ds with
  | nil => simp at h'
  | cons d' ds =>
   rw [DataW.weightsEach, List.mem_append]
   cases j with
   | zero =>
    simp only [List.getElem?_cons_zero, Option.some.injEq] at h h'
    subst h h'
    exact .inl hn
   | succ j => exact .inr (ih (by simpa using h) (by simpa using h') n hn)
end
theorem zbZ {H : Type} {α : Type} (m : α → Nat) (D : Nat → DataW H) (l : List α) (n : Nat) (hl : l.length = n) (h : ∀ i (hi : i < n) (hl' : i < l.length), m l[i] ≤ Rows.uptoBulk (D i)) : (l.map m).sum ≤ Rows.uptoBulkAll ((List.range n).map D) := by
 subst hl
 induction l generalizing D with
 | nil => exact Nat.zero_le _
 | cons x l ih =>
  rw [List.length_cons, List.range_succ_eq_map, List.map_cons, List.map_cons, List.map_map, List.sum_cons, Rows.uptoBulkAll]
  exact Nat.add_le_add (h 0 (by simp) (by simp)) (ih (D ∘ Nat.succ) (fun i hi hl' => h (i + 1) (by simpa using hi) (by simpa using hl')))
section
variable {H : Type} (enc : TypeId × Value → H) (P : Program) (W : World)
def zV {α : Type} (t : TypeId) (d : Kd α) (G : α → Prop) (m : α → Nat) : Prop :=
 P.cellsOf t = d.sz ∧ ∀ (fuel : Nat) (cs : List Value) (x : DataW H × List MemPlace), DataW.trod enc P W 0 (fun _ => true) true fuel t cs = some x → (∀ n ∈ x.1.weights P t, n ≤ reachBytes) → ∃ y, d.K W y cs ∧ G y ∧ m y ≤ Rows.uptoBulk x.1
def z7 {α : Type} (ts : List TypeId) (d : Kd α) (G : α → Prop) (m : α → Nat) : Prop :=
 (ts.map P.cellsOf).sum = d.sz ∧ ∀ (fuel : Nat) (cs : List Value) (xs : List (DataW H × List MemPlace)), cs.length = (ts.map P.cellsOf).sum → xs.length = ts.length →
  (∀ i t, ts[i]? = some t → DataW.trod enc P W 0 (fun _ => true) true fuel t ((cs.drop ((ts.take i).map P.cellsOf).sum).take (P.cellsOf t)) = xs[i]?) →
  (∀ n ∈ DataW.weightsEach P ts (xs.map (·.1)), n ≤ reachBytes) → ∃ y, d.K W y cs ∧ G y ∧ m y ≤ Rows.uptoBulkAll (xs.map (·.1))
variable {enc P W}
theorem zV.int {t : TypeId} {k : IntKind} (ht : P.underlying t = some (.int k)) (hc : P.cellsOf t = 1) : zV enc P W t (Kd.int k) (fun n => (Lit.int k n).wf = true) (fun _ => 1) := by
 refine ⟨hc, fun fuel cs x h _ => ?_⟩
 obtain ⟨n, rfl, rfl, hw⟩ := DataW.trod_int ht h
 exact ⟨n, rfl, hw, Nat.le_refl _⟩
theorem zV.bool {t : TypeId} (ht : P.underlying t = some .bool) (hc : P.cellsOf t = 1) : zV enc P W t Kd.bool (fun _ => True) (fun _ => 0) := by
 refine ⟨hc, fun fuel cs x h _ => ?_⟩
 cases fuel with
 | zero => simp [DataW.trod] at h
 | succ n =>
  unfold DataW.trod at h
  rw [ht] at h
  split at h <;> first | exact ⟨_, rfl, trivial, Nat.zero_le _⟩ | simp_all
theorem zV.string {t : TypeId} (ht : P.underlying t = some .string) (hc : P.cellsOf t = 1) : zV enc P W t Kd.string (fun s => s.size ≤ 140737488351232) (fun s => s.size + 1) := by
 refine ⟨hc, fun fuel cs x h hw => ?_⟩
 obtain ⟨s, rfl, rfl, _⟩ := DataW.trod_string ht h
 refine ⟨s, rfl, ?_, ?_⟩
 ·have := hw s.data.toList.length (by simp [DataW.weights])
  simpa [reachBytes, Array.length_toList] using this
 ·show s.size + 1 ≤ s.data.toList.length + 1
  rw [Array.length_toList]
  exact Nat.le_refl _
theorem zV.slice {α : Type} (z : α) {t e : TypeId} {d : Kd α} {G : α → Prop} {m : α → Nat} (bytes : Nat) (ht : P.underlying t = some (.slice e)) (hc : P.cellsOf t = 1) (hb : P.bytesOf e = bytes) (h : zV enc P W e d G m) :
  zV enc P W t (Kd.slice e d) (fun xs => xs.length * bytes ≤ 140737488351232 ∧ xs.length ≤ 9223372036854775807 ∧ ∀ x ∈ xs, G x) (fun xs => (xs.map m).sum + 1) := by
 refine ⟨hc, fun fuel cs x hx hw => ?_⟩
 rcases Go.Deep.open_slice ht hx with ⟨rfl, rfl⟩ | ⟨a, len, cap, mm, n, D, Pl, rfl, _, hlc, hcm, hm, rfl, hel⟩
 ·exact ⟨[], ⟨none, 0, rfl, Nat.le_refl _, Kd.C_nil d W⟩, ⟨by simp, by simp, fun x hx => by cases hx⟩, by simp [Rows.uptoBulk]⟩
 ·have hlm : len ≤ mm := by rw [hm]; split <;> omega
  have hwt : DataW.weights P t (.slice ((List.range len).map D) ((List.range (mm - len)).map fun j => D (len + j))) =
    (((List.range len).map D).length + ((List.range (mm - len)).map fun j => D (len + j)).length) * P.bytesOf e :: (DataW.weightsAll P e ((List.range len).map D) ++ DataW.weightsAll P e ((List.range (mm - len)).map fun j => D (len + j))) := by
   rw [DataW.weights]
   simp only [ht]
  have hel' : ∀ i, i < len → ∃ y, (∃ cs', W.cells? 0 (a.add (i * P.cellsOf e)) (P.cellsOf e) = some cs' ∧ d.K W y cs') ∧ G y ∧ m y ≤ Rows.uptoBulk (D i) := by
   intro i hi
   obtain ⟨cs', h1, h2⟩ := hel i (by omega)
   obtain ⟨y, hy, hg, hmm⟩ := h.2 n cs' _ h2 (fun n hn => hw n (by
    rw [hwt]
    exact List.mem_cons_of_mem _ (List.mem_append_left _ (Xy (List.mem_map.2 ⟨i, List.mem_range.2 hi, rfl⟩) n hn))))
   exact ⟨y, ⟨cs', h1, hy⟩, hg, hmm⟩
  obtain ⟨l, hll, hl⟩ := Xu z _ len hel'
  have hb1 := hw _ (by rw [hwt]; exact List.mem_cons_self)
  have hle : len * bytes ≤ 140737488351232 := by
   simp only [List.length_map, List.length_range, hb, reachBytes] at hb1
   exact Nat.le_trans (Nat.mul_le_mul_right _ (by omega)) hb1
  have hmx : len ≤ 9223372036854775807 := by
   simp only [maxLen] at hcm
   omega
  refine ⟨l, ⟨some a, cap, by rw [hll], by omega, by rw [hll], by omega, fun _ => ⟨a, rfl, fun j p hj => ?_⟩⟩, ⟨by rw [hll]; exact hle, by omega, fun x hx => ?_⟩, ?_⟩
  ·obtain ⟨hjl, rfl⟩ := List.getElem?_eq_some_iff.1 hj
   obtain ⟨⟨cs', h1, hK⟩, _, _⟩ := hl j (by omega) hjl
   obtain ⟨_, hcl, hcell⟩ := World.cells?_some h1
   refine ⟨cs', by rw [hcl, h.1], hK, fun i u hu => ?_⟩
   have hi : i < P.cellsOf e := by
    have := (List.getElem?_eq_some_iff.1 hu).1
    omega
   have := hcell i hi
   rw [hu, Vu, h.1] at this
   exact this
  ·obtain ⟨j, hj, rfl⟩ := List.getElem_of_mem hx
   exact (hl j (by omega) hj).2.1
  ·have hsum : (l.map m).sum ≤ Rows.uptoBulkAll ((List.range len).map D) := zbZ m D l len hll (fun i hi hl' => (hl i hi hl').2.2)
   show (l.map m).sum + 1 ≤ Rows.uptoBulkAll _ + Rows.uptoBulkAll _ + 1
   omega
theorem z7.one {α : Type} {t : TypeId} {d : Kd α} {G : α → Prop} {m : α → Nat} (h : zV enc P W t d G m) : z7 enc P W [t] d G m := by
 refine ⟨by simp [h.1], fun fuel cs xs hl hx hr hw => ?_⟩
 have hr0 := hr 0 t rfl
 simp only [List.take_zero, List.map_nil, List.sum_nil, List.drop_zero] at hr0
 have hc : cs.length = P.cellsOf t := by simpa using hl
 rw [List.take_of_length_le (by omega)] at hr0
 match xs, hx with
 | [x], _ =>
  obtain ⟨y, hy, hg, hmm⟩ := h.2 fuel cs x hr0 (fun n hn => hw n (by simp [DataW.weightsEach, hn]))
  exact ⟨y, hy, hg, by simpa [Rows.uptoBulkAll] using hmm⟩
theorem z7.cons {α β : Type} {t : TypeId} {ts : List TypeId} {d : Kd α} {d' : Kd β} {G : α → Prop} {G' : β → Prop} {m : α → Nat} {m' : β → Nat} (h : zV enc P W t d G m) (h' : z7 enc P W ts d' G' m') :
  z7 enc P W (t :: ts) (Kd.pair d d') (fun y => G y.1 ∧ G' y.2) (fun y => m y.1 + m' y.2) := by
 refine ⟨by simp [Kd.pair, h.1, h'.1], fun fuel cs xs hl hx hr hw => ?_⟩
 match xs, hx with
 | x :: xs, hx =>
  have hr0 := hr 0 t rfl
  simp only [List.take_zero, List.map_nil, List.sum_nil, List.drop_zero] at hr0
  obtain ⟨y, hy, hg, hm1⟩ := h.2 fuel _ x hr0 (fun n hn => hw n (by simp [DataW.weightsEach, hn]))
  have hl2 : (cs.drop (P.cellsOf t)).length = (ts.map P.cellsOf).sum := by
   rw [List.length_drop, hl, List.map_cons, List.sum_cons]
   omega
  obtain ⟨y', hy', hg', hm2⟩ := h'.2 fuel (cs.drop (P.cellsOf t)) xs hl2 (by simpa using hx) (fun i t' ht' => by
   have := hr (i + 1) t' (by simpa using ht')
   simp only [List.take_succ_cons, List.map_cons, List.sum_cons, List.getElem?_cons_succ] at this
   rw [List.drop_drop]
   exact this) (fun n hn => hw n (by simp only [List.map_cons, DataW.weightsEach, List.mem_append]; exact .inr hn))
  exact ⟨(y, y'), ⟨_, _, (List.take_append_drop (P.cellsOf t) cs).symm, hy, hy'⟩, ⟨hg, hg'⟩, Nat.add_le_add hm1 hm2⟩
theorem zV.struct {α β : Type} {t : TypeId} {fs : Array Field} (ts : List TypeId) {d : Kd α} {G : α → Prop} {m : α → Nat} (f : β → α) (g : α → β) (hfg : ∀ a, f (g a) = a) (ht : P.underlying t = some (.struct fs)) (hts : fs.toList.map (·.type) = ts)
  (hoff0 : fs.toList.map (·.offset) = (List.range fs.size).map fun i => ((ts.take i).map P.cellsOf).sum) (hc : P.cellsOf t = (ts.map P.cellsOf).sum) (h : z7 enc P W ts d G m) : zV enc P W t (Kd.iso d f) (fun y => G (f y)) (fun y => m (f y)) := by
 have hoff : ∀ i fd, fs[i]? = some fd → fd.offset = ((ts.take i).map P.cellsOf).sum := by
  intro i fd hi
  have h1 : (fs.toList.map (·.offset))[i]? = some fd.offset := by rw [List.getElem?_map, Array.getElem?_toList, hi]; rfl
  have hlt : i < fs.size := (Array.getElem?_eq_some_iff.1 hi).1
  rw [hoff0, List.getElem?_map, List.getElem?_range hlt] at h1
  simpa using h1.symm
 refine ⟨hc.trans h.1, fun fuel cs x hx hw => ?_⟩
 obtain ⟨xs, n, rfl, rfl, hcl, hxl, hfd⟩ := DataW.trod_struct ht hx
 have hwt : DataW.weights P t (.agg (xs.map (·.1)) : DataW H) = DataW.weightsEach P ts (xs.map (·.1)) := by
  rw [DataW.weights]
  simp only [ht, hts]
 obtain ⟨y, hy, hg, hmm⟩ := h.2 n cs xs (hcl.trans hc) (by rw [hxl, ← hts]; simp) (fun i t' ht' => by
  rw [← hts, List.getElem?_map, Option.map_eq_some_iff] at ht'
  obtain ⟨fd, hfi, rfl⟩ := ht'
  rw [Array.getElem?_toList] at hfi
  rw [← hoff i fd hfi]
  exact hfd i fd hfi) (fun n hn => hw n (by rw [hwt]; exact hn))
 exact ⟨g y, by show d.K W (f (g y)) cs; rw [hfg]; exact hy, by show G (f (g y)); rw [hfg]; exact hg, by show m (f (g y)) ≤ Rows.uptoBulkAll _ + 1; rw [hfg]; omega⟩
end
end Go.Proofs.YtepipnpfggnadaaGreat.Q
