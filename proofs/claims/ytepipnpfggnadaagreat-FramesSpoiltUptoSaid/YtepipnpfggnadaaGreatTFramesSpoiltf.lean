/- Texts of this session laid together (shrink.py): what the claim's law rests on. -/
import Derived.Below
import Derived.Deep.Draws
import Derived.Deep.AppendLies
import Derived.Maps.AppendAt
import Derived.OwnWalk
import Derived.Laws.BytesArg
import Derived.Laws.MakeOwn
import Derived.Laws.OwnMore
import Derived.Deep.OwnRows
import Derived.Tactics
import Derived.Lib.ConvBytes
import Derived.Laws.Slices
import Derived.WalkKit
import Derived.KernelRfl
import Derived.RowKit3
import Derived.Deep.LoopGhost
import Derived.Deep.QuietTactic
import Derived.BigQuiet
import Derived.WideLaws
import Derived.Deep.DeepCutAuto
import Derived.Deep.CutBlock
import Derived.Deep.RegionHeld3
import Derived.Laws.Rows
import Derived.Lib.AppendStr
import Derived.ArgAppend
import Derived.Laws.IdiomCopy
import Derived.RowKit
import Derived.OrdersHeld
import Derived.Laws.BitsLemmas
import Derived.Laws.StructEq
import Derived.Test.YtepipnpfggnadaaGreatProg
import Derived.WalkMore
import Derived.Lib.Strings
import Derived.Test.YtepipnpfggnadaaGreatTFramesSpoilte
set_option linter.unusedVariables false
set_option linter.unusedSimpArgs false
set_option maxRecDepth 100000
set_option maxHeartbeats 8000000
open List renaming setIfInBounds_toArray → zcT
open List renaming set_cons_zero → zcU
open List renaming set_cons_succ → zcV
open List renaming map_toArray → zcW
open Option renaming bind_eq_some_iff → zcX
open Go.World renaming block_lt_of_cell? → zcY
open Bool renaming eq_false_iff → zcZ
open List renaming length_append → zc0
namespace Go.Proofs.YtepipnpfggnadaaGreat.Q
open Go.RowKit Go.Proofs.YtepipnpfggnadaaGreatW.PrintWords Go.Proofs.YtepipnpfggnadaaGreatW.PrintLast Go.Proofs.YtepipnpfggnadaaGreatW.PrintMore Go.Proofs.YtepipnpfggnadaaGreat.Crc
def ZX (y : S52) : Prop := (Lit.int .i64 y.f0).wf = true ∧ (Lit.int .i64 y.f1).wf = true ∧ y.f2.size ≤ 140737488351232 ∧ (Lit.int .i64 y.f3).wf = true ∧ j8 y.f4 ∧ (Lit.int .i64 y.f5).wf = true
def YA (y : S46) : Prop := (Lit.int .i64 y.f0).wf = true ∧ y.f1.size ≤ 140737488351232 ∧ (y.f2.length ≤ 1048576 ∧ ∀ e ∈ y.f2, Ze e) ∧ (Lit.int .i64 y.f3).wf = true ∧ (Lit.int .i64 y.f4).wf = true
structure FmB (x : Fm) : Prop where
 n0 : (Lit.int .i64 x.f0).wf = true
 n1 : (Lit.int .i64 x.f1).wf = true
 n2 : (Lit.int .i64 x.f2).wf = true
 n3 : (Lit.int .i64 x.f3).wf = true
 n4 : (Lit.int .i64 x.f4).wf = true
 fil : x.f5.length ≤ 1048576 ∧ ∀ y ∈ x.f5, y.size ≤ 140737488351232
 cmd : x.f6.length ≤ 1048576 ∧ ∀ y ∈ x.f6, ZX y
 ent : x.f7.length ≤ 1048576 ∧ ∀ y ∈ x.f7, YA y
 ite : x.f8.length ≤ 524288 ∧ (∀ y ∈ x.f8, y.f0.size ≤ 1048576) ∧ ∀ y ∈ x.f8, ZD y
 ver : x.f9.length ≤ 1048576 ∧ ∀ y ∈ x.f9, Xd y
theorem Y5 (b : Bool) (y : ByteArray) : ((xB b y).2 == 0) = b := by cases b <;> rfl
theorem VW (b : Bool) (y : ByteArray) : (xB b y).2 = if b = true then 0 else 2 := by cases b <;> rfl
def ZB (cl : Int) : Option Int → List S52 → Bool
 | _, [] => true
 | p, y :: l => (qr y.f0 y.f1 y.f2 y.f3 y.f4 y.f5 && ((y.f0 == cl) && xP p y.f1)) && ZB cl (some y.f1) l
theorem putc (y : S52) (h : ZX y) (k : Nat) (hk : 3000000 ≤ k) : yu.f k y.f0 y.f1 y.f2 y.f3 y.f4 y.f5 = some (xB (qr y.f0 y.f1 y.f2 y.f3 y.f4 y.f5) (XW y.f0 y.f1 y.f2 y.f3 y.f4 y.f5)) := JG _ _ _ _ _ _ h.1 h.2.1 h.2.2.1 h.2.2.2.1 h.2.2.2.2.1 h.2.2.2.2.2 k hk
theorem Jb (cl : Int) : ∀ (l : List S52) (p : Option Int), (∀ y ∈ l, ZX y) → QI cl p l (ZB cl p l)
 | [], _, _ => rfl
 | y :: l, p, h => by
  refine ⟨3000000, (xB (qr y.f0 y.f1 y.f2 y.f3 y.f4 y.f5) (XW y.f0 y.f1 y.f2 y.f3 y.f4 y.f5)).1, (xB (qr y.f0 y.f1 y.f2 y.f3 y.f4 y.f5) (XW y.f0 y.f1 y.f2 y.f3 y.f4 y.f5)).2, putc y (h y (.head _)) _ (Nat.le_refl _), ?_⟩
  rw [Y5]
  cases hb : (qr y.f0 y.f1 y.f2 y.f3 y.f4 y.f5 && ((y.f0 == cl) && xP p y.f1)) with
  | false => exact .inl ⟨rfl, by rw [ZB, hb]; rfl⟩
  | true =>
   refine .inr ⟨rfl, ?_⟩
   rw [ZB, hb, Bool.true_and]
   exact Jb cl l _ (fun z hz => h z (.tail _ hz))
def ZA (y : S46) : Bool := entV (if Zd y.f2 = true then 0 else 2) y.f1 y.f2.length y.f3 y.f4
theorem pute (y : S46) (h : YA y) (k : Nat) (hk : 3000000 ≤ k) : xv.f k y.f0 y.f1 y.f2 y.f3 y.f4 = some (ZA y) := by
 unfold xv.f ZA
 rw [zD (Zt y.f2 h.2.2.1.1 h.2.2.1.2 k hk), VW]
def Zz (fr up : Int) : Option Int → List S46 → Bool
 | _, [] => true
 | p, y :: l => (ZA y && (decide (fr ≤ y.f0) && (decide (y.f0 < up) && xP p y.f0))) && Zz fr up (some y.f0) l
theorem Qk (fr up : Int) : ∀ (l : List S46) (p : Option Int), (∀ y ∈ l, YA y) → XE fr up p l (Zz fr up p l)
 | [], _, _ => rfl
 | y :: l, p, h => by
  refine ⟨3000000, _, pute y (h y (.head _)) _ (Nat.le_refl _), ?_⟩
  cases hb : (ZA y && (decide (fr ≤ y.f0) && (decide (y.f0 < up) && xP p y.f0))) with
  | false => exact .inl ⟨rfl, by rw [Zz, hb]; rfl⟩
  | true =>
   refine .inr ⟨rfl, ?_⟩
   rw [Zz, hb, Bool.true_and]
   exact Qk fr up l _ (fun z hz => h z (.tail _ hz))
abbrev MS : Int := 1099511627776
def Zv (x : Fm) : Bool :=
 if x.f0 = 1 then XP x.f5 && (inB x.f3 0 MS && inB x.f4 1 MS) else
 if x.f0 = 2 then ZB x.f1 none x.f6 && inB (x.f6.length : Int) 1 8 else
 if x.f0 = 3 then inB x.f4 0 MS else
 if x.f0 = 4 then Zz x.f3 x.f4 none x.f7 && (inB x.f3 0 MS && (inB x.f4 0 MS && (decide (x.f3 ≤ x.f4) && decide ((x.f7.length : Int) ≤ 16)))) else
 inB x.f4 0 MS && (qk x.f8 && xu x.f9)
theorem V4 {x : Fm} (hB : FmB x) (h0 : 1 ≤ x.f0 ∧ x.f0 ≤ 5) : Zi x (Zv x) := by
 unfold Zv Zi
 by_cases c1 : x.f0 = 1
 ·rw [if_pos c1]
  obtain ⟨r, e1, e2⟩ := ZP x.f5 (by have := hB.fil.1; omega) (x.f5.length + 301) (Nat.le_refl _)
  exact .inl ⟨c1, _, _, _, e1, by rw [e2]⟩
 rw [if_neg c1]
 by_cases c2 : x.f0 = 2
 ·rw [if_pos c2]
  exact .inr (.inl ⟨c2, _, Jb _ _ _ hB.cmd.2, rfl⟩)
 rw [if_neg c2]
 by_cases c3 : x.f0 = 3
 ·rw [if_pos c3]
  exact .inr (.inr (.inl ⟨c3, rfl⟩))
 rw [if_neg c3]
 by_cases c4 : x.f0 = 4
 ·rw [if_pos c4]
  exact .inr (.inr (.inr (.inl ⟨c4, _, Qk _ _ _ _ hB.ent.2, rfl⟩)))
 rw [if_neg c4]
 exact .inr (.inr (.inr (.inr ⟨by omega, _, (xB (qk x.f8) (yx itY x.f8)).1, (xB (qk x.f8) (yx itY x.f8)).2, _, (xB (xu x.f9) (yx veY x.f9)).1, (xB (xu x.f9) (yx veY x.f9)).2, Z1 x.f8 hB.ite.1 hB.ite.2.1 hB.ite.2.2 3000000 (Nat.le_refl _), vI x.f9 hB.ver.1 hB.ver.2 3000000 (Nat.le_refl _), by rw [Y5, Y5]⟩)))
instance (x : Fm) : Decidable (qS x) := inferInstanceAs (Decidable ((0 ≤ x.f1 ∧ x.f1 ≤ 5) ∧ (1 ≤ x.f2 ∧ x.f2 ≤ 1099511627776) ∧ (1 ≤ x.f0 ∧ x.f0 ≤ 5)))
def jY (x : Fm) : Bool := decide (qS x) && (jW x && Zv x)
theorem vQ {x : Fm} (hB : FmB x) : jZ x (jY x) := by
 unfold jY jZ
 by_cases h : qS x
 ·rw [decide_eq_true h, Bool.true_and]
  cases ho : jW x with
  | false => exact .inr (.inl ⟨h, rfl, rfl⟩)
  | true => exact .inr (.inr ⟨h, rfl, by rw [Bool.true_and]; exact V4 hB h.2.2⟩)
 ·rw [decide_eq_false h]
  exact .inl ⟨h, rfl⟩
theorem JB (l : List Int) (h : ∀ n ∈ l, (Lit.int .i64 n).wf = true) (hl : l.length ≤ 1048576) (d : Nat) : ∀ (k i : Nat) (acc : ByteArray), i + d = l.length → d + 1 ≤ k → acc.size + 10 * d < 140737488355328 →
  zx.l0 k (bytesOf acc) l (l.length : Int) (i : Int) = some (acc ++ xz (l.drop i)) := by
 induction d with
 | zero =>
  intro k i acc hi hk ha
  obtain ⟨k, rfl⟩ : ∃ m, k = m + 1 := ⟨k - 1, by omega⟩
  rw [zx.l0, if_neg (by omega), List.drop_of_length_le (by omega), xz, jK, jd, yQ]
 | succ d ih =>
  intro k i acc hi hk ha
  obtain ⟨k, rfl⟩ : ∃ m, k = m + 1 := ⟨k - 1, by omega⟩
  have hlt : i < l.length := by omega
  have hb := Q7 (h _ (List.getElem_mem hlt))
  have hs := zL l[i]
  rw [zx.l0, if_pos (by omega), if_pos (by omega), if_pos (by omega), QO l i hlt, zD (ql _ hb.1 hb.2), if_pos (by rw [yb]; omega), z7 (by omega) (by omega), List.drop_eq_getElem_cons hlt, ← yN]
  have := ih k (i + 1) (acc ++ yp l[i]) (by omega) (by omega) (by rw [zV]; omega)
  rw [yK] at this
  exact this
theorem xi (l : List Int) (h : ∀ n ∈ l, (Lit.int .i64 n).wf = true) (hl : l.length ≤ 1048576) (k : Nat) (hk : l.length + 1 ≤ k) : zx.f k l = some (xz l) := by
 have := JB l h hl l.length k 0 ⟨#[]⟩ (by omega) hk (by show 0 + _ < _; omega)
 rw [List.drop_zero, Zj] at this
 exact this
theorem zaA {n : Nat} (h : n ≤ 1048576) : (Lit.int .i64 (n : Int)).wf = true := Zk _ (by omega) (by omega)
def Xb (y : S52) : ByteArray := XW y.f0 y.f1 y.f2 y.f3 y.f4 y.f5
def Y1 (y : S46) : ByteArray := ((yp y.f0 ++ qW y.f1) ++ yx evY y.f2) ++ (yp y.f3 ++ yp y.f4)
theorem Ym {y : S52} (h : qr y.f0 y.f1 y.f2 y.f3 y.f4 y.f5 = true) : (Xb y).size ≤ 3000 := by
 obtain ⟨_, _, h3, _, _, h6, _⟩ := zaw h
 have b1 := zL y.f0
 have b2 := zL y.f1
 have b3 := qd y.f2
 have b4 := zL y.f3
 have b5 := qV y.f4
 have b6 := zL y.f5
 unfold Xb XW
 simp only [zV]
 omega
theorem QV {l : List S108} (h : Zd l = true) : (yx evY l).size ≤ 8000 := by
 obtain ⟨h1, h2⟩ := zaF h
 have b1 := zL (l.length : Int)
 have b2 := jf evY 2600 l (fun x hx => by
  have c1 := zL x.f0
  have c2 := qV x.f1
  have c3 := (h2 x hx).2
  unfold evY
  rw [zV]
  omega)
 unfold yx
 rw [zV]
 omega
theorem JM {y : S46} (h : ZA y = true) : Zd y.f2 = true ∧ y.f1.size ≤ 32 := by
 unfold ZA entV at h
 simp only [Bool.and_eq_true] at h
 obtain ⟨h1, h2, h3, _⟩ := h
 cases he : Zd y.f2 with
 | false => rw [he] at h1; exact absurd h1 (by decide)
 | true =>
  refine ⟨rfl, ?_⟩
  cases hn : decide (0 < y.f2.length) with
  | true =>
   rw [hn, beq_iff_eq] at h2
   exact Yq h2.symm
  | false =>
   rw [hn, Bool.false_or, beq_iff_eq] at h3
   have := (Zy y.f1).1 h3
   omega
theorem Qm {y : S46} (h : ZA y = true) : (Y1 y).size ≤ 9000 := by
 obtain ⟨h1, h2⟩ := JM h
 have b1 := zL y.f0
 have b3 := qd y.f1
 have b4 := QV h1
 have b5 := zL y.f3
 have b6 := zL y.f4
 unfold Y1
 simp only [zV]
 omega
theorem Z8 (cl : Int) : ∀ (l : List S52) (p : Option Int), ZB cl p l = true → ∀ y ∈ l, qr y.f0 y.f1 y.f2 y.f3 y.f4 y.f5 = true
 | [], _, _ => by simp
 | z :: l, p, h => by
  rw [ZB, Bool.and_eq_true, Bool.and_eq_true] at h
  intro y hy
  rcases List.mem_cons.1 hy with rfl | hy
  ·exact h.1.1
  ·exact Z8 cl l _ h.2 y hy
theorem Yv (fr up : Int) : ∀ (l : List S46) (p : Option Int), Zz fr up p l = true → ∀ y ∈ l, ZA y = true
 | [], _, _ => by simp
 | z :: l, p, h => by
  rw [Zz, Bool.and_eq_true, Bool.and_eq_true] at h
  intro y hy
  rcases List.mem_cons.1 hy with rfl | hy
  ·exact h.1.1
  ·exact Yv fr up l _ h.2 y hy
def vD (x : Fm) : ByteArray :=
 if x.f0 = 1 then xz [x.f3, x.f4] ++ yx qW x.f5 else
 if x.f0 = 2 then xz [(x.f6.length : Int)] ++ jH Xb x.f6 else
 if x.f0 = 3 then xz [x.f4] else
 if x.f0 = 4 then xz [x.f3, x.f4, (x.f7.length : Int)] ++ jH Y1 x.f7 else
 (xz [x.f4] ++ yx itY x.f8) ++ yx veY x.f9
theorem vl {b : Bool} {y : ByteArray} (h : b = true) : xB b y = (y, 0) := by rw [h]; rfl
theorem xT (l : List Int) (n : Nat) (h : l.length ≤ n) : (xz l).size ≤ 10 * n := Nat.le_trans (VD l) (Nat.mul_le_mul_left _ h)
theorem jt {α : Type} (B : α → ByteArray) (M n : Nat) (l : List α) (hl : l.length ≤ n) (h : ∀ x ∈ l, (B x).size ≤ M) : (yx B l).size ≤ 10 + M * n := by
 have h1 := zL (l.length : Int)
 have h2 := Nat.le_trans (jf B M l h) (Nat.mul_le_mul_left M hl)
 unfold yx
 rw [zV]
 omega
theorem QC (y : S52) (h : ZX y) (hb : qr y.f0 y.f1 y.f2 y.f3 y.f4 y.f5 = true) (a : ByteArray) (ha : a.size + 3000 < 140737488355328) : xS 3000000 (bytesOf a) y = some (bytesOf (a ++ Xb y)) := by
 have := Ym hb
 unfold xS
 rw [zD (putc y h _ (Nat.le_refl _)), vl hb]
 show (if (bytesOf a).length + (Xb y).size ≤ _ then _ else none) = _
 rw [if_pos (by rw [yb]; omega), yN]
 rfl
theorem XN (y : S46) (h : YA y) (hb : ZA y = true) (a : ByteArray) (ha : a.size + 9000 < 140737488355328) : xF 3000000 (bytesOf a) y = some (bytesOf (a ++ Y1 y)) := by
 obtain ⟨h1, h2⟩ := JM hb
 have b1 := zL y.f0
 have b3 := qd y.f1
 have b4 := QV h1
 have b5 := zL y.f3
 have b6 := zL y.f4
 unfold xF
 rw [zD (Z7 y.f1 h.2.1), qQ y.f1 (by omega), zD (Zt y.f2 h.2.2.1.1 h.2.2.1.2 3000000 (Nat.le_refl _)), vl h1, zD (xi [y.f0] (Yt h.1) (by simp) _ (by simp)), Qi]
 dsimp only
 rw [if_pos (by rw [yb]; omega), ← yN, if_pos (by rw [yb, zV]; omega), ← yN, if_pos (by rw [yb, zV, zV]; omega), ← yN, zD (xi [y.f3, y.f4] (Yl h.2.2.2.1 h.2.2.2.2) (by simp) _ (by simp)), Qe, if_pos (by rw [yb]; simp only [zV]; omega), ← yN]
 unfold Y1
 simp only [yK]
theorem Vo {x : Fm} (hB : FmB x) (h0 : 1 ≤ x.f0 ∧ x.f0 ≤ 5) (hs : Zv x = true) : Zw x (vD x) ∧ (vD x).size ≤ 1000000 := by
 refine ⟨⟨3000000, ?_⟩, ?_⟩
 ·unfold xN.f vD
  unfold Zv at hs
  by_cases c1 : x.f0 = 1
  ·rw [if_pos c1] at hs ⊢
   rw [if_pos c1]
   rw [Bool.and_eq_true] at hs
   have e := X3 x.f5 hB.fil.1 hB.fil.2 3000000 (Nat.le_refl _)
   rw [vl hs.1] at e
   have g := Q6 hs.1
   have b1 := xT [x.f3, x.f4] 2 (Nat.le_refl _)
   have b2 := jt qW 50 8 x.f5 g.1 (fun y hy => by have := qd y; have := g.2 y hy; omega)
   unfold xo.f
   rw [zD e, zD (xi [x.f3, x.f4] (Yl hB.n3 hB.n4) (by simp) _ (by simp))]
   dsimp only
   rw [if_pos (by omega)]
  rw [if_neg c1] at hs ⊢
  rw [if_neg c1]
  by_cases c2 : x.f0 = 2
  ·rw [if_pos c2] at hs ⊢
   rw [if_pos c2]
   rw [Bool.and_eq_true] at hs
   have hl : (x.f6.length : Int) ≤ 8 := of_decide_eq_true (Bool.and_eq_true_iff.1 hs.2).2
   have ha := Z8 _ _ _ hs.1
   have b1 := xT [(x.f6.length : Int)] 1 (Nat.le_refl _)
   unfold xf.f
   rw [zD (xi [(x.f6.length : Int)] (Yt (zaA hB.cmd.1)) (by simp) _ (by simp)), if_pos (by omega), zD (vw (xS 3000000) Xb 3000 x.f6 _ (fun y hy => Ym (ha y hy)) (fun y hy a h => QC y (hB.cmd.2 y hy) (ha y hy) a h) (by omega)), yQ]
  rw [if_neg c2] at hs ⊢
  rw [if_neg c2]
  by_cases c3 : x.f0 = 3
  ·rw [if_pos c3] at hs ⊢
   rw [if_pos c3]
   unfold xH.f
   rw [zD (xi [x.f4] (Yt hB.n4) (by simp) _ (by simp))]
  rw [if_neg c3] at hs ⊢
  rw [if_neg c3]
  by_cases c4 : x.f0 = 4
  ·rw [if_pos c4] at hs ⊢
   rw [if_pos c4]
   simp only [Bool.and_eq_true, decide_eq_true_eq] at hs
   have hl := hs.2.2.2.2
   have ha := Yv _ _ _ _ hs.1
   have b1 := xT [x.f3, x.f4, (x.f7.length : Int)] 3 (Nat.le_refl _)
   unfold y8.f
   rw [zD (xi [x.f3, x.f4, (x.f7.length : Int)] (fun n hn => by rcases List.mem_cons.1 hn with rfl | hn; exact hB.n3; exact Yl hB.n4 (zaA hB.ent.1) n hn) (by simp) _ (by simp)), if_pos (by omega), zD (vw (xF 3000000) Y1 9000 x.f7 _ (fun y hy => Qm (ha y hy)) (fun y hy a h => XN y (hB.ent.2 y hy) (ha y hy) a h) (by omega)), yQ]
  rw [if_neg c4] at hs ⊢
  rw [if_neg c4]
  simp only [Bool.and_eq_true] at hs
  have e1 := Z1 x.f8 hB.ite.1 hB.ite.2.1 hB.ite.2.2 3000000 (Nat.le_refl _)
  have e2 := vI x.f9 hB.ver.1 hB.ver.2 3000000 (Nat.le_refl _)
  rw [vl hs.2.1] at e1
  rw [vl hs.2.2] at e2
  have g1 := Y7 hs.2.1
  have g2 := Y0 hs.2.2
  have b1 := xT [x.f4] 1 (Nat.le_refl _)
  have b2 := jt itY 3000 64 x.f8 g1.1 (fun y hy => by
   have := qd y.f0
   have := zL y.f1.f0
   have := zL y.f1.f1
   have := qV y.f1.f2
   have := (g1.2 y hy).2
   unfold itY
   simp only [zV]
   omega)
  have b3 := jt veY 20 32 x.f9 g2.1 (fun y _ => Y3 y)
  unfold xL.f
  rw [zD e1, zD e2, zD (xi [x.f4] (Yt hB.n4) (by simp) _ (by simp))]
  dsimp only
  rw [if_pos (by omega), if_pos (by rw [zV]; omega)]
 ·unfold vD
  unfold Zv at hs
  by_cases c1 : x.f0 = 1
  ·rw [if_pos c1] at hs ⊢
   rw [Bool.and_eq_true] at hs
   have g := Q6 hs.1
   have b1 := xT [x.f3, x.f4] 2 (Nat.le_refl _)
   have b2 := jt qW 50 8 x.f5 g.1 (fun y hy => by have := qd y; have := g.2 y hy; omega)
   rw [zV]
   omega
  rw [if_neg c1] at hs ⊢
  by_cases c2 : x.f0 = 2
  ·rw [if_pos c2] at hs ⊢
   rw [Bool.and_eq_true] at hs
   have hl : (x.f6.length : Int) ≤ 8 := of_decide_eq_true (Bool.and_eq_true_iff.1 hs.2).2
   have b1 := xT [(x.f6.length : Int)] 1 (Nat.le_refl _)
   have b2 := jf Xb 3000 x.f6 (fun y hy => Ym (Z8 _ _ _ hs.1 y hy))
   rw [zV]
   omega
  rw [if_neg c2] at hs ⊢
  by_cases c3 : x.f0 = 3
  ·rw [if_pos c3]
   have b1 := xT [x.f4] 1 (Nat.le_refl _)
   omega
  rw [if_neg c3] at hs ⊢
  by_cases c4 : x.f0 = 4
  ·rw [if_pos c4] at hs ⊢
   simp only [Bool.and_eq_true, decide_eq_true_eq] at hs
   have hl := hs.2.2.2.2
   have b1 := xT [x.f3, x.f4, (x.f7.length : Int)] 3 (Nat.le_refl _)
   have b2 := jf Y1 9000 x.f7 (fun y hy => Qm (Yv _ _ _ _ hs.1 y hy))
   rw [zV]
   omega
  rw [if_neg c4] at hs ⊢
  simp only [Bool.and_eq_true] at hs
  have g1 := Y7 hs.2.1
  have g2 := Y0 hs.2.2
  have b1 := xT [x.f4] 1 (Nat.le_refl _)
  have b2 := jt itY 3000 64 x.f8 g1.1 (fun y hy => by
   have := qd y.f0
   have := zL y.f1.f0
   have := zL y.f1.f1
   have := qV y.f1.f2
   have := (g1.2 y hy).2
   unfold itY
   simp only [zV]
   omega)
  have b3 := jt veY 20 32 x.f9 g2.1 (fun y _ => Y3 y)
  rw [zV, zV]
  omega
def Y2 (x : Fm) : ByteArray := xz [x.f0, x.f1, x.f2] ++ vD x
def YJ (t : ByteArray) : ByteArray := t ++ vZ (vo (bl t))
theorem Vx (t : ByteArray) : (YJ t).size = t.size + 4 := by unfold YJ; rw [zV, XK]
theorem J0 {x : Fm} (hB : FmB x) : (jY x = false ∧ vL x ⟨#[]⟩ 2) ∨ (jY x = true ∧ vL x (YJ (Y2 x)) 0 ∧ (Y2 x).size ≤ 1000030) := by
 have hr := vQ hB
 cases h : jY x with
 | false =>
  rw [h] at hr
  exact .inl ⟨rfl, .inl ⟨hr, rfl, rfl⟩⟩
 | true =>
  rw [h] at hr
  unfold jY at h
  simp only [Bool.and_eq_true, decide_eq_true_eq] at h
  obtain ⟨hf, hz⟩ := Vo hB h.1.2.2 h.2.2
  have b1 := xT [x.f0, x.f1, x.f2] 3 (Nat.le_refl _)
  have hl : (Y2 x).size ≤ 1000030 := by unfold Y2; rw [zV]; omega
  refine .inr ⟨rfl, .inr ⟨hr, xz [x.f0, x.f1, x.f2], vD x, ⟨_, xi [x.f0, x.f1, x.f2] (fun n hn => by rcases List.mem_cons.1 hn with rfl | hn; exact hB.n0; exact Yl hB.n1 hB.n2 n hn) (by simp) 4 (by simp)⟩, hf, by omega, ⟨1000040, zbl (Y2 x) (by omega) 1000040 (by omega)⟩, rfl⟩, hl⟩
open Go.RowKit Go.Proofs.YtepipnpfggnadaaGreatW.PrintWords Go.Proofs.YtepipnpfggnadaaGreatW.PrintLast Go.Proofs.YtepipnpfggnadaaGreatW.PrintMore
abbrev Tn (w : World) (g T : Nat) (new : List Value) (w' : World) : Prop := yX [g] w w' ∧ w'.heap[g]? = some (.cells new.toArray T (0, 0))
abbrev AtB (w : World) (g T : Nat) (cs : List Value) : Prop := w.heap[g]? = some (.cells cs.toArray T (0, 0))
section
variable {P : Program} {gs : List Nat} {w0 w w1 W : World} {bs bs' bs1 : List Bk} {rs : List Rw} {f : FuncId} {args : Array Value} {K : Ending → World → Prop} {g T : Nat} {old new : List Value} {α : Type} {d : Kd α} {t e : Nat} {xs : List α} {x : α} {r : Value}
theorem Sat.tn (H : Sat gs w0 w bs rs) {Φ : Ending → World → Prop} (hc : AtB w g T old → Calls P f args w fun e w' => Φ e w' ∧ Tn w g T new w') (h : ∀ e w', Φ e w' → Sat gs w0 w' bs' rs → K e w')
  (hm : (g, old, T) ∈ bs := by ((repeat (first | exact .head _ | apply List.Mem.tail)); (first | done | fail))) (U : Up g T 0 (fun _ => new) bs bs' := by ((repeat (first | exact .here rfl | apply Up.there)); (first | done | fail))) (ht : yV T rs = true := by rfl) : Calls P f args w K :=
 (hc (H.blk _ hm).2).mono fun e w' he => h e w' he.1 (H.turn U ht he.2.1 (fun _ _ => he.2.2))
theorem Sat.tn0 (H : Sat gs w0 w bs rs) (hc : AtB w g T old → Calls P f args w fun e w' => e = .returned r ∧ Tn w g T new w') (h : ∀ w', Sat gs w0 w' bs' rs → K (.returned r) w')
  (hm : (g, old, T) ∈ bs := by ((repeat (first | exact .head _ | apply List.Mem.tail)); (first | done | fail))) (U : Up g T 0 (fun _ => new) bs bs' := by ((repeat (first | exact .here rfl | apply Up.there)); (first | done | fail))) (ht : yV T rs = true := by rfl) : Calls P f args w K :=
 H.tn hc (fun e w' he HS => by subst he; exact h w' HS) hm U ht
theorem Sat.tnR (H : Sat gs w0 w bs rs) (hc : AtB w g T old → Calls P f args w fun e w' => (∃ v, e = .returned v ∧ d.R t w' w.heap.size (fun _ => True) v xs) ∧ Tn w g T new w')
  (h : ∀ A c w', Sat gs w0 w' bs' (xC d t w0 (.slice A xs.length c) xs :: rs) → K (.returned (.slice A xs.length c)) w')
  (hm : (g, old, T) ∈ bs := by ((repeat (first | exact .head _ | apply List.Mem.tail)); (first | done | fail))) (U : Up g T 0 (fun _ => new) bs bs' := by ((repeat (first | exact .here rfl | apply Up.there)); (first | done | fail))) (ht : yV T rs = true := by rfl) : Calls P f args w K :=
 H.tn hc (fun e w' he HS => by
  obtain ⟨v, rfl, hr⟩ := he
  obtain ⟨A, c, rfl⟩ := Kd.R_slice hr
  exact h A c w' (HS.R hr H.keep.size)) hm U ht
theorem Sat.tnM (H : Sat gs w0 w bs rs) {F : List Value → Value} (hc : AtB w g T old → Calls P f args w fun e w' => (∃ cs, e = .returned (F cs) ∧ d.M w' w.heap.size (fun _ => True) x cs) ∧ Tn w g T new w')
  (h : ∀ cs w', Sat gs w0 w' bs' rs → d.M w' w0.heap.size (fun _ => True) x cs → K (.returned (F cs)) w')
  (hm : (g, old, T) ∈ bs := by ((repeat (first | exact .head _ | apply List.Mem.tail)); (first | done | fail))) (U : Up g T 0 (fun _ => new) bs bs' := by ((repeat (first | exact .here rfl | apply Up.there)); (first | done | fail))) (ht : yV T rs = true := by rfl) : Calls P f args w K :=
 H.tn hc (fun e w' he HS => by
  obtain ⟨cs, rfl, hr⟩ := he
  exact h cs w' HS (d.M_lower H.keep.size hr)) hm U ht
theorem Sat.fin (H : Sat [g] w w1 bs rs) (hm : (g, new, T) ∈ bs := by ((repeat (first | exact .head _ | apply List.Mem.tail)); (first | done | fail))) : Tn w g T new w1 := ⟨H.keep, (H.blk _ hm).2⟩
variable {ops : Array Oper} {rest : List Oper} {o o1 o2 : Oper} {a : Act} {Q : Exit → Act → World → Prop} {v : Value} {p : α}
theorem gL {w : World} {t n : Nat} {l : Array (Nat × Operand)} (_ho : o.op = .buildSlice t n l) (h : wpList P ops Q (o :: rest) a w) : wpList P ops Q (o :: rest) a w := h
theorem QM (H : Sat gs w0 W bs (xC d e w0 v xs :: rs)) {cs : List Value} {s y : Operand} {t : TypeId} {z : Value} {bytes : Nat} (hp : d.M W w0.heap.size (fun _ => True) p cs) (hl : (xs.length + 1) * bytes ≤ 140737488355328)
  (h : ∀ A c w1, Sat gs w0 w1 bs (xC d e w0 (.slice A (xs ++ [p]).length c) (xs ++ [p]) :: rs) → wpList P ops Q rest ((a.put o1.dst (.slice (some ⟨W.heap.size, 0, none⟩) 1 1)).put o2.dst (.slice A (xs ++ [p]).length c)) w1)
  (hg1 : o1.guard = none := by rfl) (hr1 : (execOp a.eval o1).run P W = .ok (.value (.slice (some ⟨W.heap.size, 0, none⟩) 1 1)) (W.alloc (.cells cs.toArray e)) := by (go_simp; try rfl))
  (hg2 : o2.guard = none := by rfl) (hop : o2.op = .call { callee := .builtin .append, args := #[s, y], argTypes := #[t, t] } := by rfl)
  (hs : (a.put o1.dst (.slice (some ⟨W.heap.size, 0, none⟩) 1 1)).eval s = v := by rfl) (hx : (a.put o1.dst (.slice (some ⟨W.heap.size, 0, none⟩) 1 1)).eval y = .slice (some ⟨W.heap.size, 0, none⟩) 1 1 := by rfl)
  (ht : P.underlying t = some (.slice e) := by rfl) (hinfo : (P.info? e).map (fun i => (i.zero, i.size, i.bytes)) = some (some z, d.sz, bytes) := by rfl) (hz : z.cells.size = d.sz := by rfl) (hs0 : 0 < d.sz := by decide) (hb0 : 0 < bytes := by decide)
  (hE : d.E.contains e = false := by rfl) (hf : yV e rs = true := by rfl) (hb : (bs.all fun b => b.2.2 != e) = true := by rfl) : wpList P ops Q (o1 :: o2 :: rest) a W := by
 have h0 := (H.rows _ (.head _)).2
 refine Kd.event_run hg1 hr1 ?_
 refine Kd.R_append d (w0 := xe W w0.heap.size) (W := W) w0.heap.size hg2 s y t e z bytes hop ht hinfo hz hs0 hb0 v xs p cs (fun _ => True) _ hs hx (zbJ h0 hp hE) (fun _ hk => hk) (fun _ _ => trivial) h0
  ⟨rfl, rfl, rfl, by rw [jX H.keep.size]; exact H.keep.size, (ZK H.keep.size).block |> fun hb k hk => hb k (by rw [jX H.keep.size]; exact hk)⟩ H.keep.size hl ?_
 intro v1 w1 hr hbl hg _
 obtain ⟨A, c, rfl⟩ := Kd.R_slice hr
 exact h A c w1 (H.grown hr hg (show W.tape = w1.tape from hbl.tape.symm) (H.apartOf hb) hf)
variable {i D : Nat} {r0 : PT} {a' : Act}
theorem Yk {X : Act → World → Prop} (H : Sat gs w0 w bs rs) (hs : bs1.Sublist bs) {fn : Func} {c : Operand} {ax : Array Operand} {ts : Array TypeId} {F : Value → Value} (hc : Calls P f args w fun e w' => ∃ v, e = .returned (F v) ∧ d.R t w' w.heap.size (fun _ => True) v xs ∧ Below w.heap.size w w')
  (h : ∀ A c w', Sat gs w0 w' bs (xC d t w0 (.slice A xs.length c) xs :: rs) → X (a.put (some D) (F (.slice A xs.length c))) w')
  (hd : o.dst = some D := by rfl) (hop : o.op = .call { callee := .value c, args := ax, argTypes := ts } := by rfl) (hcv : a.eval c = .func (Fn.func f) #[] #[] := by rfl) (hargs : ax.map a.eval = args := by (simp only [zcW, List.map_cons, List.map_nil]; rfl)) (hf : P.funcs[f]? = some fn := by rfl)
  (hname : (fn.name == "runtime.NumGoroutine") = false := by rfl) (hbd : fn.body.isSome = true := by rfl) (hw : Region.wanted o (yielded ops a.tmps) = true := by rfl) : Stp P ops Q (fun W => Lk W bs1) X o D a w :=
 fun K hK => vC (hc.mono fun e w' he => by
  obtain ⟨v, rfl, hr, hb⟩ := he
  obtain ⟨A, c, rfl⟩ := Kd.R_slice hr
  have HS := (H.call hb).R hr H.keep.size
  exact ⟨_, rfl, hK _ _ (yP hs HS.lk) (fun _ => h A c w' HS)⟩) hf hop hcv hargs hname hbd hw hd
theorem zcN {X : Act → World → Prop} (H : Sat gs w0 w bs rs) (hs : bs1.Sublist bs) {fn : Func} {c : Operand} {ax : Array Operand} {ts : Array TypeId} {F : List Value → Value} (hc : Calls P f args w fun e w' => (∃ cs, e = .returned (F cs) ∧ d.M w' w.heap.size (fun _ => True) x cs) ∧ Below w.heap.size w w')
  (h : ∀ cs w', Sat gs w0 w' bs rs → d.M w' w0.heap.size (fun _ => True) x cs → X (a.put (some D) (F cs)) w')
  (hd : o.dst = some D := by rfl) (hop : o.op = .call { callee := .value c, args := ax, argTypes := ts } := by rfl) (hcv : a.eval c = .func (Fn.func f) #[] #[] := by rfl) (hargs : ax.map a.eval = args := by (simp only [zcW, List.map_cons, List.map_nil]; rfl)) (hf : P.funcs[f]? = some fn := by rfl)
  (hname : (fn.name == "runtime.NumGoroutine") = false := by rfl) (hbd : fn.body.isSome = true := by rfl) (hw : Region.wanted o (yielded ops a.tmps) = true := by rfl) : Stp P ops Q (fun W => Lk W bs1) X o D a w :=
 fun K hK => vC (hc.mono fun e w' he => by
  obtain ⟨⟨cs, rfl, hr⟩, hb⟩ := he
  have HS := H.call hb
  exact ⟨_, rfl, hK _ _ (yP hs HS.lk) (fun _ => h cs w' HS (d.M_lower H.keep.size hr))⟩) hf hop hcv hargs hname hbd hw hd
end
abbrev rdC (s : ByteArray) (p e : Int) : List Value := [.string s, .int .i64 p, .int .i64 e]
def beh {α : Type} (z : α) (f : ByteArray → Int → α → Int → Int → Prop) (s : ByteArray) (p q : Int) (v : α) (p' q' : Int) : Prop := (q ≠ 0 ∧ v = z ∧ p' = p ∧ q' = q) ∨ (q = 0 ∧ f s p v p' q')
def xc := beh (0 : Int) fun s p v p' q' => ∃ k, zl.f k s p = some (v, p', q')
def jh := beh (⟨#[]⟩ : ByteArray) fun s p v p' q' => ∃ k, xg.f k s p = some (v, p', q')
def Xu := beh ([] : List Int) fun s p v p' q' => ∃ k, xa.f k s p = some (v, p', q')
def rEv (s : ByteArray) (p q : Int) (x : S108) (p' q' : Int) : Prop := ∃ p1 q1, xc s p q x.f0 p1 q1 ∧ Xu s p1 q1 x.f1 p' q'
def Q9 (s : ByteArray) (p q : Int) (x : S77) (p' q' : Int) : Prop := ∃ p1 q1, xc s p q x.f0 p1 q1 ∧ xc s p1 q1 x.f1 p' q'
def rIt (s : ByteArray) (p q : Int) (x : S86) (p' q' : Int) : Prop := ∃ p1 q1 p2 q2 p3 q3, jh s p q x.f0 p1 q1 ∧ xc s p1 q1 x.f1.f0 p2 q2 ∧ xc s p2 q2 x.f1.f1 p3 q3 ∧ Xu s p3 q3 x.f1.f2 p' q'
def Zx {α : Type} (one : Int → Int → α → Int → Int → Prop) : List α → Int → Int → Int → Int → Int → Prop
 | [], n, p, q, p', q' => ¬ (0 < n ∧ q = 0) ∧ p' = p ∧ q' = q
 | x :: l, n, p, q, p', q' => 0 < n ∧ q = 0 ∧ ∃ p1 q1, one p q x p1 q1 ∧ Zx one l (n - 1) p1 q1 p' q'
def YC {α : Type} (one : ByteArray → Int → Int → α → Int → Int → Prop) (s : ByteArray) (p q m : Int) (xs : List α) (p' q' : Int) : Prop := ∃ n p1 q0 q1, xc s p q n p1 q0 ∧ ((q0 ≠ 0 ∧ q1 = q0) ∨ (q0 = 0 ∧ wiB n 0 m = false ∧ q1 = 6) ∨ (q0 = 0 ∧ wiB n 0 m = true ∧ q1 = 0)) ∧ Zx (one s) xs n p1 q1 p' q'
def Yn {α : Type} (z x : α) (ok : Bool) (p q : Int) (y : α) (n e : Int) : Prop := (q ≠ 0 ∧ y = z ∧ n = 0 ∧ e = q) ∨ (q = 0 ∧ ok = false ∧ y = z ∧ n = 0 ∧ e = 6) ∨ (q = 0 ∧ ok = true ∧ y = x ∧ n = p ∧ e = 0)
def Xg {α : Type} (one : ByteArray → Int → Int → α → Int → Int → Prop) (m : Int) (ok : List α → Bool → Prop) (s : ByteArray) (at_ : Int) (ys : List α) (n e : Int) : Prop := ∃ xs p q b, YC one s at_ 0 m xs p q ∧ ok xs b ∧ Yn [] xs b p q ys n e
def JU := Xg rIt 64 (fun l b => qk l = b)
def Xk := Xg Q9 32 (fun l b => xu l = b)
def zbO (s : ByteArray) (at_ : Int) (y : S52) (n e : Int) : Prop := ∃ (x : S52) (p1 q1 p2 q2 p3 q3 p4 q4 p5 q5 p q : Int), xc s at_ 0 x.f0 p1 q1 ∧ xc s p1 q1 x.f1 p2 q2 ∧ jh s p2 q2 x.f2 p3 q3 ∧ xc s p3 q3 x.f3 p4 q4 ∧ Xu s p4 q4 x.f4 p5 q5 ∧ xc s p5 q5 x.f5 p q ∧ Yn z52 x (qr x.f0 x.f1 x.f2 x.f3 x.f4 x.f5) p q y n e
theorem xO {s : ByteArray} {p q p' q' : Int} {a : Int} {w : World} {g : Nat} (h : xc s p q a p' q') (hg : AtB w g 156 (rdC s p q)) : Calls Tryz.prog 152 #[.pointer (some ⟨g, 0, none⟩)] w fun e w' => e = .returned (.int .i64 a) ∧ Tn w g 156 (rdC s p' q') w' := by
 have HS := Sat.one hg
 have hc := HS.lk
 simp only [Lk, LkC, Value.cells, List.toList_toArray, Nat.reduceAdd, Nat.zero_add, and_true, zf, zg, ze, zh] at HS hc
 rcases h with ⟨c, rfl, rfl, rfl⟩ | ⟨rfl, k, h⟩
 ·have d1 := bne_iff_ne.mpr c
  go_enter Tryz.func152, Tryz.ntmps152
  go_wp2_with ((first | ((with_reducible refine gB rfl ?_); refine zC HS ?_) | ((with_reducible refine gA rfl ?_); refine zr HS ?_) | ((with_reducible refine gS rfl ?_); refine zt HS ?_)); clear HS; (try clear hc); intros; rename_i HS; have hc := HS.lk; simp only [Lk, LkC, Value.cells, List.toList_toArray, Nat.reduceAdd, Nat.zero_add, and_true, zf, zg, ze, zh] at HS hc)
  go_ret
  exact ⟨rfl, HS.fin⟩
 ·replace h := za.mk h
  go_enter Tryz.func152, Tryz.ntmps152
  go_wp2_with (first | ((first | ((with_reducible refine gB rfl ?_); refine zC HS ?_) | ((with_reducible refine gA rfl ?_); refine zr HS ?_) | ((with_reducible refine gS rfl ?_); refine zt HS ?_)); clear HS; (try clear hc); intros; rename_i HS; have hc := HS.lk; simp only [Lk, LkC, Value.cells, List.toList_toArray, Nat.reduceAdd, Nat.zero_add, and_true, zf, zg, ze, zh] at HS hc) | (refine yh (.op 0 0 12 (.op 1 0 13 (.op 2 0 14 (.op 3 0 15 (.op 4 0 16 (.op 5 0 17 (.op 6 0 18 (.op 7 0 19 (.op 8 2 20 (.op 9 1 11 (.op 10 1 21 (.op 11 1 22 (.op 12 1 23 (.op 13 1 3 (.op 14 1 4 (.op 15 1 5 .nil)))))))))))))))) [] HS (List.Sublist.refl _) ?_; clear HS hc; intro HS hS; (repeat' (first | refine RT.tk ?_ | refine RT.pu ?_ | (refine RT.o1 ?_; refine vr HS (List.Sublist.refl _) (jb (zl.calls k _ _ _ _ _ _ h.out)) ?_; clear HS; intro w_ HS; refine RT.nm ?_))); have hc := HS.lk; simp only [Lk, LkC, Value.cells, List.toList_toArray, Nat.reduceAdd, Nat.zero_add, and_true, zf, zg, ze, zh] at HS hc; refine RT.nil ?_))
  go_ret
  exact ⟨rfl, HS.fin⟩
theorem Jk {s : ByteArray} {p q p' q' : Int} {a : ByteArray} {w : World} {g : Nat} (h : jh s p q a p' q') (hg : AtB w g 156 (rdC s p q)) : Calls Tryz.prog 150 #[.pointer (some ⟨g, 0, none⟩)] w fun e w' => e = .returned (.string a) ∧ Tn w g 156 (rdC s p' q') w' := by
 have HS := Sat.one hg
 have hc := HS.lk
 simp only [Lk, LkC, Value.cells, List.toList_toArray, Nat.reduceAdd, Nat.zero_add, and_true, zf, zg, ze, zh] at HS hc
 rcases h with ⟨c, rfl, rfl, rfl⟩ | ⟨rfl, k, h⟩
 ·have d1 := bne_iff_ne.mpr c
  go_enter Tryz.func150, Tryz.ntmps150
  go_wp2_with ((first | ((with_reducible refine gB rfl ?_); refine zC HS ?_) | ((with_reducible refine gA rfl ?_); refine zr HS ?_) | ((with_reducible refine gS rfl ?_); refine zt HS ?_)); clear HS; (try clear hc); intros; rename_i HS; have hc := HS.lk; simp only [Lk, LkC, Value.cells, List.toList_toArray, Nat.reduceAdd, Nat.zero_add, and_true, zf, zg, ze, zh] at HS hc)
  go_ret
  exact ⟨rfl, HS.fin⟩
 ·replace h := za.mk h
  go_enter Tryz.func150, Tryz.ntmps150
  go_wp2_with (first | ((first | ((with_reducible refine gB rfl ?_); refine zC HS ?_) | ((with_reducible refine gA rfl ?_); refine zr HS ?_) | ((with_reducible refine gS rfl ?_); refine zt HS ?_)); clear HS; (try clear hc); intros; rename_i HS; have hc := HS.lk; simp only [Lk, LkC, Value.cells, List.toList_toArray, Nat.reduceAdd, Nat.zero_add, and_true, zf, zg, ze, zh] at HS hc) | (refine yh (.op 0 0 12 (.op 1 0 13 (.op 2 0 14 (.op 3 0 15 (.op 4 0 16 (.op 5 0 17 (.op 6 0 18 (.op 7 0 19 (.op 8 2 20 (.op 9 1 11 (.op 10 1 21 (.op 11 1 22 (.op 12 1 23 (.op 13 1 3 (.op 14 1 4 (.op 15 1 5 .nil)))))))))))))))) [] HS (List.Sublist.refl _) ?_; clear HS hc; intro HS hS; (repeat' (first | refine RT.tk ?_ | refine RT.pu ?_ | (refine RT.o1 ?_; refine vr HS (List.Sublist.refl _) (jb (xg.calls k _ _ _ _ _ _ h.out)) ?_; clear HS; intro w_ HS; refine RT.nm ?_))); have hc := HS.lk; simp only [Lk, LkC, Value.cells, List.toList_toArray, Nat.reduceAdd, Nat.zero_add, and_true, zf, zg, ze, zh] at HS hc; refine RT.nil ?_))
  go_ret
  exact ⟨rfl, HS.fin⟩
theorem Q3 {s : ByteArray} {p q p' q' : Int} {a : List Int} {w : World} {g : Nat} (h : Xu s p q a p' q') (hg : AtB w g 156 (rdC s p q)) : Calls Tryz.prog 153 #[.pointer (some ⟨g, 0, none⟩)] w fun e w' => (∃ v, e = .returned v ∧ (Kd.int .i64).R 3 w' w.heap.size (fun _ => True) v a) ∧ Tn w g 156 (rdC s p' q') w' := by
 have HS := Sat.one hg
 have hc := HS.lk
 simp only [Lk, LkC, Value.cells, List.toList_toArray, Nat.reduceAdd, Nat.zero_add, and_true, zf, zg, ze, zh] at HS hc
 rcases h with ⟨c, rfl, rfl, rfl⟩ | ⟨rfl, k, h⟩
 ·have d1 := bne_iff_ne.mpr c
  go_enter Tryz.func153, Tryz.ntmps153
  go_wp2_with ((first | ((with_reducible refine gB rfl ?_); refine zC HS ?_) | ((with_reducible refine gA rfl ?_); refine zr HS ?_) | ((with_reducible refine gS rfl ?_); refine zt HS ?_)); clear HS; (try clear hc); intros; rename_i HS; have hc := HS.lk; simp only [Lk, LkC, Value.cells, List.toList_toArray, Nat.reduceAdd, Nat.zero_add, and_true, zf, zg, ze, zh] at HS hc)
  go_ret
  exact ⟨⟨_, rfl, Kd.R_nil _ _ _ _ _⟩, HS.fin⟩
 ·replace h := za.mk h
  go_enter Tryz.func153, Tryz.ntmps153
  go_wp2_with (first | ((first | ((with_reducible refine gB rfl ?_); refine zC HS ?_) | ((with_reducible refine gA rfl ?_); refine zr HS ?_) | ((with_reducible refine gS rfl ?_); refine zt HS ?_)); clear HS; (try clear hc); intros; rename_i HS; have hc := HS.lk; simp only [Lk, LkC, Value.cells, List.toList_toArray, Nat.reduceAdd, Nat.zero_add, and_true, zf, zg, ze, zh] at HS hc) | (refine yh (.op 0 0 12 (.op 1 0 13 (.op 2 0 14 (.op 3 0 15 (.op 4 0 16 (.op 5 0 17 (.op 6 0 18 (.op 7 0 19 (.op 8 2 20 (.op 9 1 11 (.op 10 1 21 (.op 11 1 22 (.op 12 1 23 (.op 13 1 3 (.op 14 1 4 (.op 15 1 5 .nil)))))))))))))))) [] HS (List.Sublist.refl _) ?_; clear HS hc; intro HS hS; (repeat' (first | refine RT.tk ?_ | refine RT.pu ?_ | (refine RT.o1 ?_; refine Yk (F := fun v => .tuple #[v, .int .i64 p', .int .i64 q']) HS (List.Sublist.refl _) (xa.calls k _ _ _ _ _ _ h.out ) ?_; clear HS; intro A_ c_ w_ HS; refine RT.nm ?_))); have hc := HS.lk; simp only [Lk, LkC, Value.cells, List.toList_toArray, Nat.reduceAdd, Nat.zero_add, and_true, zf, zg, ze, zh] at HS hc; refine RT.nil ?_))
  go_ret
  exact ⟨⟨_, rfl, (HS.rows _ (.head _)).2⟩, HS.fin⟩
theorem ev_c {s : ByteArray} {p q p' q' : Int} {x : S108} {w : World} {g : Nat} (h : rEv s p q x p' q') (hg : AtB w g 156 (rdC s p q)) : Calls Tryz.prog 158 #[.pointer (some ⟨g, 0, none⟩)] w fun e w' => (∃ cs : List Value, e = .returned (.agg cs.toArray) ∧ k108.M w' w.heap.size (fun _ => True) x cs) ∧ Tn w g 156 (rdC s p' q') w' := by
 have HS := Sat.one hg
 obtain ⟨p1, q1, h1, h2⟩ := h
 replace h1 := za.mk h1
 replace h2 := za.mk h2
 go_enter Tryz.func158, Tryz.ntmps158
 go_wp2_with ((first | ((with_reducible refine gB rfl ?_); refine zC HS ?_) | ((with_reducible refine gA rfl ?_); refine zr HS ?_) | ((with_reducible refine gS rfl ?_); refine zt HS ?_) | (go_at_call 152; refine HS.tn0 (xO h1.out) ?_) | (go_at_call 153; refine HS.tnR (Q3 h2.out) ?_)); clear HS; (try clear hc); intros; rename_i HS; have hc := HS.lk; simp only [Lk, LkC, Value.cells, List.toList_toArray, Nat.reduceAdd, Nat.zero_add, and_true, zf, zg, ze, zh] at HS hc)
 refine bodyPost_ret (yz rfl (.cell _ _ _ _ _ rfl (HS.blk _ (.head _)).2 Tryz.underlying108 rfl (by kernel_rfl) .nil)) rfl ?_
 exact ⟨⟨_, rfl, zbE _ _ _ x (HS.rows _ (.head _)).2⟩, HS.fin⟩
theorem it_c {s : ByteArray} {p q p' q' : Int} {x : S86} {w : World} {g : Nat} (h : rIt s p q x p' q') (hg : AtB w g 156 (rdC s p q)) : Calls Tryz.prog 161 #[.pointer (some ⟨g, 0, none⟩)] w fun e w' => (∃ cs : List Value, e = .returned (.agg cs.toArray) ∧ k86.M w' w.heap.size (fun _ => True) x cs) ∧ Tn w g 156 (rdC s p' q') w' := by
 have HS := Sat.one hg
 obtain ⟨p1, q1, p2, q2, p3, q3, h1, h2, h3, h4⟩ := h
 replace h1 := za.mk h1
 replace h2 := za.mk h2
 replace h3 := za.mk h3
 replace h4 := za.mk h4
 go_enter Tryz.func161, Tryz.ntmps161
 go_wp2_with ((first | ((with_reducible refine gB rfl ?_); refine zC HS ?_) | ((with_reducible refine gA rfl ?_); refine zr HS ?_) | ((with_reducible refine gS rfl ?_); refine zt HS ?_) | (go_at_call 150; refine HS.tn0 (Jk h1.out) ?_) | (go_at_call 152; refine HS.tn0 (xO h2.out) ?_) | (go_at_call 152; refine HS.tn0 (xO h3.out) ?_) | (go_at_call 153; refine HS.tnR (Q3 h4.out) ?_)); clear HS; (try clear hc); intros; rename_i HS; have hc := HS.lk; simp only [Lk, LkC, Value.cells, List.toList_toArray, Nat.reduceAdd, Nat.zero_add, and_true, zf, zg, ze, zh] at HS hc)
 refine bodyPost_ret (yz rfl (.cell _ _ _ _ _ rfl (HS.blk _ (.head _)).2 Tryz.underlying86 rfl (by kernel_rfl) .nil)) rfl ?_
 exact ⟨⟨_, rfl, zcy _ _ _ x (HS.rows _ (.head _)).2⟩, HS.fin⟩
theorem ver_c {s : ByteArray} {p q p' q' : Int} {x : S77} {w : World} {g : Nat} (h : Q9 s p q x p' q') (hg : AtB w g 156 (rdC s p q)) : Calls Tryz.prog 164 #[.pointer (some ⟨g, 0, none⟩)] w fun e w' => (∃ cs : List Value, e = .returned (.agg cs.toArray) ∧ k77.M w' w.heap.size (fun _ => True) x cs) ∧ Tn w g 156 (rdC s p' q') w' := by
 have HS := Sat.one hg
 obtain ⟨p1, q1, h1, h2⟩ := h
 replace h1 := za.mk h1
 replace h2 := za.mk h2
 go_enter Tryz.func164, Tryz.ntmps164
 go_wp2_with ((first | ((with_reducible refine gB rfl ?_); refine zC HS ?_) | ((with_reducible refine gA rfl ?_); refine zr HS ?_) | ((with_reducible refine gS rfl ?_); refine zt HS ?_) | (go_at_call 152; refine HS.tn0 (xO h1.out) ?_) | (go_at_call 152; refine HS.tn0 (xO h2.out) ?_)); clear HS; (try clear hc); intros; rename_i HS; have hc := HS.lk; simp only [Lk, LkC, Value.cells, List.toList_toArray, Nat.reduceAdd, Nat.zero_add, and_true, zf, zg, ze, zh] at HS hc)
 refine bodyPost_ret (yz rfl (.cell _ _ _ _ _ rfl (HS.blk _ (.head _)).2 Tryz.underlying77 rfl (by kernel_rfl) .nil)) rfl ?_
 exact ⟨⟨_, rfl, zcz _ _ _ x⟩, HS.fin⟩
theorem str_c {s : ByteArray} {p q p' q' : Int} {x : ByteArray} {w : World} {g : Nat} (h : jh s p q x p' q') (hg : AtB w g 156 (rdC s p q)) : Calls Tryz.prog 149 #[.pointer (some ⟨g, 0, none⟩)] w fun e w' => e = .returned (.string x) ∧ Tn w g 156 (rdC s p' q') w' := by
 have HS := Sat.one hg
 replace h := za.mk h
 go_enter Tryz.func149, Tryz.ntmps149
 go_wp2_with ((first | ((with_reducible refine gB rfl ?_); refine zC HS ?_) | ((with_reducible refine gA rfl ?_); refine zr HS ?_) | ((with_reducible refine gS rfl ?_); refine zt HS ?_) | (go_at_call 150; refine HS.tn0 (Jk h.out) ?_)); clear HS; (try clear hc); intros; rename_i HS; have hc := HS.lk; simp only [Lk, LkC, Value.cells, List.toList_toArray, Nat.reduceAdd, Nat.zero_add, and_true, zf, zg, ze, zh] at HS hc)
 go_ret
 exact ⟨rfl, HS.fin⟩
theorem zbm {s : ByteArray} {p q m p' q' : Int} {xs : List S108} {w : World} {g : Nat} (h : YC rEv s p q m xs p' q') (hM : m ≤ 1024) (hg : AtB w g 156 (rdC s p q)) : Calls Tryz.prog 157 #[.pointer (some ⟨g, 0, none⟩), .int .i64 m, .func (Fn.func 158) #[] #[]] w fun e w' => (∃ v, e = .returned v ∧ k108.R 108 w' w.heap.size (fun _ => True) v xs) ∧ Tn w g 156 (rdC s p' q') w' := by
 have HS := (Sat.one hg).R (Kd.R_nil k108 108 w w.heap.size (fun _ => True)) (Nat.le_refl _)
 obtain ⟨n, p1, q0, q1, h1, h2, h3⟩ := h
 replace h1 := za.mk h1
 have HL := za.mk h3
 have HN : za (q1 = 0 → n ≤ 1024) := ⟨fun hq => by rcases h2 with ⟨c, e⟩ | ⟨_, _, e⟩ | ⟨_, c, _⟩; exact absurd (e.symm.trans hq) c; rw [e] at hq; cases hq; have := of_decide_eq_true c; omega⟩
 clear h3
 go_enter Tryz.func157, Tryz.ntmps157
 go_upto_region 2 with ((first | ((with_reducible refine gB rfl ?_); refine zC HS ?_) | ((with_reducible refine gA rfl ?_); refine zr HS ?_) | ((with_reducible refine gS rfl ?_); refine zt HS ?_) | (go_at_call 152; refine HS.tn0 (xO h1.out) ?_) | (go_at_call 170; refine HS.go (yY c.out) ?_)); clear HS; (try clear hc); intros; rename_i HS; have hc := HS.lk; simp only [Lk, LkC, Value.cells, List.toList_toArray, Nat.reduceAdd, Nat.zero_add, and_true, zf, zg, ze, zh] at HS hc)
 rcases h2 with ⟨c, rfl⟩ | ⟨rfl, c, rfl⟩ | ⟨rfl, c, rfl⟩
 case' inl => have c1 : (q1 == 0) = false := beq_eq_false_iff_ne.mpr c
 all_goals
  replace c := za.mk c
  go_wp2_with ((first | ((with_reducible refine gB rfl ?_); refine zC HS ?_) | ((with_reducible refine gA rfl ?_); refine zr HS ?_) | ((with_reducible refine gS rfl ?_); refine zt HS ?_) | (go_at_call 152; refine HS.tn0 (xO h1.out) ?_) | (go_at_call 170; refine HS.go (yY c.out) ?_)); clear HS; (try clear hc); intros; rename_i HS; have hc := HS.lk; simp only [Lk, LkC, Value.cells, List.toList_toArray, Nat.reduceAdd, Nat.zero_add, and_true, zf, zg, ze, zh] at HS hc)
  have HZ := za.mk HS
  clear HS hc
  go_loopg [8, 9] xs.length (fun kq v8 v9 wr => ∃ (ys zs : List S108) (i : Nat) (P_ Q_ : Int) (A_ : Option Addr) (c_ : Nat), v8 = .slice A_ ys.length c_ ∧ v9 = .int .i64 i ∧ i = ys.length ∧ kq = zs.length ∧ za (ys ++ zs = xs) ∧ za (Q_ = 0 → n ≤ 1024) ∧ za (Zx (rEv s) zs (n - i) P_ Q_ p' q') ∧ za (Sat [g] w wr [(g, rdC s P_ Q_, 156)] [xC k108 108 w (.slice A_ ys.length c_) ys]))
  case atStart => exact ⟨[], xs, 0, _, _, _, _, rfl, rfl, rfl, rfl, ⟨rfl⟩, ⟨fun h_ => HN.out (by first | exact h_ | trivial)⟩, ⟨by rw [show n - ((0 : Nat) : Int) = n by omega]; exact HL.out⟩, HZ⟩
  case round =>
   clear HZ HL HN
   obtain ⟨ys, zs, i, P_, Q_, A_, c_, rfl, rfl, hi, hk, HX, HN, HL, HT⟩ := hrel
   have HS := HT.out
   clear HT
   have hc := HS.lk; simp only [Lk, LkC, Value.cells, List.toList_toArray, Nat.reduceAdd, Nat.zero_add, and_true, zf, zg, ze, zh] at HS hc
   have hl := HL.out
   cases zs with
   | nil =>
    obtain ⟨hz, rfl, rfl⟩ := hl
    have hx := HX.out
    rw [List.append_nil] at hx
    subst hx
    clear HX HL
    by_cases h0 : (i : Int) < n
    case' pos => have h9 : (q' == 0) = false := beq_eq_false_iff_ne.mpr (fun h => hz ⟨by omega, h⟩)
    all_goals
     clear hz
     go_wp2
     go_ret
     exact ⟨⟨_, rfl, (HS.rows _ (.head _)).2⟩, HS.fin⟩
   | cons y zs =>
    obtain ⟨h6, rfl, p2, q2, h5, hl⟩ := hl
    replace h5 := za.mk h5
    have hn := HN.out rfl
    have h0 : (i : Int) < n := by omega
    clear HL h6
    go_wp2_with (first | (go_at_call 158; refine HS.tnM (d := k108) (F := fun cs => .agg cs.toArray) (ev_c h5.out) ?_; clear HS hc; intro cs w_ HS hm; have hm0 := hm; obtain ⟨v_, rfl, g_⟩ := Vj hm; obtain ⟨A3_, c3_, rfl⟩ := Kd.R_slice g_; clear g_; clear hm; have hc := HS.lk; simp only [Lk, LkC, Value.cells, List.toList_toArray, Nat.reduceAdd, Nat.zero_add, and_true, zf, zg, ze, zh] at HS hc) | ((with_reducible refine gL rfl ?_); refine QM (bytes := 32) HS hm0 (by omega) ?_; clear hm0; clear HS hc; intro A1_ c1_ w_ HS; have hc := HS.lk; simp only [Lk, LkC, Value.cells, List.toList_toArray, Nat.reduceAdd, Nat.zero_add, and_true, zf, zg, ze, zh] at HS hc))
    go_roundg zs.length
    case measure => rw [hk]; simp
    case rel => exact ⟨ys ++ [y], zs, i + 1, p2, q2, _, _, by simp, by have h_ : wrap64 ((i : Int) + 1) = ((i + 1 : Nat) : Int) := z7 (by omega) (by omega); first | (rw [h_]) | (simp only [h_]) | (simp [hi]) | rfl, by simp [hi], rfl, ⟨by rw [← HX.out]; simp⟩, ⟨fun _ => hn⟩, ⟨by rw [show n - ((i + 1 : Nat) : Int) = n - i - 1 by omega]; exact hl⟩, ⟨HS⟩⟩
theorem zbH {s : ByteArray} {p q m p' q' : Int} {xs : List S86} {w : World} {g : Nat} (h : YC rIt s p q m xs p' q') (hM : m ≤ 1024) (hg : AtB w g 156 (rdC s p q)) : Calls Tryz.prog 160 #[.pointer (some ⟨g, 0, none⟩), .int .i64 m, .func (Fn.func 161) #[] #[]] w fun e w' => (∃ v, e = .returned v ∧ k86.R 86 w' w.heap.size (fun _ => True) v xs) ∧ Tn w g 156 (rdC s p' q') w' := by
 have HS := (Sat.one hg).R (Kd.R_nil k86 86 w w.heap.size (fun _ => True)) (Nat.le_refl _)
 obtain ⟨n, p1, q0, q1, h1, h2, h3⟩ := h
 replace h1 := za.mk h1
 have HL := za.mk h3
 have HN : za (q1 = 0 → n ≤ 1024) := ⟨fun hq => by rcases h2 with ⟨c, e⟩ | ⟨_, _, e⟩ | ⟨_, c, _⟩; exact absurd (e.symm.trans hq) c; rw [e] at hq; cases hq; have := of_decide_eq_true c; omega⟩
 clear h3
 go_enter Tryz.func160, Tryz.ntmps160
 go_upto_region 2 with ((first | ((with_reducible refine gB rfl ?_); refine zC HS ?_) | ((with_reducible refine gA rfl ?_); refine zr HS ?_) | ((with_reducible refine gS rfl ?_); refine zt HS ?_) | (go_at_call 152; refine HS.tn0 (xO h1.out) ?_) | (go_at_call 170; refine HS.go (yY c.out) ?_)); clear HS; (try clear hc); intros; rename_i HS; have hc := HS.lk; simp only [Lk, LkC, Value.cells, List.toList_toArray, Nat.reduceAdd, Nat.zero_add, and_true, zf, zg, ze, zh] at HS hc)
 rcases h2 with ⟨c, rfl⟩ | ⟨rfl, c, rfl⟩ | ⟨rfl, c, rfl⟩
 case' inl => have c1 : (q1 == 0) = false := beq_eq_false_iff_ne.mpr c
 all_goals
  replace c := za.mk c
  go_wp2_with ((first | ((with_reducible refine gB rfl ?_); refine zC HS ?_) | ((with_reducible refine gA rfl ?_); refine zr HS ?_) | ((with_reducible refine gS rfl ?_); refine zt HS ?_) | (go_at_call 152; refine HS.tn0 (xO h1.out) ?_) | (go_at_call 170; refine HS.go (yY c.out) ?_)); clear HS; (try clear hc); intros; rename_i HS; have hc := HS.lk; simp only [Lk, LkC, Value.cells, List.toList_toArray, Nat.reduceAdd, Nat.zero_add, and_true, zf, zg, ze, zh] at HS hc)
  have HZ := za.mk HS
  clear HS hc
  go_loopg [8, 9] xs.length (fun kq v8 v9 wr => ∃ (ys zs : List S86) (i : Nat) (P_ Q_ : Int) (A_ : Option Addr) (c_ : Nat), v8 = .slice A_ ys.length c_ ∧ v9 = .int .i64 i ∧ i = ys.length ∧ kq = zs.length ∧ za (ys ++ zs = xs) ∧ za (Q_ = 0 → n ≤ 1024) ∧ za (Zx (rIt s) zs (n - i) P_ Q_ p' q') ∧ za (Sat [g] w wr [(g, rdC s P_ Q_, 156)] [xC k86 86 w (.slice A_ ys.length c_) ys]))
  case atStart => exact ⟨[], xs, 0, _, _, _, _, rfl, rfl, rfl, rfl, ⟨rfl⟩, ⟨fun h_ => HN.out (by first | exact h_ | trivial)⟩, ⟨by rw [show n - ((0 : Nat) : Int) = n by omega]; exact HL.out⟩, HZ⟩
  case round =>
   clear HZ HL HN
   obtain ⟨ys, zs, i, P_, Q_, A_, c_, rfl, rfl, hi, hk, HX, HN, HL, HT⟩ := hrel
   have HS := HT.out
   clear HT
   have hc := HS.lk; simp only [Lk, LkC, Value.cells, List.toList_toArray, Nat.reduceAdd, Nat.zero_add, and_true, zf, zg, ze, zh] at HS hc
   have hl := HL.out
   cases zs with
   | nil =>
    obtain ⟨hz, rfl, rfl⟩ := hl
    have hx := HX.out
    rw [List.append_nil] at hx
    subst hx
    clear HX HL
    by_cases h0 : (i : Int) < n
    case' pos => have h9 : (q' == 0) = false := beq_eq_false_iff_ne.mpr (fun h => hz ⟨by omega, h⟩)
    all_goals
     clear hz
     go_wp2
     go_ret
     exact ⟨⟨_, rfl, (HS.rows _ (.head _)).2⟩, HS.fin⟩
   | cons y zs =>
    obtain ⟨h6, rfl, p2, q2, h5, hl⟩ := hl
    replace h5 := za.mk h5
    have hn := HN.out rfl
    have h0 : (i : Int) < n := by omega
    clear HL h6
    go_wp2_with (first | (go_at_call 161; refine HS.tnM (d := k86) (F := fun cs => .agg cs.toArray) (it_c h5.out) ?_; clear HS hc; intro cs w_ HS hm; have hm0 := hm; obtain ⟨v_, rfl, g_⟩ := VP hm; obtain ⟨A3_, c3_, rfl⟩ := Kd.R_slice g_; clear g_; clear hm; have hc := HS.lk; simp only [Lk, LkC, Value.cells, List.toList_toArray, Nat.reduceAdd, Nat.zero_add, and_true, zf, zg, ze, zh] at HS hc) | ((with_reducible refine gL rfl ?_); refine QM (bytes := 56) HS hm0 (by omega) ?_; clear hm0; clear HS hc; intro A1_ c1_ w_ HS; have hc := HS.lk; simp only [Lk, LkC, Value.cells, List.toList_toArray, Nat.reduceAdd, Nat.zero_add, and_true, zf, zg, ze, zh] at HS hc))
    go_roundg zs.length
    case measure => rw [hk]; simp
    case rel => exact ⟨ys ++ [y], zs, i + 1, p2, q2, _, _, by simp, by have h_ : wrap64 ((i : Int) + 1) = ((i + 1 : Nat) : Int) := z7 (by omega) (by omega); first | (rw [h_]) | (simp only [h_]) | (simp [hi]) | rfl, by simp [hi], rfl, ⟨by rw [← HX.out]; simp⟩, ⟨fun _ => hn⟩, ⟨by rw [show n - ((i + 1 : Nat) : Int) = n - i - 1 by omega]; exact hl⟩, ⟨HS⟩⟩
theorem zah {s : ByteArray} {p q m p' q' : Int} {xs : List S77} {w : World} {g : Nat} (h : YC Q9 s p q m xs p' q') (hM : m ≤ 1024) (hg : AtB w g 156 (rdC s p q)) : Calls Tryz.prog 163 #[.pointer (some ⟨g, 0, none⟩), .int .i64 m, .func (Fn.func 164) #[] #[]] w fun e w' => (∃ v, e = .returned v ∧ k77.R 77 w' w.heap.size (fun _ => True) v xs) ∧ Tn w g 156 (rdC s p' q') w' := by
 have HS := (Sat.one hg).R (Kd.R_nil k77 77 w w.heap.size (fun _ => True)) (Nat.le_refl _)
 obtain ⟨n, p1, q0, q1, h1, h2, h3⟩ := h
 replace h1 := za.mk h1
 have HL := za.mk h3
 have HN : za (q1 = 0 → n ≤ 1024) := ⟨fun hq => by rcases h2 with ⟨c, e⟩ | ⟨_, _, e⟩ | ⟨_, c, _⟩; exact absurd (e.symm.trans hq) c; rw [e] at hq; cases hq; have := of_decide_eq_true c; omega⟩
 clear h3
 go_enter Tryz.func163, Tryz.ntmps163
 go_upto_region 2 with ((first | ((with_reducible refine gB rfl ?_); refine zC HS ?_) | ((with_reducible refine gA rfl ?_); refine zr HS ?_) | ((with_reducible refine gS rfl ?_); refine zt HS ?_) | (go_at_call 152; refine HS.tn0 (xO h1.out) ?_) | (go_at_call 170; refine HS.go (yY c.out) ?_)); clear HS; (try clear hc); intros; rename_i HS; have hc := HS.lk; simp only [Lk, LkC, Value.cells, List.toList_toArray, Nat.reduceAdd, Nat.zero_add, and_true, zf, zg, ze, zh] at HS hc)
 rcases h2 with ⟨c, rfl⟩ | ⟨rfl, c, rfl⟩ | ⟨rfl, c, rfl⟩
 case' inl => have c1 : (q1 == 0) = false := beq_eq_false_iff_ne.mpr c
 all_goals
  replace c := za.mk c
  go_wp2_with ((first | ((with_reducible refine gB rfl ?_); refine zC HS ?_) | ((with_reducible refine gA rfl ?_); refine zr HS ?_) | ((with_reducible refine gS rfl ?_); refine zt HS ?_) | (go_at_call 152; refine HS.tn0 (xO h1.out) ?_) | (go_at_call 170; refine HS.go (yY c.out) ?_)); clear HS; (try clear hc); intros; rename_i HS; have hc := HS.lk; simp only [Lk, LkC, Value.cells, List.toList_toArray, Nat.reduceAdd, Nat.zero_add, and_true, zf, zg, ze, zh] at HS hc)
  have HZ := za.mk HS
  clear HS hc
  go_loopg [8, 9] xs.length (fun kq v8 v9 wr => ∃ (ys zs : List S77) (i : Nat) (P_ Q_ : Int) (A_ : Option Addr) (c_ : Nat), v8 = .slice A_ ys.length c_ ∧ v9 = .int .i64 i ∧ i = ys.length ∧ kq = zs.length ∧ za (ys ++ zs = xs) ∧ za (Q_ = 0 → n ≤ 1024) ∧ za (Zx (Q9 s) zs (n - i) P_ Q_ p' q') ∧ za (Sat [g] w wr [(g, rdC s P_ Q_, 156)] [xC k77 77 w (.slice A_ ys.length c_) ys]))
  case atStart => exact ⟨[], xs, 0, _, _, _, _, rfl, rfl, rfl, rfl, ⟨rfl⟩, ⟨fun h_ => HN.out (by first | exact h_ | trivial)⟩, ⟨by rw [show n - ((0 : Nat) : Int) = n by omega]; exact HL.out⟩, HZ⟩
  case round =>
   clear HZ HL HN
   obtain ⟨ys, zs, i, P_, Q_, A_, c_, rfl, rfl, hi, hk, HX, HN, HL, HT⟩ := hrel
   have HS := HT.out
   clear HT
   have hc := HS.lk; simp only [Lk, LkC, Value.cells, List.toList_toArray, Nat.reduceAdd, Nat.zero_add, and_true, zf, zg, ze, zh] at HS hc
   have hl := HL.out
   cases zs with
   | nil =>
    obtain ⟨hz, rfl, rfl⟩ := hl
    have hx := HX.out
    rw [List.append_nil] at hx
    subst hx
    clear HX HL
    by_cases h0 : (i : Int) < n
    case' pos => have h9 : (q' == 0) = false := beq_eq_false_iff_ne.mpr (fun h => hz ⟨by omega, h⟩)
    all_goals
     clear hz
     go_wp2
     go_ret
     exact ⟨⟨_, rfl, (HS.rows _ (.head _)).2⟩, HS.fin⟩
   | cons y zs =>
    obtain ⟨h6, rfl, p2, q2, h5, hl⟩ := hl
    replace h5 := za.mk h5
    have hn := HN.out rfl
    have h0 : (i : Int) < n := by omega
    clear HL h6
    go_wp2_with (first | (go_at_call 164; refine HS.tnM (d := k77) (F := fun cs => .agg cs.toArray) (ver_c h5.out) ?_; clear HS hc; intro cs w_ HS hm; have hm0 := hm; obtain rfl := VZ hm; clear hm; have hc := HS.lk; simp only [Lk, LkC, Value.cells, List.toList_toArray, Nat.reduceAdd, Nat.zero_add, and_true, zf, zg, ze, zh] at HS hc) | ((with_reducible refine gL rfl ?_); refine QM (bytes := 16) HS hm0 (by omega) ?_; clear hm0; clear HS hc; intro A1_ c1_ w_ HS; have hc := HS.lk; simp only [Lk, LkC, Value.cells, List.toList_toArray, Nat.reduceAdd, Nat.zero_add, and_true, zf, zg, ze, zh] at HS hc))
    go_roundg zs.length
    case measure => rw [hk]; simp
    case rel => exact ⟨ys ++ [y], zs, i + 1, p2, q2, _, _, by simp, by have h_ : wrap64 ((i : Int) + 1) = ((i + 1 : Nat) : Int) := z7 (by omega) (by omega); first | (rw [h_]) | (simp only [h_]) | (simp [hi]) | rfl, by simp [hi], rfl, ⟨by rw [← HX.out]; simp⟩, ⟨fun _ => hn⟩, ⟨by rw [show n - ((i + 1 : Nat) : Int) = n - i - 1 by omega]; exact hl⟩, ⟨HS⟩⟩
theorem VX {s : ByteArray} {p q m p' q' : Int} {xs : List ByteArray} {w : World} {g : Nat} (h : YC jh s p q m xs p' q') (hM : m ≤ 1024) (hg : AtB w g 156 (rdC s p q)) : Calls Tryz.prog 148 #[.pointer (some ⟨g, 0, none⟩), .int .i64 m, .func (Fn.func 149) #[] #[]] w fun e w' => (∃ v, e = .returned v ∧ Kd.string.R 9 w' w.heap.size (fun _ => True) v xs) ∧ Tn w g 156 (rdC s p' q') w' := by
 have HS := (Sat.one hg).R (Kd.R_nil Kd.string 9 w w.heap.size (fun _ => True)) (Nat.le_refl _)
 obtain ⟨n, p1, q0, q1, h1, h2, h3⟩ := h
 replace h1 := za.mk h1
 have HL := za.mk h3
 have HN : za (q1 = 0 → n ≤ 1024) := ⟨fun hq => by rcases h2 with ⟨c, e⟩ | ⟨_, _, e⟩ | ⟨_, c, _⟩; exact absurd (e.symm.trans hq) c; rw [e] at hq; cases hq; have := of_decide_eq_true c; omega⟩
 clear h3
 go_enter Tryz.func148, Tryz.ntmps148
 go_upto_region 2 with ((first | ((with_reducible refine gB rfl ?_); refine zC HS ?_) | ((with_reducible refine gA rfl ?_); refine zr HS ?_) | ((with_reducible refine gS rfl ?_); refine zt HS ?_) | (go_at_call 152; refine HS.tn0 (xO h1.out) ?_) | (go_at_call 170; refine HS.go (yY c.out) ?_)); clear HS; (try clear hc); intros; rename_i HS; have hc := HS.lk; simp only [Lk, LkC, Value.cells, List.toList_toArray, Nat.reduceAdd, Nat.zero_add, and_true, zf, zg, ze, zh] at HS hc)
 rcases h2 with ⟨c, rfl⟩ | ⟨rfl, c, rfl⟩ | ⟨rfl, c, rfl⟩
 case' inl => have c1 : (q1 == 0) = false := beq_eq_false_iff_ne.mpr c
 all_goals
  replace c := za.mk c
  go_wp2_with ((first | ((with_reducible refine gB rfl ?_); refine zC HS ?_) | ((with_reducible refine gA rfl ?_); refine zr HS ?_) | ((with_reducible refine gS rfl ?_); refine zt HS ?_) | (go_at_call 152; refine HS.tn0 (xO h1.out) ?_) | (go_at_call 170; refine HS.go (yY c.out) ?_)); clear HS; (try clear hc); intros; rename_i HS; have hc := HS.lk; simp only [Lk, LkC, Value.cells, List.toList_toArray, Nat.reduceAdd, Nat.zero_add, and_true, zf, zg, ze, zh] at HS hc)
  have HZ := za.mk HS
  clear HS hc
  go_loopg [8, 9] xs.length (fun kq v8 v9 wr => ∃ (ys zs : List ByteArray) (i : Nat) (P_ Q_ : Int) (A_ : Option Addr) (c_ : Nat), v8 = .slice A_ ys.length c_ ∧ v9 = .int .i64 i ∧ i = ys.length ∧ kq = zs.length ∧ za (ys ++ zs = xs) ∧ za (Q_ = 0 → n ≤ 1024) ∧ za (Zx (jh s) zs (n - i) P_ Q_ p' q') ∧ za (Sat [g] w wr [(g, rdC s P_ Q_, 156)] [xC Kd.string 9 w (.slice A_ ys.length c_) ys]))
  case atStart => exact ⟨[], xs, 0, _, _, _, _, rfl, rfl, rfl, rfl, ⟨rfl⟩, ⟨fun h_ => HN.out (by first | exact h_ | trivial)⟩, ⟨by rw [show n - ((0 : Nat) : Int) = n by omega]; exact HL.out⟩, HZ⟩
  case round =>
   clear HZ HL HN
   obtain ⟨ys, zs, i, P_, Q_, A_, c_, rfl, rfl, hi, hk, HX, HN, HL, HT⟩ := hrel
   have HS := HT.out
   clear HT
   have hc := HS.lk; simp only [Lk, LkC, Value.cells, List.toList_toArray, Nat.reduceAdd, Nat.zero_add, and_true, zf, zg, ze, zh] at HS hc
   have hl := HL.out
   cases zs with
   | nil =>
    obtain ⟨hz, rfl, rfl⟩ := hl
    have hx := HX.out
    rw [List.append_nil] at hx
    subst hx
    clear HX HL
    by_cases h0 : (i : Int) < n
    case' pos => have h9 : (q' == 0) = false := beq_eq_false_iff_ne.mpr (fun h => hz ⟨by omega, h⟩)
    all_goals
     clear hz
     go_wp2
     go_ret
     exact ⟨⟨_, rfl, (HS.rows _ (.head _)).2⟩, HS.fin⟩
   | cons y zs =>
    obtain ⟨h6, rfl, p2, q2, h5, hl⟩ := hl
    replace h5 := za.mk h5
    have hn := HN.out rfl
    have h0 : (i : Int) < n := by omega
    clear HL h6
    go_wp2_with (first | (go_at_call 149; refine HS.tn0 (str_c h5.out) ?_; clear HS hc; intro w_ HS; have hc := HS.lk; simp only [Lk, LkC, Value.cells, List.toList_toArray, Nat.reduceAdd, Nat.zero_add, and_true, zf, zg, ze, zh] at HS hc) | ((with_reducible refine gL rfl ?_); refine QM (bytes := 16) HS (show Kd.string.M _ _ _ y [.string y] from rfl) (by omega) ?_; clear HS hc; intro A1_ c1_ w_ HS; have hc := HS.lk; simp only [Lk, LkC, Value.cells, List.toList_toArray, Nat.reduceAdd, Nat.zero_add, and_true, zf, zg, ze, zh] at HS hc))
    go_roundg zs.length
    case measure => rw [hk]; simp
    case rel => exact ⟨ys ++ [y], zs, i + 1, p2, q2, _, _, by simp, by have h_ : wrap64 ((i : Int) + 1) = ((i + 1 : Nat) : Int) := z7 (by omega) (by omega); first | (rw [h_]) | (simp only [h_]) | (simp [hi]) | rfl, by simp [hi], rfl, ⟨by rw [← HX.out]; simp⟩, ⟨fun _ => hn⟩, ⟨by rw [show n - ((i + 1 : Nat) : Int) = n - i - 1 by omega]; exact hl⟩, ⟨HS⟩⟩
attribute [local go_sem] ja q8 jE jL qs qz q7 qZ
def xr.f (k : Nat) (l0 : List ByteArray) : Option (Bool) := (z3.f k l0).bind fun bt464 => (some (bt464.2 == 0))
theorem xr.calls (k : Nat) (A0 : Option Addr) (c0 : Nat) (l0 : List ByteArray) (r : Bool) (w : World) (hr0 : Kd.C Kd.string w A0 l0.length l0) (hc0 : l0.length ≤ c0) (h : xr.f k l0 = some r) :
  Calls Tryz.prog 151 #[.slice A0 l0.length c0] w fun e w' => e = .returned (.bool r) ∧ Below w.heap.size w w' := by
 have HR0 := za.mk hr0
 have HC0 := za.mk hc0
 clear hr0 hc0
 have HB := za.mk (Below.refl w.heap.size w)
 have H : ((z3.f k l0).bind fun bt464 => (some (bt464.2 == 0))) = some r := h
 clear h
 replace H := zcX.mp H
 obtain ⟨⟨t464, t465⟩, A20, H⟩ := H
 replace H : (some (t465 == 0)) = some r := H
 have A2 := za.mk A20
 clear A20
 obtain rfl := Option.some.inj H
 go_enter Tryz.func151, Tryz.ntmps151
 go_wp2_with (first | ((with_reducible refine zy (f := 127) rfl ?_); refine zS (some 7) rfl rfl Tryz.func127 (by kernel_rfl) rfl #[.slice A0 l0.length c0] rfl (by (try simp only [zcW, List.map_cons, List.map_nil]); first | done | rfl | (simp only [List.length_drop, List.length_take]; rfl)) ?_; (with_reducible refine (z3.calls k _ _ l0 t464 t465 _ ?side1 ?side2 A2.out).mono ?_); (case side1 => repeat (first | exact HR0.out | (with_reducible refine Kd.C_alloc ?_ _) | (with_reducible refine Kd.C_drewN ?_ _) | (with_reducible refine Kd.C_drew ?_))); (case side2 => exact HC0.out); rintro e w3 ⟨rfl, hb⟩; refine ⟨_, rfl, ?_⟩; have n0_ := za.mk (zp (by repeat (first | (with_reducible first | exact HB.out | apply zc | apply zb | apply zd) | exact HB.out)) hb); clear HB; have HB := n0_; clear n0_; (try clear hb); (try clear hb2); (try clear hk); (try clear hi)))
 go_ret
 exact ⟨by first | rfl | (simp [zn, zo] <;> rfl) | (simp [*, zn, zo] <;> rfl), by repeat (first | (with_reducible first | exact HB.out | apply zc | apply zb | apply zd) | exact HB.out)⟩
def Q0 := Xg rEv 3 (fun l b => ∃ k, zP.f k l = some b)
def Jn := Xg jh 8 (fun l b => ∃ k, xr.f k l = some b)
theorem zcx {s : ByteArray} {p q n e : Int} {l ys : List S86} {b : Bool} {A : Option Addr} {c : Nat} {w : World} {g : Nat} (h : Yn [] l b p q ys n e) (hb : Calls Tryz.prog 140 #[.slice A l.length c] w fun e w' => e = .returned (.bool b) ∧ Below w.heap.size w w') (hg : AtB w g 156 (rdC s p q)) : Calls Tryz.prog 159 #[.pointer (some ⟨g, 0, none⟩), .slice A l.length c, .func (Fn.func 140) #[] #[]] w fun e' w' => (∃ v, e' = .returned (.tuple #[v, .int .i64 n, .int .i64 e]) ∧ ((v = .slice none 0 0 ∧ ys = []) ∨ (v = .slice A l.length c ∧ ys = l))) ∧ Tn w g 156 (rdC s p e) w' := by
 have HS := Sat.one hg
 have hb2 := za.mk hb
 clear hb
 rcases h with ⟨c0, rfl, rfl, rfl⟩ | ⟨rfl, rfl, rfl, rfl, rfl⟩ | ⟨rfl, rfl, rfl, rfl, rfl⟩
 case' inl => have c1 := beq_eq_false_iff_ne.mpr c0; have c2 := bne_iff_ne.mpr c0; clear c0
 all_goals
  have hc := HS.lk
  simp only [Lk, LkC, Value.cells, List.toList_toArray, Nat.reduceAdd, Nat.zero_add, and_true, zf, zg, ze, zh] at HS hc
  go_enter Tryz.func159, Tryz.ntmps159
  go_wp2_with (first | ((first | ((with_reducible refine gB rfl ?_); refine zC HS ?_) | ((with_reducible refine gA rfl ?_); refine zr HS ?_) | ((with_reducible refine gS rfl ?_); refine zt HS ?_) | (go_at_call 140; refine HS.go hb2.out ?_)); clear HS; (try clear hc); intros; rename_i HS; have hc := HS.lk; simp only [Lk, LkC, Value.cells, List.toList_toArray, Nat.reduceAdd, Nat.zero_add, and_true, zf, zg, ze, zh] at HS hc) | (refine yh (.op 0 0 29 (.op 1 0 30 (.op 2 0 31 (.op 3 0 32 (.op 4 0 33 (.op 5 0 6 (.op 6 0 7 (.op 7 0 8 .nil)))))))) [] HS (List.Sublist.refl _) ?_; clear HS hc; intro HS hS; (repeat refine RT.tk ?_); clear hS; have hc := HS.lk; simp only [Lk, LkC, Value.cells, List.toList_toArray, Nat.reduceAdd, Nat.zero_add, and_true, zf, zg, ze, zh] at HS hc; refine RT.nil ?_) | (refine yh (.op 0 0 34 (.op 1 0 35 (.op 2 0 36 (.op 3 0 37 (.op 4 0 38 (.op 5 0 6 (.op 6 0 7 (.op 7 0 8 .nil)))))))) [] HS (List.Sublist.refl _) ?_; clear HS hc; intro HS hS; (repeat refine RT.tk ?_); clear hS; have hc := HS.lk; simp only [Lk, LkC, Value.cells, List.toList_toArray, Nat.reduceAdd, Nat.zero_add, and_true, zf, zg, ze, zh] at HS hc; refine RT.nil ?_))
  go_ret3
  exact ⟨⟨_, rfl, by simp⟩, HS.fin⟩
theorem zax {s : ByteArray} {p n e : Int} {ys : List S86} {w : World} (h : JU s p ys n e) : Calls Tryz.prog 122 #[.string s, .int .i64 p] w fun e' w' => ∃ v, e' = .returned (.tuple #[v, .int .i64 n, .int .i64 e]) ∧ k86.R 86 w' w.heap.size (fun _ => True) v ys ∧ Below w.heap.size w w' := by
 have HS := Sat.nil w
 obtain ⟨xs, p1, q1, b, h1, h2, h3⟩ := h
 replace h1 := za.mk h1
 replace h2 := za.mk h2
 replace h3 := za.mk h3
 go_enter Tryz.func122, Tryz.ntmps122
 go_wp2_with (first | (first | ((with_reducible refine gB rfl ?_); refine zC HS ?_) | ((with_reducible refine gA rfl ?_); refine zr HS ?_) | ((with_reducible refine gS rfl ?_); refine zt HS ?_) | (go_at_call 160; refine HS.tnR (zbH h1.out (by decide)) ?_) | (go_at_call 159; refine HS.tn (zcx h3.out (by obtain rfl := h2.out; exact Yc (Kd.R_reads' (HS.rows _ (.head _)).2).2.2)) ?_)); clear HS; (try clear hc); intros; first | (rename_i e_ w_ he HS; obtain ⟨v_, rfl, hv_⟩ := he; have hc := HS.lk; simp only [Lk, LkC, Value.cells, List.toList_toArray, Nat.reduceAdd, Nat.zero_add, and_true, zf, zg, ze, zh] at HS hc) | (rename_i HS; have hc := HS.lk; simp only [Lk, LkC, Value.cells, List.toList_toArray, Nat.reduceAdd, Nat.zero_add, and_true, zf, zg, ze, zh] at HS hc))
 go_ret3
 refine ⟨_, rfl, ?_, HS.below⟩
 rcases hv_ with ⟨rfl, rfl⟩ | ⟨rfl, rfl⟩
 ·exact Kd.R_nil _ _ _ _ _
 ·exact (HS.rows _ (.head _)).2
theorem zbi {s : ByteArray} {p q n e : Int} {l ys : List S77} {b : Bool} {A : Option Addr} {c : Nat} {w : World} {g : Nat} (h : Yn [] l b p q ys n e) (hb : Calls Tryz.prog 143 #[.slice A l.length c] w fun e w' => e = .returned (.bool b) ∧ Below w.heap.size w w') (hg : AtB w g 156 (rdC s p q)) : Calls Tryz.prog 162 #[.pointer (some ⟨g, 0, none⟩), .slice A l.length c, .func (Fn.func 143) #[] #[]] w fun e' w' => (∃ v, e' = .returned (.tuple #[v, .int .i64 n, .int .i64 e]) ∧ ((v = .slice none 0 0 ∧ ys = []) ∨ (v = .slice A l.length c ∧ ys = l))) ∧ Tn w g 156 (rdC s p e) w' := by
 have HS := Sat.one hg
 have hb2 := za.mk hb
 clear hb
 rcases h with ⟨c0, rfl, rfl, rfl⟩ | ⟨rfl, rfl, rfl, rfl, rfl⟩ | ⟨rfl, rfl, rfl, rfl, rfl⟩
 case' inl => have c1 := beq_eq_false_iff_ne.mpr c0; have c2 := bne_iff_ne.mpr c0; clear c0
 all_goals
  have hc := HS.lk
  simp only [Lk, LkC, Value.cells, List.toList_toArray, Nat.reduceAdd, Nat.zero_add, and_true, zf, zg, ze, zh] at HS hc
  go_enter Tryz.func162, Tryz.ntmps162
  go_wp2_with (first | ((first | ((with_reducible refine gB rfl ?_); refine zC HS ?_) | ((with_reducible refine gA rfl ?_); refine zr HS ?_) | ((with_reducible refine gS rfl ?_); refine zt HS ?_) | (go_at_call 143; refine HS.go hb2.out ?_)); clear HS; (try clear hc); intros; rename_i HS; have hc := HS.lk; simp only [Lk, LkC, Value.cells, List.toList_toArray, Nat.reduceAdd, Nat.zero_add, and_true, zf, zg, ze, zh] at HS hc) | (refine yh (.op 0 0 29 (.op 1 0 30 (.op 2 0 31 (.op 3 0 32 (.op 4 0 33 (.op 5 0 6 (.op 6 0 7 (.op 7 0 8 .nil)))))))) [] HS (List.Sublist.refl _) ?_; clear HS hc; intro HS hS; (repeat refine RT.tk ?_); clear hS; have hc := HS.lk; simp only [Lk, LkC, Value.cells, List.toList_toArray, Nat.reduceAdd, Nat.zero_add, and_true, zf, zg, ze, zh] at HS hc; refine RT.nil ?_) | (refine yh (.op 0 0 34 (.op 1 0 35 (.op 2 0 36 (.op 3 0 37 (.op 4 0 38 (.op 5 0 6 (.op 6 0 7 (.op 7 0 8 .nil)))))))) [] HS (List.Sublist.refl _) ?_; clear HS hc; intro HS hS; (repeat refine RT.tk ?_); clear hS; have hc := HS.lk; simp only [Lk, LkC, Value.cells, List.toList_toArray, Nat.reduceAdd, Nat.zero_add, and_true, zf, zg, ze, zh] at HS hc; refine RT.nil ?_))
  go_ret3
  exact ⟨⟨_, rfl, by simp⟩, HS.fin⟩
theorem Jp {s : ByteArray} {p n e : Int} {ys : List S77} {w : World} (h : Xk s p ys n e) : Calls Tryz.prog 124 #[.string s, .int .i64 p] w fun e' w' => ∃ v, e' = .returned (.tuple #[v, .int .i64 n, .int .i64 e]) ∧ k77.R 77 w' w.heap.size (fun _ => True) v ys ∧ Below w.heap.size w w' := by
 have HS := Sat.nil w
 obtain ⟨xs, p1, q1, b, h1, h2, h3⟩ := h
 replace h1 := za.mk h1
 replace h2 := za.mk h2
 replace h3 := za.mk h3
 go_enter Tryz.func124, Tryz.ntmps124
 go_wp2_with (first | (first | ((with_reducible refine gB rfl ?_); refine zC HS ?_) | ((with_reducible refine gA rfl ?_); refine zr HS ?_) | ((with_reducible refine gS rfl ?_); refine zt HS ?_) | (go_at_call 163; refine HS.tnR (zah h1.out (by decide)) ?_) | (go_at_call 162; refine HS.tn (zbi h3.out (by obtain rfl := h2.out; exact vV (Kd.R_reads' (HS.rows _ (.head _)).2).2.2)) ?_)); clear HS; (try clear hc); intros; first | (rename_i e_ w_ he HS; obtain ⟨v_, rfl, hv_⟩ := he; have hc := HS.lk; simp only [Lk, LkC, Value.cells, List.toList_toArray, Nat.reduceAdd, Nat.zero_add, and_true, zf, zg, ze, zh] at HS hc) | (rename_i HS; have hc := HS.lk; simp only [Lk, LkC, Value.cells, List.toList_toArray, Nat.reduceAdd, Nat.zero_add, and_true, zf, zg, ze, zh] at HS hc))
 go_ret3
 refine ⟨_, rfl, ?_, HS.below⟩
 rcases hv_ with ⟨rfl, rfl⟩ | ⟨rfl, rfl⟩
 ·exact Kd.R_nil _ _ _ _ _
 ·exact (HS.rows _ (.head _)).2
theorem zb1 {s : ByteArray} {p q n e : Int} {l ys : List S108} {b : Bool} {A : Option Addr} {c : Nat} {w : World} {g : Nat} (h : Yn [] l b p q ys n e) (hb : Calls Tryz.prog 137 #[.slice A l.length c] w fun e w' => e = .returned (.bool b) ∧ Below w.heap.size w w') (hg : AtB w g 156 (rdC s p q)) : Calls Tryz.prog 156 #[.pointer (some ⟨g, 0, none⟩), .slice A l.length c, .func (Fn.func 137) #[] #[]] w fun e' w' => (∃ v, e' = .returned (.tuple #[v, .int .i64 n, .int .i64 e]) ∧ ((v = .slice none 0 0 ∧ ys = []) ∨ (v = .slice A l.length c ∧ ys = l))) ∧ Tn w g 156 (rdC s p e) w' := by
 have HS := Sat.one hg
 have hb2 := za.mk hb
 clear hb
 rcases h with ⟨c0, rfl, rfl, rfl⟩ | ⟨rfl, rfl, rfl, rfl, rfl⟩ | ⟨rfl, rfl, rfl, rfl, rfl⟩
 case' inl => have c1 := beq_eq_false_iff_ne.mpr c0; have c2 := bne_iff_ne.mpr c0; clear c0
 all_goals
  have hc := HS.lk
  simp only [Lk, LkC, Value.cells, List.toList_toArray, Nat.reduceAdd, Nat.zero_add, and_true, zf, zg, ze, zh] at HS hc
  go_enter Tryz.func156, Tryz.ntmps156
  go_wp2_with (first | ((first | ((with_reducible refine gB rfl ?_); refine zC HS ?_) | ((with_reducible refine gA rfl ?_); refine zr HS ?_) | ((with_reducible refine gS rfl ?_); refine zt HS ?_) | (go_at_call 137; refine HS.go hb2.out ?_)); clear HS; (try clear hc); intros; rename_i HS; have hc := HS.lk; simp only [Lk, LkC, Value.cells, List.toList_toArray, Nat.reduceAdd, Nat.zero_add, and_true, zf, zg, ze, zh] at HS hc) | (refine yh (.op 0 0 29 (.op 1 0 30 (.op 2 0 31 (.op 3 0 32 (.op 4 0 33 (.op 5 0 6 (.op 6 0 7 (.op 7 0 8 .nil)))))))) [] HS (List.Sublist.refl _) ?_; clear HS hc; intro HS hS; (repeat refine RT.tk ?_); clear hS; have hc := HS.lk; simp only [Lk, LkC, Value.cells, List.toList_toArray, Nat.reduceAdd, Nat.zero_add, and_true, zf, zg, ze, zh] at HS hc; refine RT.nil ?_) | (refine yh (.op 0 0 34 (.op 1 0 35 (.op 2 0 36 (.op 3 0 37 (.op 4 0 38 (.op 5 0 6 (.op 6 0 7 (.op 7 0 8 .nil)))))))) [] HS (List.Sublist.refl _) ?_; clear HS hc; intro HS hS; (repeat refine RT.tk ?_); clear hS; have hc := HS.lk; simp only [Lk, LkC, Value.cells, List.toList_toArray, Nat.reduceAdd, Nat.zero_add, and_true, zf, zg, ze, zh] at HS hc; refine RT.nil ?_))
  go_ret3
  exact ⟨⟨_, rfl, by simp⟩, HS.fin⟩
theorem Vy {s : ByteArray} {p n e : Int} {ys : List S108} {w : World} (h : Q0 s p ys n e) : Calls Tryz.prog 120 #[.string s, .int .i64 p] w fun e' w' => ∃ v, e' = .returned (.tuple #[v, .int .i64 n, .int .i64 e]) ∧ k108.R 108 w' w.heap.size (fun _ => True) v ys ∧ Below w.heap.size w w' := by
 have HS := Sat.nil w
 obtain ⟨xs, p1, q1, b, h1, h2, h3⟩ := h
 replace h1 := za.mk h1
 replace h2 := za.mk h2
 replace h3 := za.mk h3
 go_enter Tryz.func120, Tryz.ntmps120
 go_wp2_with (first | (first | ((with_reducible refine gB rfl ?_); refine zC HS ?_) | ((with_reducible refine gA rfl ?_); refine zr HS ?_) | ((with_reducible refine gS rfl ?_); refine zt HS ?_) | (go_at_call 157; refine HS.tnR (zbm h1.out (by decide)) ?_) | (go_at_call 156; refine HS.tn (zb1 h3.out (by obtain ⟨k_, hk_⟩ := h2.out; exact zP.calls k_ _ _ _ _ _ (Kd.R_reads' (HS.rows _ (.head _)).2).2.2 (Kd.R_reads' (HS.rows _ (.head _)).2).2.1 hk_)) ?_)); clear HS; (try clear hc); intros; first | (rename_i e_ w_ he HS; obtain ⟨v_, rfl, hv_⟩ := he; have hc := HS.lk; simp only [Lk, LkC, Value.cells, List.toList_toArray, Nat.reduceAdd, Nat.zero_add, and_true, zf, zg, ze, zh] at HS hc) | (rename_i HS; have hc := HS.lk; simp only [Lk, LkC, Value.cells, List.toList_toArray, Nat.reduceAdd, Nat.zero_add, and_true, zf, zg, ze, zh] at HS hc))
 go_ret3
 refine ⟨_, rfl, ?_, HS.below⟩
 rcases hv_ with ⟨rfl, rfl⟩ | ⟨rfl, rfl⟩
 ·exact Kd.R_nil _ _ _ _ _
 ·exact (HS.rows _ (.head _)).2
theorem zbc {s : ByteArray} {p q n e : Int} {l ys : List ByteArray} {b : Bool} {A : Option Addr} {c : Nat} {w : World} {g : Nat} (h : Yn [] l b p q ys n e) (hb : Calls Tryz.prog 151 #[.slice A l.length c] w fun e w' => e = .returned (.bool b) ∧ Below w.heap.size w w') (hg : AtB w g 156 (rdC s p q)) : Calls Tryz.prog 147 #[.pointer (some ⟨g, 0, none⟩), .slice A l.length c, .func (Fn.func 151) #[] #[]] w fun e' w' => (∃ v, e' = .returned (.tuple #[v, .int .i64 n, .int .i64 e]) ∧ ((v = .slice none 0 0 ∧ ys = []) ∨ (v = .slice A l.length c ∧ ys = l))) ∧ Tn w g 156 (rdC s p e) w' := by
 have HS := Sat.one hg
 have hb2 := za.mk hb
 clear hb
 rcases h with ⟨c0, rfl, rfl, rfl⟩ | ⟨rfl, rfl, rfl, rfl, rfl⟩ | ⟨rfl, rfl, rfl, rfl, rfl⟩
 case' inl => have c1 := beq_eq_false_iff_ne.mpr c0; have c2 := bne_iff_ne.mpr c0; clear c0
 all_goals
  have hc := HS.lk
  simp only [Lk, LkC, Value.cells, List.toList_toArray, Nat.reduceAdd, Nat.zero_add, and_true, zf, zg, ze, zh] at HS hc
  go_enter Tryz.func147, Tryz.ntmps147
  go_wp2_with (first | ((first | ((with_reducible refine gB rfl ?_); refine zC HS ?_) | ((with_reducible refine gA rfl ?_); refine zr HS ?_) | ((with_reducible refine gS rfl ?_); refine zt HS ?_) | (go_at_call 151; refine HS.go hb2.out ?_)); clear HS; (try clear hc); intros; rename_i HS; have hc := HS.lk; simp only [Lk, LkC, Value.cells, List.toList_toArray, Nat.reduceAdd, Nat.zero_add, and_true, zf, zg, ze, zh] at HS hc) | (refine yh (.op 0 0 29 (.op 1 0 30 (.op 2 0 31 (.op 3 0 32 (.op 4 0 33 (.op 5 0 6 (.op 6 0 7 (.op 7 0 8 .nil)))))))) [] HS (List.Sublist.refl _) ?_; clear HS hc; intro HS hS; (repeat refine RT.tk ?_); clear hS; have hc := HS.lk; simp only [Lk, LkC, Value.cells, List.toList_toArray, Nat.reduceAdd, Nat.zero_add, and_true, zf, zg, ze, zh] at HS hc; refine RT.nil ?_) | (refine yh (.op 0 0 34 (.op 1 0 35 (.op 2 0 36 (.op 3 0 37 (.op 4 0 38 (.op 5 0 6 (.op 6 0 7 (.op 7 0 8 .nil)))))))) [] HS (List.Sublist.refl _) ?_; clear HS hc; intro HS hS; (repeat refine RT.tk ?_); clear hS; have hc := HS.lk; simp only [Lk, LkC, Value.cells, List.toList_toArray, Nat.reduceAdd, Nat.zero_add, and_true, zf, zg, ze, zh] at HS hc; refine RT.nil ?_))
  go_ret3
  exact ⟨⟨_, rfl, by simp⟩, HS.fin⟩
theorem Vh {s : ByteArray} {p n e : Int} {ys : List ByteArray} {w : World} (h : Jn s p ys n e) : Calls Tryz.prog 113 #[.string s, .int .i64 p] w fun e' w' => ∃ v, e' = .returned (.tuple #[v, .int .i64 n, .int .i64 e]) ∧ Kd.string.R 9 w' w.heap.size (fun _ => True) v ys ∧ Below w.heap.size w w' := by
 have HS := Sat.nil w
 obtain ⟨xs, p1, q1, b, h1, h2, h3⟩ := h
 replace h1 := za.mk h1
 replace h2 := za.mk h2
 replace h3 := za.mk h3
 go_enter Tryz.func113, Tryz.ntmps113
 go_wp2_with (first | (first | ((with_reducible refine gB rfl ?_); refine zC HS ?_) | ((with_reducible refine gA rfl ?_); refine zr HS ?_) | ((with_reducible refine gS rfl ?_); refine zt HS ?_) | (go_at_call 148; refine HS.tnR (VX h1.out (by decide)) ?_) | (go_at_call 147; refine HS.tn (zbc h3.out (by obtain ⟨k_, hk_⟩ := h2.out; exact xr.calls k_ _ _ _ _ _ (Kd.R_reads' (HS.rows _ (.head _)).2).2.2 (Kd.R_reads' (HS.rows _ (.head _)).2).2.1 hk_)) ?_)); clear HS; (try clear hc); intros; first | (rename_i e_ w_ he HS; obtain ⟨v_, rfl, hv_⟩ := he; have hc := HS.lk; simp only [Lk, LkC, Value.cells, List.toList_toArray, Nat.reduceAdd, Nat.zero_add, and_true, zf, zg, ze, zh] at HS hc) | (rename_i HS; have hc := HS.lk; simp only [Lk, LkC, Value.cells, List.toList_toArray, Nat.reduceAdd, Nat.zero_add, and_true, zf, zg, ze, zh] at HS hc))
 go_ret3
 refine ⟨_, rfl, ?_, HS.below⟩
 rcases hv_ with ⟨rfl, rfl⟩ | ⟨rfl, rfl⟩
 ·exact Kd.R_nil _ _ _ _ _
 ·exact (HS.rows _ (.head _)).2
theorem zbr {s : ByteArray} {p q n e : Int} {x y : S52} {b : Bool} {A : Option Addr} {c base : Nat} {w : World} {g : Nat} {cs : List Value} (hB : qr x.f0 x.f1 x.f2 x.f3 x.f4 x.f5 = b) (h : Yn z52 x b p q y n e) (hr : (Kd.int .i64).R 3 w base (fun _ => True) (.slice A x.f4.length c) x.f4) (hcs : (e = 0 ∧ cs = [.int .i64 x.f0, .int .i64 x.f1, .string x.f2, .int .i64 x.f3, .slice A x.f4.length c, .int .i64 x.f5]) ∨ (e ≠ 0 ∧ cs = [.int .i64 0, .int .i64 0, .string ⟨#[]⟩, .int .i64 0, .slice none 0 0, .int .i64 0])) (hg : AtB w g 156 (rdC s p q)) : Calls Tryz.prog 154 #[.pointer (some ⟨g, 0, none⟩), .agg #[.int .i64 x.f0, .int .i64 x.f1, .string x.f2, .int .i64 x.f3, .slice A x.f4.length c, .int .i64 x.f5], .func (Fn.func 136) #[] #[]] w fun e' w' => e' = .returned (.tuple #[.agg cs.toArray, .int .i64 n, .int .i64 e]) ∧ Tn w g 156 (rdC s p e) w' := by
 have HS := (Sat.one hg).row (Ty.R (Kd.int .i64) 3 base _ _) hr
 replace hB := za.mk hB
 clear hr
 rcases h with ⟨c0, rfl, rfl, rfl⟩ | ⟨rfl, rfl, rfl, rfl, rfl⟩ | ⟨rfl, rfl, rfl, rfl, rfl⟩
 case' inl => have c1 := beq_eq_false_iff_ne.mpr c0; have c2 := bne_iff_ne.mpr c0
 all_goals
  rcases hcs with ⟨c3, rfl⟩ | ⟨c3, rfl⟩ <;> first | (exfalso; first | exact c0 c3 | exact c3 rfl | (revert c3; decide)) | skip
  try clear c0
  clear c3
  have hc := HS.lk
  simp only [Lk, LkC, Value.cells, List.toList_toArray, Nat.reduceAdd, Nat.zero_add, and_true, zf, zg, ze, zh] at HS hc
  go_enter Tryz.func154, Tryz.ntmps154
  go_wp2_with (first | ((first | ((with_reducible refine gB rfl ?_); refine zC HS ?_) | ((with_reducible refine gA rfl ?_); refine zr HS ?_) | ((with_reducible refine gS rfl ?_); refine zt HS ?_) | (go_at_call 136; refine HS.go (xE.calls 0 _ _ _ _ _ _ _ _ _ _ (Kd.R_reads' (HS.rows _ (.head _)).2).2.2 (Kd.R_reads' (HS.rows _ (.head _)).2).2.1 (congrArg some hB.out)) ?_)); clear HS; (try clear hc); intros; rename_i HS; have hc := HS.lk; simp only [Lk, LkC, Value.cells, List.toList_toArray, Nat.reduceAdd, Nat.zero_add, and_true, zf, zg, ze, zh] at HS hc) | (refine yh (.op 0 0 29 (.op 1 0 30 (.op 2 0 31 (.op 3 0 32 (.op 4 0 33 (.op 5 4 0 (.op 6 1 7 (.op 7 1 8 .nil)))))))) [] HS (.cons_cons _ (.cons _ (.cons_cons _ (.cons_cons _ .slnil)))) ?_; clear HS hc; intro HS hS; (repeat (refine RT.tk ?_)); refine RT.o4 ?_; intro K hK; refine y9 HS ?_; clear HS hS; intro w_ HS; have hc := HS.lk; simp only [Lk, LkC, Value.cells, List.toList_toArray, Nat.reduceAdd, Nat.zero_add, and_true, zf, zg, ze, zh] at HS hc; refine hK _ _ (yP (.cons_cons _ (.cons _ (.cons_cons _ (.cons_cons _ .slnil)))) HS.lk) (fun hS => ?_); clear hK hS; (repeat (refine RT.pu ?_)); refine RT.nil ?_) | (refine yh (.op 0 0 34 (.op 1 0 35 (.op 2 0 36 (.op 3 0 37 (.op 4 0 38 (.op 5 4 0 (.op 6 1 7 (.op 7 1 8 .nil)))))))) [] HS (.cons_cons _ (.cons _ (.cons_cons _ (.cons_cons _ .slnil)))) ?_; clear HS hc; intro HS hS; (repeat (refine RT.tk ?_)); refine RT.o4 ?_; intro K hK; refine y9 HS ?_; clear HS hS; intro w_ HS; have hc := HS.lk; simp only [Lk, LkC, Value.cells, List.toList_toArray, Nat.reduceAdd, Nat.zero_add, and_true, zf, zg, ze, zh] at HS hc; refine hK _ _ (yP (.cons_cons _ (.cons _ (.cons_cons _ (.cons_cons _ .slnil)))) HS.lk) (fun hS => ?_); clear hK hS; (repeat (refine RT.pu ?_)); refine RT.nil ?_))
  refine bodyPost_ret (xd (rs := [_, _, _]) rfl (by simp) (.cell _ _ _ _ _ rfl (HS.blk (_, _, _) (by repeat (first | exact .head _ | apply List.Mem.tail))).2 Tryz.underlying52 rfl (by kernel_rfl) (.tmp (.tmp .nil)))) rfl ?_
  exact ⟨rfl, HS.fin⟩
theorem zcf {s : ByteArray} {p n e : Int} {y : S52} {w : World} (h : zbO s p y n e) : Calls Tryz.prog 116 #[.string s, .int .i64 p] w fun e' w' => (∃ cs : List Value, e' = .returned (.tuple #[.agg cs.toArray, .int .i64 n, .int .i64 e]) ∧ k52.M w' w.heap.size (fun _ => True) y cs) ∧ Below w.heap.size w w' := by
 have HS := Sat.nil w
 obtain ⟨x, p1, q1, p2, q2, p3, q3, p4, q4, p5, q5, p_, q_, h1, h2, h3, h4, h5, h6, h7⟩ := h
 replace h1 := za.mk h1
 replace h2 := za.mk h2
 replace h3 := za.mk h3
 replace h4 := za.mk h4
 replace h5 := za.mk h5
 replace h6 := za.mk h6
 have h8 : (e = 0 ∧ y = x) ∨ (e ≠ 0 ∧ y = z52) := by
  rcases h7 with ⟨c0, rfl, rfl, rfl⟩ | ⟨rfl, _, rfl, rfl, rfl⟩ | ⟨rfl, _, rfl, rfl, rfl⟩
  ·exact .inr ⟨c0, rfl⟩
  ·exact .inr ⟨by decide, rfl⟩
  ·exact .inl ⟨rfl, rfl⟩
 replace h7 := za.mk h7
 rcases h8 with ⟨h8, rfl⟩ | ⟨h8, rfl⟩
 all_goals
  replace h8 := za.mk h8
  go_enter Tryz.func116, Tryz.ntmps116
  go_wp2_with ((first | ((with_reducible refine gB rfl ?_); refine zC HS ?_) | ((with_reducible refine gA rfl ?_); refine zr HS ?_) | ((with_reducible refine gS rfl ?_); refine zt HS ?_) | (go_at_call 152; refine HS.tn0 (xO h1.out) ?_) | (go_at_call 152; refine HS.tn0 (xO h2.out) ?_) | (go_at_call 150; refine HS.tn0 (Jk h3.out) ?_) | (go_at_call 152; refine HS.tn0 (xO h4.out) ?_) | (go_at_call 153; refine HS.tnR (Q3 h5.out) ?_) | (go_at_call 152; refine HS.tn0 (xO h6.out) ?_) | (go_at_call 154; refine HS.tn0 (zbr rfl h7.out (HS.rows _ (.head _)).2 (by first | exact .inl ⟨h8.out, rfl⟩ | exact .inr ⟨h8.out, rfl⟩)) ?_)); clear HS; (try clear hc); intros; rename_i HS; have hc := HS.lk; simp only [Lk, LkC, Value.cells, List.toList_toArray, Nat.reduceAdd, Nat.zero_add, and_true, zf, zg, ze, zh] at HS hc)
  refine bodyPost_ret (xd (rs := [_, _, _]) rfl (by simp) (.cell _ _ _ _ _ rfl (HS.blk (_, _, _) (by repeat (first | exact .head _ | apply List.Mem.tail))).2 Tryz.underlying52 rfl (by kernel_rfl) (.tmp (.tmp .nil)))) rfl ?_
  refine ⟨⟨_, rfl, ?_⟩, HS.below⟩
  first | exact XX _ _ _ _ (HS.rows _ (.head _)).2 | exact XX _ _ _ z52 (Kd.R_nil _ _ _ _ _)
section
variable {P : Program} {gs : List Nat} {w0 w : World} {bs bs' : List Bk} {rs : List Rw} {f : FuncId} {args : Array Value} {K : Ending → World → Prop} {g : Nat} {s s' : ByteArray} {p q p' q' : Int} {α : Type} {d : Kd α} {t : Nat} {xs : List α} {r : Value}
abbrev IsR (W w : World) (g : Nat) (s : ByteArray) (p q : Int) : Prop := w.heap[g]? = some (.cells (rdC s p q).toArray 67 (0, 0)) ∧ W.heap.size ≤ g
abbrev xY (W w w' : World) (g : Nat) (s : ByteArray) (p q : Int) : Prop := IsR W w' g s p q ∧ Below W.heap.size W w' ∧ yl w w' g none
theorem Sat.reader (H : Sat gs w0 w bs rs) (hm : (g, rdC s p q, 67) ∈ bs) : IsR (xe w g) w g s p q ∧ Below (xe w g).heap.size (xe w g) w :=
 ⟨⟨(H.blk _ hm).2, by rw [jX (H.lt hm)]; exact Nat.le_refl _⟩, ZK (H.lt hm)⟩
theorem Sat.rd0 (H : Sat gs w0 w bs rs) (hc : IsR (xe w g) w g s p q → Below (xe w g).heap.size (xe w g) w → Calls P f args w fun e w' => e = .returned r ∧ xY (xe w g) w w' g s' p' q')
  (h : ∀ w', Sat gs w0 w' bs' rs → K (.returned r) w') (hm : (g, rdC s p q, 67) ∈ bs := by ((repeat (first | exact .head _ | apply List.Mem.tail)); (first | done | fail))) (U : Up g 67 0 (fun _ => rdC s' p' q') bs bs' := by ((repeat (first | exact .here rfl | apply Up.there)); (first | done | fail))) (ht : yV 67 rs = true := by rfl) : Calls P f args w K := by
 obtain ⟨h1, h2⟩ := H.reader hm
 refine H.st (Φ := fun e _ => e = .returned r) ((hc h1 h2).mono fun e w' he => ⟨he.1, he.2.1.1, he.2.2⟩) h2 (fun e w' he HS => ?_) U ht
 subst he
 exact h w' HS
theorem Sat.rdR (H : Sat gs w0 w bs rs) (hc : IsR (xe w g) w g s p q → Below (xe w g).heap.size (xe w g) w → Calls P f args w fun e w' => ∃ v, e = .returned v ∧ d.R t w' w.heap.size (fun _ => True) v xs ∧ xY (xe w g) w w' g s' p' q')
  (h : ∀ A c w', Sat gs w0 w' bs' ((t :: d.E, fun w => d.R t w w0.heap.size (fun _ => True) (.slice A xs.length c) xs) :: rs) → K (.returned (.slice A xs.length c)) w') (hm : (g, rdC s p q, 67) ∈ bs := by ((repeat (first | exact .head _ | apply List.Mem.tail)); (first | done | fail))) (U : Up g 67 0 (fun _ => rdC s' p' q') bs bs' := by ((repeat (first | exact .here rfl | apply Up.there)); (first | done | fail))) (ht : yV 67 rs = true := by rfl) : Calls P f args w K := by
 obtain ⟨h1, h2⟩ := H.reader hm
 refine H.st (Φ := fun e w' => ∃ v, e = .returned v ∧ d.R t w' w.heap.size (fun _ => True) v xs) ((hc h1 h2).mono fun e w' he => ?_) h2 (fun e w' he HS => ?_) U ht
 ·obtain ⟨v, h3, h4, h5, h6⟩ := he
  exact ⟨⟨v, h3, h4⟩, h5.1, h6⟩
 ·obtain ⟨v, rfl, hr⟩ := he
  obtain ⟨A, c, rfl⟩ := Kd.R_slice hr
  exact h A c w' (HS.R hr H.keep.size)
theorem Sat.rdG (H : Sat gs w0 w bs rs) {Φ : Ending → World → Prop} (hc : IsR (xe w g) w g s p q → Below (xe w g).heap.size (xe w g) w → Calls P f args w fun e w' => Φ e w' ∧ xY (xe w g) w w' g s' p' q')
  (h : ∀ e w', Φ e w' → Sat gs w0 w' bs' rs → K e w') (hm : (g, rdC s p q, 67) ∈ bs := by ((repeat (first | exact .head _ | apply List.Mem.tail)); (first | done | fail))) (U : Up g 67 0 (fun _ => rdC s' p' q') bs bs' := by ((repeat (first | exact .here rfl | apply Up.there)); (first | done | fail))) (ht : yV 67 rs = true := by rfl) : Calls P f args w K := by
 obtain ⟨h1, h2⟩ := H.reader hm
 exact H.st (Φ := Φ) ((hc h1 h2).mono fun e w' he => ⟨he.1, he.2.1.1, he.2.2⟩) h2 h U ht
theorem Sat.post {W w' : World} (H : Sat [g] w w' bs rs) (hB : Below W.heap.size W w) (hg : W.heap.size ≤ g) (hm : (g, rdC s p q, 67) ∈ bs) : xY W w w' g s p q :=
 ⟨⟨(H.blk _ hm).2, hg⟩, H.keep.below_of hB (by simpa using hg), H.keep.but⟩
end
def Js := beh z52 zbO
def Yy := beh [] Jn
def YB := beh [] Q0
def XA := beh [] JU
def Za := beh [] Xk
def ZE (s : ByteArray) (p q m v p' q' : Int) : Prop := ∃ n q1, xc s p q n p' q1 ∧ ((q1 = 0 ∧ inB n 0 m = true ∧ v = n ∧ q' = 0) ∨ (q1 = 0 ∧ inB n 0 m = false ∧ v = 0 ∧ q' = 6) ∨ (q1 ≠ 0 ∧ v = 0 ∧ q' = q1))
abbrev cmdC (x : S52) (A : Option Addr) (c : Nat) : List Value := [.int .i64 x.f0, .int .i64 x.f1, .string x.f2, .int .i64 x.f3, .slice A x.f4.length c, .int .i64 x.f5]
section
variable {W w : World} {g : Nat} {s : ByteArray} {p q p' q' : Int}
theorem xc.with {v : Int} (h : xc s p q v p' q') (hI : IsR W w g s p q) (hB : Below W.heap.size W w) : Calls Tryz.prog 74 #[.pointer (some ⟨g, 0, none⟩), .func (Fn.func 75) #[] #[]] w fun e w' => e = .returned (.int .i64 v) ∧ xY W w w' g s p' q' := by
 have hG := za.mk hI.2
 have HS := Sat.one hI.1
 replace hB := za.mk hB
 clear hI
 have hc := HS.lk
 simp only [Lk, LkC, Value.cells, List.toList_toArray, Nat.reduceAdd, Nat.zero_add, and_true, zf, zg, ze, zh] at HS hc
 rcases h with ⟨c, rfl, rfl, rfl⟩ | ⟨rfl, h⟩
 ·have d1 := bne_iff_ne.mpr c
  go_enter Tryz.func74, Tryz.ntmps74
  go_wp2_with ((first | ((with_reducible refine gB rfl ?_); refine zC HS ?_) | ((with_reducible refine gA rfl ?_); refine zr HS ?_) | ((with_reducible refine gS rfl ?_); refine zt HS ?_)); clear HS; (try clear hc); intros; rename_i HS; have hc := HS.lk; simp only [Lk, LkC, Value.cells, List.toList_toArray, Nat.reduceAdd, Nat.zero_add, and_true, zf, zg, ze, zh] at HS hc)
  go_ret
  exact ⟨rfl, HS.post hB.out hG.out (by simp)⟩
 ·replace h := za.mk h
  obtain ⟨k, h⟩ := h.out
  replace h := za.mk h
  go_enter Tryz.func74, Tryz.ntmps74
  go_wp2_with (first | ((first | ((with_reducible refine gB rfl ?_); refine zC HS ?_) | ((with_reducible refine gA rfl ?_); refine zr HS ?_) | ((with_reducible refine gS rfl ?_); refine zt HS ?_)); clear HS; (try clear hc); intros; rename_i HS; have hc := HS.lk; simp only [Lk, LkC, Value.cells, List.toList_toArray, Nat.reduceAdd, Nat.zero_add, and_true, zf, zg, ze, zh] at HS hc) | (refine yh (.op 0 0 16 (.op 1 0 17 (.op 2 0 18 (.op 3 0 19 (.op 4 0 20 (.op 5 0 21 (.op 6 0 22 (.op 7 0 23 (.op 8 0 24 (.op 9 2 25 (.op 10 1 15 (.op 11 1 26 (.op 12 1 27 (.op 13 1 28 (.op 14 1 6 (.op 15 1 7 (.op 16 1 8 .nil))))))))))))))))) [] HS (List.Sublist.refl _) ?_; clear HS hc; intro HS hS; (repeat' (first | refine RT.tk ?_ | refine RT.pu ?_ | (refine RT.o1 ?_; refine vr HS (List.Sublist.refl _) (jb (zl.calls k _ _ _ _ _ _ h.out)) ?_; clear HS; intro w_ HS; refine RT.nm ?_))); have hc := HS.lk; simp only [Lk, LkC, Value.cells, List.toList_toArray, Nat.reduceAdd, Nat.zero_add, and_true, zf, zg, ze, zh] at HS hc; refine RT.nil ?_))
  go_ret
  exact ⟨rfl, HS.post hB.out hG.out (by simp)⟩
theorem xc.calls {v : Int} (h : xc s p q v p' q') (hI : IsR W w g s p q) (hB : Below W.heap.size W w) : Calls Tryz.prog 37 #[.pointer (some ⟨g, 0, none⟩)] w fun e w' => e = .returned (.int .i64 v) ∧ xY W w w' g s p' q' := by
 have hG := za.mk hI.2
 have HS := Sat.one hI.1
 replace hB := za.mk hB
 clear hI
 replace h := za.mk h
 go_enter Tryz.func37, Tryz.ntmps37
 go_wp2_with ((first | ((with_reducible refine gB rfl ?_); refine zC HS ?_) | ((with_reducible refine gA rfl ?_); refine zr HS ?_) | ((with_reducible refine gS rfl ?_); refine zt HS ?_) | (go_at_call 74; refine HS.rd0 h.out.with ?_)); clear HS; (try clear hc); intros; rename_i HS; have hc := HS.lk; simp only [Lk, LkC, Value.cells, List.toList_toArray, Nat.reduceAdd, Nat.zero_add, and_true, zf, zg, ze, zh] at HS hc)
 go_ret
 exact ⟨rfl, HS.post hB.out hG.out (by simp)⟩
theorem jh.calls {v : ByteArray} (h : jh s p q v p' q') (hI : IsR W w g s p q) (hB : Below W.heap.size W w) : Calls Tryz.prog 117 #[.pointer (some ⟨g, 0, none⟩), .func (Fn.func 118) #[] #[]] w fun e w' => e = .returned (.string v) ∧ xY W w w' g s p' q' := by
 have hG := za.mk hI.2
 have HS := Sat.one hI.1
 replace hB := za.mk hB
 clear hI
 have hc := HS.lk
 simp only [Lk, LkC, Value.cells, List.toList_toArray, Nat.reduceAdd, Nat.zero_add, and_true, zf, zg, ze, zh] at HS hc
 rcases h with ⟨c, rfl, rfl, rfl⟩ | ⟨rfl, h⟩
 ·have d1 := bne_iff_ne.mpr c
  go_enter Tryz.func117, Tryz.ntmps117
  go_wp2_with ((first | ((with_reducible refine gB rfl ?_); refine zC HS ?_) | ((with_reducible refine gA rfl ?_); refine zr HS ?_) | ((with_reducible refine gS rfl ?_); refine zt HS ?_)); clear HS; (try clear hc); intros; rename_i HS; have hc := HS.lk; simp only [Lk, LkC, Value.cells, List.toList_toArray, Nat.reduceAdd, Nat.zero_add, and_true, zf, zg, ze, zh] at HS hc)
  go_ret
  exact ⟨rfl, HS.post hB.out hG.out (by simp)⟩
 ·replace h := za.mk h
  obtain ⟨k, h⟩ := h.out
  replace h := za.mk h
  go_enter Tryz.func117, Tryz.ntmps117
  go_wp2_with (first | ((first | ((with_reducible refine gB rfl ?_); refine zC HS ?_) | ((with_reducible refine gA rfl ?_); refine zr HS ?_) | ((with_reducible refine gS rfl ?_); refine zt HS ?_)); clear HS; (try clear hc); intros; rename_i HS; have hc := HS.lk; simp only [Lk, LkC, Value.cells, List.toList_toArray, Nat.reduceAdd, Nat.zero_add, and_true, zf, zg, ze, zh] at HS hc) | (refine yh (.op 0 0 16 (.op 1 0 17 (.op 2 0 18 (.op 3 0 19 (.op 4 0 20 (.op 5 0 21 (.op 6 0 22 (.op 7 0 23 (.op 8 0 24 (.op 9 2 25 (.op 10 1 15 (.op 11 1 26 (.op 12 1 27 (.op 13 1 28 (.op 14 1 6 (.op 15 1 7 (.op 16 1 8 .nil))))))))))))))))) [] HS (List.Sublist.refl _) ?_; clear HS hc; intro HS hS; (repeat' (first | refine RT.tk ?_ | refine RT.pu ?_ | (refine RT.o1 ?_; refine vr HS (List.Sublist.refl _) (jb (xg.calls k _ _ _ _ _ _ h.out)) ?_; clear HS; intro w_ HS; refine RT.nm ?_))); have hc := HS.lk; simp only [Lk, LkC, Value.cells, List.toList_toArray, Nat.reduceAdd, Nat.zero_add, and_true, zf, zg, ze, zh] at HS hc; refine RT.nil ?_))
  go_ret
  exact ⟨rfl, HS.post hB.out hG.out (by simp)⟩
theorem Yy.calls {v : List ByteArray} (h : Yy s p q v p' q') (hI : IsR W w g s p q) (hB : Below W.heap.size W w) : Calls Tryz.prog 112 #[.pointer (some ⟨g, 0, none⟩), .func (Fn.func 113) #[] #[]] w fun e w' => ∃ v0, e = .returned v0 ∧ Kd.string.R 9 w' w.heap.size (fun _ => True) v0 v ∧ xY W w w' g s p' q' := by
 have hG := za.mk hI.2
 have HS := Sat.one hI.1
 replace hB := za.mk hB
 clear hI
 have hc := HS.lk
 simp only [Lk, LkC, Value.cells, List.toList_toArray, Nat.reduceAdd, Nat.zero_add, and_true, zf, zg, ze, zh] at HS hc
 rcases h with ⟨c, rfl, rfl, rfl⟩ | ⟨rfl, h⟩
 ·have d1 := bne_iff_ne.mpr c
  go_enter Tryz.func112, Tryz.ntmps112
  go_wp2_with ((first | ((with_reducible refine gB rfl ?_); refine zC HS ?_) | ((with_reducible refine gA rfl ?_); refine zr HS ?_) | ((with_reducible refine gS rfl ?_); refine zt HS ?_)); clear HS; (try clear hc); intros; rename_i HS; have hc := HS.lk; simp only [Lk, LkC, Value.cells, List.toList_toArray, Nat.reduceAdd, Nat.zero_add, and_true, zf, zg, ze, zh] at HS hc)
  go_ret
  exact ⟨_, rfl, Kd.R_nil _ _ _ _ _, HS.post hB.out hG.out (by simp)⟩
 ·replace h := za.mk h
  go_enter Tryz.func112, Tryz.ntmps112
  go_wp2_with (first | ((first | ((with_reducible refine gB rfl ?_); refine zC HS ?_) | ((with_reducible refine gA rfl ?_); refine zr HS ?_) | ((with_reducible refine gS rfl ?_); refine zt HS ?_)); clear HS; (try clear hc); intros; rename_i HS; have hc := HS.lk; simp only [Lk, LkC, Value.cells, List.toList_toArray, Nat.reduceAdd, Nat.zero_add, and_true, zf, zg, ze, zh] at HS hc) | (refine yh (.op 0 0 16 (.op 1 0 17 (.op 2 0 18 (.op 3 0 19 (.op 4 0 20 (.op 5 0 21 (.op 6 0 22 (.op 7 0 23 (.op 8 0 24 (.op 9 2 25 (.op 10 1 15 (.op 11 1 26 (.op 12 1 27 (.op 13 1 28 (.op 14 1 6 (.op 15 1 7 (.op 16 1 8 .nil))))))))))))))))) [] HS (List.Sublist.refl _) ?_; clear HS hc; intro HS hS; (repeat' (first | refine RT.tk ?_ | refine RT.pu ?_ | (refine RT.o1 ?_; refine Yk (F := fun v => .tuple #[v, .int .i64 p', .int .i64 q']) HS (List.Sublist.refl _) (Vh h.out) ?_; clear HS; intro A_ c_ w_ HS; refine RT.nm ?_))); have hc := HS.lk; simp only [Lk, LkC, Value.cells, List.toList_toArray, Nat.reduceAdd, Nat.zero_add, and_true, zf, zg, ze, zh] at HS hc; refine RT.nil ?_))
  go_ret
  exact ⟨_, rfl, (HS.rows _ (.head _)).2, HS.post hB.out hG.out (by simp)⟩
theorem YB.calls {v : List S108} (h : YB s p q v p' q') (hI : IsR W w g s p q) (hB : Below W.heap.size W w) : Calls Tryz.prog 119 #[.pointer (some ⟨g, 0, none⟩), .func (Fn.func 120) #[] #[]] w fun e w' => ∃ v0, e = .returned v0 ∧ k108.R 108 w' w.heap.size (fun _ => True) v0 v ∧ xY W w w' g s p' q' := by
 have hG := za.mk hI.2
 have HS := Sat.one hI.1
 replace hB := za.mk hB
 clear hI
 have hc := HS.lk
 simp only [Lk, LkC, Value.cells, List.toList_toArray, Nat.reduceAdd, Nat.zero_add, and_true, zf, zg, ze, zh] at HS hc
 rcases h with ⟨c, rfl, rfl, rfl⟩ | ⟨rfl, h⟩
 ·have d1 := bne_iff_ne.mpr c
  go_enter Tryz.func119, Tryz.ntmps119
  go_wp2_with ((first | ((with_reducible refine gB rfl ?_); refine zC HS ?_) | ((with_reducible refine gA rfl ?_); refine zr HS ?_) | ((with_reducible refine gS rfl ?_); refine zt HS ?_)); clear HS; (try clear hc); intros; rename_i HS; have hc := HS.lk; simp only [Lk, LkC, Value.cells, List.toList_toArray, Nat.reduceAdd, Nat.zero_add, and_true, zf, zg, ze, zh] at HS hc)
  go_ret
  exact ⟨_, rfl, Kd.R_nil _ _ _ _ _, HS.post hB.out hG.out (by simp)⟩
 ·replace h := za.mk h
  go_enter Tryz.func119, Tryz.ntmps119
  go_wp2_with (first | ((first | ((with_reducible refine gB rfl ?_); refine zC HS ?_) | ((with_reducible refine gA rfl ?_); refine zr HS ?_) | ((with_reducible refine gS rfl ?_); refine zt HS ?_)); clear HS; (try clear hc); intros; rename_i HS; have hc := HS.lk; simp only [Lk, LkC, Value.cells, List.toList_toArray, Nat.reduceAdd, Nat.zero_add, and_true, zf, zg, ze, zh] at HS hc) | (refine yh (.op 0 0 16 (.op 1 0 17 (.op 2 0 18 (.op 3 0 19 (.op 4 0 20 (.op 5 0 21 (.op 6 0 22 (.op 7 0 23 (.op 8 0 24 (.op 9 2 25 (.op 10 1 15 (.op 11 1 26 (.op 12 1 27 (.op 13 1 28 (.op 14 1 6 (.op 15 1 7 (.op 16 1 8 .nil))))))))))))))))) [] HS (List.Sublist.refl _) ?_; clear HS hc; intro HS hS; (repeat' (first | refine RT.tk ?_ | refine RT.pu ?_ | (refine RT.o1 ?_; refine Yk (F := fun v => .tuple #[v, .int .i64 p', .int .i64 q']) HS (List.Sublist.refl _) (Vy h.out) ?_; clear HS; intro A_ c_ w_ HS; refine RT.nm ?_))); have hc := HS.lk; simp only [Lk, LkC, Value.cells, List.toList_toArray, Nat.reduceAdd, Nat.zero_add, and_true, zf, zg, ze, zh] at HS hc; refine RT.nil ?_))
  go_ret
  exact ⟨_, rfl, (HS.rows _ (.head _)).2, HS.post hB.out hG.out (by simp)⟩
theorem XA.calls {v : List S86} (h : XA s p q v p' q') (hI : IsR W w g s p q) (hB : Below W.heap.size W w) : Calls Tryz.prog 121 #[.pointer (some ⟨g, 0, none⟩), .func (Fn.func 122) #[] #[]] w fun e w' => ∃ v0, e = .returned v0 ∧ k86.R 86 w' w.heap.size (fun _ => True) v0 v ∧ xY W w w' g s p' q' := by
 have hG := za.mk hI.2
 have HS := Sat.one hI.1
 replace hB := za.mk hB
 clear hI
 have hc := HS.lk
 simp only [Lk, LkC, Value.cells, List.toList_toArray, Nat.reduceAdd, Nat.zero_add, and_true, zf, zg, ze, zh] at HS hc
 rcases h with ⟨c, rfl, rfl, rfl⟩ | ⟨rfl, h⟩
 ·have d1 := bne_iff_ne.mpr c
  go_enter Tryz.func121, Tryz.ntmps121
  go_wp2_with ((first | ((with_reducible refine gB rfl ?_); refine zC HS ?_) | ((with_reducible refine gA rfl ?_); refine zr HS ?_) | ((with_reducible refine gS rfl ?_); refine zt HS ?_)); clear HS; (try clear hc); intros; rename_i HS; have hc := HS.lk; simp only [Lk, LkC, Value.cells, List.toList_toArray, Nat.reduceAdd, Nat.zero_add, and_true, zf, zg, ze, zh] at HS hc)
  go_ret
  exact ⟨_, rfl, Kd.R_nil _ _ _ _ _, HS.post hB.out hG.out (by simp)⟩
 ·replace h := za.mk h
  go_enter Tryz.func121, Tryz.ntmps121
  go_wp2_with (first | ((first | ((with_reducible refine gB rfl ?_); refine zC HS ?_) | ((with_reducible refine gA rfl ?_); refine zr HS ?_) | ((with_reducible refine gS rfl ?_); refine zt HS ?_)); clear HS; (try clear hc); intros; rename_i HS; have hc := HS.lk; simp only [Lk, LkC, Value.cells, List.toList_toArray, Nat.reduceAdd, Nat.zero_add, and_true, zf, zg, ze, zh] at HS hc) | (refine yh (.op 0 0 16 (.op 1 0 17 (.op 2 0 18 (.op 3 0 19 (.op 4 0 20 (.op 5 0 21 (.op 6 0 22 (.op 7 0 23 (.op 8 0 24 (.op 9 2 25 (.op 10 1 15 (.op 11 1 26 (.op 12 1 27 (.op 13 1 28 (.op 14 1 6 (.op 15 1 7 (.op 16 1 8 .nil))))))))))))))))) [] HS (List.Sublist.refl _) ?_; clear HS hc; intro HS hS; (repeat' (first | refine RT.tk ?_ | refine RT.pu ?_ | (refine RT.o1 ?_; refine Yk (F := fun v => .tuple #[v, .int .i64 p', .int .i64 q']) HS (List.Sublist.refl _) (zax h.out) ?_; clear HS; intro A_ c_ w_ HS; refine RT.nm ?_))); have hc := HS.lk; simp only [Lk, LkC, Value.cells, List.toList_toArray, Nat.reduceAdd, Nat.zero_add, and_true, zf, zg, ze, zh] at HS hc; refine RT.nil ?_))
  go_ret
  exact ⟨_, rfl, (HS.rows _ (.head _)).2, HS.post hB.out hG.out (by simp)⟩
theorem Za.calls {v : List S77} (h : Za s p q v p' q') (hI : IsR W w g s p q) (hB : Below W.heap.size W w) : Calls Tryz.prog 123 #[.pointer (some ⟨g, 0, none⟩), .func (Fn.func 124) #[] #[]] w fun e w' => ∃ v0, e = .returned v0 ∧ k77.R 77 w' w.heap.size (fun _ => True) v0 v ∧ xY W w w' g s p' q' := by
 have hG := za.mk hI.2
 have HS := Sat.one hI.1
 replace hB := za.mk hB
 clear hI
 have hc := HS.lk
 simp only [Lk, LkC, Value.cells, List.toList_toArray, Nat.reduceAdd, Nat.zero_add, and_true, zf, zg, ze, zh] at HS hc
 rcases h with ⟨c, rfl, rfl, rfl⟩ | ⟨rfl, h⟩
 ·have d1 := bne_iff_ne.mpr c
  go_enter Tryz.func123, Tryz.ntmps123
  go_wp2_with ((first | ((with_reducible refine gB rfl ?_); refine zC HS ?_) | ((with_reducible refine gA rfl ?_); refine zr HS ?_) | ((with_reducible refine gS rfl ?_); refine zt HS ?_)); clear HS; (try clear hc); intros; rename_i HS; have hc := HS.lk; simp only [Lk, LkC, Value.cells, List.toList_toArray, Nat.reduceAdd, Nat.zero_add, and_true, zf, zg, ze, zh] at HS hc)
  go_ret
  exact ⟨_, rfl, Kd.R_nil _ _ _ _ _, HS.post hB.out hG.out (by simp)⟩
 ·replace h := za.mk h
  go_enter Tryz.func123, Tryz.ntmps123
  go_wp2_with (first | ((first | ((with_reducible refine gB rfl ?_); refine zC HS ?_) | ((with_reducible refine gA rfl ?_); refine zr HS ?_) | ((with_reducible refine gS rfl ?_); refine zt HS ?_)); clear HS; (try clear hc); intros; rename_i HS; have hc := HS.lk; simp only [Lk, LkC, Value.cells, List.toList_toArray, Nat.reduceAdd, Nat.zero_add, and_true, zf, zg, ze, zh] at HS hc) | (refine yh (.op 0 0 16 (.op 1 0 17 (.op 2 0 18 (.op 3 0 19 (.op 4 0 20 (.op 5 0 21 (.op 6 0 22 (.op 7 0 23 (.op 8 0 24 (.op 9 2 25 (.op 10 1 15 (.op 11 1 26 (.op 12 1 27 (.op 13 1 28 (.op 14 1 6 (.op 15 1 7 (.op 16 1 8 .nil))))))))))))))))) [] HS (List.Sublist.refl _) ?_; clear HS hc; intro HS hS; (repeat' (first | refine RT.tk ?_ | refine RT.pu ?_ | (refine RT.o1 ?_; refine Yk (F := fun v => .tuple #[v, .int .i64 p', .int .i64 q']) HS (List.Sublist.refl _) (Jp h.out) ?_; clear HS; intro A_ c_ w_ HS; refine RT.nm ?_))); have hc := HS.lk; simp only [Lk, LkC, Value.cells, List.toList_toArray, Nat.reduceAdd, Nat.zero_add, and_true, zf, zg, ze, zh] at HS hc; refine RT.nil ?_))
  go_ret
  exact ⟨_, rfl, (HS.rows _ (.head _)).2, HS.post hB.out hG.out (by simp)⟩
theorem Js.calls {v : S52} (h : Js s p q v p' q') (hI : IsR W w g s p q) (hB : Below W.heap.size W w) : Calls Tryz.prog 115 #[.pointer (some ⟨g, 0, none⟩), .func (Fn.func 116) #[] #[]] w fun e w' => (∃ A c, e = .returned (.agg (cmdC v A c).toArray) ∧ Kd.R (Kd.int .i64) 3 w' w.heap.size (fun _ => True) (.slice A v.f4.length c) v.f4) ∧ xY W w w' g s p' q' := by
 have hG := za.mk hI.2
 have HS := Sat.one hI.1
 replace hB := za.mk hB
 clear hI
 have hc := HS.lk
 simp only [Lk, LkC, Value.cells, List.toList_toArray, Nat.reduceAdd, Nat.zero_add, and_true, zf, zg, ze, zh] at HS hc
 rcases h with ⟨c, rfl, rfl, rfl⟩ | ⟨rfl, h⟩
 ·have d1 := bne_iff_ne.mpr c
  go_enter Tryz.func115, Tryz.ntmps115
  go_wp2_with ((first | ((with_reducible refine gB rfl ?_); refine zC HS ?_) | ((with_reducible refine gA rfl ?_); refine zr HS ?_) | ((with_reducible refine gS rfl ?_); refine zt HS ?_)); clear HS; (try clear hc); intros; rename_i HS; have hc := HS.lk; simp only [Lk, LkC, Value.cells, List.toList_toArray, Nat.reduceAdd, Nat.zero_add, and_true, zf, zg, ze, zh] at HS hc)
  refine bodyPost_ret (yz rfl (.cell _ _ _ _ _ rfl (HS.blk (_, _, _) (by repeat (first | exact .head _ | apply List.Mem.tail))).2 Tryz.underlying52 rfl (by kernel_rfl) .nil)) rfl ?_
  exact ⟨⟨none, 0, rfl, Kd.R_nil _ _ _ _ _⟩, HS.post hB.out hG.out (by simp)⟩
 ·replace h := za.mk h
  go_enter Tryz.func115, Tryz.ntmps115
  go_wp2_with (first | ((first | ((with_reducible refine gB rfl ?_); refine zC HS ?_) | ((with_reducible refine gA rfl ?_); refine zr HS ?_) | ((with_reducible refine gS rfl ?_); refine zt HS ?_)); clear HS; (try clear hc); intros; rename_i HS; have hc := HS.lk; simp only [Lk, LkC, Value.cells, List.toList_toArray, Nat.reduceAdd, Nat.zero_add, and_true, zf, zg, ze, zh] at HS hc) | (refine yh (.op 0 0 16 (.op 1 0 17 (.op 2 0 18 (.op 3 0 19 (.op 4 0 20 (.op 5 0 21 (.op 6 0 22 (.op 7 0 23 (.op 8 0 24 (.two 9 25 14 6 (.op 10 1 15 (.op 11 1 26 (.op 12 1 27 (.op 13 1 28 (.op 14 2 6 (.op 15 4 0 (.op 16 1 7 (.op 17 1 8 .nil)))))))) (.op 9 2 25 (.op 10 1 15 (.op 11 1 26 (.op 12 1 27 (.op 13 1 28 (.op 15 4 0 (.op 16 1 7 (.op 17 1 8 .nil)))))))))))))))))) [] HS (by (repeat (first | exact List.Sublist.refl _ | apply List.Sublist.cons))) ?_; clear HS hc; intro HS hS; (repeat' (first | refine RT.tk ?_ | refine RT.pu ?_ | refine RT.f2 ?_ ?_ | refine RT.o1 ?_ | (refine zcN (d := k52) (F := fun cs => .tuple #[.agg cs.toArray, .int .i64 p', .int .i64 q']) HS (by (repeat (first | exact List.Sublist.refl _ | apply List.Sublist.cons))) (zcf h.out) ?_; clear HS; intro cs_ w_ HS hm; obtain ⟨v_, rfl, g_⟩ := VR hm; obtain ⟨A_, c_, rfl⟩ := Kd.R_slice g_; replace HS := HS.row (Ty.R (Kd.int .i64) 3 _ _ _) g_; clear hm g_; refine RT.nm ?_) | (intro K hK; refine zbt HS ?_; clear HS; intro g_ w_ HS; have hc := HS.lk; simp only [Lk, LkC, Value.cells, List.toList_toArray, Nat.reduceAdd, Nat.zero_add, and_true, zf, zg, ze, zh] at HS hc; refine hK _ _ (yP (by (repeat (first | exact List.Sublist.refl _ | apply List.Sublist.cons))) HS.lk) (fun hS => ?_); clear hK; refine RT.nm ?_) | (refine RT.o4 ?_; intro K hK; refine y9 HS ?_; clear HS; intro w_ HS; have hc := HS.lk; simp only [Lk, LkC, Value.cells, List.toList_toArray, Nat.reduceAdd, Nat.zero_add, and_true, zf, zg, ze, zh] at HS hc; refine hK _ _ (yP (by (repeat (first | exact List.Sublist.refl _ | apply List.Sublist.cons))) HS.lk) (fun hS => ?_); clear hK))); (all_goals (try clear hc); have hc := HS.lk; simp only [Lk, LkC, Value.cells, List.toList_toArray, Nat.reduceAdd, Nat.zero_add, and_true, zf, zg, ze, zh] at HS hc; refine RT.nil ?_)))
  all_goals
   go_wp2_with ((first | ((with_reducible refine gB rfl ?_); refine zC HS ?_) | ((with_reducible refine gA rfl ?_); refine zr HS ?_) | ((with_reducible refine gS rfl ?_); refine zt HS ?_)); clear HS; (try clear hc); intros; rename_i HS; have hc := HS.lk; simp only [Lk, LkC, Value.cells, List.toList_toArray, Nat.reduceAdd, Nat.zero_add, and_true, zf, zg, ze, zh] at HS hc)
   refine bodyPost_ret (yz rfl (.cell _ _ _ _ _ rfl (HS.blk (_, _, _) (by repeat (first | exact .head _ | apply List.Mem.tail))).2 Tryz.underlying52 rfl (by kernel_rfl) .nil)) rfl ?_
   exact ⟨⟨_, _, rfl, (HS.rows _ (.head _)).2⟩, HS.post hB.out hG.out (by simp)⟩
theorem ZE.calls {m v : Int} (h : ZE s p q m v p' q') (hI : IsR W w g s p q) (hB : Below W.heap.size W w) : Calls Tryz.prog 114 #[.pointer (some ⟨g, 0, none⟩), .int .i64 m] w fun e w' => e = .returned (.int .i64 v) ∧ xY W w w' g s p' q' := by
 have hG := za.mk hI.2
 have HS := Sat.one hI.1
 replace hB := za.mk hB
 clear hI
 obtain ⟨n, q1, h1, h2⟩ := h
 replace h1 := za.mk h1
 rcases h2 with ⟨rfl, c, rfl, rfl⟩ | ⟨rfl, c, rfl, rfl⟩ | ⟨c, rfl, rfl⟩
 case' inr.inr => have c1 := beq_eq_false_iff_ne.mpr c; have c2 := bne_iff_ne.mpr c
 all_goals
  replace c := za.mk c
  go_enter Tryz.func114, Tryz.ntmps114
  go_wp2_with ((first | ((with_reducible refine gB rfl ?_); refine zC HS ?_) | ((with_reducible refine gA rfl ?_); refine zr HS ?_) | ((with_reducible refine gS rfl ?_); refine zt HS ?_) | (go_at_call 37; refine HS.rd0 h1.out.calls ?_) | (go_at_call 38; refine HS.go0 (ZZ c.out) ?_)); clear HS; (try clear hc); intros; rename_i HS; have hc := HS.lk; simp only [Lk, LkC, Value.cells, List.toList_toArray, Nat.reduceAdd, Nat.zero_add, and_true, zf, zg, ze, zh] at HS hc)
  go_ret
  exact ⟨rfl, HS.post hB.out hG.out (by simp)⟩
end
def Xs (s : ByteArray) (p q a0 a1 a2 : Int) (x : Fm) (p' q' : Int) : Prop := ∃ v1 p1 q1 v2 p2 q2 l, xc s p q v1 p1 q1 ∧ xc s p1 q1 v2 p2 q2 ∧ Yy s p2 q2 l p' q' ∧ x = ⟨a0, a1, a2, v1, v2, l, [], [], [], []⟩
def rAck (s : ByteArray) (p q a0 a1 a2 : Int) (x : Fm) (p' q' : Int) : Prop := ∃ v1, xc s p q v1 p' q' ∧ x = ⟨a0, a1, a2, 0, v1, [], [], [], [], []⟩
def Xq (s : ByteArray) (p q a0 a1 a2 : Int) (x : Fm) (p' q' : Int) : Prop := ∃ v1 p1 q1 l p2 q2 m, xc s p q v1 p1 q1 ∧ XA s p1 q1 l p2 q2 ∧ Za s p2 q2 m p' q' ∧ x = ⟨a0, a1, a2, 0, v1, [], [], [], l, m⟩
inductive jR (s : ByteArray) : Nat → Int → Int → List S52 → Int → Int → Prop
 | done {p q : Int} : jR s 0 p q [] p q
 | stop {n : Nat} {p q : Int} (h : q ≠ 0) : jR s (n + 1) p q [] p q
 | step {n : Nat} {p p1 q1 p' q' : Int} {x : S52} {l : List S52} (h : Js s p 0 x p1 q1) (t : jR s n p1 q1 l p' q') : jR s (n + 1) p 0 (x :: l) p' q'
theorem jR.split {s : ByteArray} {n : Nat} {p q p' q' : Int} {l : List S52} (h : jR s n p q l p' q') : (n = 0 ∧ l = [] ∧ p' = p ∧ q' = q) ∨ (0 < n ∧ q ≠ 0 ∧ l = [] ∧ p' = p ∧ q' = q) ∨ ∃ m x l1 p1 q1, n = m + 1 ∧ q = 0 ∧ Js s p 0 x p1 q1 ∧ jR s m p1 q1 l1 p' q' ∧ l = x :: l1 := by
 cases h with
 | done => exact .inl ⟨rfl, rfl, rfl, rfl⟩
 | stop h => exact .inr (.inl ⟨by omega, h, rfl, rfl, rfl⟩)
 | step h t => exact .inr (.inr ⟨_, _, _, _, _, rfl, rfl, h, t, rfl⟩)
theorem ZE.most {s : ByteArray} {p q m p' q' : Int} {n : Nat} (h : ZE s p q m n p' q') : 0 ≤ m → (n : Int) ≤ m := by
 obtain ⟨a, q1, _, h⟩ := h
 intro hm
 rcases h with ⟨_, h1, rfl, _⟩ | ⟨_, _, h2, _⟩ | ⟨_, h2, _⟩
 ·have := of_decide_eq_true (Bool.and_eq_true_iff.1 h1).2
  exact this
 ·omega
 ·omega
def QP (s : ByteArray) (p q a0 a1 a2 : Int) (x : Fm) (p' q' : Int) : Prop := ∃ (n : Nat) (p1 q1 : Int) (l : List S52), ZE s p q 8 n p1 q1 ∧ jR s n p1 q1 l p' q' ∧ x = ⟨a0, a1, a2, 0, 0, [], l, [], [], []⟩
def QS (s : ByteArray) (p q : Int) (x : S46) (p' q' : Int) : Prop := ∃ v p1 q1 t p2 q2 l p3 q3 u p4 q4 m, xc s p q v p1 q1 ∧ jh s p1 q1 t p2 q2 ∧ YB s p2 q2 l p3 q3 ∧ xc s p3 q3 u p4 q4 ∧ xc s p4 q4 m p' q' ∧ x = ⟨v, t, l, u, m⟩
inductive xR (s : ByteArray) : Nat → Int → Int → List S46 → Int → Int → Prop
 | done {p q : Int} : xR s 0 p q [] p q
 | stop {n : Nat} {p q : Int} (h : q ≠ 0) : xR s (n + 1) p q [] p q
 | step {n : Nat} {p p1 q1 p' q' : Int} {x : S46} {l : List S46} (h : QS s p 0 x p1 q1) (t : xR s n p1 q1 l p' q') : xR s (n + 1) p 0 (x :: l) p' q'
theorem xR.split {s : ByteArray} {n : Nat} {p q p' q' : Int} {l : List S46} (h : xR s n p q l p' q') : (n = 0 ∧ l = [] ∧ p' = p ∧ q' = q) ∨ (0 < n ∧ q ≠ 0 ∧ l = [] ∧ p' = p ∧ q' = q) ∨ ∃ m x l1 p1 q1, n = m + 1 ∧ q = 0 ∧ QS s p 0 x p1 q1 ∧ xR s m p1 q1 l1 p' q' ∧ l = x :: l1 := by
 cases h with
 | done => exact .inl ⟨rfl, rfl, rfl, rfl⟩
 | stop h => exact .inr (.inl ⟨by omega, h, rfl, rfl, rfl⟩)
 | step h t => exact .inr (.inr ⟨_, _, _, _, _, rfl, rfl, h, t, rfl⟩)
def Xl (s : ByteArray) (p q a0 a1 a2 : Int) (x : Fm) (p' q' : Int) : Prop := ∃ v1 p1 q1 v2 p2 q2 n p3 q3 l, xc s p q v1 p1 q1 ∧ xc s p1 q1 v2 p2 q2 ∧ ZE s p2 q2 16 (n : Nat) p3 q3 ∧ xR s n p3 q3 l p' q' ∧ x = ⟨a0, a1, a2, v1, v2, [], [], l, [], []⟩
abbrev XM (a0 a1 a2 : Int) : List Value := [.int .i64 a0, .int .i64 a1, .int .i64 a2, .int .i64 0, .int .i64 0, .slice none 0 0, .slice none 0 0, .slice none 0 0, .slice none 0 0, .slice none 0 0]
def qp (w w' : World) (g gf : Nat) (s : ByteArray) (p q : Int) (x : Fm) : Prop := yX [g, gf] w w' ∧ w'.heap[g]? = some (.cells (rdC s p q).toArray 67 (0, 0)) ∧ ∃ cs, w'.heap[gf]? = some (.cells cs.toArray 28 (0, 0)) ∧ FmO w' w.heap.size x cs
theorem Sat.fp {w w' : World} {g gf : Nat} {bs : List Bk} {rs : List Rw} {s : ByteArray} {p q : Int} {x : Fm} {cs : List Value} (H : Sat [g, gf] w w' bs rs) (hf : FmO w' w.heap.size x cs) (hg : (g, rdC s p q, 67) ∈ bs := by simp) (hm : (gf, cs, 28) ∈ bs := by simp) : qp w w' g gf s p q x :=
 ⟨H.keep, (H.blk _ hg).2, cs, (H.blk _ hm).2, hf⟩
theorem Xs.calls {s : ByteArray} {p q a0 a1 a2 p' q' : Int} {x : Fm} {g gf : Nat} {w : World} (h : Xs s p q a0 a1 a2 x p' q') (hR : w.heap[g]? = some (.cells (rdC s p q).toArray 67 (0, 0))) (hF : w.heap[gf]? = some (.cells (XM a0 a1 a2).toArray 28 (0, 0))) (hN : g ≠ gf) : Calls Tryz.prog 76 #[.agg #[], .pointer (some ⟨g, 0, none⟩), .pointer (some ⟨gf, 0, none⟩)] w fun e w' => e = .returned (.tuple #[]) ∧ qp w w' g gf s p' q' x := by
 obtain ⟨v1, p1, q1, v2, p2, q2, l, h1, h2, h3, rfl⟩ := h
 replace h1 := za.mk h1
 replace h2 := za.mk h2
 replace h3 := za.mk h3
 have HS := Sat.two hR hF hN
 clear hR hF hN
 have hc := HS.lk
 simp only [Lk, LkC, Value.cells, List.toList_toArray, Nat.reduceAdd, Nat.zero_add, and_true, zf, zg, ze, zh] at HS hc
 go_enter Tryz.func76, Tryz.ntmps76
 go_wp2_with ((first | ((with_reducible refine gB rfl ?_); refine zC HS ?_) | ((with_reducible refine gA rfl ?_); refine zr HS ?_) | ((with_reducible refine gS rfl ?_); refine zt HS ?_) | (go_at_call 37; refine HS.rd0 h1.out.calls ?_) | (go_at_call 37; refine HS.rd0 h2.out.calls ?_) | (go_at_call 112; refine HS.rdR h3.out.calls ?_)); clear HS; (try clear hc); intros; rename_i HS; have hc := HS.lk; simp only [Lk, LkC, Value.cells, List.toList_toArray, Nat.reduceAdd, Nat.zero_add, and_true, zf, zg, ze, zh] at HS hc)
 go_end0
 exact ⟨rfl, HS.fp ⟨_, _, _, _, _, rfl, (HS.rows _ (.head _)).2, oN, oN, oN, oN⟩⟩
theorem rAck.calls {s : ByteArray} {p q a0 a1 a2 p' q' : Int} {x : Fm} {g gf : Nat} {w : World} (h : rAck s p q a0 a1 a2 x p' q') (hR : w.heap[g]? = some (.cells (rdC s p q).toArray 67 (0, 0))) (hF : w.heap[gf]? = some (.cells (XM a0 a1 a2).toArray 28 (0, 0))) (hN : g ≠ gf) : Calls Tryz.prog 78 #[.agg #[], .pointer (some ⟨g, 0, none⟩), .pointer (some ⟨gf, 0, none⟩)] w fun e w' => e = .returned (.tuple #[]) ∧ qp w w' g gf s p' q' x := by
 obtain ⟨v1, h1, rfl⟩ := h
 replace h1 := za.mk h1
 have HS := Sat.two hR hF hN
 clear hR hF hN
 have hc := HS.lk
 simp only [Lk, LkC, Value.cells, List.toList_toArray, Nat.reduceAdd, Nat.zero_add, and_true, zf, zg, ze, zh] at HS hc
 go_enter Tryz.func78, Tryz.ntmps78
 go_wp2_with ((first | ((with_reducible refine gB rfl ?_); refine zC HS ?_) | ((with_reducible refine gA rfl ?_); refine zr HS ?_) | ((with_reducible refine gS rfl ?_); refine zt HS ?_) | (go_at_call 37; refine HS.rd0 h1.out.calls ?_)); clear HS; (try clear hc); intros; rename_i HS; have hc := HS.lk; simp only [Lk, LkC, Value.cells, List.toList_toArray, Nat.reduceAdd, Nat.zero_add, and_true, zf, zg, ze, zh] at HS hc)
 go_end0
 exact ⟨rfl, HS.fp ⟨_, _, _, _, _, rfl, oN, oN, oN, oN, oN⟩⟩
theorem Xq.calls {s : ByteArray} {p q a0 a1 a2 p' q' : Int} {x : Fm} {g gf : Nat} {w : World} (h : Xq s p q a0 a1 a2 x p' q') (hR : w.heap[g]? = some (.cells (rdC s p q).toArray 67 (0, 0))) (hF : w.heap[gf]? = some (.cells (XM a0 a1 a2).toArray 28 (0, 0))) (hN : g ≠ gf) : Calls Tryz.prog 80 #[.agg #[], .pointer (some ⟨g, 0, none⟩), .pointer (some ⟨gf, 0, none⟩)] w fun e w' => e = .returned (.tuple #[]) ∧ qp w w' g gf s p' q' x := by
 obtain ⟨v1, p1, q1, l, p2, q2, m, h1, h2, h3, rfl⟩ := h
 replace h1 := za.mk h1
 replace h2 := za.mk h2
 replace h3 := za.mk h3
 have HS := Sat.two hR hF hN
 clear hR hF hN
 have hc := HS.lk
 simp only [Lk, LkC, Value.cells, List.toList_toArray, Nat.reduceAdd, Nat.zero_add, and_true, zf, zg, ze, zh] at HS hc
 go_enter Tryz.func80, Tryz.ntmps80
 go_wp2_with ((first | ((with_reducible refine gB rfl ?_); refine zC HS ?_) | ((with_reducible refine gA rfl ?_); refine zr HS ?_) | ((with_reducible refine gS rfl ?_); refine zt HS ?_) | (go_at_call 37; refine HS.rd0 h1.out.calls ?_) | (go_at_call 121; refine HS.rdR h2.out.calls ?_) | (go_at_call 123; refine HS.rdR h3.out.calls ?_)); clear HS; (try clear hc); intros; rename_i HS; have hc := HS.lk; simp only [Lk, LkC, Value.cells, List.toList_toArray, Nat.reduceAdd, Nat.zero_add, and_true, zf, zg, ze, zh] at HS hc)
 go_end0
 exact ⟨rfl, HS.fp ⟨_, _, _, _, _, rfl, oN, oN, oN, (HS.rows _ (.tail _ (.head _))).2, (HS.rows _ (.head _)).2⟩⟩
theorem QP.calls {s : ByteArray} {p q a0 a1 a2 p' q' : Int} {x : Fm} {g gf : Nat} {w : World} (h : QP s p q a0 a1 a2 x p' q') (hR : w.heap[g]? = some (.cells (rdC s p q).toArray 67 (0, 0))) (hF : w.heap[gf]? = some (.cells (XM a0 a1 a2).toArray 28 (0, 0))) (hN : g ≠ gf) : Calls Tryz.prog 77 #[.agg #[], .pointer (some ⟨g, 0, none⟩), .pointer (some ⟨gf, 0, none⟩)] w fun e w' => e = .returned (.tuple #[]) ∧ qp w w' g gf s p' q' x := by
 obtain ⟨n, p1, q1, l, h1, h2, rfl⟩ := h
 replace h1 := za.mk h1
 replace h2 := za.mk h2
 have HS := Sat.two hR hF hN
 clear hR hF hN
 have hc := HS.lk
 simp only [Lk, LkC, Value.cells, List.toList_toArray, Nat.reduceAdd, Nat.zero_add, and_true, zf, zg, ze, zh] at HS hc
 go_enter Tryz.func77, Tryz.ntmps77
 go_wp2_with ((first | ((with_reducible refine gB rfl ?_); refine zC HS ?_) | ((with_reducible refine gA rfl ?_); refine zr HS ?_) | ((with_reducible refine gS rfl ?_); refine zt HS ?_) | (go_at_call 114; refine HS.rd0 h1.out.calls ?_)); clear HS; (try clear hc); intros; rename_i HS; have hc := HS.lk; simp only [Lk, LkC, Value.cells, List.toList_toArray, Nat.reduceAdd, Nat.zero_add, and_true, zf, zg, ze, zh] at HS hc)
 rename_i z_ _ _
 have HR := Kd.R_nil k52 52 w w.heap.size (fun _ => True)
 replace HS := HS.row (Ty.R k52 52 w.heap.size (.slice none 0 0) []) (Kd.R_nil _ _ _ _ _)
 have HZ := za.mk HS
 clear HS hc HR
 go_loopg [6] n (fun kq vi wr => ∃ (pa qa : Int) (acc rest : List S52) (A : Option Addr) (c : Nat), vi = .int .i64 kq ∧ za (jR s kq pa qa rest p' q') ∧ za (acc ++ rest = l ∧ acc.length + kq ≤ 8) ∧ za (Sat [g, gf] w wr [(z_, [], 92), (g, rdC s pa qa, 67), (gf, [.int .i64 a0, .int .i64 a1, .int .i64 a2, .int .i64 0, .int .i64 0, .slice none 0 0, .slice A acc.length c, .slice none 0 0, .slice none 0 0, .slice none 0 0], 28)] [xC k52 52 w (.slice A acc.length c) acc]))
 case atStart => exact ⟨p1, q1, [], l, none, 0, rfl, h2, ⟨rfl, by have := h1.out.most (by decide); simp; omega⟩, HZ⟩
 case round =>
  clear HZ h2 h1
  obtain ⟨pa, qa, acc, rest, A, c, rfl, HC, HL, HT⟩ := hrel
  have HS := HT.out
  clear HT
  have hc := HS.lk
  simp only [Lk, LkC, Value.cells, List.toList_toArray, Nat.reduceAdd, Nat.zero_add, and_true, zf, zg, ze, zh] at HS hc
  rcases HC.out.split with ⟨rfl, rfl, rfl, rfl⟩ | ⟨c0, c1, rfl, rfl, rfl⟩ | ⟨m, x, l1, pb, qb, e1, rfl, hx, ht, rfl⟩
  ·go_wp2
   go_end0
   obtain ⟨h3, _⟩ := HL.out
   rw [List.append_nil] at h3
   subst h3
   exact ⟨rfl, HS.fp ⟨_, _, _, _, _, rfl, oN, (HS.rows _ (.head _)).2, oN, oN, oN⟩⟩
  ·have c2 := beq_eq_false_iff_ne.mpr c1
   have c3 : (0 : Int) < gk := by omega
   go_wp2
   go_end0
   obtain ⟨h3, _⟩ := HL.out
   rw [List.append_nil] at h3
   subst h3
   exact ⟨rfl, HS.fp ⟨_, _, _, _, _, rfl, oN, (HS.rows _ (.head _)).2, oN, oN, oN⟩⟩
  ·have c3 : (0 : Int) < gk := by omega
   have HX := za.mk hx
   have HT := za.mk ht
   have HM := za.mk e1
   clear hx ht e1
   go_upto_region 4 with (fail)
   clear hc
   replace HS := HS.drewN 1
   have hS := (HS.off (bs1 := [(gf, [.int .i64 a0, .int .i64 a1, .int .i64 a2, .int .i64 0, .int .i64 0, .slice none 0 0, .slice A acc.length c, .slice none 0 0, .slice none 0 0, .slice none 0 0], 28)]) (.cons _ (.cons _ (.cons_cons _ .slnil)))).lk
   refine vW (.op 0 0 20 (.op 1 0 21 (.op 2 0 22 (.op 3 0 23 (.op 4 0 24 (.op 5 0 25 (.op 6 2 26 (.op 7 2 27 (.op 8 2 28 (.op 9 1 29 (.op 10 1 30 (.op 11 3 0 .nil)))))))))))) [11] (fun W => Lk W [(gf, [.int .i64 a0, .int .i64 a1, .int .i64 a2, .int .i64 0, .int .i64 0, .slice none 0 0, .slice A acc.length c, .slice none 0 0, .slice none 0 0, .slice none 0 0], 28)]) hS (fun hS => ?_)
   repeat (refine RT.tk ?_)
   refine RT.o1 ?_
   intro K hK
   refine vC (HS.rdG HX.out.calls ?_)
   have hz := HS.keep.size
   clear HS hS
   intro e_ w_ he_ HS
   obtain ⟨A1, c1, rfl, hr_⟩ := he_
   refine ⟨_, rfl, hK _ _ (HS.off (.cons _ (.cons _ (.cons_cons _ .slnil)))).lk (fun hS => RT.nm ?_)⟩
   refine RT.ap (bytes := 72) (cs := cmdC x A1 c1) HS (XX _ _ _ x (Kd.R_lower hr_ hz)) (by have := HL.out.2; omega) (fun _ h => yP (.cons _ (.cons _ (.cons_cons _ .slnil))) h) (HS.apartOf rfl) ?_
   clear HS hr_ hz hK
   intro A2 c2 w2_ HS
   refine RT.nm ?_
   repeat (refine RT.pu ?_)
   refine RT.o3 ?_
   intro K hK
   refine y9 HS ?_
   clear HS hS
   intro w3_ HS
   simp only [zf, zg, ze, zh, Value.cells, List.toList_toArray] at HS
   refine hK _ _ (RT.nil ?_)
   rw [show acc.length + 1 = (acc ++ [x]).length by simp] at HS
   have HQ := za.mk HS
   clear HS hK
   go_wp2
   go_roundg m
   case measure => have := HM.out; omega
   case rel => exact ⟨pb, qb, acc ++ [x], l1, A2, c2, by have h_ : wrap64 ((gk : Int) - 1) = (m : Int) := (by have h1 := HM.out; have h2 := HL.out.2; unfold wrap64; omega); first | (rw [h_]) | (simp only [h_]), HT, ⟨by rw [List.append_assoc]; exact HL.out.1, by have h1 := HM.out; have h2 := HL.out.2; simp only [zc0, List.length_singleton]; omega⟩, HQ⟩
theorem Xl.calls {s : ByteArray} {p q a0 a1 a2 p' q' : Int} {x : Fm} {g gf : Nat} {w : World} (h : Xl s p q a0 a1 a2 x p' q') (hR : w.heap[g]? = some (.cells (rdC s p q).toArray 67 (0, 0))) (hF : w.heap[gf]? = some (.cells (XM a0 a1 a2).toArray 28 (0, 0))) (hN : g ≠ gf) : Calls Tryz.prog 79 #[.agg #[], .pointer (some ⟨g, 0, none⟩), .pointer (some ⟨gf, 0, none⟩)] w fun e w' => e = .returned (.tuple #[]) ∧ qp w w' g gf s p' q' x := by
 obtain ⟨v1, p1, q1, v2, p2, q2, n, p3, q3, l, h1, h2, h3, h4, rfl⟩ := h
 replace h1 := za.mk h1
 replace h2 := za.mk h2
 replace h3 := za.mk h3
 replace h4 := za.mk h4
 have HS := Sat.two hR hF hN
 clear hR hF hN
 have hc := HS.lk
 simp only [Lk, LkC, Value.cells, List.toList_toArray, Nat.reduceAdd, Nat.zero_add, and_true, zf, zg, ze, zh] at HS hc
 go_enter Tryz.func79, Tryz.ntmps79
 go_wp2_with ((first | ((with_reducible refine gB rfl ?_); refine zC HS ?_) | ((with_reducible refine gA rfl ?_); refine zr HS ?_) | ((with_reducible refine gS rfl ?_); refine zt HS ?_) | (go_at_call 37; refine HS.rd0 h1.out.calls ?_) | (go_at_call 37; refine HS.rd0 h2.out.calls ?_) | (go_at_call 114; refine HS.rd0 h3.out.calls ?_)); clear HS; (try clear hc); intros; rename_i HS; have hc := HS.lk; simp only [Lk, LkC, Value.cells, List.toList_toArray, Nat.reduceAdd, Nat.zero_add, and_true, zf, zg, ze, zh] at HS hc)
 replace HS := (HS.off (bs1 := [(g, rdC s p3 q3, 67), (gf, _, 28)]) (.cons _ (.cons_cons _ (.cons_cons _ .slnil)))).row (Ty.R k46 46 w.heap.size (.slice none 0 0) []) (Kd.R_nil _ _ _ _ _)
 have HZ := za.mk HS
 clear HS hc
 go_loopg [6] n (fun kq vi wr => ∃ (pa qa : Int) (acc rest : List S46) (A : Option Addr) (c : Nat), vi = .int .i64 kq ∧ za (xR s kq pa qa rest p' q') ∧ za (acc ++ rest = l ∧ acc.length + kq ≤ 16) ∧ za (Sat [g, gf] w wr [(g, rdC s pa qa, 67), (gf, [.int .i64 a0, .int .i64 a1, .int .i64 a2, .int .i64 v1, .int .i64 v2, .slice none 0 0, .slice none 0 0, .slice A acc.length c, .slice none 0 0, .slice none 0 0], 28)] [xC k46 46 w (.slice A acc.length c) acc]))
 case atStart => exact ⟨p3, q3, [], l, none, 0, rfl, h4, ⟨rfl, by have := h3.out.most (by decide); simp; omega⟩, HZ⟩
 case round =>
  clear HZ h4 h3 h2 h1
  obtain ⟨pa, qa, acc, rest, A, c, rfl, HC, HL, HP⟩ := hrel
  have HS := HP.out.again (bs1 := [(g, rdC s pa qa, 67), (gf, [.int .i64 a0, .int .i64 a1, .int .i64 a2, .int .i64 v1, .int .i64 v2, .slice none 0 0, .slice none 0 0, .slice A acc.length c, .slice none 0 0, .slice none 0 0], 28)]) (List.Sublist.refl _) (by simp)
  have hc := HS.lk
  simp only [Lk, LkC, Value.cells, List.toList_toArray, Nat.reduceAdd, Nat.zero_add, and_true, zf, zg, ze, zh] at HS hc
  rcases HC.out.split with ⟨rfl, rfl, rfl, rfl⟩ | ⟨c0, c1, rfl, rfl, rfl⟩ | ⟨m, x, l1, pb, qb, e1, rfl, hx, ht, rfl⟩
  ·go_wp2
   go_end0
   obtain ⟨h3, _⟩ := HL.out
   rw [List.append_nil] at h3
   subst h3
   exact ⟨rfl, HP.out.fp ⟨_, _, _, _, _, rfl, oN, oN, (HP.out.rows _ (.head _)).2, oN, oN⟩⟩
  ·have c2 := beq_eq_false_iff_ne.mpr c1
   have c3 : (0 : Int) < gk := by omega
   go_wp2
   go_end0
   obtain ⟨h3, _⟩ := HL.out
   rw [List.append_nil] at h3
   subst h3
   exact ⟨rfl, HP.out.fp ⟨_, _, _, _, _, rfl, oN, oN, (HP.out.rows _ (.head _)).2, oN, oN⟩⟩
  ·have c3 : (0 : Int) < gk := by omega
   obtain ⟨v, pv, qv, t, pt, qt, y, py, qy, u, pu, qu, z, g1, g2, g3, g4, g5, rfl⟩ := hx
   replace g1 := za.mk g1
   replace g2 := za.mk g2
   replace g3 := za.mk g3
   replace g4 := za.mk g4
   replace g5 := za.mk g5
   have HT := za.mk ht
   have HM := za.mk e1
   clear ht e1
   go_upto_region 8 with ((first | ((with_reducible refine gB rfl ?_); refine zC HS ?_) | ((with_reducible refine gA rfl ?_); refine zr HS ?_) | ((with_reducible refine gS rfl ?_); refine zt HS ?_) | (go_at_call 37; refine HS.rd0 g1.out.calls ?_) | (go_at_call 117; refine HS.rd0 g2.out.calls ?_) | (go_at_call 119; refine HS.rdR g3.out.calls ?_) | (go_at_call 37; refine HS.rd0 g4.out.calls ?_) | (go_at_call 37; refine HS.rd0 g5.out.calls ?_)); clear HS; (try clear hc); intros; rename_i HS; have hc := HS.lk; simp only [Lk, LkC, Value.cells, List.toList_toArray, Nat.reduceAdd, Nat.zero_add, and_true, zf, zg, ze, zh] at HS hc)
   clear hc
   rename_i gx _ _ A1 c1 _ _ _ _ _ _
   replace HS := HS.drewN 1
   have hS := (HS.off (bs1 := [(gx, [.int .i64 v, .string t, .slice A1 y.length c1, .int .i64 u, .int .i64 z], 46), (gf, [.int .i64 a0, .int .i64 a1, .int .i64 a2, .int .i64 v1, .int .i64 v2, .slice none 0 0, .slice none 0 0, .slice A acc.length c, .slice none 0 0, .slice none 0 0], 28)]) (.cons_cons _ (.cons _ (.cons_cons _ .slnil)))).lk
   refine vW (.op 0 0 45 (.op 1 0 46 (.op 2 0 47 (.op 3 0 48 (.op 4 0 49 (.op 5 0 50 (.op 6 2 51 (.op 7 2 52 (.op 8 1 53 (.op 9 1 54 (.op 10 3 0 .nil))))))))))) [10] (fun W => Lk W [(gx, [.int .i64 v, .string t, .slice A1 y.length c1, .int .i64 u, .int .i64 z], 46), (gf, [.int .i64 a0, .int .i64 a1, .int .i64 a2, .int .i64 v1, .int .i64 v2, .slice none 0 0, .slice none 0 0, .slice A acc.length c, .slice none 0 0, .slice none 0 0], 28)]) hS (fun hS => ?_)
   repeat (refine RT.tk ?_)
   refine RT.ap (bytes := 64) (cs := [.int .i64 v, .string t, .slice A1 y.length c1, .int .i64 u, .int .i64 z]) (HP.out.trans HS (by simp) rfl) (zcq _ _ _ ⟨v, t, y, u, z⟩ (Kd.R_lower (HS.rows _ (.head _)).2 HP.out.keep.size)) (by have := HL.out.2; omega) (fun _ h => yP (.cons_cons _ (.cons _ (.cons_cons _ .slnil))) h) (HP.out.elder HS (by simp) rfl) ?_
   clear HS HP
   intro A2 c2 w2_ HS
   replace HS := HS.off (bs1 := [(g, rdC s pb qb, 67), (gf, [.int .i64 a0, .int .i64 a1, .int .i64 a2, .int .i64 v1, .int .i64 v2, .slice none 0 0, .slice none 0 0, .slice A acc.length c, .slice none 0 0, .slice none 0 0], 28)]) (.cons _ (.cons_cons _ (.cons_cons _ .slnil)))
   refine RT.nm ?_
   repeat (refine RT.pu ?_)
   refine RT.o3 ?_
   intro K hK
   refine y9 HS ?_
   clear HS hS
   intro w3_ HS
   simp only [zf, zg, ze, zh, Value.cells, List.toList_toArray] at HS
   refine hK _ _ (RT.nil ?_)
   obtain ⟨x, hx⟩ : ∃ x, x = (⟨v, t, y, u, z⟩ : S46) := ⟨_, rfl⟩
   rw [← hx] at HS HL
   rw [show acc.length + 1 = (acc ++ [x]).length by simp] at HS
   have HQ := za.mk (HS.drop (rs' := [xC k46 46 w (.slice A2 (acc ++ [x]).length c2) (acc ++ [x])]) (fun r hr => by rw [List.mem_singleton.1 hr]; exact .head _))
   clear HS hK hx
   go_wp2
   go_roundg m
   case measure => have := HM.out; omega
   case rel => exact ⟨pb, qb, acc ++ [x], l1, A2, c2, by have h_ : wrap64 ((gk : Int) - 1) = (m : Int) := (by have h1 := HM.out; have h2 := HL.out.2; unfold wrap64; omega); first | (rw [h_]) | (simp only [h_]), HT, ⟨by rw [List.append_assoc]; exact HL.out.1, by have h1 := HM.out; have h2 := HL.out.2; simp only [zc0, List.length_singleton]; omega⟩, HQ⟩
def Yz (s : ByteArray) (p q a0 a1 a2 : Int) (x : Fm) (p' q' : Int) : Prop := if a0 = 1 then Xs s p q a0 a1 a2 x p' q' else if a0 = 2 then QP s p q a0 a1 a2 x p' q' else if a0 = 3 then rAck s p q a0 a1 a2 x p' q' else if a0 = 4 then Xl s p q a0 a1 a2 x p' q' else Xq s p q a0 a1 a2 x p' q'
theorem Yz.calls {s : ByteArray} {p q a0 a1 a2 p' q' : Int} {x : Fm} {g gf : Nat} {w : World} (h : Yz s p q a0 a1 a2 x p' q') (hR : w.heap[g]? = some (.cells (rdC s p q).toArray 67 (0, 0))) (hF : w.heap[gf]? = some (.cells (XM a0 a1 a2).toArray 28 (0, 0))) (hN : g ≠ gf) : Calls Tryz.prog 39 #[.pointer (some ⟨g, 0, none⟩), .pointer (some ⟨gf, 0, none⟩)] w fun e w' => e = .returned (.tuple #[]) ∧ qp w w' g gf s p' q' x := by
 have HS := Sat.two hR hF hN
 have hc := HS.lk
 simp only [Lk, LkC, Value.cells, List.toList_toArray, Nat.reduceAdd, Nat.zero_add, and_true, zf, zg, ze, zh] at HS hc
 clear HS
 replace hR := za.mk hR
 replace hF := za.mk hF
 replace hN := za.mk hN
 unfold Yz at h
 go_enter Tryz.func39, Tryz.ntmps39
 by_cases c0 : a0 = 1
 ·rw [if_pos c0] at h
  have d0 : (a0 == 1) = true := beq_iff_eq.mpr c0
  have HX := za.mk h
  clear h
  go_wp2_with (go_at_call 76; refine (Xs.calls HX.out hR.out hF.out hN.out).mono ?_; rintro e_ w_ ⟨rfl, hp_⟩; replace hp_ := za.mk hp_)
  go_end0
  exact ⟨rfl, hp_.out⟩
 rw [if_neg c0] at h
 have d0 : (a0 == 1) = false := beq_eq_false_iff_ne.mpr c0
 by_cases c1 : a0 = 2
 ·rw [if_pos c1] at h
  have d1 : (a0 == 2) = true := beq_iff_eq.mpr c1
  have HX := za.mk h
  clear h
  go_wp2_with (go_at_call 77; refine (QP.calls HX.out hR.out hF.out hN.out).mono ?_; rintro e_ w_ ⟨rfl, hp_⟩; replace hp_ := za.mk hp_)
  go_end0
  exact ⟨rfl, hp_.out⟩
 rw [if_neg c1] at h
 have d1 : (a0 == 2) = false := beq_eq_false_iff_ne.mpr c1
 by_cases c2 : a0 = 3
 ·rw [if_pos c2] at h
  have d2 : (a0 == 3) = true := beq_iff_eq.mpr c2
  have HX := za.mk h
  clear h
  go_wp2_with (go_at_call 78; refine (rAck.calls HX.out hR.out hF.out hN.out).mono ?_; rintro e_ w_ ⟨rfl, hp_⟩; replace hp_ := za.mk hp_)
  go_end0
  exact ⟨rfl, hp_.out⟩
 rw [if_neg c2] at h
 have d2 : (a0 == 3) = false := beq_eq_false_iff_ne.mpr c2
 by_cases c3 : a0 = 4
 ·rw [if_pos c3] at h
  have d3 : (a0 == 4) = true := beq_iff_eq.mpr c3
  have HX := za.mk h
  clear h
  go_wp2_with (go_at_call 79; refine (Xl.calls HX.out hR.out hF.out hN.out).mono ?_; rintro e_ w_ ⟨rfl, hp_⟩; replace hp_ := za.mk hp_)
  go_end0
  exact ⟨rfl, hp_.out⟩
 rw [if_neg c3] at h
 have d3 : (a0 == 4) = false := beq_eq_false_iff_ne.mpr c3
 have HX := za.mk h
 clear h
 go_wp2_with (go_at_call 80; refine (Xq.calls HX.out hR.out hF.out hN.out).mono ?_; rintro e_ w_ ⟨rfl, hp_⟩; replace hp_ := za.mk hp_)
 go_end0
 exact ⟨rfl, hp_.out⟩
def fm0 : Fm := ⟨0, 0, 0, 0, 0, [], [], [], [], []⟩
def QQ (s t : ByteArray) (e : Int) : Prop := ∃ k, yt.f k s = some (t, e)
def zaI (t : ByteArray) (y : Fm) (p q : Int) (x : Fm) (e : Int) : Prop := (q ≠ 0 ∧ x = fm0 ∧ e = q) ∨ (q = 0 ∧ p < t.size ∧ x = fm0 ∧ e = 6) ∨ (q = 0 ∧ ¬ p < t.size ∧ ∃ r, jZ y r ∧ ((r = false ∧ x = fm0 ∧ e = 6) ∨ (r = true ∧ x = y ∧ e = 0)))
def zbU (t : ByteArray) (a0 p q : Int) (x : Fm) (e : Int) : Prop := ∃ a1 p2 q2 a2 p3 q3, xc t p q a1 p2 q2 ∧ xc t p2 q2 a2 p3 q3 ∧ ((q3 ≠ 0 ∧ x = fm0 ∧ e = q3) ∨ (q3 = 0 ∧ ∃ y p4 q4, Yz t p3 0 a0 a1 a2 y p4 q4 ∧ zaI t y p4 q4 x e))
def Zc (s : ByteArray) (x : Fm) (e : Int) : Prop := ∃ t e1, QQ s t e1 ∧ ((e1 ≠ 0 ∧ x = fm0 ∧ e = e1) ∨ (e1 = 0 ∧ t.size ≤ 9223372036854775807 ∧ ∃ a0 p q, xc t 0 0 a0 p q ∧ ((q = 0 ∧ ¬ (1 ≤ a0 ∧ a0 ≤ 5) ∧ x = fm0 ∧ e = 6) ∨ (¬ (q = 0 ∧ ¬ (1 ≤ a0 ∧ a0 ≤ 5)) ∧ zbU t a0 p q x e))))
section
variable {P : Program} {gs : List Nat} {w0 w w' : World} {bs bs' bs1 : List Bk} {rs : List Rw}
theorem Sat.turn2 (H : Sat gs w0 w bs rs) {g g' t t' : Nat} {cs cs' : List Value} (U : Up g t 0 (fun _ => cs) bs bs1) (V : Up g' t' 0 (fun _ => cs') bs1 bs') (ht : yV t rs = true) (ht' : yV t' rs = true) (K : yX [g, g'] w w') (hg : w'.heap[g]? = some (.cells cs.toArray t (0, 0))) (hg' : w'.heap[g']? = some (.cells cs'.toArray t' (0, 0))) : Sat gs w0 w' bs' rs := by
 obtain ⟨c1, hm, _⟩ := U.mem
 have hb := H.blk _ hm
 have ha : bs1.Pairwise (fun x y => x.1 ≠ y.1) := by rw [Zl, U.fst, ← Zl]; exact H.apart
 obtain ⟨c2, hm2, _⟩ := V.mem
 obtain ⟨c3, hm3⟩ : ∃ c3, (g', c3, t') ∈ bs ∨ (g' = g ∧ t' = t) := by
  rcases U.own H.apart _ hm2 with ⟨h1, _⟩ | ⟨_, h1, h2⟩
  ·exact ⟨c2, .inl h1⟩
  ·injection h2 with h2 h3
   injection h3 with _ h3
   exact ⟨c2, .inr ⟨h2, h3⟩⟩
 have hfar : ∀ k q cells, k < w.heap.size → w.heap[k]? = some (Obj.cells cells q (0, 0)) → q ≠ t → q ≠ t' → w'.heap[k]? = w.heap[k]? := fun k q cells hk hc h1 h2 => K.blk k hk (fun hin => by
  simp only [List.mem_cons, List.not_mem_nil, or_false] at hin
  have hgo : ∀ c u, (k, c, u) ∈ bs → q = u := fun c u hx => by
   rw [(H.blk _ hx).2] at hc
   injection hc with hc
   injection hc with _ hc
   exact hc.symm
  rcases hin with rfl | rfl
  ·exact h1 (hgo _ _ hm)
  ·rcases hm3 with h3 | ⟨rfl, rfl⟩
   ·exact h2 (hgo _ _ h3)
   ·exact h1 (hgo _ _ hm))
 have hown : g' ∈ gs ∨ w0.heap.size ≤ g' := by
  rcases hm3 with h3 | ⟨rfl, _⟩
  ·exact (H.blk _ h3).1
  ·exact hb.1
 refine ⟨H.keep.trans K (by simpa using ⟨hb.1, hown⟩), fun y hy => ?_, by rw [Zl, V.fst, ← Zl]; exact ha, fun r hr => ⟨(H.rows r hr).1, (H.rows r hr).1 w w' (fun k q cells hk hc hq => hfar k q cells hk hc ?_ ?_) (H.rows r hr).2⟩⟩
 ·rcases V.own ha y hy with ⟨h1, h2⟩ | ⟨_, _, rfl⟩
  ·rcases U.own H.apart y h1 with ⟨h3, h4⟩ | ⟨_, _, rfl⟩
   ·exact ⟨(H.blk y h3).1, (K.blk _ (xl (H.blk y h3).2) (by simp [h2, h4])).trans (H.blk y h3).2⟩
   ·exact ⟨hb.1, hg⟩
  ·exact ⟨hown, hg'⟩
 ·rintro rfl
  have h2 := List.all_eq_true.1 ht r hr
  simp only [Bool.not_eq_true', List.contains_eq_mem, decide_eq_false_iff_not] at h2
  exact h2 hq
 ·rintro rfl
  have h2 := List.all_eq_true.1 ht' r hr
  simp only [Bool.not_eq_true', List.contains_eq_mem, decide_eq_false_iff_not] at h2
  exact h2 hq
abbrev fmSl (x : Fm) (A5 : Option Addr) (c5 : Nat) (A6 : Option Addr) (c6 : Nat) (A7 : Option Addr) (c7 : Nat) (A8 : Option Addr) (c8 : Nat) (A9 : Option Addr) (c9 : Nat) : List Value := [.int .i64 x.f0, .int .i64 x.f1, .int .i64 x.f2, .int .i64 x.f3, .int .i64 x.f4, .slice A5 x.f5.length c5, .slice A6 x.f6.length c6, .slice A7 x.f7.length c7, .slice A8 x.f8.length c8, .slice A9 x.f9.length c9]
abbrev Yr (w0 : World) (x : Fm) (A5 : Option Addr) (c5 : Nat) (A6 : Option Addr) (c6 : Nat) (A7 : Option Addr) (c7 : Nat) (A8 : Option Addr) (c8 : Nat) (A9 : Option Addr) (c9 : Nat) : List Rw := [xC Kd.string 9 w0 (.slice A5 x.f5.length c5) x.f5, xC k52 52 w0 (.slice A6 x.f6.length c6) x.f6, xC k46 46 w0 (.slice A7 x.f7.length c7) x.f7, xC k86 86 w0 (.slice A8 x.f8.length c8) x.f8, xC k77 77 w0 (.slice A9 x.f9.length c9) x.f9]
theorem Sat.fmC {x : Fm} {A5 A6 A7 A8 A9 : Option Addr} {c5 c6 c7 c8 c9 : Nat} (H : Sat gs w0 w bs (Yr w0 x A5 c5 A6 c6 A7 c7 A8 c8 A9 c9)) : FmC w x (fmSl x A5 c5 A6 c6 A7 c7 A8 c8 A9 c9) :=
 ⟨_, _, _, _, _, rfl, vE (H.rows _ (.head _)).2, vE (H.rows _ (.tail _ (.head _))).2, vE (H.rows _ (.tail _ (.tail _ (.head _)))).2, vE (H.rows _ (.tail _ (.tail _ (.tail _ (.head _))))).2, vE (H.rows _ (.tail _ (.tail _ (.tail _ (.tail _ (.head _)))))).2⟩
theorem Sat.fmO {x : Fm} {A5 A6 A7 A8 A9 : Option Addr} {c5 c6 c7 c8 c9 : Nat} (H : Sat gs w0 w bs (Yr w0 x A5 c5 A6 c6 A7 c7 A8 c8 A9 c9)) : FmO w w0.heap.size x (fmSl x A5 c5 A6 c6 A7 c7 A8 c8 A9 c9) :=
 ⟨_, _, _, _, _, rfl, (H.rows _ (.head _)).2, (H.rows _ (.tail _ (.head _))).2, (H.rows _ (.tail _ (.tail _ (.head _)))).2, (H.rows _ (.tail _ (.tail _ (.tail _ (.head _))))).2, (H.rows _ (.tail _ (.tail _ (.tail _ (.tail _ (.head _)))))).2⟩
theorem Sat.got (H : Sat gs w0 w bs []) {f : FuncId} {args : Array Value} {K : Ending → World → Prop} {x : Fm} {F : List Value → Value} (hc : Calls P f args w fun e w' => (∃ cs, e = .returned (F cs) ∧ FmO w' w.heap.size x cs) ∧ Below w.heap.size w w')
  (h : ∀ A5 c5 A6 c6 A7 c7 A8 c8 A9 c9 w', Sat gs w0 w' bs (Yr w0 x A5 c5 A6 c6 A7 c7 A8 c8 A9 c9) → K (.returned (F (fmSl x A5 c5 A6 c6 A7 c7 A8 c8 A9 c9))) w') : Calls P f args w K := by
 refine hc.mono fun e w' he => ?_
 obtain ⟨⟨_, rfl, v5, v6, v7, v8, v9, rfl, h5, h6, h7, h8, h9⟩, hb⟩ := he
 obtain ⟨A5, c5, rfl⟩ := Kd.R_slice h5
 obtain ⟨A6, c6, rfl⟩ := Kd.R_slice h6
 obtain ⟨A7, c7, rfl⟩ := Kd.R_slice h7
 obtain ⟨A8, c8, rfl⟩ := Kd.R_slice h8
 obtain ⟨A9, c9, rfl⟩ := Kd.R_slice h9
 have hz := H.keep.size
 exact h A5 c5 A6 c6 A7 c7 A8 c8 A9 c9 w' ((((((H.call hb).R h9 hz).R h8 hz).R h7 hz).R h6 hz).R h5 hz)
theorem Sat.fill (H : Sat gs w0 w bs []) {f : FuncId} {args : Array Value} {K : Ending → World → Prop} {g gf : Nat} {s : ByteArray} {p q : Int} {x : Fm} {r : Value} {bs2 : Option Addr → Nat → Option Addr → Nat → Option Addr → Nat → Option Addr → Nat → Option Addr → Nat → List Bk} (hc : Calls P f args w fun e w' => e = .returned r ∧ qp w w' g gf s p q x)
  (h : ∀ A5 c5 A6 c6 A7 c7 A8 c8 A9 c9 w', Sat gs w0 w' (bs2 A5 c5 A6 c6 A7 c7 A8 c8 A9 c9) (Yr w0 x A5 c5 A6 c6 A7 c7 A8 c8 A9 c9) → K (.returned r) w')
  (U : Up g 67 0 (fun _ => rdC s p q) bs bs1 := by ((repeat (first | exact .here rfl | apply Up.there)); (first | done | fail))) (V : ∀ A5 c5 A6 c6 A7 c7 A8 c8 A9 c9, Up gf 28 0 (fun _ => fmSl x A5 c5 A6 c6 A7 c7 A8 c8 A9 c9) bs1 (bs2 A5 c5 A6 c6 A7 c7 A8 c8 A9 c9) := by (intros; (repeat (first | exact .here rfl | apply Up.there)); (first | done | fail))) : Calls P f args w K := by
 refine hc.mono fun e w' he => ?_
 obtain ⟨rfl, K1, hg, cs, hgf, v5, v6, v7, v8, v9, rfl, h5, h6, h7, h8, h9⟩ := he
 obtain ⟨A5, c5, rfl⟩ := Kd.R_slice h5
 obtain ⟨A6, c6, rfl⟩ := Kd.R_slice h6
 obtain ⟨A7, c7, rfl⟩ := Kd.R_slice h7
 obtain ⟨A8, c8, rfl⟩ := Kd.R_slice h8
 obtain ⟨A9, c9, rfl⟩ := Kd.R_slice h9
 have hz := H.keep.size
 exact h A5 c5 A6 c6 A7 c7 A8 c8 A9 c9 w' (((((H.turn2 U (V A5 c5 A6 c6 A7 c7 A8 c8 A9 c9) rfl rfl K1 hg hgf).R h9 hz).R h8 hz).R h7 hz).R h6 hz |>.R h5 hz)
end
theorem QQ.calls {s t : ByteArray} {e : Int} {w : World} (h : QQ s t e) : Calls Tryz.prog 36 #[.string s] w fun r w' => r = .returned (.tuple #[.string t, .int .i64 e]) ∧ Below w.heap.size w w' := by
 obtain ⟨k, h⟩ := h
 exact yt.calls k s t e w h
theorem Zc.calls {s : ByteArray} {x : Fm} {er : Int} {w : World} (h : Zc s x er) : Calls Tryz.prog 13 #[.string s] w fun e w' => (∃ cs, e = .returned (.tuple #[.agg cs.toArray, .int .i64 er]) ∧ FmO w' w.heap.size x cs) ∧ Below w.heap.size w w' := by
 obtain ⟨t, e1, HO, h⟩ := h
 replace HO := za.mk HO
 have HS := Sat.nil w
 rcases h with ⟨c1, rfl, rfl⟩ | ⟨rfl, hl, a0, p, q, h1, h⟩
 ·have d1 := beq_eq_false_iff_ne.mpr c1
  have d2 := bne_iff_ne.mpr c1
  go_enter Tryz.func13, Tryz.ntmps13
  go_wp2_with (first | ((first | ((with_reducible refine gB rfl ?_); refine zC HS ?_) | ((with_reducible refine gA rfl ?_); refine zr HS ?_) | ((with_reducible refine gS rfl ?_); refine zt HS ?_) | (go_at_call 36; refine HS.go HO.out.calls ?_) | (go_at_call 37; refine HS.rd0 h1.out.calls ?_) | (go_at_call 37; refine HS.rd0 h2.out.calls ?_) | (go_at_call 37; refine HS.rd0 h3.out.calls ?_) | (go_at_call 38; refine HS.go0 (zR.calls _ _ _ _ _ hw.out) ?_) | (go_at_call 39; refine HS.fill (hf.out.calls (HS.blk _ (.tail _ (.head _))).2 (HS.blk _ (.head _)).2 (Ne.symm ((List.pairwise_cons.1 HS.apart).1 _ (.head _)))) ?_) | (go_at_call 16; refine HS.go (hr.out.calls HS.fmC) ?_)); clear HS; (try clear hc); intros; rename_i HS; have hc := HS.lk; simp only [Lk, LkC, Value.cells, List.toList_toArray, Nat.reduceAdd, Nat.zero_add, and_true, zf, zg, ze, zh] at HS hc) | (refine yh (.op 0 0 54 (.op 1 0 55 (.op 2 0 56 (.op 3 0 57 (.op 4 0 58 (.op 5 4 0 (.op 6 1 3 .nil))))))) [] HS (.cons _ (.cons_cons _ (.cons _ .slnil))) ?_; clear HS hc; intro HS hS; (repeat (refine RT.tk ?_)); refine RT.o4 ?_; intro K hK; refine y9 HS ?_; clear HS hS; intro w_ HS; have hc := HS.lk; simp only [Lk, LkC, Value.cells, List.toList_toArray, Nat.reduceAdd, Nat.zero_add, and_true, zf, zg, ze, zh] at HS hc; refine hK _ _ (yP (.cons _ (.cons_cons _ (.cons _ .slnil))) HS.lk) (fun hS => ?_); clear hK hS; (repeat (refine RT.pu ?_)); refine RT.nil ?_))
  refine bodyPost_ret (xd (rs := [_, _]) rfl (by simp) (.cell _ _ _ _ _ rfl (HS.blk (_, _, _) (by repeat (first | exact .head _ | apply List.Mem.tail))).2 Tryz.underlying28 rfl (by kernel_rfl) (.tmp .nil))) rfl ?_; exact ⟨⟨_, rfl, _, _, _, _, _, rfl, oN, oN, oN, oN, oN⟩, HS.below⟩
 replace h1 := za.mk h1
 rcases h with ⟨rfl, hk, rfl, rfl⟩ | ⟨hk, a1, p2, q2, a2, p3, q3, h2, h3, h⟩
 ·have hw := za.mk (vS hk)
  clear hk
  go_enter Tryz.func13, Tryz.ntmps13
  go_wp2_with (first | ((first | ((with_reducible refine gB rfl ?_); refine zC HS ?_) | ((with_reducible refine gA rfl ?_); refine zr HS ?_) | ((with_reducible refine gS rfl ?_); refine zt HS ?_) | (go_at_call 36; refine HS.go HO.out.calls ?_) | (go_at_call 37; refine HS.rd0 h1.out.calls ?_) | (go_at_call 37; refine HS.rd0 h2.out.calls ?_) | (go_at_call 37; refine HS.rd0 h3.out.calls ?_) | (go_at_call 38; refine HS.go0 (zR.calls _ _ _ _ _ hw.out) ?_) | (go_at_call 39; refine HS.fill (hf.out.calls (HS.blk _ (.tail _ (.head _))).2 (HS.blk _ (.head _)).2 (Ne.symm ((List.pairwise_cons.1 HS.apart).1 _ (.head _)))) ?_) | (go_at_call 16; refine HS.go (hr.out.calls HS.fmC) ?_)); clear HS; (try clear hc); intros; rename_i HS; have hc := HS.lk; simp only [Lk, LkC, Value.cells, List.toList_toArray, Nat.reduceAdd, Nat.zero_add, and_true, zf, zg, ze, zh] at HS hc) | (refine yh (.op 0 0 54 (.op 1 0 55 (.op 2 0 56 (.op 3 0 57 (.op 4 0 58 (.op 5 4 0 (.op 6 1 3 .nil))))))) [] HS (.cons _ (.cons_cons _ (.cons _ .slnil))) ?_; clear HS hc; intro HS hS; (repeat (refine RT.tk ?_)); refine RT.o4 ?_; intro K hK; refine y9 HS ?_; clear HS hS; intro w_ HS; have hc := HS.lk; simp only [Lk, LkC, Value.cells, List.toList_toArray, Nat.reduceAdd, Nat.zero_add, and_true, zf, zg, ze, zh] at HS hc; refine hK _ _ (yP (.cons _ (.cons_cons _ (.cons _ .slnil))) HS.lk) (fun hS => ?_); clear hK hS; (repeat (refine RT.pu ?_)); refine RT.nil ?_))
  refine bodyPost_ret (xd (rs := [_, _]) rfl (by simp) (.cell _ _ _ _ _ rfl (HS.blk (_, _, _) (by repeat (first | exact .head _ | apply List.Mem.tail))).2 Tryz.underlying28 rfl (by kernel_rfl) (.tmp .nil))) rfl ?_; exact ⟨⟨_, rfl, _, _, _, _, _, rfl, oN, oN, oN, oN, oN⟩, HS.below⟩
 replace h2 := za.mk h2
 replace h3 := za.mk h3
 replace h := za.mk h
 go_enter Tryz.func13, Tryz.ntmps13
 by_cases c0 : q = 0
 case' pos =>
  subst c0
  have hw := za.mk (qf (Decidable.not_not.1 (fun hn => hk ⟨rfl, hn⟩)))
  clear hk
  go_upto_region 8 with (first | ((first | ((with_reducible refine gB rfl ?_); refine zC HS ?_) | ((with_reducible refine gA rfl ?_); refine zr HS ?_) | ((with_reducible refine gS rfl ?_); refine zt HS ?_) | (go_at_call 36; refine HS.go HO.out.calls ?_) | (go_at_call 37; refine HS.rd0 h1.out.calls ?_) | (go_at_call 37; refine HS.rd0 h2.out.calls ?_) | (go_at_call 37; refine HS.rd0 h3.out.calls ?_) | (go_at_call 38; refine HS.go0 (zR.calls _ _ _ _ _ hw.out) ?_) | (go_at_call 39; refine HS.fill (hf.out.calls (HS.blk _ (.tail _ (.head _))).2 (HS.blk _ (.head _)).2 (Ne.symm ((List.pairwise_cons.1 HS.apart).1 _ (.head _)))) ?_) | (go_at_call 16; refine HS.go (hr.out.calls HS.fmC) ?_)); clear HS; (try clear hc); intros; rename_i HS; have hc := HS.lk; simp only [Lk, LkC, Value.cells, List.toList_toArray, Nat.reduceAdd, Nat.zero_add, and_true, zf, zg, ze, zh] at HS hc) | (refine yh (.op 0 0 54 (.op 1 0 55 (.op 2 0 56 (.op 3 0 57 (.op 4 0 58 (.op 5 4 0 (.op 6 1 3 .nil))))))) [] HS (.cons _ (.cons_cons _ (.cons _ .slnil))) ?_; clear HS hc; intro HS hS; (repeat (refine RT.tk ?_)); refine RT.o4 ?_; intro K hK; refine y9 HS ?_; clear HS hS; intro w_ HS; have hc := HS.lk; simp only [Lk, LkC, Value.cells, List.toList_toArray, Nat.reduceAdd, Nat.zero_add, and_true, zf, zg, ze, zh] at HS hc; refine hK _ _ (yP (.cons _ (.cons_cons _ (.cons _ .slnil))) HS.lk) (fun hS => ?_); clear hK hS; (repeat (refine RT.pu ?_)); refine RT.nil ?_))
  clear hw
 case' neg =>
  have d0 := beq_eq_false_iff_ne.mpr c0
  clear hk
  go_upto_region 8 with (first | ((first | ((with_reducible refine gB rfl ?_); refine zC HS ?_) | ((with_reducible refine gA rfl ?_); refine zr HS ?_) | ((with_reducible refine gS rfl ?_); refine zt HS ?_) | (go_at_call 36; refine HS.go HO.out.calls ?_) | (go_at_call 37; refine HS.rd0 h1.out.calls ?_) | (go_at_call 37; refine HS.rd0 h2.out.calls ?_) | (go_at_call 37; refine HS.rd0 h3.out.calls ?_) | (go_at_call 38; refine HS.go0 (zR.calls _ _ _ _ _ hw.out) ?_) | (go_at_call 39; refine HS.fill (hf.out.calls (HS.blk _ (.tail _ (.head _))).2 (HS.blk _ (.head _)).2 (Ne.symm ((List.pairwise_cons.1 HS.apart).1 _ (.head _)))) ?_) | (go_at_call 16; refine HS.go (hr.out.calls HS.fmC) ?_)); clear HS; (try clear hc); intros; rename_i HS; have hc := HS.lk; simp only [Lk, LkC, Value.cells, List.toList_toArray, Nat.reduceAdd, Nat.zero_add, and_true, zf, zg, ze, zh] at HS hc) | (refine yh (.op 0 0 54 (.op 1 0 55 (.op 2 0 56 (.op 3 0 57 (.op 4 0 58 (.op 5 4 0 (.op 6 1 3 .nil))))))) [] HS (.cons _ (.cons_cons _ (.cons _ .slnil))) ?_; clear HS hc; intro HS hS; (repeat (refine RT.tk ?_)); refine RT.o4 ?_; intro K hK; refine y9 HS ?_; clear HS hS; intro w_ HS; have hc := HS.lk; simp only [Lk, LkC, Value.cells, List.toList_toArray, Nat.reduceAdd, Nat.zero_add, and_true, zf, zg, ze, zh] at HS hc; refine hK _ _ (yP (.cons _ (.cons_cons _ (.cons _ .slnil))) HS.lk) (fun hS => ?_); clear hK hS; (repeat (refine RT.pu ?_)); refine RT.nil ?_))
  clear d0 c0
 all_goals
  rcases h.out with ⟨c3, rfl, rfl⟩ | ⟨rfl, y, p4, q4, hf, ⟨c4, rfl, rfl⟩ | ⟨rfl, c5, rfl, rfl⟩ | ⟨rfl, c5, r, hr, ⟨rfl, rfl, rfl⟩ | ⟨rfl, rfl, rfl⟩⟩⟩
  ·have d3 := beq_eq_false_iff_ne.mpr c3
   have d4 := bne_iff_ne.mpr c3
   go_wp2_with (first | ((first | ((with_reducible refine gB rfl ?_); refine zC HS ?_) | ((with_reducible refine gA rfl ?_); refine zr HS ?_) | ((with_reducible refine gS rfl ?_); refine zt HS ?_) | (go_at_call 36; refine HS.go HO.out.calls ?_) | (go_at_call 37; refine HS.rd0 h1.out.calls ?_) | (go_at_call 37; refine HS.rd0 h2.out.calls ?_) | (go_at_call 37; refine HS.rd0 h3.out.calls ?_) | (go_at_call 38; refine HS.go0 (zR.calls _ _ _ _ _ hw.out) ?_) | (go_at_call 39; refine HS.fill (hf.out.calls (HS.blk _ (.tail _ (.head _))).2 (HS.blk _ (.head _)).2 (Ne.symm ((List.pairwise_cons.1 HS.apart).1 _ (.head _)))) ?_) | (go_at_call 16; refine HS.go (hr.out.calls HS.fmC) ?_)); clear HS; (try clear hc); intros; rename_i HS; have hc := HS.lk; simp only [Lk, LkC, Value.cells, List.toList_toArray, Nat.reduceAdd, Nat.zero_add, and_true, zf, zg, ze, zh] at HS hc) | (refine yh (.op 0 0 54 (.op 1 0 55 (.op 2 0 56 (.op 3 0 57 (.op 4 0 58 (.op 5 4 0 (.op 6 1 3 .nil))))))) [] HS (.cons _ (.cons_cons _ (.cons _ .slnil))) ?_; clear HS hc; intro HS hS; (repeat (refine RT.tk ?_)); refine RT.o4 ?_; intro K hK; refine y9 HS ?_; clear HS hS; intro w_ HS; have hc := HS.lk; simp only [Lk, LkC, Value.cells, List.toList_toArray, Nat.reduceAdd, Nat.zero_add, and_true, zf, zg, ze, zh] at HS hc; refine hK _ _ (yP (.cons _ (.cons_cons _ (.cons _ .slnil))) HS.lk) (fun hS => ?_); clear hK hS; (repeat (refine RT.pu ?_)); refine RT.nil ?_))
   refine bodyPost_ret (xd (rs := [_, _]) rfl (by simp) (.cell _ _ _ _ _ rfl (HS.blk (_, _, _) (by repeat (first | exact .head _ | apply List.Mem.tail))).2 Tryz.underlying28 rfl (by kernel_rfl) (.tmp .nil))) rfl ?_; exact ⟨⟨_, rfl, _, _, _, _, _, rfl, oN, oN, oN, oN, oN⟩, HS.below⟩
  ·replace hf := za.mk hf
   have d3 := beq_eq_false_iff_ne.mpr c4
   have d4 := bne_iff_ne.mpr c4
   go_wp2_with (first | ((first | ((with_reducible refine gB rfl ?_); refine zC HS ?_) | ((with_reducible refine gA rfl ?_); refine zr HS ?_) | ((with_reducible refine gS rfl ?_); refine zt HS ?_) | (go_at_call 36; refine HS.go HO.out.calls ?_) | (go_at_call 37; refine HS.rd0 h1.out.calls ?_) | (go_at_call 37; refine HS.rd0 h2.out.calls ?_) | (go_at_call 37; refine HS.rd0 h3.out.calls ?_) | (go_at_call 38; refine HS.go0 (zR.calls _ _ _ _ _ hw.out) ?_) | (go_at_call 39; refine HS.fill (hf.out.calls (HS.blk _ (.tail _ (.head _))).2 (HS.blk _ (.head _)).2 (Ne.symm ((List.pairwise_cons.1 HS.apart).1 _ (.head _)))) ?_) | (go_at_call 16; refine HS.go (hr.out.calls HS.fmC) ?_)); clear HS; (try clear hc); intros; rename_i HS; have hc := HS.lk; simp only [Lk, LkC, Value.cells, List.toList_toArray, Nat.reduceAdd, Nat.zero_add, and_true, zf, zg, ze, zh] at HS hc) | (refine yh (.op 0 0 54 (.op 1 0 55 (.op 2 0 56 (.op 3 0 57 (.op 4 0 58 (.op 5 4 0 (.op 6 1 3 .nil))))))) [] HS (.cons _ (.cons_cons _ (.cons _ .slnil))) ?_; clear HS hc; intro HS hS; (repeat (refine RT.tk ?_)); refine RT.o4 ?_; intro K hK; refine y9 HS ?_; clear HS hS; intro w_ HS; have hc := HS.lk; simp only [Lk, LkC, Value.cells, List.toList_toArray, Nat.reduceAdd, Nat.zero_add, and_true, zf, zg, ze, zh] at HS hc; refine hK _ _ (yP (.cons _ (.cons_cons _ (.cons _ .slnil))) HS.lk) (fun hS => ?_); clear hK hS; (repeat (refine RT.pu ?_)); refine RT.nil ?_))
   refine bodyPost_ret (xd (rs := [_, _]) rfl (by simp) (.cell _ _ _ _ _ rfl (HS.blk (_, _, _) (by repeat (first | exact .head _ | apply List.Mem.tail))).2 Tryz.underlying28 rfl (by kernel_rfl) (.tmp .nil))) rfl ?_; exact ⟨⟨_, rfl, _, _, _, _, _, rfl, oN, oN, oN, oN, oN⟩, HS.below⟩
  ·replace hf := za.mk hf
   go_wp2_with (first | ((first | ((with_reducible refine gB rfl ?_); refine zC HS ?_) | ((with_reducible refine gA rfl ?_); refine zr HS ?_) | ((with_reducible refine gS rfl ?_); refine zt HS ?_) | (go_at_call 36; refine HS.go HO.out.calls ?_) | (go_at_call 37; refine HS.rd0 h1.out.calls ?_) | (go_at_call 37; refine HS.rd0 h2.out.calls ?_) | (go_at_call 37; refine HS.rd0 h3.out.calls ?_) | (go_at_call 38; refine HS.go0 (zR.calls _ _ _ _ _ hw.out) ?_) | (go_at_call 39; refine HS.fill (hf.out.calls (HS.blk _ (.tail _ (.head _))).2 (HS.blk _ (.head _)).2 (Ne.symm ((List.pairwise_cons.1 HS.apart).1 _ (.head _)))) ?_) | (go_at_call 16; refine HS.go (hr.out.calls HS.fmC) ?_)); clear HS; (try clear hc); intros; rename_i HS; have hc := HS.lk; simp only [Lk, LkC, Value.cells, List.toList_toArray, Nat.reduceAdd, Nat.zero_add, and_true, zf, zg, ze, zh] at HS hc) | (refine yh (.op 0 0 54 (.op 1 0 55 (.op 2 0 56 (.op 3 0 57 (.op 4 0 58 (.op 5 4 0 (.op 6 1 3 .nil))))))) [] HS (.cons _ (.cons_cons _ (.cons _ .slnil))) ?_; clear HS hc; intro HS hS; (repeat (refine RT.tk ?_)); refine RT.o4 ?_; intro K hK; refine y9 HS ?_; clear HS hS; intro w_ HS; have hc := HS.lk; simp only [Lk, LkC, Value.cells, List.toList_toArray, Nat.reduceAdd, Nat.zero_add, and_true, zf, zg, ze, zh] at HS hc; refine hK _ _ (yP (.cons _ (.cons_cons _ (.cons _ .slnil))) HS.lk) (fun hS => ?_); clear hK hS; (repeat (refine RT.pu ?_)); refine RT.nil ?_))
   refine bodyPost_ret (xd (rs := [_, _]) rfl (by simp) (.cell _ _ _ _ _ rfl (HS.blk (_, _, _) (by repeat (first | exact .head _ | apply List.Mem.tail))).2 Tryz.underlying28 rfl (by kernel_rfl) (.tmp .nil))) rfl ?_; exact ⟨⟨_, rfl, _, _, _, _, _, rfl, oN, oN, oN, oN, oN⟩, HS.below⟩
  ·replace hf := za.mk hf
   replace hr := za.mk hr
   have d5 := decide_eq_false c5
   go_wp2_with (first | ((first | ((with_reducible refine gB rfl ?_); refine zC HS ?_) | ((with_reducible refine gA rfl ?_); refine zr HS ?_) | ((with_reducible refine gS rfl ?_); refine zt HS ?_) | (go_at_call 36; refine HS.go HO.out.calls ?_) | (go_at_call 37; refine HS.rd0 h1.out.calls ?_) | (go_at_call 37; refine HS.rd0 h2.out.calls ?_) | (go_at_call 37; refine HS.rd0 h3.out.calls ?_) | (go_at_call 38; refine HS.go0 (zR.calls _ _ _ _ _ hw.out) ?_) | (go_at_call 39; refine HS.fill (hf.out.calls (HS.blk _ (.tail _ (.head _))).2 (HS.blk _ (.head _)).2 (Ne.symm ((List.pairwise_cons.1 HS.apart).1 _ (.head _)))) ?_) | (go_at_call 16; refine HS.go (hr.out.calls HS.fmC) ?_)); clear HS; (try clear hc); intros; rename_i HS; have hc := HS.lk; simp only [Lk, LkC, Value.cells, List.toList_toArray, Nat.reduceAdd, Nat.zero_add, and_true, zf, zg, ze, zh] at HS hc) | (refine yh (.op 0 0 54 (.op 1 0 55 (.op 2 0 56 (.op 3 0 57 (.op 4 0 58 (.op 5 4 0 (.op 6 1 3 .nil))))))) [] HS (.cons _ (.cons_cons _ (.cons _ .slnil))) ?_; clear HS hc; intro HS hS; (repeat (refine RT.tk ?_)); refine RT.o4 ?_; intro K hK; refine y9 HS ?_; clear HS hS; intro w_ HS; have hc := HS.lk; simp only [Lk, LkC, Value.cells, List.toList_toArray, Nat.reduceAdd, Nat.zero_add, and_true, zf, zg, ze, zh] at HS hc; refine hK _ _ (yP (.cons _ (.cons_cons _ (.cons _ .slnil))) HS.lk) (fun hS => ?_); clear hK hS; (repeat (refine RT.pu ?_)); refine RT.nil ?_))
   refine bodyPost_ret (xd (rs := [_, _]) rfl (by simp) (.cell _ _ _ _ _ rfl (HS.blk (_, _, _) (by repeat (first | exact .head _ | apply List.Mem.tail))).2 Tryz.underlying28 rfl (by kernel_rfl) (.tmp .nil))) rfl ?_; exact ⟨⟨_, rfl, _, _, _, _, _, rfl, oN, oN, oN, oN, oN⟩, HS.below⟩
  ·replace hf := za.mk hf
   replace hr := za.mk hr
   have d5 := decide_eq_false c5
   go_wp2_with (first | ((first | ((with_reducible refine gB rfl ?_); refine zC HS ?_) | ((with_reducible refine gA rfl ?_); refine zr HS ?_) | ((with_reducible refine gS rfl ?_); refine zt HS ?_) | (go_at_call 36; refine HS.go HO.out.calls ?_) | (go_at_call 37; refine HS.rd0 h1.out.calls ?_) | (go_at_call 37; refine HS.rd0 h2.out.calls ?_) | (go_at_call 37; refine HS.rd0 h3.out.calls ?_) | (go_at_call 38; refine HS.go0 (zR.calls _ _ _ _ _ hw.out) ?_) | (go_at_call 39; refine HS.fill (hf.out.calls (HS.blk _ (.tail _ (.head _))).2 (HS.blk _ (.head _)).2 (Ne.symm ((List.pairwise_cons.1 HS.apart).1 _ (.head _)))) ?_) | (go_at_call 16; refine HS.go (hr.out.calls HS.fmC) ?_)); clear HS; (try clear hc); intros; rename_i HS; have hc := HS.lk; simp only [Lk, LkC, Value.cells, List.toList_toArray, Nat.reduceAdd, Nat.zero_add, and_true, zf, zg, ze, zh] at HS hc) | (refine yh (.op 0 0 54 (.op 1 0 55 (.op 2 0 56 (.op 3 0 57 (.op 4 0 58 (.op 5 4 0 (.op 6 1 3 .nil))))))) [] HS (.cons _ (.cons_cons _ (.cons _ .slnil))) ?_; clear HS hc; intro HS hS; (repeat (refine RT.tk ?_)); refine RT.o4 ?_; intro K hK; refine y9 HS ?_; clear HS hS; intro w_ HS; have hc := HS.lk; simp only [Lk, LkC, Value.cells, List.toList_toArray, Nat.reduceAdd, Nat.zero_add, and_true, zf, zg, ze, zh] at HS hc; refine hK _ _ (yP (.cons _ (.cons_cons _ (.cons _ .slnil))) HS.lk) (fun hS => ?_); clear hK hS; (repeat (refine RT.pu ?_)); refine RT.nil ?_))
   refine bodyPost_ret (xd (rs := [_, _]) rfl (by simp) (.cell _ _ _ _ _ rfl (HS.blk (_, _, _) (by repeat (first | exact .head _ | apply List.Mem.tail))).2 Tryz.underlying28 rfl (by kernel_rfl) (.tmp .nil))) rfl ?_
   exact ⟨⟨_, rfl, HS.fmO⟩, HS.below⟩
abbrev wfI (n : Int) : Prop := (Lit.int .i64 n).wf = true
section
variable {s : ByteArray} (hs : s.size ≤ 140737488351232)
theorem Jq (a : Int) : wfI (yH s a).1 := by
 by_cases h : (yH s a).2.2 = 0
 ·have := zar s a h
  exact Zk _ this.1 this.2
 ·have e : (yH s a).1 = 0 := by
   unfold yH jI at h ⊢
   split at h
   ·rename_i c; rw [if_pos c]
   ·rename_i c
    rw [if_neg c]
    split at h
    ·exact absurd rfl h
    ·rename_i d; rw [if_neg d]
  rw [e]
  rfl
include hs
theorem yC (p q : Int) : ∃ v p' q', xc s p q v p' q' ∧ wfI v := by
 by_cases h : q = 0
 ·exact ⟨_, _, _, .inr ⟨h, 40, vX s hs p 40 (Nat.le_refl _)⟩, Jq p⟩
 ·exact ⟨_, _, _, .inl ⟨h, rfl, rfl, rfl⟩, rfl⟩
theorem za3 (p : Int) : (QK s p).1.size ≤ 4096 := by
 unfold QK
 split
 ·rename_i h
  have := vT s p 4096 hs (by decide) h
  split
  ·exact Nat.zero_le _
  ·rw [← z9, jo, List.length_drop, List.length_take, z9]
   omega
 ·exact Nat.zero_le _
theorem ZN (p q : Int) : ∃ v p' q', jh s p q v p' q' ∧ v.size ≤ 4096 := by
 by_cases h : q = 0
 ·exact ⟨_, _, _, .inr ⟨h, 50, QH s hs p 50 (Nat.le_refl _)⟩, za3 hs p⟩
 ·exact ⟨_, _, _, .inl ⟨h, rfl, rfl, rfl⟩, Nat.zero_le _⟩
theorem Y6 (p q : Int) : ∃ v p' q', Xu s p q v p' q' ∧ j8 v := by
 by_cases h : q = 0
 ·exact ⟨_, _, _, .inr ⟨h, 400, Qy s hs p 400 (Nat.le_refl _)⟩, Nat.le_trans (V6 (yH s) s hs p) (by decide), VO _ _ (fun a _ => Jq a) s p⟩
 ·exact ⟨_, _, _, .inl ⟨h, rfl, rfl, rfl⟩, Nat.zero_le _, by simp⟩
theorem zcJ (p q : Int) : ∃ x p' q', rEv s p q x p' q' ∧ Ze x := by
 obtain ⟨a, p1, q1, h1, g1⟩ := yC hs p q
 obtain ⟨l, p2, q2, h2, g2⟩ := Y6 hs p1 q1
 exact ⟨⟨a, l⟩, _, _, ⟨_, _, h1, h2⟩, g1, g2⟩
theorem zcw (p q : Int) : ∃ x p' q', Q9 s p q x p' q' ∧ Xd x := by
 obtain ⟨a, p1, q1, h1, g1⟩ := yC hs p q
 obtain ⟨l, p2, q2, h2, g2⟩ := yC hs p1 q1
 exact ⟨⟨a, l⟩, _, _, ⟨_, _, h1, h2⟩, g1, g2⟩
theorem zcQ (p q : Int) : ∃ x p' q', rIt s p q x p' q' ∧ (x.f0.size ≤ 1048576 ∧ ZD x) := by
 obtain ⟨t, p1, q1, h1, g1⟩ := ZN hs p q
 obtain ⟨a, p2, q2, h2, g2⟩ := yC hs p1 q1
 obtain ⟨b, p3, q3, h3, g3⟩ := yC hs p2 q2
 obtain ⟨l, p4, q4, h4, g4⟩ := Y6 hs p3 q3
 exact ⟨⟨t, ⟨a, b, l⟩⟩, _, _, ⟨_, _, _, _, _, _, h1, h2, h3, h4⟩, by show t.size ≤ _; omega, by show t.size ≤ _; omega, g2, g3, g4⟩
omit hs in
theorem Q1 {α : Type} {one : Int → Int → α → Int → Int → Prop} {Q : α → Prop} (h : ∀ p q, ∃ x p' q', one p q x p' q' ∧ Q x) : ∀ (m : Nat) (n p q : Int), n ≤ m → ∃ xs p' q', Zx one xs n p q p' q' ∧ xs.length ≤ m ∧ ∀ x ∈ xs, Q x
 | 0, n, p, q, hn => ⟨[], p, q, ⟨fun hz => by omega, rfl, rfl⟩, Nat.le_refl _, by simp⟩
 | m + 1, n, p, q, hn => by
  by_cases hz : 0 < n ∧ q = 0
  ·obtain ⟨x, p1, q1, h1, g1⟩ := h p q
   obtain ⟨xs, p2, q2, h2, h3, h4⟩ := Q1 h m (n - 1) p1 q1 (by omega)
   exact ⟨x :: xs, p2, q2, ⟨hz.1, hz.2, p1, q1, h1, h2⟩, by simpa using h3, by simpa using ⟨g1, h4⟩⟩
  ·exact ⟨[], p, q, ⟨hz, rfl, rfl⟩, Nat.zero_le _, by simp⟩
theorem zbG {α : Type} {one : ByteArray → Int → Int → α → Int → Int → Prop} {Q : α → Prop} (h : ∀ p q, ∃ x p' q', one s p q x p' q' ∧ Q x) (p q : Int) (m : Nat) : ∃ xs p' q', YC one s p q m xs p' q' ∧ xs.length ≤ m ∧ ∀ x ∈ xs, Q x := by
 obtain ⟨n, p1, q0, h1, _⟩ := yC hs p q
 by_cases c : q0 = 0
 ·cases hw : wiB n 0 m with
  | false => exact ⟨[], p1, 6, ⟨n, p1, q0, 6, h1, .inr (.inl ⟨c, hw, rfl⟩), ⟨fun hz => absurd hz.2 (by decide), rfl, rfl⟩⟩, Nat.zero_le _, by simp⟩
  | true =>
   obtain ⟨xs, p2, q2, h2, h3⟩ := Q1 (one := one s) h m n p1 0 (of_decide_eq_true hw).2
   exact ⟨xs, p2, q2, ⟨n, p1, q0, 0, h1, .inr (.inr ⟨c, hw, rfl⟩), h2⟩, h3⟩
 ·exact ⟨[], p1, q0, ⟨n, p1, q0, q0, h1, .inl ⟨c, rfl⟩, ⟨fun hz => c hz.2, rfl, rfl⟩⟩, Nat.zero_le _, by simp⟩
omit hs in
theorem JI {α : Type} (z x : α) (b : Bool) (p q : Int) : ∃ y n e, Yn z x b p q y n e ∧ (y = z ∨ y = x) := by
 by_cases h : q = 0
 ·cases b with
  | false => exact ⟨z, 0, 6, .inr (.inl ⟨h, rfl, rfl, rfl, rfl⟩), .inl rfl⟩
  | true => exact ⟨x, p, 0, .inr (.inr ⟨h, rfl, rfl, rfl, rfl⟩), .inr rfl⟩
 ·exact ⟨z, 0, q, .inl ⟨h, rfl, rfl, rfl⟩, .inl rfl⟩
theorem ZW {α : Type} {one : ByteArray → Int → Int → α → Int → Int → Prop} {Q : α → Prop} {ok : List α → Bool → Prop} (h : ∀ p q, ∃ x p' q', one s p q x p' q' ∧ Q x) (m : Nat) (hm : m ≤ 1024) (hok : ∀ l, l.length ≤ 1024 → (∀ x ∈ l, Q x) → ∃ b, ok l b) (p : Int) : ∃ ys n e, Xg one m ok s p ys n e ∧ ys.length ≤ 1024 ∧ ∀ x ∈ ys, Q x := by
 obtain ⟨xs, p1, q1, h1, h2, h3⟩ := zbG hs h p 0 m
 obtain ⟨b, hb⟩ := hok xs (by omega) h3
 obtain ⟨y, n, e, h4, h5⟩ := JI [] xs b p1 q1
 refine ⟨y, n, e, ⟨xs, p1, q1, b, h1, hb, h4⟩, ?_⟩
 rcases h5 with rfl | rfl
 ·exact ⟨Nat.zero_le _, by simp⟩
 ·exact ⟨by omega, h3⟩
omit hs in
theorem Yg {α : Type} {z : α} {f : ByteArray → Int → α → Int → Int → Prop} {Q : α → Prop} (hz : Q z) (h : ∀ p, ∃ v p' q', f s p v p' q' ∧ Q v) (p q : Int) : ∃ v p' q', beh z f s p q v p' q' ∧ Q v := by
 by_cases c : q = 0
 ·obtain ⟨v, p', q', h1, h2⟩ := h p
  exact ⟨v, p', q', .inr ⟨c, h1⟩, h2⟩
 ·exact ⟨z, p, q, .inl ⟨c, rfl, rfl, rfl⟩, hz⟩
theorem zai (p q : Int) : ∃ v p' q', XA s p q v p' q' ∧ (v.length ≤ 1024 ∧ ∀ x ∈ v, x.f0.size ≤ 1048576 ∧ ZD x) :=
 Yg (Q := fun v : List S86 => v.length ≤ 1024 ∧ ∀ x ∈ v, x.f0.size ≤ 1048576 ∧ ZD x) (by simp) (fun p => ZW hs (zcQ hs) 64 (by decide) (fun l _ _ => ⟨_, rfl⟩) p) p q
theorem Ju (p q : Int) : ∃ v p' q', Za s p q v p' q' ∧ (v.length ≤ 1024 ∧ ∀ x ∈ v, Xd x) :=
 Yg (Q := fun v : List S77 => v.length ≤ 1024 ∧ ∀ x ∈ v, Xd x) (by simp) (fun p => ZW hs (zcw hs) 32 (by decide) (fun l _ _ => ⟨_, rfl⟩) p) p q
theorem Vm (p q : Int) : ∃ v p' q', YB s p q v p' q' ∧ (v.length ≤ 1024 ∧ ∀ x ∈ v, Ze x) :=
 Yg (Q := fun v : List S108 => v.length ≤ 1024 ∧ ∀ x ∈ v, Ze x) (by simp) (fun p => ZW hs (zcJ hs) 3 (by decide) (fun l hl h => ⟨_, _, YO l (by omega) 1048577 (fun x hx => by have := (h x hx).2.1; omega) (l.length + (1048577 + 1)) (Nat.le_refl _)⟩) p) p q
theorem Vs (p q : Int) : ∃ v p' q', Yy s p q v p' q' ∧ (v.length ≤ 1024 ∧ ∀ x ∈ v, x.size ≤ 4096) :=
 Yg (Q := fun v : List ByteArray => v.length ≤ 1024 ∧ ∀ x ∈ v, x.size ≤ 4096) (by simp) (fun p => ZW hs (ZN hs) 8 (by decide) (fun l hl h => by
  obtain ⟨r, e, _⟩ := ZP l (by omega) (l.length + 301) (Nat.le_refl _)
  exact ⟨_, l.length + 301, by unfold xr.f; rw [zD e]⟩) p) p q
theorem zb8 (p q : Int) : ∃ v p' q', Js s p q v p' q' ∧ ZX v := by
 refine Yg (Q := ZX) ⟨rfl, rfl, Nat.zero_le _, rfl, ⟨Nat.zero_le _, by simp [z52]⟩, rfl⟩ (fun p => ?_) p q
 obtain ⟨v0, p1, q1, h1, g1⟩ := yC hs p 0
 obtain ⟨v1, p2, q2, h2, g2⟩ := yC hs p1 q1
 obtain ⟨v2, p3, q3, h3, g3⟩ := ZN hs p2 q2
 obtain ⟨v3, p4, q4, h4, g4⟩ := yC hs p3 q3
 obtain ⟨v4, p5, q5, h5, g5⟩ := Y6 hs p4 q4
 obtain ⟨v5, p6, q6, h6, g6⟩ := yC hs p5 q5
 obtain ⟨y, n, e, h7, h8⟩ := JI z52 ⟨v0, v1, v2, v3, v4, v5⟩ (qr v0 v1 v2 v3 v4 v5) p6 q6
 refine ⟨y, n, e, ⟨⟨v0, v1, v2, v3, v4, v5⟩, _, _, _, _, _, _, _, _, _, _, _, _, h1, h2, h3, h4, h5, h6, h7⟩, ?_⟩
 rcases h8 with rfl | rfl
 ·exact ⟨rfl, rfl, Nat.zero_le _, rfl, ⟨Nat.zero_le _, by simp [z52]⟩, rfl⟩
 ·exact ⟨g1, g2, by show v2.size ≤ _; omega, g4, g5, g6⟩
theorem Q8 (p q : Int) (m : Nat) : ∃ (n : Nat) (p' q' : Int), ZE s p q m (n : Int) p' q' ∧ n ≤ m := by
 obtain ⟨n, p1, q1, h1, _⟩ := yC hs p q
 by_cases c : q1 = 0
 ·cases hw : inB n 0 m with
  | false => exact ⟨0, p1, 6, ⟨n, q1, h1, .inr (.inl ⟨c, hw, rfl, rfl⟩)⟩, Nat.zero_le _⟩
  | true =>
   have h2 := Bool.and_eq_true_iff.1 hw
   have h3 := of_decide_eq_true h2.1
   have h4 := of_decide_eq_true h2.2
   exact ⟨n.toNat, p1, 0, ⟨n, q1, h1, .inl ⟨c, hw, by omega, rfl⟩⟩, by omega⟩
 ·exact ⟨0, p1, q1, ⟨n, q1, h1, .inr (.inr ⟨c, rfl, rfl⟩)⟩, Nat.zero_le _⟩
theorem Jt : ∀ (n : Nat) (p q : Int), ∃ l p' q', jR s n p q l p' q' ∧ l.length ≤ n ∧ ∀ x ∈ l, ZX x
 | 0, p, q => ⟨[], p, q, .done, Nat.le_refl _, by simp⟩
 | n + 1, p, q => by
  by_cases c : q = 0
  ·subst c
   obtain ⟨x, p1, q1, h1, g1⟩ := zb8 hs p 0
   obtain ⟨l, p2, q2, h2, h3, h4⟩ := Jt n p1 q1
   exact ⟨x :: l, p2, q2, .step h1 h2, by simpa using h3, by simpa using ⟨g1, h4⟩⟩
  ·exact ⟨[], p, q, .stop c, Nat.zero_le _, by simp⟩
theorem zaB (p q : Int) : ∃ x p' q', QS s p q x p' q' ∧ YA x := by
 obtain ⟨v0, p1, q1, h1, g1⟩ := yC hs p q
 obtain ⟨v1, p2, q2, h2, g2⟩ := ZN hs p1 q1
 obtain ⟨v2, p3, q3, h3, g3⟩ := Vm hs p2 q2
 obtain ⟨v3, p4, q4, h4, g4⟩ := yC hs p3 q3
 obtain ⟨v4, p5, q5, h5, g5⟩ := yC hs p4 q4
 exact ⟨⟨v0, v1, v2, v3, v4⟩, _, _, ⟨_, _, _, _, _, _, _, _, _, _, _, _, _, h1, h2, h3, h4, h5, rfl⟩, g1, by show v1.size ≤ _; omega, ⟨by show v2.length ≤ _; omega, g3.2⟩, g4, g5⟩
theorem YN : ∀ (n : Nat) (p q : Int), ∃ l p' q', xR s n p q l p' q' ∧ l.length ≤ n ∧ ∀ x ∈ l, YA x
 | 0, p, q => ⟨[], p, q, .done, Nat.le_refl _, by simp⟩
 | n + 1, p, q => by
  by_cases c : q = 0
  ·subst c
   obtain ⟨x, p1, q1, h1, g1⟩ := zaB hs p 0
   obtain ⟨l, p2, q2, h2, h3, h4⟩ := YN n p1 q1
   exact ⟨x :: l, p2, q2, .step h1 h2, by simpa using h3, by simpa using ⟨g1, h4⟩⟩
  ·exact ⟨[], p, q, .stop c, Nat.zero_le _, by simp⟩
theorem zaU (p q : Int) {a0 a1 a2 : Int} (h0 : wfI a0) (h1 : wfI a1) (h2 : wfI a2) : ∃ y p' q', Yz s p q a0 a1 a2 y p' q' ∧ FmB y := by
 have hw0 : wfI 0 := rfl
 unfold Yz
 split
 ·obtain ⟨v1, p1, q1, e1, g1⟩ := yC hs p q
  obtain ⟨v2, p2, q2, e2, g2⟩ := yC hs p1 q1
  obtain ⟨l, p3, q3, e3, g3⟩ := Vs hs p2 q2
  exact ⟨_, _, _, ⟨_, _, _, _, _, _, _, e1, e2, e3, rfl⟩, h0, h1, h2, g1, g2, ⟨by show l.length ≤ _; omega, fun y hy => by have := g3.2 y hy; omega⟩, by simp, by simp, by simp, by simp⟩
 split
 ·obtain ⟨n, p1, q1, e1, g1⟩ := Q8 hs p q 8
  obtain ⟨l, p2, q2, e2, g2, g3⟩ := Jt hs n p1 q1
  exact ⟨_, _, _, ⟨_, _, _, _, e1, e2, rfl⟩, h0, h1, h2, hw0, hw0, by simp, ⟨by show l.length ≤ _; omega, g3⟩, by simp, by simp, by simp⟩
 split
 ·obtain ⟨v1, p1, q1, e1, g1⟩ := yC hs p q
  exact ⟨_, _, _, ⟨_, e1, rfl⟩, h0, h1, h2, hw0, g1, by simp, by simp, by simp, by simp, by simp⟩
 split
 ·obtain ⟨v1, p1, q1, e1, g1⟩ := yC hs p q
  obtain ⟨v2, p2, q2, e2, g2⟩ := yC hs p1 q1
  obtain ⟨n, p3, q3, e3, g3⟩ := Q8 hs p2 q2 16
  obtain ⟨l, p4, q4, e4, g4, g5⟩ := YN hs n p3 q3
  exact ⟨_, _, _, ⟨_, _, _, _, _, _, _, _, _, _, e1, e2, e3, e4, rfl⟩, h0, h1, h2, g1, g2, by simp, by simp, ⟨by show l.length ≤ _; omega, g5⟩, by simp, by simp⟩
 ·obtain ⟨v1, p1, q1, e1, g1⟩ := yC hs p q
  obtain ⟨l, p2, q2, e2, g2⟩ := zai hs p1 q1
  obtain ⟨m, p3, q3, e3, g3⟩ := Ju hs p2 q2
  exact ⟨_, _, _, ⟨_, _, _, _, _, _, _, e1, e2, e3, rfl⟩, h0, h1, h2, hw0, g1, by simp, by simp, by simp, ⟨by show l.length ≤ _; omega, fun y hy => (g2.2 y hy).1, fun y hy => (g2.2 y hy).2⟩, ⟨by show m.length ≤ _; omega, g3.2⟩⟩
theorem zbW : ∃ x e, Zc s x e := by
 obtain ⟨t, e1, ho⟩ : ∃ t e1, ZR s = (t, e1) := ⟨_, _, rfl⟩
 have hop : QQ s t e1 := ⟨s.size + 10, by rw [← ho]; exact Y9 s hs _ (by omega)⟩
 by_cases c : e1 = 0
 ·have ht : t.size ≤ s.size := by
   unfold ZR at ho
   split at ho
   ·injection ho with _ h; rw [c] at h; exact absurd h (by decide)
   ·split at ho
    ·injection ho with h _
     rw [← h, ← z9, jo, List.length_drop, List.length_take, z9]
     omega
    ·injection ho with _ h; rw [c] at h; exact absurd h (by decide)
  have hs2 : t.size ≤ 140737488351232 := by omega
  obtain ⟨a0, p, q, h0, g0⟩ := yC hs2 0 0
  by_cases d : q = 0 ∧ ¬ (1 ≤ a0 ∧ a0 ≤ 5)
  ·exact ⟨fm0, 6, t, e1, hop, .inr ⟨c, by omega, a0, p, q, h0, .inl ⟨d.1, d.2, rfl, rfl⟩⟩⟩
  ·obtain ⟨a1, p1, q1, h1, g1⟩ := yC hs2 p q
   obtain ⟨a2, p2, q2, h2, g2⟩ := yC hs2 p1 q1
   by_cases f : q2 = 0
   ·obtain ⟨y, p3, q3, h3, g3⟩ := zaU hs2 p2 0 g0 g1 g2
    have key : ∃ x e, zaI t y p3 q3 x e := by
     by_cases h : q3 = 0
     ·by_cases hp : p3 < t.size
      ·exact ⟨_, _, .inr (.inl ⟨h, hp, rfl, rfl⟩)⟩
      ·cases hr : jY y with
       | false => exact ⟨_, _, .inr (.inr ⟨h, hp, _, vQ g3, .inl ⟨hr, rfl, rfl⟩⟩)⟩
       | true => exact ⟨_, _, .inr (.inr ⟨h, hp, _, vQ g3, .inr ⟨hr, rfl, rfl⟩⟩)⟩
     ·exact ⟨_, _, .inl ⟨h, rfl, rfl⟩⟩
    obtain ⟨x, e, hk⟩ := key
    exact ⟨x, e, t, e1, hop, .inr ⟨c, by omega, a0, p, q, h0, .inr ⟨d, a1, p1, q1, a2, p2, q2, h1, h2, .inr ⟨f, y, p3, q3, h3, hk⟩⟩⟩⟩
   ·exact ⟨fm0, q2, t, e1, hop, .inr ⟨c, by omega, a0, p, q, h0, .inr ⟨d, a1, p1, q1, a2, p2, q2, h1, h2, .inl ⟨f, rfl, rfl⟩⟩⟩⟩
 ·exact ⟨fm0, e1, t, e1, hop, .inl ⟨c, rfl, rfl⟩⟩
end
abbrev fA : Fm := ⟨3, 1, 2, 0, 3, [], [], [], [], []⟩
def yA : ByteArray := ⟨#[6, 2, 4, 6, 140, 141, 102, 171]⟩
theorem putA : vL fA yA 0 := by
 rcases J0 (x := fA) ⟨rfl, rfl, rfl, rfl, rfl, by simp, by simp, by simp, by simp, by simp⟩ with ⟨h, _⟩ | ⟨_, h, _⟩
 ·exact absurd h (by decide +kernel)
 ·have e : YJ (Y2 fA) = yA := by decide +kernel
  rwa [e] at h
theorem numA {t : ByteArray} (ht : t = (⟨#[6, 2, 4, 6]⟩ : ByteArray)) (p v p' : Int) (h : yH ⟨#[6, 2, 4, 6]⟩ p = (v, p', 0)) : xc t p 0 v p' 0 := .inr ⟨rfl, 40, by subst ht; rw [← h]; exact vX _ (by decide +kernel) p 40 (Nat.le_refl _)⟩
theorem getA : Zc yA fA 0 := by
 obtain ⟨t, ht⟩ : ∃ t, t = (⟨#[6, 2, 4, 6]⟩ : ByteArray) := ⟨_, rfl⟩
 have hz : t.size = 4 := by rw [ht]; rfl
 have hr : jZ fA true := by
  have h := vQ (x := fA) ⟨rfl, rfl, rfl, rfl, rfl, by simp, by simp, by simp, by simp, by simp⟩
  have e : jY fA = true := by decide +kernel
  rwa [e] at h
 refine ⟨t, 0, ⟨100, ?_⟩, .inr ⟨rfl, by omega, 3, 1, 0, numA ht _ _ _ (by decide +kernel), .inr ⟨by decide, 1, 2, 0, 2, 3, 0, numA ht _ _ _ (by decide +kernel), numA ht _ _ _ (by decide +kernel), .inr ⟨rfl, fA, 4, 0, ?_, .inr (.inr ⟨rfl, by omega, true, hr, .inr ⟨rfl, rfl, rfl⟩⟩)⟩⟩⟩⟩
 ·rw [ht, Y9 yA (by decide +kernel) 100 (by decide +kernel)]
  exact congrArg some (by decide +kernel)
 ·exact ⟨3, numA ht _ _ _ (by decide +kernel), rfl⟩
theorem zcO {w0 w : World} {bs : List Bk} {A5 A6 A7 A8 A9 : Option Addr} {c5 c6 c7 c8 c9 : Nat} (H : Sat [] w0 w bs (Yr w0 fA A5 c5 A6 c6 A7 c7 A8 c8 A9 c9)) : Calls Tryz.prog 15 #[.agg #[.int .i64 3, .int .i64 1, .int .i64 2, .int .i64 0, .int .i64 3, .slice none 0 0, .slice none 0 0, .slice none 0 0, .slice none 0 0, .slice none 0 0], .agg #[.int .i64 3, .int .i64 1, .int .i64 2, .int .i64 0, .int .i64 3, .slice A5 0 c5, .slice A6 0 c6, .slice A7 0 c7, .slice A8 0 c8, .slice A9 0 c9]] w fun e w' => e = .returned (.bool true) ∧ Below w.heap.size w w' :=
 qY (p0 := true) (p1 := true) (p2 := true) (p3 := true) (p4 := true) (b5 := true) (b6 := true) (b7 := true) (b8 := true) (b9 := true) rfl rfl rfl rfl rfl (jw (vE (H.rows _ (.head _)).2)) (jG (vE (H.rows _ (.tail _ (.head _))).2)) (jr (vE (H.rows _ (.tail _ (.tail _ (.head _)))).2)) (jJ (vE (H.rows _ (.tail _ (.tail _ (.tail _ (.head _))))).2)) (jF (vE (H.rows _ (.tail _ (.tail _ (.tail _ (.tail _ (.head _)))))).2))
theorem zcL (w : World) : Calls Tryz.prog 15 #[.agg #[.int .i64 3, .int .i64 1, .int .i64 2, .int .i64 0, .int .i64 3, .slice none 0 0, .slice none 0 0, .slice none 0 0, .slice none 0 0, .slice none 0 0], .agg #[.int .i64 0, .int .i64 0, .int .i64 0, .int .i64 0, .int .i64 0, .slice none 0 0, .slice none 0 0, .slice none 0 0, .slice none 0 0, .slice none 0 0]] w fun e w' => e = .returned (.bool false) ∧ Below w.heap.size w w' :=
 qY (p0 := false) (p1 := false) (p2 := false) (p3 := true) (p4 := false) (b5 := true) (b6 := true) (b7 := true) (b8 := true) (b9 := true) rfl rfl rfl rfl rfl (jw qI) (jG qI) (jr qI) (jJ qI) (jF qI)
theorem YD (w : World) : Calls Tryz.prog 9 #[] w fun e w' => e = .returned (.bool true) ∧ Below w.heap.size w w' := by
 have HS := Sat.nil w
 obtain ⟨y, hy⟩ : ∃ y, y = yA := ⟨_, rfl⟩
 have hp : za (vL fA y 0) := ⟨hy ▸ putA⟩
 have hg : za (Zc y fA 0) := ⟨hy ▸ getA⟩
 have y0 : (y.size : Int) = 8 := by subst hy; decide +kernel
 have y1 : ((y.size : Int) == 8) = true := by subst hy; decide +kernel
 have y2 : decide ((4 : Int) ≤ (y.size : Int)) = true := by subst hy; decide +kernel
 have y3 : decide (4 ≤ y.size) = true := by subst hy; decide +kernel
 have y4 : 4 ≤ y.size := by subst hy; decide +kernel
 have y5 : ((y.extract 0 4).toList == ([6, 2, 4, 6] : List UInt8)) = true := by subst hy; decide +kernel
 have y6 : (y.extract 0 4).toList = ([6, 2, 4, 6] : List UInt8) := by subst hy; decide +kernel
 have y7 : (y.extract 0 4 == (⟨#[6, 2, 4, 6]⟩ : ByteArray)) = true := by subst hy; decide +kernel
 clear hy
 go_enter Tryz.func9, Tryz.ntmps9
 go_wp2_with ((first | ((with_reducible refine gB rfl ?_); refine zC HS ?_) | ((with_reducible refine gA rfl ?_); refine zr HS ?_) | ((with_reducible refine gS rfl ?_); refine zt HS ?_) | (go_at_call 7; refine HS.go (vL.calls hp.out ⟨_, _, _, _, _, rfl, qI, qI, qI, qI, qI⟩) ?_) | (go_at_call 13; refine HS.got (F := fun cs => .tuple #[.agg cs.toArray, .int .i64 0]) (Zc.calls hg.out) ?_) | (go_at_call 15; with_reducible refine HS.go (zcL _) ?_) | (go_at_call 15; with_reducible refine HS.go (zcO HS) ?_)); clear HS; (try clear hc); intros; rename_i HS; have hc := HS.lk; simp only [Lk, LkC, Value.cells, List.toList_toArray, Nat.reduceAdd, Nat.zero_add, and_true, zf, zg, ze, zh, List.length_nil] at HS hc)
 go_ret
 exact ⟨rfl, HS.below⟩
def Y4 (l : List Nat) : List Value := ye .u8 (l.map fun (n : Nat) => (n : Int))
theorem zb9 (s : ByteArray) : Y4 (bl s) = ye .u8 (bytesOf s) := by rw [Y4, qC]
structure vG (l : List Nat) (S : ByteArray) (at_ bits i : Nat) : Prop where
 len : l.length = S.size
 lt : ∀ c ∈ l, c < 256
 val : val l = val (bl S) ^^^ 2 ^ at_ * (bits % 2 ^ i)
theorem vG.step {l : List Nat} {S : ByteArray} {a x i : Nat} (h : vG l S a x i) (hb : x / 2 ^ i % 2 = 1) (hj : (a + i) / 8 < l.length) : vG (l.set ((a + i) / 8) (l[(a + i) / 8] ^^^ 2 ^ ((a + i) % 8))) S a x (i + 1) := by
 have h8 : 2 ^ ((a + i) % 8) < 256 := Nat.pow_lt_pow_right (a := 2) (m := (a + i) % 8) (n := 8) (by decide) (Nat.mod_lt _ (by decide))
 refine ⟨by rw [List.length_set]; exact h.len, fun c hc => ?_, ?_⟩
 ·rcases List.mem_or_eq_of_mem_set hc with hc | rfl
  ·exact h.lt c hc
  ·exact Nat.xor_lt_two_pow (n := 8) (h.lt _ (List.getElem_mem hj)) h8
 ·have e : 8 * ((a + i) / 8) + (a + i) % 8 = a + i := by omega
  rw [zcs l _ _ hj h.lt (Nat.mod_lt _ (by decide)), h.val, Qq, if_pos hb, e, Nat.xor_assoc]
theorem vG.skip {l : List Nat} {S : ByteArray} {a x i : Nat} (h : vG l S a x i) (hb : ¬ x / 2 ^ i % 2 = 1) : vG l S a x (i + 1) :=
 ⟨h.len, h.lt, by rw [h.val, Qq, if_neg hb]⟩
theorem V8 (bits : Int) (h0 : 0 ≤ bits) (h1 : bits < 4294967296) (i : Nat) : Go.bits .and .u32 (bits / 2 ^ i) 1 = ((bits.toNat / 2 ^ i % 2 : Nat) : Int) := by
 obtain ⟨x, rfl⟩ := Int.eq_ofNat_of_zero_le h0
 have e : ((x : Int) / 2 ^ i) = ((x / 2 ^ i : Nat) : Int) := by simp
 have hlt : x / 2 ^ i < 4294967296 := Nat.lt_of_le_of_lt (Nat.div_le_self _ _) (by omega)
 rw [e, Jy _ hlt, Int.toNat_natCast]
theorem zb6 (at_ : Int) (h0 : 0 ≤ at_) (i y : Nat) (hy : y < 256) : Go.bits .xor .u8 (y : Int) (2 ^ ((at_ + (i : Int)) % 8).toNat % 256) = ((y ^^^ 2 ^ ((at_.toNat + i) % 8) : Nat) : Int) := by
 obtain ⟨a, rfl⟩ := Int.eq_ofNat_of_zero_le h0
 have e1 : (((a : Int) + (i : Int)) % 8).toNat = (a + i) % 8 := by omega
 have h8 : 2 ^ ((a + i) % 8) < 256 := Nat.pow_lt_pow_right (a := 2) (m := (a + i) % 8) (n := 8) (by decide) (Nat.mod_lt _ (by decide))
 have e2 : ((2 : Int) ^ ((a + i) % 8)) = ((2 ^ ((a + i) % 8) : Nat) : Int) := by simp
 rw [e1, Int.toNat_natCast, e2]
 generalize 2 ^ ((a + i) % 8) = q at h8
 have e3 : (q : Int) % 256 = (q : Int) := by omega
 rw [e3, zcM y q hy h8]
theorem zbC (l : List Nat) (j y : Nat) : ye .u8 ((l.map fun (n : Nat) => (n : Int)).set j (y : Int)) = Y4 (l.set j y) := by
 rw [Y4, List.map_set]
abbrev jN (f : FuncId) (w : World) (v u : Value) : Prop := ∀ w', Below w.heap.size w w' → Calls Tryz.prog f #[v, u] w' fun e w2 => e = .returned (.bool true) ∧ Below w'.heap.size w' w2
theorem zb7 (w : World) (A B : Option Addr) (c d : Nat) : jN 40 w (.slice A 0 c) (.slice B 0 d) := fun w' _ => by
 have HS := Sat.nil w'
 go_enter Tryz.func40, Tryz.ntmps40
 go_wp2
 have HZ := za.mk HS
 clear HS
 go_loopg [5] 0 (fun kq vi wr => vi = .int .i64 0 ∧ za (Sat [] w' wr [] []))
 case atStart => exact ⟨rfl, HZ⟩
 case round =>
  obtain ⟨rfl, HT⟩ := hrel
  go_wp2
  go_ret
  exact ⟨rfl, HT.out.below⟩
theorem zb5 (w : World) (A B : Option Addr) (c d : Nat) : jN 41 w (.slice A 0 c) (.slice B 0 d) := fun w' _ => by
 have HS := Sat.nil w'
 go_enter Tryz.func41, Tryz.ntmps41
 go_wp2
 have HZ := za.mk HS
 clear HS
 go_loopg [5] 0 (fun kq vi wr => vi = .int .i64 0 ∧ za (Sat [] w' wr [] []))
 case atStart => exact ⟨rfl, HZ⟩
 case round =>
  obtain ⟨rfl, HT⟩ := hrel
  go_wp2
  go_ret
  exact ⟨rfl, HT.out.below⟩
theorem zch (w : World) (A B : Option Addr) (c d : Nat) : jN 42 w (.slice A 0 c) (.slice B 0 d) := fun w' _ => by
 have HS := Sat.nil w'
 go_enter Tryz.func42, Tryz.ntmps42
 go_wp2
 have HZ := za.mk HS
 clear HS
 go_loopg [5] 0 (fun kq vi wr => vi = .int .i64 0 ∧ za (Sat [] w' wr [] []))
 case atStart => exact ⟨rfl, HZ⟩
 case round =>
  obtain ⟨rfl, HT⟩ := hrel
  go_wp2
  go_ret
  exact ⟨rfl, HT.out.below⟩
theorem zck (w : World) (A B : Option Addr) (c d : Nat) : jN 43 w (.slice A 0 c) (.slice B 0 d) := fun w' _ => by
 have HS := Sat.nil w'
 go_enter Tryz.func43, Tryz.ntmps43
 go_wp2
 have HZ := za.mk HS
 clear HS
 go_loopg [5] 0 (fun kq vi wr => vi = .int .i64 0 ∧ za (Sat [] w' wr [] []))
 case atStart => exact ⟨rfl, HZ⟩
 case round =>
  obtain ⟨rfl, HT⟩ := hrel
  go_wp2
  go_ret
  exact ⟨rfl, HT.out.below⟩
theorem zcu (w : World) (A B : Option Addr) (c d : Nat) : jN 44 w (.slice A 0 c) (.slice B 0 d) := fun w' _ => by
 have HS := Sat.nil w'
 go_enter Tryz.func44, Tryz.ntmps44
 go_wp2
 have HZ := za.mk HS
 clear HS
 go_loopg [5] 0 (fun kq vi wr => vi = .int .i64 0 ∧ za (Sat [] w' wr [] []))
 case atStart => exact ⟨rfl, HZ⟩
 case round =>
  obtain ⟨rfl, HT⟩ := hrel
  go_wp2
  go_ret
  exact ⟨rfl, HT.out.below⟩
theorem zb3 {a0 a1 a2 a3 a4 : Int} {v5 v6 v7 v8 v9 u5 u6 u7 u8 u9 : Value} {w : World} (h5 : jN 40 w v5 u5) (h6 : jN 41 w v6 u6) (h7 : jN 42 w v7 u7) (h8 : jN 43 w v8 u8) (h9 : jN 44 w v9 u9) : Calls Tryz.prog 14 #[.agg #[.int .i64 a0, .int .i64 a1, .int .i64 a2, .int .i64 a3, .int .i64 a4, v5, v6, v7, v8, v9], .agg #[.int .i64 a0, .int .i64 a1, .int .i64 a2, .int .i64 a3, .int .i64 a4, u5, u6, u7, u8, u9]] w fun e w' => e = .returned (.bool true) ∧ Below w.heap.size w w' := by
 have HS := Sat.nil w
 replace h5 := za.mk h5
 replace h6 := za.mk h6
 replace h7 := za.mk h7
 replace h8 := za.mk h8
 replace h9 := za.mk h9
 go_enter Tryz.func14, Tryz.ntmps14
 go_wp2_with ((first | ((with_reducible refine gB rfl ?_); refine zC HS ?_) | ((with_reducible refine gA rfl ?_); refine zr HS ?_) | ((with_reducible refine gS rfl ?_); refine zt HS ?_) | (go_at_call 40; refine HS.go (h5.out _ HS.below) ?_) | (go_at_call 41; refine HS.go (h6.out _ HS.below) ?_) | (go_at_call 42; refine HS.go (h7.out _ HS.below) ?_) | (go_at_call 43; refine HS.go (h8.out _ HS.below) ?_) | (go_at_call 44; refine HS.go (h9.out _ HS.below) ?_)); clear HS; (try clear hc); intros; rename_i HS; have hc := HS.lk; simp only [Lk, LkC, Value.cells, List.toList_toArray, Nat.reduceAdd, Nat.zero_add, and_true, zf, zg, ze, zh] at HS hc)
 go_ret
 exact ⟨rfl, HS.below⟩
end Go.Proofs.YtepipnpfggnadaaGreat.Q
