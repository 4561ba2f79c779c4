/- Texts of this session laid together (shrink.py): what the claim's law rests on. -/
import Derived.Below
import Derived.Deep.Draws
import Derived.Deep.AppendLies
import Derived.Maps.AppendAt
import Derived.OwnWalk
import Derived.Laws.BytesArg
import Derived.Laws.MakeOwn
import Derived.Laws.OwnMore
import Derived.Deep.OwnRows
import Derived.Tactics
import Derived.Lib.ConvBytes
import Derived.Laws.Slices
import Derived.WalkKit
import Derived.KernelRfl
import Derived.RowKit3
import Derived.Deep.LoopGhost
import Derived.Deep.QuietTactic
import Derived.BigQuiet
import Derived.WideLaws
import Derived.Deep.DeepCutAuto
import Derived.Deep.CutBlock
import Derived.Deep.RegionHeld3
import Derived.Laws.Rows
import Derived.Lib.AppendStr
import Derived.ArgAppend
import Derived.Laws.IdiomCopy
import Derived.RowKit
import Derived.OrdersHeld
import Derived.Laws.BitsLemmas
import Derived.Laws.StructEq
import Derived.Test.YtbfehjncllkogaaProg
import Derived.WalkMore
import Derived.Lib.Strings
import Derived.Outline
import Derived.ChangeArms
import Derived.Deep.Slices
import Derived.SizedLaws
import Derived.Test.YtbfehjncllkogaaRows
import Derived.Test.YtbfehjncllkogaaTCodecBacki
set_option linter.unusedVariables false
set_option linter.unusedSimpArgs false
set_option maxRecDepth 100000
set_option maxHeartbeats 8000000
open List renaming setIfInBounds_toArray → Vt
open List renaming set_cons_zero → Vu
open List renaming set_cons_succ → Vv
open List renaming map_toArray → Vw
open Option renaming bind_eq_some_iff → Vx
open Go.World renaming block_lt_of_cell? → Vy
open ByteArray renaming size_append → Vz
open Bool renaming eq_false_iff → VA
open List renaming length_append → VB
namespace Go.Proofs.Ytbfehjncllkogaa.Q
open Go.RowKit Go.Proofs.YtbfehjncllkogaaW.PrintWords Go.Proofs.YtbfehjncllkogaaW.PrintLast Go.Proofs.YtbfehjncllkogaaW.PrintMore
theorem At.next {s : ByteArray} {p : Nat} {x y : ByteArray} (h : At s p (x ++ y)) {q : Nat} (hq : q = p + x.size) : At s q y := by
 subst hq
 exact h.right
theorem Xj (s : ByteArray) (hs : s.size ≤ 140737488351232) (p : Nat) (c n : Int) (st : ByteArray) (r : Int) (l : List Int) (x : Int) (hb : vS c n st r l x = true) (hat : At s p (Zz c n st r l x)) (k : Nat) (hk : 3000 ≤ k) :
  yB.f k s (p : Int) = some (c, n, st, r, l, x, ((p + (Zz c n st r l x).size : Nat) : Int), 0) := by
 obtain ⟨w1, w2, w3, w4, w5, w6, w7⟩ := ZZ hb
 unfold Zz at hat ⊢
 have a5 := hat.left
 have a4 := a5.left
 have a3 := a4.left
 have a2 := a3.left
 have f1 := yW s hs (p : Int) 0 k (by omega)
 rw [xG s c w1 p a2.left] at f1
 have f2 := yW s hs ((p + (yo c).size : Nat) : Int) 0 k (by omega)
 rw [xG s n w2 _ a2.right] at f2
 have f3 := jH s hs ((p + (yo c).size + (yo n).size : Nat) : Int) 0 k (by omega)
 rw [jJ s st (by omega) _ (a3.next (by rw [ya, Nat.add_assoc]))] at f3
 have f4 := yW s hs ((p + (yo c).size + (yo n).size + (xM st).size : Nat) : Int) 0 k (by omega)
 rw [xG s r w4 _ (a4.next (by simp only [ya, Nat.add_assoc]))] at f4
 have f5 := vx s hs ((p + (yo c).size + (yo n).size + (xM st).size + (yo r).size : Nat) : Int) 0 k (by omega)
 rw [vy s l w5.2 w6 _ (a5.next (by simp only [ya, Nat.add_assoc]))] at f5
 have f6 := yW s hs ((p + (yo c).size + (yo n).size + (xM st).size + (yo r).size + (yV yo l).size : Nat) : Int) 0 k (by omega)
 rw [xG s x w7 _ (hat.next (by simp only [ya, Nat.add_assoc]))] at f6
 unfold yB.f
 rw [zN f1, zN f2, zN f3, zN f4, zN f5, zN f6, if_pos rfl, zN (Xh c n st r l x (by omega) k (by omega)), hb, if_pos rfl]
 simp only [ya, Nat.add_assoc]
theorem Z7 (s : ByteArray) (hs : s.size ≤ 140737488351232) (p : Nat) (c n : Int) (st : ByteArray) (r : Int) (l : List S81) (hb : vH c n st r l = true) (hat : At s p (Zy c n st r l)) (k : Nat) (hk : 3000 ≤ k) :
  xm.f k s (p : Int) = some (c, n, st, r, l, ((p + (Zy c n st r l).size : Nat) : Int), 0) := by
 obtain ⟨w1, w2, w3, w4, w5, w6⟩ := Zb hb
 unfold Zy at hat ⊢
 have a4 := hat.left
 have a3 := a4.left
 have a2 := a3.left
 have f1 := yW s hs (p : Int) 0 k (by omega)
 rw [xG s c w1 p a2.left] at f1
 have f2 := yW s hs ((p + (yo c).size : Nat) : Int) 0 k (by omega)
 rw [xG s n w2 _ a2.right] at f2
 have f3 := jH s hs ((p + (yo c).size + (yo n).size : Nat) : Int) 0 k (by omega)
 rw [jJ s st (by omega) _ (a3.next (by rw [ya, Nat.add_assoc]))] at f3
 have f4 := yW s hs ((p + (yo c).size + (yo n).size + (xM st).size : Nat) : Int) 0 k (by omega)
 rw [xG s r w4 _ (a4.next (by simp only [ya, Nat.add_assoc]))] at f4
 have f5 := Xr s hs 3 (by omega) ((p + (yo c).size + (yo n).size + (xM st).size + (yo r).size : Nat) : Int) 0 k (by omega)
 rw [jM s (fun a => evE s a 0) evY l 3 w5 (by decide) _ (fun x hx q hq => Jn s x (w6 x hx).1.1 (w6 x hx).1.2.2 (w6 x hx).2 q hq) (hat.next (by simp only [ya, Nat.add_assoc]))] at f5
 have f5' : zy.f k s ((p + (yo c).size + (yo n).size + (xM st).size + (yo r).size : Nat) : Int) 0 3 = _ := f5
 unfold xm.f
 rw [zN f1, zN f2, zN f3, zN f4, zN f5', if_pos rfl, zN (Zs c n st r l (by omega) 300 (fun x hx => by have := (w6 x hx).2; omega) k (by omega)), hb, if_pos rfl]
 simp only [ya, Nat.add_assoc]
theorem Yy (s : ByteArray) (hs : s.size ≤ 140737488351232) (p : Nat) (l : List S93) (hb : q8 l = true) (hat : At s p (yV itY l)) (k : Nat) (hk : 15000 ≤ k) :
  xz.f k s (p : Int) = some (l, ((p + (yV itY l).size : Nat) : Int), 0) := by
 obtain ⟨w1, w2⟩ := jq hb
 have f5 := XP s hs 64 (by omega) (p : Int) 0 k (by omega)
 rw [jM s (fun a => itE s a 0) itY l 64 w1 (by decide) _ (fun x hx q hq => Jp s x (by have := (w2 x hx).2.1; omega) (w2 x hx).1.2.1 (w2 x hx).1.2.2.1 (w2 x hx).1.2.2.2.2 (w2 x hx).2.2 q hq) hat] at f5
 have f5' : zv.f k s (p : Int) 0 64 = _ := f5
 unfold xz.f
 rw [zN f5', if_pos rfl, zN (Z8 l (by omega) 9000 (fun x hx => by have h1 := (w2 x hx).2.1; have h2 := (w2 x hx).2.2; omega) k (by omega)), hb, if_pos rfl]
theorem Zk (s : ByteArray) (hs : s.size ≤ 140737488351232) (p : Nat) (l : List S97) (hb : qp l = true) (hat : At s p (yV veY l)) (k : Nat) (hk : 15000 ≤ k) :
  xc.f k s (p : Int) = some (l, ((p + (yV veY l).size : Nat) : Int), 0) := by
 obtain ⟨w1, w2⟩ := ju hb
 have f5 := Yp s hs 32 (by omega) (p : Int) 0 k (by omega)
 rw [jM s (fun a => veE s a 0) veY l 32 w1 (by decide) _ (fun x hx q hq => JG s x (w2 x hx).1 (w2 x hx).2 q hq) hat] at f5
 have f5' : zm.f k s (p : Int) 0 32 = _ := f5
 unfold xc.f
 rw [zN f5', if_pos rfl, zN (vL l (by omega) k (by omega)), hb, if_pos rfl]
theorem Yg (s : ByteArray) (hs : s.size ≤ 140737488351232) (p : Nat) (l : List ByteArray) (hb : vO l = true) (hat : At s p (yV xM l)) (k : Nat) (hk : 15000 ≤ k) :
  xl.f k s (p : Int) = some (l, ((p + (yV xM l).size : Nat) : Int), 0) := by
 obtain ⟨w1, w2⟩ := ZY hb
 have f5 := YU s hs 8 (by omega) (p : Int) 0 k (by omega)
 rw [jM s (fun a => teE s a 0) xM l 8 w1 (by decide) _ (fun x hx q hq => jJ s x (by have := w2 x hx; omega) q hq) hat] at f5
 have f5' : zj.f k s (p : Int) 0 8 = _ := f5
 obtain ⟨r, e1, e2⟩ := ZO l (by omega) k (by omega)
 have f6 : yZ.f k l = some true := by
  unfold yZ.f
  rw [zN e1, e2, hb]
 unfold xl.f
 rw [zN f5', if_pos rfl, zN f6, if_pos rfl]
theorem Xc (c n : Int) (st : ByteArray) (r : Int) (l : List Int) (x : Int) (hl : l.length ≤ 256) (k : Nat) (hk : 300 ≤ k) : xt.f k c n st r l x c n st r l x = some true := by
 unfold xt.f
 rw [if_pos rfl, if_pos rfl, if_pos rfl, if_pos rfl, zN (vY l hl k hk), if_pos rfl, beq_self_eq_true]
theorem YZ (l : List S81) (hl : l.length ≤ 1000000) (h : ∀ x ∈ l, x.f1.length ≤ 256) (d : Nat) : ∀ (k i : Nat), i + d = l.length → d + 301 ≤ k → ym.l0 k l l (i : Int) = some true := by
 induction d with
 | zero =>
  intro k i hi hk
  obtain ⟨k, rfl⟩ : ∃ k', k = k' + 1 := ⟨k - 1, by omega⟩
  rw [ym.l0, if_neg (by omega)]
 | succ d ih =>
  intro k i hi hk
  obtain ⟨k, rfl⟩ : ∃ k', k = k' + 1 := ⟨k - 1, by omega⟩
  rw [ym.l0, if_pos (by omega), if_pos (by omega), if_pos (by omega), if_pos rfl, QL l i (by omega), zN (vY _ (h _ (List.getElem_mem _)) k (by omega)), if_pos rfl, yU (by omega) (by omega)]
  exact ih k (i + 1) (by omega) (by omega)
theorem Z1 (c n : Int) (st : ByteArray) (r : Int) (l : List S81) (hl : l.length ≤ 3) (h : ∀ x ∈ l, x.f1.length ≤ 256) (k : Nat) (hk : 400 ≤ k) : xd.f k c n st r l c n st r l = some true := by
 have e : ym.f k l l = some true := by
  unfold ym.f
  rw [if_pos rfl]
  exact YZ l (by omega) h l.length k 0 (by omega) (by omega)
 unfold xd.f
 rw [if_pos rfl, if_pos rfl, if_pos rfl, if_pos rfl, zN e]
theorem Xk (l : List S93) (hl : l.length ≤ 1000000) (h : ∀ x ∈ l, x.f1.f2.length ≤ 256) (d : Nat) : ∀ (k i : Nat), i + d = l.length → d + 301 ≤ k → zS.l0 k l l (i : Int) = some true := by
 induction d with
 | zero =>
  intro k i hi hk
  obtain ⟨k, rfl⟩ : ∃ k', k = k' + 1 := ⟨k - 1, by omega⟩
  rw [zS.l0, if_neg (by omega)]
 | succ d ih =>
  intro k i hi hk
  obtain ⟨k, rfl⟩ : ∃ k', k = k' + 1 := ⟨k - 1, by omega⟩
  have e : xw.f k l[i].f1.f0 l[i].f1.f1 l[i].f1.f2 l[i].f1.f0 l[i].f1.f1 l[i].f1.f2 = some true := by
   unfold xw.f
   rw [if_pos rfl, if_pos rfl, zN (vY _ (h _ (List.getElem_mem _)) k (by omega))]
  rw [zS.l0, if_pos (by omega), if_pos (by omega), if_pos (by omega), if_pos rfl, Xw l i (by omega), zN e, if_pos rfl, yU (by omega) (by omega)]
  exact ih k (i + 1) (by omega) (by omega)
theorem Yz (l : List S93) (hl : l.length ≤ 1000000) (h : ∀ x ∈ l, x.f1.f2.length ≤ 256) (k : Nat) (hk : l.length + 301 ≤ k) : zS.f k l l = some true := by
 unfold zS.f
 rw [if_pos rfl]
 exact Xk l hl h l.length k 0 (by omega) (by omega)
theorem Ye (l : List S97) (hl : l.length ≤ 1000000) (d : Nat) : ∀ (k i : Nat), i + d = l.length → d + 1 ≤ k → yb.l0 k l l (i : Int) = some true := by
 induction d with
 | zero =>
  intro k i hi hk
  obtain ⟨k, rfl⟩ : ∃ k', k = k' + 1 := ⟨k - 1, by omega⟩
  rw [yb.l0, if_neg (by omega)]
 | succ d ih =>
  intro k i hi hk
  obtain ⟨k, rfl⟩ : ∃ k', k = k' + 1 := ⟨k - 1, by omega⟩
  rw [yb.l0, if_pos (by omega), if_pos (by omega), if_pos (by omega), if_neg (by simp), yU (by omega) (by omega)]
  exact ih k (i + 1) (by omega) (by omega)
theorem Zi (l : List S97) (hl : l.length ≤ 1000000) (k : Nat) (hk : l.length + 1 ≤ k) : yb.f k l l = some true := by
 unfold yb.f
 rw [if_pos rfl]
 exact Ye l hl l.length k 0 (by omega) (by omega)
theorem vE {α : Type} (B : α → ByteArray) (M : Nat) (l : List α) (h : ∀ x ∈ l, (B x).size ≤ M) : (yV B l).size ≤ 10 + M * l.length := by
 have h1 := yk (l.length : Int)
 have h2 := YE B M l h
 unfold yV
 rw [ya]
 omega
theorem JY {c n : Int} {st : ByteArray} {r : Int} {l : List Int} {x : Int} (hb : vS c n st r l x = true) : (Zz c n st r l x).size ≤ 1000000 := by
 obtain ⟨w1, w2, w3, w4, w5, w6, w7⟩ := ZZ hb
 have b1 := yk c
 have b2 := yk n
 have b3 := jO st
 have b4 := yk r
 have b5 := jE l
 have b6 := yk x
 unfold Zz
 simp only [ya]
 omega
theorem JV {c n : Int} {st : ByteArray} {r : Int} {l : List S81} (hb : vH c n st r l = true) : (Zy c n st r l).size ≤ 1000000 := by
 obtain ⟨w1, w2, w3, w4, w5, w6⟩ := Zb hb
 have b1 := yk c
 have b2 := yk n
 have b3 := jO st
 have b4 := yk r
 have b5 := vE evY 3000 l (fun x hx => by
  have h1 := yk x.f0
  have h2 := jE x.f1
  have h3 := (w6 x hx).2
  unfold evY
  rw [ya]
  omega)
 unfold Zy
 simp only [ya]
 omega
theorem QY {l : List S93} (hb : q8 l = true) : (yV itY l).size ≤ 1000000 := by
 obtain ⟨w1, w2⟩ := jq hb
 have b5 := vE itY 3000 l (fun x hx => by
  have h0 := jO x.f0
  have h1 := yk x.f1.f0
  have h2 := yk x.f1.f1
  have h3 := jE x.f1.f2
  have h4 := (w2 x hx).2
  unfold itY
  simp only [ya]
  omega)
 omega
theorem Xb {l : List S97} (hb : qp l = true) : (yV veY l).size ≤ 1000000 := by
 obtain ⟨w1, w2⟩ := ju hb
 have b5 := vE veY 20 l (fun x hx => Xt x)
 omega
theorem J3 {l : List ByteArray} (hb : vO l = true) : (yV xM l).size ≤ 1000000 := by
 obtain ⟨w1, w2⟩ := ZY hb
 have b5 := vE xM 50 l (fun x hx => by
  have h0 := jO x
  have h4 := w2 x hx
  omega)
 omega
theorem vp {α : Type} (f : α → Nat) (m : Nat) (l : List α) (h : ∀ x, m ≤ f x) : m * l.length ≤ (l.map f).sum := by
 induction l with
 | nil => exact Nat.zero_le _
 | cons x l ih =>
  rw [List.length_cons, Nat.mul_succ, List.map_cons, List.sum_cons]
  have := h x
  omega
theorem Zh {α : Type} (f : α → Nat) (l : List α) : ∀ x ∈ l, f x ≤ (l.map f).sum := by
 induction l with
 | nil => intro x hx; cases hx
 | cons y l ih =>
  intro x hx
  rw [List.map_cons, List.sum_cons]
  rcases List.mem_cons.1 hx with rfl | hx
  ·omega
  ·have := ih x hx
   omega
theorem Yv (l : List Int) : l.length ≤ (l.map fun _ => 1).sum := by
 have := vp (fun _ : Int => 1) 1 l (fun _ => Nat.le_refl _)
 omega
def evM (x : S81) : Nat := 1 + ((x.f1.map fun _ => 1).sum + 1)
theorem JB {l : List S81} {B : Nat} (h : (l.map evM).sum ≤ B) (hB : B ≤ 1048576) (hw : ∀ x ∈ l, (Lit.int .i64 x.f0).wf = true ∧ x.f1.length * 8 ≤ 140737488351232 ∧ x.f1.length ≤ 9223372036854775807 ∧ ∀ y ∈ x.f1, (Lit.int .i64 y).wf = true) : l.length ≤ 524288 ∧ ∀ x ∈ l, Za x := by
 have h1 := vp evM 2 l (fun x => by unfold evM; omega)
 refine ⟨by omega, fun x hx => ⟨(hw x hx).1, ?_, (hw x hx).2.2.2⟩⟩
 have h2 : 1 + ((x.f1.map fun _ => 1).sum + 1) ≤ (l.map evM).sum := Zh evM l x hx
 have h3 := Yv x.f1
 omega
def itM (x : S93) : Nat := (x.f0.size + 1) + (1 + (1 + ((x.f1.f2.map fun _ => 1).sum + 1)))
theorem JJ {l : List S93} {B : Nat} (h : (l.map itM).sum ≤ B) (hB : B ≤ 1048576) (hw : ∀ x ∈ l, x.f0.size ≤ 140737488351232 ∧ (Lit.int .i64 x.f1.f0).wf = true ∧ (Lit.int .i64 x.f1.f1).wf = true ∧ x.f1.f2.length * 8 ≤ 140737488351232 ∧ x.f1.f2.length ≤ 9223372036854775807 ∧ ∀ y ∈ x.f1.f2, (Lit.int .i64 y).wf = true) :
  l.length ≤ 524288 ∧ (∀ x ∈ l, ZB x) ∧ ∀ x ∈ l, x.f0.size ≤ 1048576 := by
 have h1 := vp itM 2 l (fun x => by unfold itM; omega)
 refine ⟨by omega, fun x hx => ?_, fun x hx => ?_⟩
 ·obtain ⟨w1, w2, w3, w4, w5, w6⟩ := hw x hx
  have h2 : (x.f0.size + 1) + (1 + (1 + ((x.f1.f2.map fun _ => 1).sum + 1))) ≤ (l.map itM).sum := Zh itM l x hx
  have h3 := Yv x.f1.f2
  exact ⟨by omega, w2, w3, by omega, w6⟩
 ·have h2 : (x.f0.size + 1) + (1 + (1 + ((x.f1.f2.map fun _ => 1).sum + 1))) ≤ (l.map itM).sum := Zh itM l x hx
  omega
theorem JE {l : List ByteArray} {B : Nat} (h : (l.map fun x => x.size + 1).sum ≤ B) (hB : B ≤ 1048576) : l.length ≤ 1048576 ∧ ∀ x ∈ l, x.size ≤ 1048576 := by
 have h1 := vp (fun x : ByteArray => x.size + 1) 1 l (fun x => by omega)
 refine ⟨by omega, fun x hx => ?_⟩
 have h2 : x.size + 1 ≤ (l.map fun x => x.size + 1).sum := Zh (fun x : ByteArray => x.size + 1) l x hx
 omega
theorem Xp (k : Nat) (hk : 60 ≤ k) : yK.f k = some true := by
 have h : yK.f 60 = some true := by decide +kernel
 exact QX (fun k => yK.mono k) hk h
end Go.Proofs.Ytbfehjncllkogaa.Q
namespace Go.Proofs.Ytbfehjncllkogaa.Pure
open Go.RowKit Go.Proofs.Ytbfehjncllkogaa.Q Go.Proofs.YtbfehjncllkogaaW.PrintWords Go.Proofs.YtbfehjncllkogaaW.PrintLast
theorem QT (p m : Nat) (hp : p ≤ 5000) (hm : m ≤ 10000000) : wrap64 (((p + m : Nat) : Int) - (p : Int)) = (m : Int) := by
 rw [xR (by omega) (by omega)]
 omega
theorem Jt (A B : ByteArray) (hA : A.size ≤ 5000) (hB : B.size ≤ 5000) (x : ByteArray) (hx : x.size ≤ 1000000) : A.size + x.size ≤ 9223372036854775807 ∧ (A ++ x).size + B.size ≤ 9223372036854775807 ∧ ((A ++ x) ++ B).size ≤ 140737488351232 := by
 have h1 := ya A x
 have h2 := ya (A ++ x) B
 omega
theorem jS {ρ : Type} (A B : ByteArray) (hA : A.size ≤ 5000) (hB : B.size ≤ 5000) (b : Bool) (z : ByteArray) (hz : b = true → z.size ≤ 1000000) {put : Option (ByteArray × Int)} (hput : put = some (jx b z)) (read : ByteArray → Option ρ) (v : Int → ρ) (hread : b = true → ((A ++ z) ++ B).size ≤ 140737488351232 → read ((A ++ z) ++ B) = some (v ((A.size + z.size : Nat) : Int))) {same : Option Bool} (hsame : b = true → same = some true) :
  ∃ y e, put = some (y, e) ∧ (e = 0 → A.size + y.size ≤ 9223372036854775807 ∧ (A ++ y).size + B.size ≤ 9223372036854775807 ∧ ∃ nx : Int, read ((A ++ y) ++ B) = some (v nx) ∧ same = some true ∧ wrap64 (nx - (A.size : Int)) = (y.size : Int)) := by
 cases b with
 | false => exact ⟨⟨#[]⟩, 2, hput, fun he => absurd he (by decide)⟩
 | true =>
  obtain ⟨z1, z2, z3⟩ := Jt A B hA hB z (hz rfl)
  exact ⟨z, 0, hput, fun _ => ⟨z1, z2, _, hread rfl z3, hsame rfl, QT _ _ hA (by have := hz rfl; omega)⟩⟩
theorem CodecBackUpto (A B : ByteArray) (c s : Int) (st : ByteArray) (r : Int) (l : List Int) (x : Int) (c2 s2 : Int) (st2 : ByteArray) (r2 : Int) (es : List S81) (it : List S93) (v : List S97) (p : List ByteArray) (hA : A.size ≤ 140737488351232) (hB : B.size ≤ 140737488351232)
  (h1 : (Lit.int .i64 c).wf = true) (h2 : (Lit.int .i64 s).wf = true) (h3 : st.size ≤ 140737488351232) (h4 : (Lit.int .i64 r).wf = true) (h5 : l.length * 8 ≤ 140737488351232 ∧ l.length ≤ 9223372036854775807 ∧ ∀ y ∈ l, (Lit.int .i64 y).wf = true) (h6 : (Lit.int .i64 x).wf = true)
  (g1 : (Lit.int .i64 c2).wf = true) (g2 : (Lit.int .i64 s2).wf = true) (g3 : st2.size ≤ 140737488351232) (g4 : (Lit.int .i64 r2).wf = true) (g5 : es.length * 32 ≤ 140737488351232 ∧ es.length ≤ 9223372036854775807 ∧ ∀ x ∈ es, (Lit.int .i64 x.f0).wf = true ∧ x.f1.length * 8 ≤ 140737488351232 ∧ x.f1.length ≤ 9223372036854775807 ∧ ∀ y ∈ x.f1, (Lit.int .i64 y).wf = true)
  (i1 : it.length * 56 ≤ 140737488351232 ∧ it.length ≤ 9223372036854775807 ∧ ∀ x ∈ it, x.f0.size ≤ 140737488351232 ∧ (Lit.int .i64 x.f1.f0).wf = true ∧ (Lit.int .i64 x.f1.f1).wf = true ∧ x.f1.f2.length * 8 ≤ 140737488351232 ∧ x.f1.f2.length ≤ 9223372036854775807 ∧ ∀ y ∈ x.f1.f2, (Lit.int .i64 y).wf = true)
  (i2 : v.length * 16 ≤ 140737488351232 ∧ v.length ≤ 9223372036854775807 ∧ ∀ x ∈ v, (Lit.int .i64 x.f0).wf = true ∧ (Lit.int .i64 x.f1).wf = true)
  (i3 : p.length * 16 ≤ 140737488351232 ∧ p.length ≤ 9223372036854775807 ∧ ∀ x ∈ p, x.size ≤ 140737488351232)
  (hM : (A.size + 1) + ((B.size + 1) + ((1 + (1 + ((st.size + 1) + (1 + (((l.map fun _ => 1).sum + 1) + 1))))) + ((1 + (1 + ((st2.size + 1) + (1 + ((es.map fun x => 1 + ((x.f1.map fun _ => 1).sum + 1)).sum + 1))))) + (((it.map fun x => (x.f0.size + 1) + (1 + (1 + ((x.f1.f2.map fun _ => 1).sum + 1)))).sum + 1) + (((v.map fun _ => 1 + 1).sum + 1) + ((p.map fun x => x.size + 1).sum + 1)))))) ≤ 1048576) :
  ∃ k, xS.Good k A B c s st r l x c2 s2 st2 r2 es it v p := by
 obtain ⟨k, hk⟩ : ∃ k, k = 3000000 := ⟨_, rfl⟩
 have hi : vr l := ⟨by have := Yv l; omega, h5.2.2⟩
 have he := JB (l := es) (B := 1048576) (by
  have : (es.map evM).sum ≤ 1048576 := by
   change (es.map fun x => 1 + ((x.f1.map fun _ => 1).sum + 1)).sum ≤ 1048576
   omega
  exact this) (Nat.le_refl _) g5.2.2
 have ht := JJ (l := it) (B := 1048576) (by
  have : (it.map itM).sum ≤ 1048576 := by
   change (it.map fun x => (x.f0.size + 1) + (1 + (1 + ((x.f1.f2.map fun _ => 1).sum + 1)))).sum ≤ 1048576
   omega
  exact this) (Nat.le_refl _) i1.2.2
 have hv : v.length ≤ 1048576 := by
  have := vp (fun _ : S97 => 1 + 1) 1 v (fun _ => by omega)
  omega
 have hp := JE (l := p) (B := 1048576) (by omega) (Nat.le_refl _)
 refine ⟨k, Xp k (by omega), fun hA5 hB5 => ⟨?_, ?_, ?_, ?_, ?_⟩⟩
 ·exact jS A B hA5 hB5 (vS c s st r l x) (Zz c s st r l x) JY (XJ c s st r l x h1 h2 h3 h4 hi h6 k (by omega)) (fun q => yB.f k q (A.size : Int)) (fun nx => (c, s, st, r, l, x, nx, 0)) (fun hb z3 => Xj _ z3 A.size c s st r l x hb (At.mid A _ B) k (by omega)) (fun hb => Xc c s st r l x (ZZ hb).2.2.2.2.2.1 k (by omega))
 ·exact jS A B hA5 hB5 (vH c2 s2 st2 r2 es) (Zy c2 s2 st2 r2 es) JV (Yr c2 s2 st2 r2 es g1 g2 g3 g4 (by have := he.1; omega) he.2 k (by omega)) (fun q => xm.f k q (A.size : Int)) (fun nx => (c2, s2, st2, r2, es, nx, 0)) (fun hb z3 => Z7 _ z3 A.size c2 s2 st2 r2 es hb (At.mid A _ B) k (by omega)) (fun hb => Z1 c2 s2 st2 r2 es (Zb hb).2.2.2.2.1 (fun x hx => ((Zb hb).2.2.2.2.2 x hx).2) k (by omega))
 ·exact jS A B hA5 hB5 (q8 it) (yV itY it) QY (Y0 it ht.1 ht.2.2 ht.2.1 k (by omega)) (fun q => xz.f k q (A.size : Int)) (fun nx => (it, nx, 0)) (fun hb z3 => Yy _ z3 A.size it hb (At.mid A _ B) k (by omega)) (fun hb => Yz it (by have := (jq hb).1; omega) (fun x hx => ((jq hb).2 x hx).2.2) k (by have := (jq hb).1; omega))
 ·exact jS A B hA5 hB5 (qp v) (yV veY v) Xb (ZE v hv i2.2.2 k (by omega)) (fun q => xc.f k q (A.size : Int)) (fun nx => (v, nx, 0)) (fun hb z3 => Zk _ z3 A.size v hb (At.mid A _ B) k (by omega)) (fun hb => Zi v (by have := (ju hb).1; omega) k (by have := (ju hb).1; omega))
 ·exact jS A B hA5 hB5 (vO p) (yV xM p) J3 (YA p hp.1 (fun x hx => by have := hp.2 x hx; omega) k (by omega)) (fun q => xl.f k q (A.size : Int)) (fun nx => (p, nx, 0)) (fun hb z3 => Yg _ z3 A.size p hb (At.mid A _ B) k (by omega)) (fun hb => Qr p (by have := (ZY hb).1; omega) k (by omega))
end Go.Proofs.Ytbfehjncllkogaa.Pure
namespace Go.Proofs.Ytbfehjncllkogaa.Q
open Go.RowKit Go.Proofs.YtbfehjncllkogaaW.PrintWords Go.Proofs.YtbfehjncllkogaaW.PrintLast Go.Proofs.YtbfehjncllkogaaW.PrintMore
section
variable {H : Type} (enc : TypeId × Value → H) (P : Program) (W : World)
def qM {α : Type} (t : TypeId) (d : Kd α) (G : α → Prop) : Prop :=
 P.cellsOf t = d.sz ∧ ∀ (fuel : Nat) (cs : List Value) (x : DataW H × List MemPlace), DataW.trod enc P W 0 (fun _ => true) true fuel t cs = some x → (∀ n ∈ x.1.weights P t, n ≤ reachBytes) → ∃ y, d.K W y cs ∧ G y
def jk {α : Type} (ts : List TypeId) (d : Kd α) (G : α → Prop) : Prop :=
 (ts.map P.cellsOf).sum = d.sz ∧ ∀ (fuel : Nat) (cs : List Value) (xs : List (DataW H × List MemPlace)), cs.length = (ts.map P.cellsOf).sum → xs.length = ts.length →
  (∀ i t, ts[i]? = some t → DataW.trod enc P W 0 (fun _ => true) true fuel t ((cs.drop ((ts.take i).map P.cellsOf).sum).take (P.cellsOf t)) = xs[i]?) →
  (∀ n ∈ DataW.weightsEach P ts (xs.map (·.1)), n ≤ reachBytes) → ∃ y, d.K W y cs ∧ G y
variable {enc P W}
theorem qM.int {t : TypeId} {k : IntKind} (ht : P.underlying t = some (.int k)) (hc : P.cellsOf t = 1) : qM enc P W t (Kd.int k) (fun n => (Lit.int k n).wf = true) := by
 refine ⟨hc, fun fuel cs x h _ => ?_⟩
 obtain ⟨n, rfl, _, hw⟩ := DataW.trod_int ht h
 exact ⟨n, rfl, hw⟩
theorem qM.bool {t : TypeId} (ht : P.underlying t = some .bool) (hc : P.cellsOf t = 1) : qM enc P W t Kd.bool (fun _ => True) := by
 refine ⟨hc, fun fuel cs x h _ => ?_⟩
 cases fuel with
 | zero => simp [DataW.trod] at h
 | succ n =>
  unfold DataW.trod at h
  rw [ht] at h
  split at h <;> first | exact ⟨_, rfl, trivial⟩ | simp_all
theorem qM.string {t : TypeId} (ht : P.underlying t = some .string) (hc : P.cellsOf t = 1) : qM enc P W t Kd.string (fun s => s.size ≤ 140737488351232) := by
 refine ⟨hc, fun fuel cs x h hw => ?_⟩
 obtain ⟨s, rfl, rfl, _⟩ := DataW.trod_string ht h
 refine ⟨s, rfl, ?_⟩
 have := hw s.data.toList.length (by simp [DataW.weights])
 simpa [reachBytes, Array.length_toList] using this
theorem Zo {e : TypeId} {ds : List (DataW H)} {d : DataW H} (h : d ∈ ds) : ∀ n ∈ d.weights P e, n ∈ DataW.weightsAll P e ds := by
 induction ds with
 | nil => cases h
 | cons d' ds ih =>
  intro n hn
  rw [DataW.weightsAll, List.mem_append]
  rcases List.mem_cons.1 h with rfl | h
  ·exact .inl hn
  ·exact .inr (ih h n hn)
open Classical in
theorem Zt {α : Type} (z : α) (R : Nat → α → Prop) (n : Nat) (h : ∀ i, i < n → ∃ y, R i y) : ∃ l : List α, l.length = n ∧ ∀ i (hi : i < n) (hl : i < l.length), R i l[i] := by
 refine ⟨(List.range n).map fun i => if h' : ∃ y, R i y then Classical.choose h' else z, by simp, fun i hi hl => ?_⟩
 have he := h i hi
 simp only [List.getElem_map, List.getElem_range, dif_pos he]
 exact Classical.choose_spec he
theorem qM.slice {α : Type} (z : α) {t e : TypeId} {d : Kd α} {G : α → Prop} (bytes : Nat) (ht : P.underlying t = some (.slice e)) (hc : P.cellsOf t = 1) (hb : P.bytesOf e = bytes) (h : qM enc P W e d G) :
  qM enc P W t (Kd.slice e d) (fun xs => xs.length * bytes ≤ 140737488351232 ∧ xs.length ≤ 9223372036854775807 ∧ ∀ x ∈ xs, G x) := by
 refine ⟨hc, fun fuel cs x hx hw => ?_⟩
 rcases Go.Deep.open_slice ht hx with ⟨rfl, rfl⟩ | ⟨a, len, cap, m, n, D, Pl, rfl, _, hlc, hcm, hm, rfl, hel⟩
 ·exact ⟨[], ⟨none, 0, rfl, Nat.le_refl _, Kd.C_nil d W⟩, by simp, by simp, fun x hx => by cases hx⟩
 ·have hlm : len ≤ m := by rw [hm]; split <;> omega
  have hwt : DataW.weights P t (.slice ((List.range len).map D) ((List.range (m - len)).map fun j => D (len + j))) =
    (((List.range len).map D).length + ((List.range (m - len)).map fun j => D (len + j)).length) * P.bytesOf e :: (DataW.weightsAll P e ((List.range len).map D) ++ DataW.weightsAll P e ((List.range (m - len)).map fun j => D (len + j))) := by
   rw [DataW.weights]
   simp only [ht]
  have hel' : ∀ i, i < len → ∃ y, (∃ cs', W.cells? 0 (a.add (i * P.cellsOf e)) (P.cellsOf e) = some cs' ∧ d.K W y cs') ∧ G y := by
   intro i hi
   obtain ⟨cs', h1, h2⟩ := hel i (by omega)
   obtain ⟨y, hy, hg⟩ := h.2 n cs' _ h2 (fun n hn => hw n (by
    rw [hwt]
    exact List.mem_cons_of_mem _ (List.mem_append_left _ (Zo (List.mem_map.2 ⟨i, List.mem_range.2 hi, rfl⟩) n hn))))
   exact ⟨y, ⟨cs', h1, hy⟩, hg⟩
  obtain ⟨l, hll, hl⟩ := Zt z _ len hel'
  have hb1 := hw _ (by rw [hwt]; exact List.mem_cons_self)
  have hle : len * bytes ≤ 140737488351232 := by
   simp only [List.length_map, List.length_range, hb, reachBytes] at hb1
   exact Nat.le_trans (Nat.mul_le_mul_right _ (by omega)) hb1
  have hmx : len ≤ 9223372036854775807 := by
   simp only [maxLen] at hcm
   omega
  refine ⟨l, ⟨some a, cap, by rw [hll], by omega, by rw [hll], by omega, fun _ => ⟨a, rfl, fun j p hj => ?_⟩⟩, by rw [hll]; exact hle, by omega, fun x hx => ?_⟩
  ·obtain ⟨hjl, rfl⟩ := List.getElem?_eq_some_iff.1 hj
   obtain ⟨⟨cs', h1, hK⟩, _⟩ := hl j (by omega) hjl
   obtain ⟨_, hcl, hcell⟩ := World.cells?_some h1
   refine ⟨cs', by rw [hcl, h.1], hK, fun i u hu => ?_⟩
   have hi : i < P.cellsOf e := by
    have := (List.getElem?_eq_some_iff.1 hu).1
    omega
   have := hcell i hi
   rw [hu, XS, h.1] at this
   exact this
  ·obtain ⟨j, hj, rfl⟩ := List.getElem_of_mem hx
   exact (hl j (by omega) hj).2
theorem jk.one {α : Type} {t : TypeId} {d : Kd α} {G : α → Prop} (h : qM enc P W t d G) : jk enc P W [t] d G := by
 refine ⟨by simp [h.1], fun fuel cs xs hl hx hr hw => ?_⟩
 have hr0 := hr 0 t rfl
 simp only [List.take_zero, List.map_nil, List.sum_nil, List.drop_zero] at hr0
 have hc : cs.length = P.cellsOf t := by simpa using hl
 rw [List.take_of_length_le (by omega)] at hr0
 match xs, hx with
 | [x], _ =>
  exact h.2 fuel cs x hr0 (fun n hn => hw n (by simp [DataW.weightsEach, hn]))
theorem jk.cons {α β : Type} {t : TypeId} {ts : List TypeId} {d : Kd α} {d' : Kd β} {G : α → Prop} {G' : β → Prop} (h : qM enc P W t d G) (h' : jk enc P W ts d' G') :
  jk enc P W (t :: ts) (Kd.pair d d') (fun y => G y.1 ∧ G' y.2) := by
 refine ⟨by simp [Kd.pair, h.1, h'.1], fun fuel cs xs hl hx hr hw => ?_⟩
 match xs, hx with
 | x :: xs, hx =>
  have hr0 := hr 0 t rfl
  simp only [List.take_zero, List.map_nil, List.sum_nil, List.drop_zero] at hr0
  obtain ⟨y, hy, hg⟩ := h.2 fuel _ x hr0 (fun n hn => hw n (by simp [DataW.weightsEach, hn]))
  have hl2 : (cs.drop (P.cellsOf t)).length = (ts.map P.cellsOf).sum := by
   rw [List.length_drop, hl, List.map_cons, List.sum_cons]
   omega
  obtain ⟨y', hy', hg'⟩ := h'.2 fuel (cs.drop (P.cellsOf t)) xs hl2 (by simpa using hx) (fun i t' ht' => by
   have := hr (i + 1) t' (by simpa using ht')
   simp only [List.take_succ_cons, List.map_cons, List.sum_cons, List.getElem?_cons_succ] at this
   rw [List.drop_drop]
   exact this) (fun n hn => hw n (by simp only [List.map_cons, DataW.weightsEach, List.mem_append]; exact .inr hn))
  exact ⟨(y, y'), ⟨_, _, (List.take_append_drop (P.cellsOf t) cs).symm, hy, hy'⟩, hg, hg'⟩
theorem qM.struct {α β : Type} {t : TypeId} {fs : Array Field} (ts : List TypeId) {d : Kd α} {G : α → Prop} (f : β → α) (g : α → β) (hfg : ∀ a, f (g a) = a) (ht : P.underlying t = some (.struct fs)) (hts : fs.toList.map (·.type) = ts)
  (hoff0 : fs.toList.map (·.offset) = (List.range fs.size).map fun i => ((ts.take i).map P.cellsOf).sum) (hc : P.cellsOf t = (ts.map P.cellsOf).sum) (h : jk enc P W ts d G) : qM enc P W t (Kd.iso d f) (fun y => G (f y)) := by
 have hoff : ∀ i fd, fs[i]? = some fd → fd.offset = ((ts.take i).map P.cellsOf).sum := by
  intro i fd hi
  have h1 : (fs.toList.map (·.offset))[i]? = some fd.offset := by rw [List.getElem?_map, Array.getElem?_toList, hi]; rfl
  have hlt : i < fs.size := (Array.getElem?_eq_some_iff.1 hi).1
  rw [hoff0, List.getElem?_map, List.getElem?_range hlt] at h1
  simpa using h1.symm
 refine ⟨hc.trans h.1, fun fuel cs x hx hw => ?_⟩
 obtain ⟨xs, n, rfl, rfl, hcl, hxl, hfd⟩ := DataW.trod_struct ht hx
 have hwt : DataW.weights P t (.agg (xs.map (·.1)) : DataW H) = DataW.weightsEach P ts (xs.map (·.1)) := by
  rw [DataW.weights]
  simp only [ht, hts]
 obtain ⟨y, hy, hg⟩ := h.2 n cs xs (hcl.trans hc) (by rw [hxl, ← hts]; simp) (fun i t' ht' => by
  rw [← hts, List.getElem?_map, Option.map_eq_some_iff] at ht'
  obtain ⟨fd, hfi, rfl⟩ := ht'
  rw [Array.getElem?_toList] at hfi
  rw [← hoff i fd hfi]
  exact hfd i fd hfi) (fun n hn => hw n (by rw [hwt]; exact hn))
 exact ⟨g y, by show d.K W (f (g y)) cs; rw [hfg]; exact hy, by show G (f (g y)); rw [hfg]; exact hg⟩
theorem Xm {ts : List TypeId} : ∀ {ds : List (DataW H)} {j : Nat} {t : TypeId} {d : DataW H}, ts[j]? = some t → ds[j]? = some d → ∀ n ∈ d.weights P t, n ∈ DataW.weightsEach P ts ds := by
 induction ts with
 | nil => intro ds j t d h; simp at h
 | cons t' ts ih =>
  intro ds j t d h h' n hn
  cases ds with
  | nil => simp at h'
  | cons d' ds =>
   rw [DataW.weightsEach, List.mem_append]
   cases j with
   | zero =>
    simp only [List.getElem?_cons_zero, Option.some.injEq] at h h'
    subst h h'
    exact .inl hn
   | succ j => exact .inr (ih (by simpa using h) (by simpa using h') n hn)
end
theorem Jw {H : Type} {α : Type} (m : α → Nat) (D : Nat → DataW H) (l : List α) (n : Nat) (hl : l.length = n) (h : ∀ i (hi : i < n) (hl' : i < l.length), m l[i] ≤ Rows.uptoBulk (D i)) : (l.map m).sum ≤ Rows.uptoBulkAll ((List.range n).map D) := by
 subst hl
 induction l generalizing D with
 | nil => exact Nat.zero_le _
 | cons x l ih =>
  rw [List.length_cons, List.range_succ_eq_map, List.map_cons, List.map_cons, List.map_map, List.sum_cons, Rows.uptoBulkAll]
  exact Nat.add_le_add (h 0 (by simp) (by simp)) (ih (D ∘ Nat.succ) (fun i hi hl' => h (i + 1) (by simpa using hi) (by simpa using hl')))
section
variable {H : Type} (enc : TypeId × Value → H) (P : Program) (W : World)
def yt {α : Type} (t : TypeId) (d : Kd α) (G : α → Prop) (m : α → Nat) : Prop :=
 P.cellsOf t = d.sz ∧ ∀ (fuel : Nat) (cs : List Value) (x : DataW H × List MemPlace), DataW.trod enc P W 0 (fun _ => true) true fuel t cs = some x → (∀ n ∈ x.1.weights P t, n ≤ reachBytes) → ∃ y, d.K W y cs ∧ G y ∧ m y ≤ Rows.uptoBulk x.1
def yA {α : Type} (ts : List TypeId) (d : Kd α) (G : α → Prop) (m : α → Nat) : Prop :=
 (ts.map P.cellsOf).sum = d.sz ∧ ∀ (fuel : Nat) (cs : List Value) (xs : List (DataW H × List MemPlace)), cs.length = (ts.map P.cellsOf).sum → xs.length = ts.length →
  (∀ i t, ts[i]? = some t → DataW.trod enc P W 0 (fun _ => true) true fuel t ((cs.drop ((ts.take i).map P.cellsOf).sum).take (P.cellsOf t)) = xs[i]?) →
  (∀ n ∈ DataW.weightsEach P ts (xs.map (·.1)), n ≤ reachBytes) → ∃ y, d.K W y cs ∧ G y ∧ m y ≤ Rows.uptoBulkAll (xs.map (·.1))
variable {enc P W}
theorem yt.int {t : TypeId} {k : IntKind} (ht : P.underlying t = some (.int k)) (hc : P.cellsOf t = 1) : yt enc P W t (Kd.int k) (fun n => (Lit.int k n).wf = true) (fun _ => 1) := by
 refine ⟨hc, fun fuel cs x h _ => ?_⟩
 obtain ⟨n, rfl, rfl, hw⟩ := DataW.trod_int ht h
 exact ⟨n, rfl, hw, Nat.le_refl _⟩
theorem yt.bool {t : TypeId} (ht : P.underlying t = some .bool) (hc : P.cellsOf t = 1) : yt enc P W t Kd.bool (fun _ => True) (fun _ => 0) := by
 refine ⟨hc, fun fuel cs x h _ => ?_⟩
 cases fuel with
 | zero => simp [DataW.trod] at h
 | succ n =>
  unfold DataW.trod at h
  rw [ht] at h
  split at h <;> first | exact ⟨_, rfl, trivial, Nat.zero_le _⟩ | simp_all
theorem yt.string {t : TypeId} (ht : P.underlying t = some .string) (hc : P.cellsOf t = 1) : yt enc P W t Kd.string (fun s => s.size ≤ 140737488351232) (fun s => s.size + 1) := by
 refine ⟨hc, fun fuel cs x h hw => ?_⟩
 obtain ⟨s, rfl, rfl, _⟩ := DataW.trod_string ht h
 refine ⟨s, rfl, ?_, ?_⟩
 ·have := hw s.data.toList.length (by simp [DataW.weights])
  simpa [reachBytes, Array.length_toList] using this
 ·show s.size + 1 ≤ s.data.toList.length + 1
  rw [Array.length_toList]
  exact Nat.le_refl _
theorem yt.slice {α : Type} (z : α) {t e : TypeId} {d : Kd α} {G : α → Prop} {m : α → Nat} (bytes : Nat) (ht : P.underlying t = some (.slice e)) (hc : P.cellsOf t = 1) (hb : P.bytesOf e = bytes) (h : yt enc P W e d G m) :
  yt enc P W t (Kd.slice e d) (fun xs => xs.length * bytes ≤ 140737488351232 ∧ xs.length ≤ 9223372036854775807 ∧ ∀ x ∈ xs, G x) (fun xs => (xs.map m).sum + 1) := by
 refine ⟨hc, fun fuel cs x hx hw => ?_⟩
 rcases Go.Deep.open_slice ht hx with ⟨rfl, rfl⟩ | ⟨a, len, cap, mm, n, D, Pl, rfl, _, hlc, hcm, hm, rfl, hel⟩
 ·exact ⟨[], ⟨none, 0, rfl, Nat.le_refl _, Kd.C_nil d W⟩, ⟨by simp, by simp, fun x hx => by cases hx⟩, by simp [Rows.uptoBulk]⟩
 ·have hlm : len ≤ mm := by rw [hm]; split <;> omega
  have hwt : DataW.weights P t (.slice ((List.range len).map D) ((List.range (mm - len)).map fun j => D (len + j))) =
    (((List.range len).map D).length + ((List.range (mm - len)).map fun j => D (len + j)).length) * P.bytesOf e :: (DataW.weightsAll P e ((List.range len).map D) ++ DataW.weightsAll P e ((List.range (mm - len)).map fun j => D (len + j))) := by
   rw [DataW.weights]
   simp only [ht]
  have hel' : ∀ i, i < len → ∃ y, (∃ cs', W.cells? 0 (a.add (i * P.cellsOf e)) (P.cellsOf e) = some cs' ∧ d.K W y cs') ∧ G y ∧ m y ≤ Rows.uptoBulk (D i) := by
   intro i hi
   obtain ⟨cs', h1, h2⟩ := hel i (by omega)
   obtain ⟨y, hy, hg, hmm⟩ := h.2 n cs' _ h2 (fun n hn => hw n (by
    rw [hwt]
    exact List.mem_cons_of_mem _ (List.mem_append_left _ (Zo (List.mem_map.2 ⟨i, List.mem_range.2 hi, rfl⟩) n hn))))
   exact ⟨y, ⟨cs', h1, hy⟩, hg, hmm⟩
  obtain ⟨l, hll, hl⟩ := Zt z _ len hel'
  have hb1 := hw _ (by rw [hwt]; exact List.mem_cons_self)
  have hle : len * bytes ≤ 140737488351232 := by
   simp only [List.length_map, List.length_range, hb, reachBytes] at hb1
   exact Nat.le_trans (Nat.mul_le_mul_right _ (by omega)) hb1
  have hmx : len ≤ 9223372036854775807 := by
   simp only [maxLen] at hcm
   omega
  refine ⟨l, ⟨some a, cap, by rw [hll], by omega, by rw [hll], by omega, fun _ => ⟨a, rfl, fun j p hj => ?_⟩⟩, ⟨by rw [hll]; exact hle, by omega, fun x hx => ?_⟩, ?_⟩
  ·obtain ⟨hjl, rfl⟩ := List.getElem?_eq_some_iff.1 hj
   obtain ⟨⟨cs', h1, hK⟩, _, _⟩ := hl j (by omega) hjl
   obtain ⟨_, hcl, hcell⟩ := World.cells?_some h1
   refine ⟨cs', by rw [hcl, h.1], hK, fun i u hu => ?_⟩
   have hi : i < P.cellsOf e := by
    have := (List.getElem?_eq_some_iff.1 hu).1
    omega
   have := hcell i hi
   rw [hu, XS, h.1] at this
   exact this
  ·obtain ⟨j, hj, rfl⟩ := List.getElem_of_mem hx
   exact (hl j (by omega) hj).2.1
  ·have hsum : (l.map m).sum ≤ Rows.uptoBulkAll ((List.range len).map D) := Jw m D l len hll (fun i hi hl' => (hl i hi hl').2.2)
   show (l.map m).sum + 1 ≤ Rows.uptoBulkAll _ + Rows.uptoBulkAll _ + 1
   omega
theorem yA.one {α : Type} {t : TypeId} {d : Kd α} {G : α → Prop} {m : α → Nat} (h : yt enc P W t d G m) : yA enc P W [t] d G m := by
 refine ⟨by simp [h.1], fun fuel cs xs hl hx hr hw => ?_⟩
 have hr0 := hr 0 t rfl
 simp only [List.take_zero, List.map_nil, List.sum_nil, List.drop_zero] at hr0
 have hc : cs.length = P.cellsOf t := by simpa using hl
 rw [List.take_of_length_le (by omega)] at hr0
 match xs, hx with
 | [x], _ =>
  obtain ⟨y, hy, hg, hmm⟩ := h.2 fuel cs x hr0 (fun n hn => hw n (by simp [DataW.weightsEach, hn]))
  exact ⟨y, hy, hg, by simpa [Rows.uptoBulkAll] using hmm⟩
theorem yA.cons {α β : Type} {t : TypeId} {ts : List TypeId} {d : Kd α} {d' : Kd β} {G : α → Prop} {G' : β → Prop} {m : α → Nat} {m' : β → Nat} (h : yt enc P W t d G m) (h' : yA enc P W ts d' G' m') :
  yA enc P W (t :: ts) (Kd.pair d d') (fun y => G y.1 ∧ G' y.2) (fun y => m y.1 + m' y.2) := by
 refine ⟨by simp [Kd.pair, h.1, h'.1], fun fuel cs xs hl hx hr hw => ?_⟩
 match xs, hx with
 | x :: xs, hx =>
  have hr0 := hr 0 t rfl
  simp only [List.take_zero, List.map_nil, List.sum_nil, List.drop_zero] at hr0
  obtain ⟨y, hy, hg, hm1⟩ := h.2 fuel _ x hr0 (fun n hn => hw n (by simp [DataW.weightsEach, hn]))
  have hl2 : (cs.drop (P.cellsOf t)).length = (ts.map P.cellsOf).sum := by
   rw [List.length_drop, hl, List.map_cons, List.sum_cons]
   omega
  obtain ⟨y', hy', hg', hm2⟩ := h'.2 fuel (cs.drop (P.cellsOf t)) xs hl2 (by simpa using hx) (fun i t' ht' => by
   have := hr (i + 1) t' (by simpa using ht')
   simp only [List.take_succ_cons, List.map_cons, List.sum_cons, List.getElem?_cons_succ] at this
   rw [List.drop_drop]
   exact this) (fun n hn => hw n (by simp only [List.map_cons, DataW.weightsEach, List.mem_append]; exact .inr hn))
  exact ⟨(y, y'), ⟨_, _, (List.take_append_drop (P.cellsOf t) cs).symm, hy, hy'⟩, ⟨hg, hg'⟩, Nat.add_le_add hm1 hm2⟩
theorem yt.struct {α β : Type} {t : TypeId} {fs : Array Field} (ts : List TypeId) {d : Kd α} {G : α → Prop} {m : α → Nat} (f : β → α) (g : α → β) (hfg : ∀ a, f (g a) = a) (ht : P.underlying t = some (.struct fs)) (hts : fs.toList.map (·.type) = ts)
  (hoff0 : fs.toList.map (·.offset) = (List.range fs.size).map fun i => ((ts.take i).map P.cellsOf).sum) (hc : P.cellsOf t = (ts.map P.cellsOf).sum) (h : yA enc P W ts d G m) : yt enc P W t (Kd.iso d f) (fun y => G (f y)) (fun y => m (f y)) := by
 have hoff : ∀ i fd, fs[i]? = some fd → fd.offset = ((ts.take i).map P.cellsOf).sum := by
  intro i fd hi
  have h1 : (fs.toList.map (·.offset))[i]? = some fd.offset := by rw [List.getElem?_map, Array.getElem?_toList, hi]; rfl
  have hlt : i < fs.size := (Array.getElem?_eq_some_iff.1 hi).1
  rw [hoff0, List.getElem?_map, List.getElem?_range hlt] at h1
  simpa using h1.symm
 refine ⟨hc.trans h.1, fun fuel cs x hx hw => ?_⟩
 obtain ⟨xs, n, rfl, rfl, hcl, hxl, hfd⟩ := DataW.trod_struct ht hx
 have hwt : DataW.weights P t (.agg (xs.map (·.1)) : DataW H) = DataW.weightsEach P ts (xs.map (·.1)) := by
  rw [DataW.weights]
  simp only [ht, hts]
 obtain ⟨y, hy, hg, hmm⟩ := h.2 n cs xs (hcl.trans hc) (by rw [hxl, ← hts]; simp) (fun i t' ht' => by
  rw [← hts, List.getElem?_map, Option.map_eq_some_iff] at ht'
  obtain ⟨fd, hfi, rfl⟩ := ht'
  rw [Array.getElem?_toList] at hfi
  rw [← hoff i fd hfi]
  exact hfd i fd hfi) (fun n hn => hw n (by rw [hwt]; exact hn))
 exact ⟨g y, by show d.K W (f (g y)) cs; rw [hfg]; exact hy, by show G (f (g y)); rw [hfg]; exact hg, by show m (f (g y)) ≤ Rows.uptoBulkAll _ + 1; rw [hfg]; omega⟩
end
end Go.Proofs.Ytbfehjncllkogaa.Q
