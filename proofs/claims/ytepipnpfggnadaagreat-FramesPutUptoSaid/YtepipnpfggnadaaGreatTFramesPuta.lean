/- Texts of this session laid together (shrink.py): what the claim's law rests on. -/
import Derived.Below
import Derived.Deep.Draws
import Derived.Deep.AppendLies
import Derived.Maps.AppendAt
import Derived.OwnWalk
import Derived.Laws.BytesArg
import Derived.Laws.MakeOwn
import Derived.Laws.OwnMore
import Derived.Deep.OwnRows
import Derived.Tactics
import Derived.Lib.ConvBytes
import Derived.Laws.Slices
import Derived.WalkKit
import Derived.KernelRfl
import Derived.RowKit3
import Derived.Deep.LoopGhost
import Derived.Deep.QuietTactic
import Derived.BigQuiet
import Derived.WideLaws
import Derived.Deep.DeepCutAuto
import Derived.Deep.CutBlock
import Derived.Deep.RegionHeld3
import Derived.Laws.Rows
import Derived.Lib.AppendStr
import Derived.ArgAppend
import Derived.Laws.IdiomCopy
import Derived.RowKit
import Derived.OrdersHeld
import Derived.Laws.BitsLemmas
import Derived.Laws.StructEq
import Derived.Test.YtepipnpfggnadaaGreatProg
import Derived.WalkMore
set_option linter.unusedVariables false
set_option linter.unusedSimpArgs false
set_option maxRecDepth 100000
set_option maxHeartbeats 8000000
open List renaming setIfInBounds_toArray → zdG
open List renaming set_cons_zero → zdH
open List renaming set_cons_succ → zdI
open List renaming map_toArray → zdJ
open Option renaming bind_eq_some_iff → zdK
open Go.World renaming block_lt_of_cell? → zdL
open Bool renaming eq_false_iff → zdM
open List renaming length_append → zdN
namespace Go.Proofs.YtepipnpfggnadaaGreatW.PrintWords
open Go.RowKit
structure za (p : Prop) : Prop where mk :: (out : p)
structure zi (w w' : World) : Prop where mk :: (out : ∃ n, w' = w.drewN n)
theorem zi.refl (w : World) : zi w w := ⟨⟨0, rfl⟩⟩
theorem zi.step {w w' : World} (h : zi w w') (n : Nat) : zi w (w'.drewN n) := by
 obtain ⟨m, rfl⟩ := h
 exact ⟨⟨m + n, World.drewN_drewN ..⟩⟩
theorem zi.grown {w w' : World} (h : zi w w') : Grown w w' := by
 obtain ⟨n, rfl⟩ := h
 induction n with
 | zero => exact Grown.refl _
 | succ n ih => rw [← World.drew_drewN]; exact Grown.drew ih
theorem zi.below {w w' : World} (h : zi w w') : Below w.heap.size w w' := by
 obtain ⟨n, rfl⟩ := h
 induction n with
 | zero => exact Below.refl _ _
 | succ n ih => rw [← World.drew_drewN]; exact ih.drew
def rd (xs : List Int) (i : Int) : Int := xs.getD i.toNat 0
def bt (s : ByteArray) (i : Int) : Int := if h : i.toNat < s.size then ((s[i.toNat]'h).toNat : Int) else 0
theorem xg (s : ByteArray) (i : Int) : ∀ h : i.toNat < s.size, ((s[i.toNat]'h).toNat : Int) = bt s i := fun h => by simp [bt, h]
def yH (k : IntKind) (xs : List Int) : List Value := xs.map fun x => .int k x
theorem xL (k : IntKind) (xs : List Int) : (yH k xs).length = xs.length := by simp [yH]
theorem XH (k : IntKind) (xs ys : List Int) : yH k (xs ++ ys) = yH k xs ++ yH k ys := by simp [yH]
theorem zc {w W : World} (h : Below w.heap.size w W) (o : Obj) : Below w.heap.size w (W.alloc o) := h.alloc h.size o
theorem Qb {B : Nat} {w W : World} (h : Below B w W) : Below B w W.drew := ⟨h.os, h.tape, h.output, h.size, h.block⟩
theorem zb {B : Nat} {w W : World} (h : Below B w W) (n : Nat) : Below B w (W.drewN n) := ⟨h.os, h.tape, h.output, h.size, h.block⟩
theorem zan {B : Nat} {w w1 w2 : World} (h : Below B w w1) (hB : B ≤ w1.heap.size) (k : Below w1.heap.size w1 w2) : Below B w w2 :=
 h.trans ⟨k.os, k.tape, k.output, k.size, fun i hi => k.block i (Nat.lt_of_lt_of_le hi hB)⟩
theorem YB {w w1 : World} (h : Below w.heap.size w w1) (row : Option Nat) : w.grownBy w1 row := ⟨h.os, h.tape, h.output, h.size, fun i hi _ => h.block i hi⟩
theorem vu {w w1 : World} (h : Below w.heap.size w w1) {a : Addr} {v : Value} (hc : w.cell? a = some v) : w1.cell? a = some v := (h.cell (zdL w a hc)).trans hc
theorem Y7 (g j : Nat) : (⟨g, 0, none⟩ : Addr).add j = ⟨g, j, none⟩ := by unfold Addr.add; split <;> simp_all
def xj (w : World) (k : IntKind) (A : Option Addr) (n : Nat) (xs : List Int) : Prop :=
 xs.length = n ∧ n ≤ 9223372036854775807 ∧ (0 < n → ∃ ad, A = some ad ∧ ∀ j, j < n → w.cell? (ad.add j) = some (.int k (xs.getD j 0)))
theorem xj.at_ {w : World} {k : IntKind} {A : Option Addr} {n : Nat} {xs : List Int} (h : xj w k A n xs) (i : Int) (h0 : 0 ≤ i) (h1 : i < n) : ∃ ad, A = some ad ∧ w.cell? (ad.add i.toNat) = some (.int k (rd xs i)) := by
 obtain ⟨ad, e, hc⟩ := h.2.2 (by omega)
 exact ⟨ad, e, hc _ (by omega)⟩
theorem xj.below {w w1 : World} {k : IntKind} {A : Option Addr} {n : Nat} {xs : List Int} (h : xj w k A n xs) (hb : Below w.heap.size w w1) : xj w1 k A n xs :=
 ⟨h.1, h.2.1, fun hn => by
  obtain ⟨ad, e, hc⟩ := h.2.2 hn
  exact ⟨ad, e, fun j hj => vu hb (hc j hj)⟩⟩
theorem zc1 (W : World) (base : Nat) (e : TypeId) (size : Nat) : W.ownsRow base e size (.slice none 0 0) 0 [] := ⟨by simp, .inl ⟨rfl, rfl⟩⟩
theorem Yc {w : World} {base : Nat} {e : TypeId} {size n : Nat} {v : Value} {xs : List Value} (h : w.ownsRow base e size v n xs) (k : Nat) (hk : v.ownBlock = some k) : base ≤ k := by
 rcases h.2 with ⟨rfl, _⟩ | ⟨g, cap, cur, rfl, hb, _⟩
 ·simp [Value.ownBlock] at hk
 ·have : g = k := by simpa [Value.ownBlock] using hk
  omega
theorem zbw {w : World} {base : Nat} {e : TypeId} {size n : Nat} {v : Value} {xs : List Value} (h : w.ownsRow base e size v n xs) (k : Nat) (hk : v.ownBlock = some k) : k < w.heap.size := by
 rcases h.2 with ⟨rfl, _⟩ | ⟨g, cap, cur, rfl, hb, hh, _⟩
 ·simp [Value.ownBlock] at hk
 ·have : g = k := by simpa [Value.ownBlock] using hk
  subst this
  exact (Array.getElem?_eq_some_iff.1 hh).1
theorem JK {w w1 : World} {base : Nat} {e : TypeId} {size n : Nat} {v : Value} {xs : List Value} (h : w.ownsRow base e size v n xs) (hb : Below w.heap.size w w1) : w1.ownsRow base e size v n xs :=
 h.kept (YB hb none) (by cases v.ownBlock <;> simp)
theorem jQ {P : Program} {w : World} {base n : Nat} {e' src dst e : TypeId} {v : Value} {xs : List Int} (hs : P.underlying src = some (.slice e)) (he : P.underlying e = some (.int .u8)) (hd : P.underlying dst = some .string)
  (h : w.ownsRow base e' 1 v n (yH .u8 xs)) : (convert src dst v).run P w = .ok (.string (strOfNums xs)) w := by
 have hl : xs.length = n := by have := h.1; simp [yH] at this; exact this
 rcases h.2 with ⟨rfl, rfl⟩ | ⟨g, cap, cur, rfl, _⟩
 ·obtain rfl : xs = [] := List.eq_nil_of_length_eq_zero hl
  exact run_convert_bytes_nil w src e hs he 0 0 dst hd
 ·refine run_convert_bytes_arg w src e hs he g 0 n cap xs hl (fun i hi => ?_) dst hd
  have hc := h.cells (g := g) rfl i (.int .u8 (xs.getD i 0)) (by simp [yH, List.getElem?_eq_getElem (show i < xs.length by omega), List.getD_eq_getElem?_getD])
  have ha : (⟨g, 0, none⟩ : Addr).add i = ⟨g, 0 + i, none⟩ := by unfold Addr.add; split <;> simp_all
  rwa [ha] at hc
theorem zcZ (W : World) (base : Nat) (e : TypeId) (k : IntKind) (xs : List Int) (hb : base ≤ W.heap.size) (hm : xs.length ≤ 9223372036854775807) :
  (W.alloc (.cells (yH k xs).toArray e)).ownsRow base e 1 (.slice (some ⟨W.heap.size, 0, none⟩) xs.length xs.length) xs.length (yH k xs) := by
 have h := World.ownsRow_lit (base := base) (e := e) (size := 1) W (yH k xs).toArray xs.length hb (by simpa [maxLen] using hm) (by simp [yH])
 simpa using h
def bytesOf (s : ByteArray) : List Int := s.data.toList.map fun b => (b.toNat : Int)
theorem XE (s : ByteArray) : s.data.toList.length = s.size := by rw [Array.length_toList]; rfl
theorem yy (s : ByteArray) : (bytesOf s).length = s.size := by rw [bytesOf, List.length_map, XE]
theorem qE {B : Nat} {w W : World} (h : Below B w W) (hB : B ≤ W.heap.size) (e : TypeId) (s : ByteArray) : Below B w (Lib.bytesWorld W e s) :=
 h.trans ⟨rfl, rfl, rfl, by rw [Lib.bytesWorld_size]; omega, fun i hi => Lib.bytesWorld_at_old W e s i (by omega)⟩
theorem xj.take_ {w : World} {k : IntKind} {A : Option Addr} {n : Nat} {xs : List Int} (h : xj w k A n xs) (i : Nat) (hi : i ≤ n) : xj w k A i (xs.take i) := by
 refine ⟨by rw [List.length_take, h.1]; omega, by have := h.2.1; omega, fun hp => ?_⟩
 obtain ⟨ad, e, hc⟩ := h.2.2 (by omega)
 refine ⟨ad, e, fun j hj => ?_⟩
 rw [hc j (by omega)]
 simp [List.getD_eq_getElem?_getD, hj]
def LeO {α : Type} (a b : Option α) : Prop := ∀ r, a = some r → b = some r
theorem LeO.refl {α : Type} (a : Option α) : LeO a a := fun _ h => h
theorem LeO.none {α : Type} (b : Option α) : LeO Option.none b := fun _ h => by cases h
theorem LeO.trans {α : Type} {a b c : Option α} (h : LeO a b) (k : LeO b c) : LeO a c := fun r hr => k r (h r hr)
theorem LeO.ite {α : Type} {c : Prop} [Decidable c] {a a' b b' : Option α} (h : LeO a a') (k : LeO b b') : LeO (if c then a else b) (if c then a' else b') := by
 split
 ·exact h
 ·exact k
theorem LeO.bind {α β : Type} {a a' : Option α} {f f' : α → Option β} (h : LeO a a') (k : ∀ x, LeO (f x) (f' x)) : LeO (a.bind f) (a'.bind f') := by
 intro r hr
 obtain ⟨x, hx, hf⟩ := zdK.1 hr
 exact zdK.2 ⟨x, h x hx, k x r hf⟩
theorem LeO.map {α β : Type} {a a' : Option α} (f : α → β) (h : LeO a a') : LeO (a.map f) (a'.map f) := by
 intro r hr
 obtain ⟨x, hx, hf⟩ := Option.map_eq_some_iff.1 hr
 exact Option.map_eq_some_iff.2 ⟨x, h x hx, hf⟩
theorem XL {α : Type} {g : Nat → Option α} (h : ∀ k, LeO (g k) (g (k + 1))) (k : Nat) : ∀ j, LeO (g k) (g (k + j))
 | 0 => LeO.refl _
 | j + 1 => (XL h k j).trans (h (k + j))
theorem zbb {α : Type} {g : Nat → Option α} (h : ∀ k, LeO (g k) (g (k + 1))) {k k' : Nat} (hk : k ≤ k') {r : α} (hr : g k = some r) : g k' = some r := by
 have := XL h k (k' - k) r hr
 rwa [Nat.add_sub_cancel' hk] at this
def zX {α : Type} (R : α → List Value → Prop) (size : Nat) (ps : List α) (cs : List Value) : Prop :=
 cs.length = ps.length * size ∧ ∀ j p, ps[j]? = some p → R p ((cs.drop (j * size)).take size)
theorem zX.none {α : Type} (R : α → List Value → Prop) (size : Nat) : zX R size [] [] := ⟨by simp, fun j p h => by simp at h⟩
theorem zX.snoc {α : Type} {R : α → List Value → Prop} {size : Nat} {ps : List α} {cs c : List Value} {p : α} (h : zX R size ps cs) (hp : R p c) (hc : c.length = size) : zX R size (ps ++ [p]) (cs ++ c) := by
 refine ⟨by rw [zdN, h.1, hc, zdN, List.length_singleton, Nat.add_mul, Nat.one_mul], fun j q hq => ?_⟩
 rcases Nat.lt_or_ge j ps.length with hj | hj
 ·rw [List.getElem?_append_left hj] at hq
  have h1 : j * size + size ≤ cs.length := by rw [h.1, ← Nat.succ_mul]; exact Nat.mul_le_mul_right _ hj
  have h2 := h.2 j q hq
  rw [List.drop_append_of_le_length (by omega), List.take_append_of_le_length (by rw [List.length_drop]; omega)]
  exact h2
 ·have hj' : j = ps.length := by
   have := (List.getElem?_eq_some_iff.1 hq).1
   rw [zdN, List.length_singleton] at this
   omega
  subst hj'
  have hq' : p = q := by simpa using hq
  subst hq'
  rw [← h.1, List.drop_left, ← hc, List.take_length]
  exact hp
theorem zX.imp_ {α : Type} {R R' : α → List Value → Prop} {size : Nat} {ps : List α} {cs : List Value} (h : zX R size ps cs) (hR : ∀ p c, R p c → R' p c) : zX R' size ps cs := ⟨h.1, fun j p hj => hR _ _ (h.2 j p hj)⟩
def ja {α : Type} (R : α → List Value → Prop) (size : Nat) (w : World) (A : Option Addr) (n : Nat) (ps : List α) : Prop :=
 ps.length = n ∧ n ≤ 9223372036854775807 ∧ (0 < n → ∃ ad, A = some ad ∧ ∀ j p, ps[j]? = some p → ∃ c, c.length = size ∧ R p c ∧ ∀ i u, c[i]? = some u → w.cell? (ad.add (j * size + i)) = some u)
theorem ja.get_ {α : Type} {R : α → List Value → Prop} {size : Nat} {w : World} {A : Option Addr} {n : Nat} {ps : List α} (h : ja R size w A n ps) (d : α) (i : Int) (h0 : 0 ≤ i) (h1 : i < n) :
  ∃ ad c, A = some ad ∧ c.length = size ∧ R (ps.getD i.toNat d) c ∧ ∀ j u, c[j]? = some u → w.cell? (ad.add (i.toNat * size + j)) = some u := by
 obtain ⟨ad, e, hc⟩ := h.2.2 (by omega)
 have hl : i.toNat < ps.length := by have := h.1; omega
 obtain ⟨c, hs, hr, hcell⟩ := hc i.toNat _ (List.getElem?_eq_getElem hl)
 refine ⟨ad, c, e, hs, ?_, hcell⟩
 rw [List.getD_eq_getElem?_getD, List.getElem?_eq_getElem hl]
 exact hr
theorem ja.imp_ {α : Type} {R R' : α → List Value → Prop} {size : Nat} {w w1 : World} {A : Option Addr} {n : Nat} {ps : List α} (h : ja R size w A n ps) (hb : Below w.heap.size w w1) (hR : ∀ p c, R p c → R' p c) : ja R' size w1 A n ps :=
 ⟨h.1, h.2.1, fun hn => by
  obtain ⟨ad, e, hc⟩ := h.2.2 hn
  refine ⟨ad, e, fun j p hj => ?_⟩
  obtain ⟨c, hs, hr, hcell⟩ := hc j p hj
  exact ⟨c, hs, hR _ _ hr, fun i u hu => vu hb (hcell i u hu)⟩⟩
theorem Jg {α : Type} {R : α → List Value → Prop} {w : World} {base n size : Nat} {e : TypeId} {v : Value} {ps : List α} {cs : List Value} (h : w.ownsRow base e size v n cs) (hR : zX R size ps cs) (hn : ps.length = n) :
  ∃ A c, v = .slice A n c ∧ ja R size w A n ps := by
 rcases Nat.eq_zero_or_pos n with h0 | h0
 ·rcases h.2 with ⟨rfl, rfl⟩ | ⟨g, cap, cur, rfl, _⟩
  ·exact ⟨none, 0, rfl, hn, by omega, fun hp => absurd hp (by omega)⟩
  ·exact ⟨_, cap, rfl, hn, by omega, fun hp => absurd hp (by omega)⟩
 ·obtain ⟨g, cap, rfl, _, _⟩ := h.form h0
  have hm : n ≤ 9223372036854775807 := by
   rcases h.2 with ⟨_, h1⟩ | ⟨g', cap', cur, he, _, _, h1, h2, _⟩
   ·omega
   ·simp only [maxLen] at h2
    omega
  refine ⟨_, cap, rfl, hn, hm, fun _ => ⟨_, rfl, fun j p hj => ⟨(cs.drop (j * size)).take size, ?_, hR.2 j p hj, fun i u hu => ?_⟩⟩⟩
  ·have hjl := (List.getElem?_eq_some_iff.1 hj).1
   have h1 : j * size + size ≤ cs.length := by rw [hR.1, ← Nat.succ_mul]; exact Nat.mul_le_mul_right _ hjl
   rw [List.length_take, List.length_drop]
   omega
  ·refine h.cells (g := g) rfl _ u ?_
   rw [List.getElem?_take] at hu
   split at hu
   ·rw [List.getElem?_drop] at hu
    exact hu
   ·cases hu
theorem xy (ad : Addr) (m j : Nat) (hj : 0 < j) : ad.add (m + j) = ⟨(ad.add m).block, (ad.add m).off + j, none⟩ := by
 unfold Addr.add
 by_cases hm : m = 0
 ·subst hm
  simp [Nat.ne_of_gt hj]
 ·simp [hm, Nat.add_assoc]
section
variable {P : Program} {ops : Array Oper} {rest : List Oper} {o : Oper} {a : Act} {Q : Exit → Act → World → Prop}
theorem ZA {w0 W : World} (base : Nat) (hgd : o.guard = none) (s x : Operand) (t e : TypeId) (z : Value) (size bytes : Nat)
  (ho : o.op = .call { callee := .builtin .append, args := #[s, x], argTypes := #[t, t] })
  (ht : P.underlying t = some (.slice e)) (hinfo : (P.info? e).map (fun i => (i.zero, i.size, i.bytes)) = some (some z, size, bytes)) (hz : z.cells.size = size) (hs0 : 0 < size) (hb0 : 0 < bytes)
  (v : Value) (n : Nat) (xs ys : List Value) (hs : a.eval s = v) (hx : a.eval x = .slice (some ⟨W.heap.size, 0, none⟩) 1 1) (hys : ys.length = size) (h1 : ∀ u ∈ ys, u.oneCell' = true)
  (HO : W.ownsRow base e size v n xs) (HB : Below base w0 W) (hbase : base ≤ W.heap.size) (hl : (n + 1) * bytes ≤ 140737488355328)
  (h : ∀ v1 w1, w1.ownsRow base e size v1 (n + 1) (xs ++ ys) → Below base w0 w1 → W.grownBy w1 v.ownBlock → (v1.ownBlock = v.ownBlock ∨ ∃ b, v1.ownBlock = some b ∧ W.heap.size ≤ b) → wpList P ops Q rest (a.put o.dst v1) w1) :
  wpList P ops Q (o :: rest) a (W.alloc (.cells ys.toArray e)) := by
 obtain ⟨i0, hi, hzz⟩ := Option.map_eq_some_iff.1 hinfo
 simp only [Prod.mk.injEq] at hzz
 obtain ⟨hz0, hz1, hz2⟩ := hzz
 have hlen : n + 1 ≤ 140737488355328 := Nat.le_trans (Nat.le_mul_of_pos_right _ hb0) hl
 refine wpList_append_own_at (W.alloc (.cells ys.toArray e)) hgd s x t ho base e i0 z size bytes ht hi hz0 hz1 hz2 hz hs0 v n xs hs (HO.alloc _) ⟨W.heap.size, 0, none⟩ 1 1 ys hx (by rw [hys]; simp)
  (by simpa using World.news_of_block (cs := ys.toArray) (t := e) (fr := (0, 0)) (heap_alloc_new W (.cells ys.toArray e))) h1 (by simp only [maxLen]; omega) hl (by simp; omega) ?_
 intro v1 w1 hown hg _ hat
 refine h v1 w1 hown ((HB.alloc hbase _).grown hg (by simp; omega) (Yc HO)) (World.grownBy.trans (World.grownBy_alloc W _ _) hg) ?_
 rcases hat with hat | hat
 ·exact .inl hat
 ·exact .inr ⟨_, hat, by simp⟩
end
theorem zaV {w : World} {base : Nat} {e t : TypeId} {size n g : Nat} {v : Value} {xs : List Value} {cs : Array Value} (h : w.ownsRow base e size v n xs) (hg : w.heap[g]? = some (.cells cs t (0, 0))) (hne : e ≠ t) : some g ≠ v.ownBlock := by
 rcases h.2 with ⟨rfl, _⟩ | ⟨g', cap, cur, rfl, _, hh, _⟩
 ·simp [Value.ownBlock]
 ·intro he
  have : g = g' := by simpa [Value.ownBlock] using he
  subst this
  rw [hg] at hh
  injection hh with hh
  injection hh with _ ht
  exact hne ht.symm
theorem Yx {w : World} {g : Nat} {t : TypeId} {cs : Array Value} (h : w.heap[g]? = some (.cells cs t (0, 0))) (i : Nat) (u : Value) : (w.setCell ⟨g, i, none⟩ u).heap[g]? = some (.cells (cs.setIfInBounds i u) t (0, 0)) := by
 simp [World.setCell, Array.getElem?_modify, h]
theorem xY {w : World} {g : Nat} {o : Obj} (h : w.heap[g]? = some o) : g < w.heap.size := (Array.getElem?_eq_some_iff.1 h).1
theorem zm {w : World} {g : Nat} {t : TypeId} {cs : Array Value} (h : w.heap[g]? = some (.cells cs t (0, 0))) (i : Nat) : w.cell? ⟨g, i, none⟩ = cs[i]? := cell_of_row w g i cs t (0, 0) h
theorem zn {w : World} {g : Nat} {t : TypeId} {cs : Array Value} (h : w.heap[g]? = some (.cells cs t (0, 0))) (i : Nat) : w.frozen? ⟨g, i, none⟩ = false := by simp [World.frozen?, h]
theorem Yn {w w1 : World} {g : Nat} {o : Obj} {row : Option Nat} (h : w.heap[g]? = some o) (hg : w.grownBy w1 row) (hne : some g ≠ row) : w1.heap[g]? = some o := (hg.block g (xY h) hne).trans h
def yX (w w' : World) (g : Nat) (row : Option Nat) : Prop := w.heap.size ≤ w'.heap.size ∧ ∀ i, i < w.heap.size → i ≠ g → some i ≠ row → w'.heap[i]? = w.heap[i]?
theorem yX.refl (w : World) (g : Nat) (row : Option Nat) : yX w w g row := ⟨Nat.le_refl _, fun _ _ _ _ => rfl⟩
theorem yX.of_grown {w w1 : World} {row : Option Nat} (h : w.grownBy w1 row) (g : Nat) : yX w w1 g row := ⟨h.size, fun i hi _ hr => h.block i hi hr⟩
theorem yX.of_below {w w1 : World} (h : Below w.heap.size w w1) (g : Nat) (row : Option Nat) : yX w w1 g row := ⟨h.size, fun i hi _ _ => h.block i hi⟩
theorem yX.trans {w w1 w2 : World} {g : Nat} {row row1 : Option Nat} (h : yX w w1 g row) (k : yX w1 w2 g row1) (hr : row1 = row ∨ ∃ b, row1 = some b ∧ w.heap.size ≤ b) : yX w w2 g row :=
 ⟨Nat.le_trans h.1 k.1, fun i hi hg hn => by
  refine (k.2 i (Nat.lt_of_lt_of_le hi h.1) hg ?_).trans (h.2 i hi hg hn)
  rcases hr with rfl | ⟨b, rfl, hb⟩
  ·exact hn
  ·intro e
   injection e with e
   omega⟩
theorem yX.blk {w w1 : World} {g g' : Nat} {row : Option Nat} {o : Obj} (h : yX w w1 g row) (hb : w.heap[g']? = some o) (hg : g' ≠ g) (hr : some g' ≠ row) : w1.heap[g']? = some o := (h.2 g' (xY hb) hg hr).trans hb
theorem yX.own {w w1 : World} {g : Nat} {row : Option Nat} {base : Nat} {e : TypeId} {size n : Nat} {v : Value} {xs : List Value} (h : yX w w1 g row) (ho : w.ownsRow base e size v n xs) (hg : v.ownBlock ≠ some g) (hr : v.ownBlock = none ∨ v.ownBlock ≠ row) : w1.ownsRow base e size v n xs := by
 obtain ⟨h1, h2⟩ := ho
 refine ⟨h1, ?_⟩
 rcases h2 with h2 | ⟨b, cap, cur, rfl, hb, hh, r⟩
 ·exact .inl h2
 ·refine .inr ⟨b, cap, cur, rfl, hb, h.blk hh ?_ ?_, r⟩
  ·intro e
   exact hg (by rw [← e]; rfl)
  ·rcases hr with hr | hr
   ·simp [Value.ownBlock] at hr
   ·exact hr
def Ev {α : Type} (g : Nat → Option α) (r : α) : Prop := ∃ K, ∀ k, K ≤ k → g k = some r
theorem Ev.of {α : Type} {g : Nat → Option α} {r : α} (hg : ∀ k, LeO (g k) (g (k + 1))) {k : Nat} (h : g k = some r) : Ev g r := ⟨k, fun _ hk => zbb hg hk h⟩
theorem Ev.now {α : Type} (r : α) : Ev (fun _ => some r) r := ⟨0, fun _ _ => rfl⟩
theorem Ev.bind {α β : Type} {g : Nat → Option α} {f : Nat → α → Option β} {a : α} {r : β} (h : Ev g a) (k : Ev (fun n => f n a) r) : Ev (fun n => (g n).bind (f n)) r := by
 obtain ⟨K, h⟩ := h
 obtain ⟨K', k⟩ := k
 refine ⟨max K K', fun n hn => ?_⟩
 have h1 := h n (by omega)
 have h2 := k n (by omega)
 simp only [h1, Option.bind_some]
 exact h2
theorem Ev.step {α : Type} {g f : Nat → Option α} {r : α} (h : ∀ k, g (k + 1) = f k) (k : Ev f r) : Ev g r := by
 obtain ⟨K, k⟩ := k
 refine ⟨K + 1, fun n hn => ?_⟩
 obtain ⟨m, rfl⟩ : ∃ m, n = m + 1 := ⟨n - 1, by omega⟩
 rw [h]
 exact k m (by omega)
theorem Ev.congr {α : Type} {g f : Nat → Option α} {r : α} (h : ∀ k, g k = f k) (k : Ev f r) : Ev g r := by
 obtain ⟨K, k⟩ := k
 exact ⟨K, fun n hn => (h n).trans (k n hn)⟩
section
variable {P : Program} {ops : Array Oper} {o : Oper} {a : Act} {Q : Exit → Act → World → Prop} {K : Act → World → Prop}
theorem Xz {w0 W : World} (base : Nat) (hw : Region.wanted o (yielded ops a.tmps) = true) (s x : Operand) (t e : TypeId) (z : Value) (size bytes : Nat)
  (ho : o.op = .call { callee := .builtin .append, args := #[s, x], argTypes := #[t, t] })
  (ht : P.underlying t = some (.slice e)) (hinfo : (P.info? e).map (fun i => (i.zero, i.size, i.bytes)) = some (some z, size, bytes)) (hz : z.cells.size = size) (hs0 : 0 < size) (hb0 : 0 < bytes)
  (v : Value) (n : Nat) (xs ys : List Value) (hs : a.eval s = v) (hx : a.eval x = .slice (some ⟨W.heap.size, 0, none⟩) 1 1) (hys : ys.length = size) (h1 : ∀ u ∈ ys, u.oneCell' = true)
  (HO : W.ownsRow base e size v n xs) (HB : Below base w0 W) (hbase : base ≤ W.heap.size) (hl : (n + 1) * bytes ≤ 140737488355328)
  (h : ∀ v1 w1, w1.ownsRow base e size v1 (n + 1) (xs ++ ys) → Below base w0 w1 → W.grownBy w1 v.ownBlock → (v1.ownBlock = v.ownBlock ∨ ∃ b, v1.ownBlock = some b ∧ W.heap.size ≤ b) → K (a.put o.dst v1) w1) :
  if Region.wanted o (yielded ops a.tmps) = true then Oper.wp P o a (W.alloc (.cells ys.toArray e)) K Q else K (a.put o.dst undef) (W.alloc (.cells ys.toArray e)) := by
 obtain ⟨i0, hi, hzz⟩ := Option.map_eq_some_iff.1 hinfo
 simp only [Prod.mk.injEq] at hzz
 obtain ⟨hz0, hz1, hz2⟩ := hzz
 have hlen : n + 1 ≤ 140737488355328 := Nat.le_trans (Nat.le_mul_of_pos_right _ hb0) hl
 rw [if_pos hw]
 obtain ⟨v1, w1, hr, hown, hg, _, hat⟩ := run_append_own_at (P := P) (W.alloc (.cells ys.toArray e)) base t o.type e i0 z size bytes ht hi hz0 hz1 hz2 hz hs0 v n xs (HO.alloc _) ⟨W.heap.size, 0, none⟩ 1 1 ys (by rw [hys]; simp)
  (by simpa using World.news_of_block (cs := ys.toArray) (t := e) (fr := (0, 0)) (heap_alloc_new W (.cells ys.toArray e))) h1 (by simp only [maxLen]; omega) hl (by simp; omega)
 unfold Oper.wp execOp
 simp only [ho, resolve, invoke, builtin, Sem.run_bind, Sem.run_pure, Result.andThen_ok, zdJ, List.map_cons, List.map_nil, hs, hx, hr]
 refine h v1 w1 hown ((HB.alloc hbase _).grown hg (by simp; omega) (Yc HO)) (World.grownBy.trans (World.grownBy_alloc W _ _) hg) ?_
 rcases hat with hat | hat
 ·exact .inl hat
 ·exact .inr ⟨_, hat, by simp⟩
end
theorem zah {w : World} {base base' : Nat} {e : TypeId} {size n : Nat} {v : Value} {xs : List Value} (h : w.ownsRow base e size v n xs) (hb : base' ≤ base) : w.ownsRow base' e size v n xs := by
 obtain ⟨h1, h2⟩ := h
 refine ⟨h1, ?_⟩
 rcases h2 with h2 | ⟨g, cap, cur, rfl, hg, r⟩
 ·exact .inl h2
 ·exact .inr ⟨g, cap, cur, rfl, Nat.le_trans hb hg, r⟩
section
variable {α : Type} {enc : α → Value} {d : α}
def Ye (enc : α → Value) (xs : List α) : List Value := xs.map enc
def ym (d : α) (xs : List α) (i : Int) : α := xs.getD i.toNat d
theorem XA (xs : List α) : (Ye enc xs).length = xs.length := by simp [Ye]
def xt (enc : α → Value) (d : α) (w : World) (A : Option Addr) (n : Nat) (xs : List α) : Prop :=
 xs.length = n ∧ n ≤ 9223372036854775807 ∧ (0 < n → ∃ ad, A = some ad ∧ ∀ j, j < n → w.cell? (ad.add j) = some (enc (xs.getD j d)))
theorem xt.at_ {w : World} {A : Option Addr} {n : Nat} {xs : List α} (h : xt enc d w A n xs) (i : Int) (h0 : 0 ≤ i) (h1 : i < n) : ∃ ad, A = some ad ∧ w.cell? (ad.add i.toNat) = some (enc (ym d xs i)) := by
 obtain ⟨ad, e, hc⟩ := h.2.2 (by omega)
 exact ⟨ad, e, hc _ (by omega)⟩
theorem xt.below {w w1 : World} {A : Option Addr} {n : Nat} {xs : List α} (h : xt enc d w A n xs) (hb : Below w.heap.size w w1) : xt enc d w1 A n xs :=
 ⟨h.1, h.2.1, fun hn => by
  obtain ⟨ad, e, hc⟩ := h.2.2 hn
  exact ⟨ad, e, fun j hj => vu hb (hc j hj)⟩⟩
theorem xt.take_ {w : World} {A : Option Addr} {n : Nat} {xs : List α} (h : xt enc d w A n xs) (i : Nat) (hi : i ≤ n) : xt enc d w A i (xs.take i) := by
 refine ⟨by rw [List.length_take, h.1]; omega, by have := h.2.1; omega, fun hp => ?_⟩
 obtain ⟨ad, e, hc⟩ := h.2.2 (by omega)
 refine ⟨ad, e, fun j hj => ?_⟩
 rw [hc j (by omega)]
 simp [List.getD_eq_getElem?_getD, hj]
end
theorem zR {w : World} {g : Nat} {o : Obj} (h : w.heap[g]? = some o) (o' : Obj) : (w.alloc o').heap[g]? = some o := (Below.heap_alloc w o' g (xY h)).trans h
theorem zV {w : World} {g : Nat} {o : Obj} (h : w.heap[g]? = some o) : w.drew.heap[g]? = some o := h
theorem zS {w : World} {g : Nat} {o : Obj} (h : w.heap[g]? = some o) (n : Nat) : (w.drewN n).heap[g]? = some o := h
theorem zZ {w w1 : World} {g : Nat} {o : Obj} (h : w.heap[g]? = some o) (hb : Below w.heap.size w w1) : w1.heap[g]? = some o := (hb.block g (xY h)).trans h
theorem VN (w : World) (o : Obj) : (w.alloc o).heap[w.heap.size]? = some o := heap_alloc_new w o
theorem zdF {w : World} {base n m c size : Nat} {e : TypeId} {A : Option Addr} {xs : List Value} (h : w.ownsRow base e size (.slice A m c) n xs) : m ≤ c := by
 rcases h.2 with ⟨he, _⟩ | ⟨g, cap, cur, he, _, _, hnc, _⟩
 ·injection he with _ h2 h3
  omega
 ·injection he with _ h2 h3
  omega
def xe {α : Type} (R : α → List Value → Prop) (e : TypeId) (size : Nat) (w : World) (base : Nat) (v : Value) (ps : List α) : Prop :=
 ∃ inner, w.ownsRow base e size v ps.length inner ∧ zX R size ps inner
section
variable {α : Type} {R R' : α → List Value → Prop} {e : TypeId} {size : Nat} {w w1 : World} {base : Nat} {v : Value} {ps : List α}
theorem xe.none_ (R : α → List Value → Prop) (e : TypeId) (size : Nat) (w : World) (base : Nat) : xe R e size w base (.slice none 0 0) [] := ⟨[], zc1 _ _ _ _, zX.none _ _⟩
theorem xe.imp_ (h : xe R e size w base v ps) (hR : ∀ p c, R p c → R' p c) : xe R' e size w base v ps := by
 obtain ⟨inner, ho, hr⟩ := h
 exact ⟨inner, ho, hr.imp_ hR⟩
theorem xe.below (h : xe R e size w base v ps) (hb : Below w.heap.size w w1) : xe R e size w1 base v ps := by
 obtain ⟨inner, ho, hr⟩ := h
 exact ⟨inner, JK ho hb, hr⟩
theorem xe.keep (h : xe R e size w base v ps) {g : Nat} {t : TypeId} {cells : Array Value} (hb : w.heap[g]? = some (.cells cells t (0, 0))) (ht : e ≠ t) (hk : yX w w1 g none) : xe R e size w1 base v ps := by
 obtain ⟨inner, ho, hr⟩ := h
 exact ⟨inner, hk.own ho (Ne.symm (zaV ho hb ht)) (by cases v.ownBlock <;> simp), hr⟩
theorem xe.reads (h : xe R e size w base v ps) : ∃ A c, v = .slice A ps.length c ∧ ps.length ≤ c ∧ ja R size w A ps.length ps := by
 obtain ⟨inner, ho, hr⟩ := h
 obtain ⟨A, c, rfl, hrow⟩ := Jg ho hr rfl
 exact ⟨A, c, rfl, zdF ho, hrow⟩
theorem xe.ne_block (h : xe R e size w base v ps) {g : Nat} {t : TypeId} {cells : Array Value} (hb : w.heap[g]? = some (.cells cells t (0, 0))) (ht : e ≠ t) : some g ≠ v.ownBlock := by
 obtain ⟨inner, ho, hr⟩ := h
 exact zaV ho hb ht
theorem xe.lit (W : World) (base : Nat) {inner : List Value} (hr : zX R size ps inner) (hb : base ≤ W.heap.size) (hm : ps.length ≤ 9223372036854775807) :
  xe R e size (W.alloc (.cells inner.toArray e)) base (.slice (some ⟨W.heap.size, 0, none⟩) ps.length ps.length) ps := by
 have h := World.ownsRow_lit (base := base) (e := e) (size := size) W inner.toArray ps.length hb (by simpa [maxLen] using hm) (by simpa using hr.1)
 exact ⟨inner, by simpa using h, hr⟩
end
section
variable {P : Program} {ops : Array Oper} {rest : List Oper} {o : Oper} {a : Act} {Q : Exit → Act → World → Prop} {α : Type} {R : α → List Value → Prop}
theorem xe.append {w0 W : World} (base : Nat) (hgd : o.guard = none) (s x : Operand) (t e : TypeId) (z : Value) (size bytes : Nat)
  (ho : o.op = .call { callee := .builtin .append, args := #[s, x], argTypes := #[t, t] })
  (ht : P.underlying t = some (.slice e)) (hinfo : (P.info? e).map (fun i => (i.zero, i.size, i.bytes)) = some (some z, size, bytes)) (hz : z.cells.size = size) (hs0 : 0 < size) (hb0 : 0 < bytes)
  (v : Value) (ps : List α) (p : α) (cs : List Value) (hs : a.eval s = v) (hx : a.eval x = .slice (some ⟨W.heap.size, 0, none⟩) 1 1) (hp : R p cs) (hcs : cs.length = size) (h1 : ∀ u ∈ cs, u.oneCell' = true)
  (HO : xe R e size W base v ps) (HB : Below base w0 W) (hbase : base ≤ W.heap.size) (hl : (ps.length + 1) * bytes ≤ 140737488355328)
  (h : ∀ v1 w1, xe R e size w1 base v1 (ps ++ [p]) → Below base w0 w1 → W.grownBy w1 v.ownBlock → (v1.ownBlock = v.ownBlock ∨ ∃ b, v1.ownBlock = some b ∧ W.heap.size ≤ b) → wpList P ops Q rest (a.put o.dst v1) w1) :
  wpList P ops Q (o :: rest) a (W.alloc (.cells cs.toArray e)) := by
 obtain ⟨inner, hown, hr⟩ := HO
 refine ZA base hgd s x t e z size bytes ho ht hinfo hz hs0 hb0 v ps.length inner cs hs hx hcs h1 hown HB hbase hl ?_
 intro v1 w1 hown1 hb1 hg1 hat1
 exact h v1 w1 ⟨inner ++ cs, by rw [zdN, List.length_singleton]; exact hown1, hr.snoc hp hcs⟩ hb1 hg1 hat1
end
structure Kd (α : Type) where
 sz : Nat
 E : List Nat
 K : World → α → List Value → Prop
 M : World → Nat → (Nat → Prop) → α → List Value → Prop
 K_len : ∀ {w x cs}, K w x cs → cs.length = sz
 K_one : ∀ {w x cs}, K w x cs → ∀ u ∈ cs, u.oneCell' = true
 K_below : ∀ {w w1 : World} {x cs}, Below w.heap.size w w1 → K w x cs → K w1 x cs
 K_of_M : ∀ {w base ok x cs}, M w base ok x cs → K w x cs
 M_mono : ∀ {w base ok ok' x cs}, (∀ k, ok k → ok' k) → M w base ok x cs → M w base ok' x cs
 M_bound : ∀ {w : World} {base ok x cs}, M w base ok x cs → M w base (fun k => ok k ∧ base ≤ k ∧ k < w.heap.size ∧ ∃ q, q ∈ E ∧ ∃ cells, w.heap[k]? = some (.cells cells q (0, 0))) x cs
 M_move : ∀ {w w1 : World} {base ok x cs}, (∀ k, ok k → w1.heap[k]? = w.heap[k]?) → M w base ok x cs → M w1 base ok x cs
 M_lower : ∀ {w base base' ok x cs}, base' ≤ base → M w base ok x cs → M w base' ok x cs
theorem zbV {w w1 : World} {base : Nat} {e : TypeId} {size n : Nat} {v : Value} {xs : List Value} (h : w.ownsRow base e size v n xs) (hm : ∀ k, v.ownBlock = some k → w1.heap[k]? = w.heap[k]?) : w1.ownsRow base e size v n xs := by
 obtain ⟨h1, h2⟩ := h
 refine ⟨h1, ?_⟩
 rcases h2 with h2 | ⟨g, cap, cur, rfl, hg, hh, r⟩
 ·exact .inl h2
 ·exact .inr ⟨g, cap, cur, rfl, hg, (hm g (by simp [Value.ownBlock])).trans hh, r⟩
theorem QR {w : World} {base : Nat} {e : TypeId} {size n : Nat} {v : Value} {xs : List Value} (h : w.ownsRow base e size v n xs) (k : Nat) (hk : v.ownBlock = some k) : ∃ cells, w.heap[k]? = some (.cells cells e (0, 0)) := by
 rcases h.2 with ⟨rfl, _⟩ | ⟨g, cap, cur, rfl, hg, hh, r⟩
 ·simp [Value.ownBlock] at hk
 ·have : g = k := by simpa [Value.ownBlock] using hk
  subst this
  exact ⟨cur, hh⟩
namespace Kd
def C {α : Type} (d : Kd α) (w : World) (A : Option Addr) (n : Nat) (xs : List α) : Prop := ja (d.K w) d.sz w A n xs
def R {α : Type} (d : Kd α) (e : Nat) (w : World) (base : Nat) (ok : Nat → Prop) (v : Value) (xs : List α) : Prop :=
 (∀ k, v.ownBlock = some k → ok k) ∧ xe (d.M w base (fun k => ok k ∧ some k ≠ v.ownBlock)) e d.sz w base v xs
section
variable {α : Type} {d : Kd α} {e : Nat} {w w1 : World} {base : Nat} {ok ok' : Nat → Prop} {v : Value} {xs : List α}
theorem C_below {A : Option Addr} {n : Nat} (h : d.C w A n xs) (hb : Below w.heap.size w w1) : d.C w1 A n xs := ja.imp_ h hb (fun _ _ hp => d.K_below hb hp)
theorem R_nil (d : Kd α) (e : Nat) (w : World) (base : Nat) (ok : Nat → Prop) : d.R e w base ok (.slice none 0 0) [] := ⟨fun k hk => by simp [Value.ownBlock] at hk, xe.none_ _ _ _ _ _⟩
theorem R_mono (h : d.R e w base ok v xs) (hok : ∀ k, ok k → ok' k) : d.R e w base ok' v xs := ⟨fun k hk => hok k (h.1 k hk), h.2.imp_ (fun _ _ hp => d.M_mono (fun k hk => ⟨hok k hk.1, hk.2⟩) hp)⟩
theorem R_bound (h : d.R e w base ok v xs) : d.R e w base (fun k => ok k ∧ base ≤ k ∧ k < w.heap.size ∧ ∃ q, q ∈ e :: d.E ∧ ∃ cells, w.heap[k]? = some (.cells cells q (0, 0))) v xs := by
 obtain ⟨h0, inner, ho, hr⟩ := h
 refine ⟨fun k hk => ?_, inner, ho, hr.imp_ (fun _ _ hp => d.M_mono (fun k hk => ?_) (d.M_bound hp))⟩
 ·obtain ⟨cells, hc⟩ := QR ho k hk
  exact ⟨h0 k hk, Yc ho k hk, zbw ho k hk, e, List.mem_cons_self, cells, hc⟩
 ·obtain ⟨⟨h1, h2⟩, h3, h4, q, hq, hc⟩ := hk
  exact ⟨⟨h1, h3, h4, q, List.mem_cons_of_mem _ hq, hc⟩, h2⟩
theorem R_move (h : d.R e w base ok v xs) (hm : ∀ k, ok k → w1.heap[k]? = w.heap[k]?) : d.R e w1 base ok v xs := by
 obtain ⟨h0, inner, ho, hr⟩ := h
 exact ⟨h0, inner, zbV ho (fun k hk => hm k (h0 k hk)), hr.imp_ (fun _ _ hp => d.M_move (fun k hk => hm k hk.1) hp)⟩
theorem R_lower {base' : Nat} (h : d.R e w base ok v xs) (hb : base' ≤ base) : d.R e w base' ok v xs := by
 obtain ⟨h0, inner, ho, hr⟩ := h
 exact ⟨h0, inner, zah ho hb, hr.imp_ (fun _ _ hp => d.M_lower hb hp)⟩
theorem Vd (h : d.R e w base ok v xs) (hm : ∀ k, ok k → k < w.heap.size → w1.heap[k]? = w.heap[k]?) : d.R e w1 base ok v xs :=
 R_mono (R_move (R_bound h) (fun k hk => hm k hk.1 hk.2.2.1)) (fun _ hk => hk.1)
theorem zaB {x : α} {cs : List Value} (h : d.M w base ok x cs) (hm : ∀ k, ok k → k < w.heap.size → w1.heap[k]? = w.heap[k]?) : d.M w1 base ok x cs :=
 d.M_mono (fun _ hk => hk.1) (d.M_move (fun k hk => hm k hk.1 hk.2.2.1) (d.M_bound h))
theorem R_below (h : d.R e w base ok v xs) (hb : Below w.heap.size w w1) : d.R e w1 base ok v xs := Vd h (fun k _ hk => hb.block k hk)
theorem VT {x : α} {cs : List Value} (h : d.M w base ok x cs) (hb : Below w.heap.size w w1) : d.M w1 base ok x cs := zaB h (fun k _ hk => hb.block k hk)
theorem R_far (h : d.R e w base ok v xs) {p : Addr} (hok : ∀ k, ok k → k ≠ p.block) (u : Value) : d.R e (w.setCell p u) base ok v xs := Vd h (fun k ho _ => Below.heap_setCell w p u k (hok k ho))
theorem R_types (h : d.R e w base ok v xs) {g t : Nat} {cells : Array Value} (hb : w.heap[g]? = some (.cells cells t (0, 0))) (ht : ∀ q, q ∈ e :: d.E → q ≠ t) : d.R e w base (fun k => ok k ∧ k ≠ g) v xs :=
 R_mono (R_bound h) (fun k hk => ⟨hk.1, by
  obtain ⟨_, _, _, q, hq, cells', hc⟩ := hk
  rintro rfl
  rw [hc] at hb
  injection hb with hb
  injection hb with _ hb
  exact ht q hq hb⟩)
theorem R_reads (h : d.R e w base ok v xs) : ∃ A c, v = .slice A xs.length c ∧ xs.length ≤ c ∧ d.C w A xs.length xs := by
 obtain ⟨A, c, he, hl, hr⟩ := xe.reads h.2
 exact ⟨A, c, he, hl, hr.imp_ (Below.refl _ _) (fun _ _ hp => d.K_of_M hp)⟩
theorem R_slice (h : d.R e w base ok v xs) : ∃ A c, v = .slice A xs.length c := by
 obtain ⟨A, c, he, _⟩ := R_reads h
 exact ⟨A, c, he⟩
theorem VV (h : d.R e w base ok v xs) : ∃ inner, w.ownsRow base e d.sz v xs.length inner := by
 obtain ⟨_, inner, ho, _⟩ := h
 exact ⟨inner, ho⟩
theorem R_ne (h : d.R e w base ok v xs) {g t : Nat} {cells : Array Value} (hb : w.heap[g]? = some (.cells cells t (0, 0))) (ht : e ≠ t) : some g ≠ v.ownBlock := xe.ne_block h.2 hb ht
end
def vQ {α : Type} (enc : α → Value) (h1 : ∀ x, (enc x).oneCell' = true) : Kd α where
 sz := 1
 E := []
 K := fun _ x cs => cs = [enc x]
 M := fun _ _ _ x cs => cs = [enc x]
 K_len := fun h => by rw [h]; rfl
 K_one := fun h u hu => by
  rw [h] at hu
  rw [List.mem_singleton.1 hu]
  exact h1 _
 K_below := fun _ h => h
 K_of_M := fun h => h
 M_mono := fun _ h => h
 M_bound := fun h => h
 M_move := fun _ h => h
 M_lower := fun _ h => h
def int (k : IntKind) : Kd Int := vQ (Value.int k) (fun _ => rfl)
def bool : Kd Bool := vQ Value.bool (fun _ => rfl)
def string : Kd ByteArray := vQ Value.string (fun _ => rfl)
def slice {α : Type} (e : Nat) (d : Kd α) : Kd (List α) where
 sz := 1
 E := e :: d.E
 K := fun w xs cs => ∃ A c, cs = [.slice A xs.length c] ∧ xs.length ≤ c ∧ d.C w A xs.length xs
 M := fun w base ok xs cs => ∃ v, cs = [v] ∧ d.R e w base ok v xs
 K_len := by
  rintro w x cs ⟨A, c, rfl, _⟩
  rfl
 K_one := by
  rintro w x cs ⟨A, c, rfl, _⟩ u hu
  rw [List.mem_singleton.1 hu]
  rfl
 K_below := by
  rintro w w1 x cs hb ⟨A, c, rfl, hl, hr⟩
  exact ⟨A, c, rfl, hl, C_below hr hb⟩
 K_of_M := by
  rintro w base ok x cs ⟨v, rfl, h⟩
  obtain ⟨A, c, rfl, hl, hr⟩ := R_reads h
  exact ⟨A, c, rfl, hl, hr⟩
 M_mono := by
  rintro w base ok ok' x cs hok ⟨v, rfl, h⟩
  exact ⟨v, rfl, R_mono h hok⟩
 M_bound := by
  rintro w base ok x cs ⟨v, rfl, h⟩
  exact ⟨v, rfl, R_bound h⟩
 M_move := by
  rintro w w1 base ok x cs hm ⟨v, rfl, h⟩
  exact ⟨v, rfl, R_move h hm⟩
 M_lower := by
  rintro w base base' ok x cs hb ⟨v, rfl, h⟩
  exact ⟨v, rfl, R_lower h hb⟩
def pair {α β : Type} (a : Kd α) (b : Kd β) : Kd (α × β) where
 sz := a.sz + b.sz
 E := a.E ++ b.E
 K := fun w x cs => ∃ c0 c1, cs = c0 ++ c1 ∧ a.K w x.1 c0 ∧ b.K w x.2 c1
 M := fun w base ok x cs => ∃ c0 c1, cs = c0 ++ c1 ∧ a.M w base ok x.1 c0 ∧ b.M w base ok x.2 c1
 K_len := by
  rintro w x cs ⟨c0, c1, rfl, h0, h1⟩
  rw [zdN, a.K_len h0, b.K_len h1]
 K_one := by
  rintro w x cs ⟨c0, c1, rfl, h0, h1⟩ u hu
  rcases List.mem_append.1 hu with hu | hu
  ·exact a.K_one h0 u hu
  ·exact b.K_one h1 u hu
 K_below := by
  rintro w w1 x cs hb ⟨c0, c1, rfl, h0, h1⟩
  exact ⟨c0, c1, rfl, a.K_below hb h0, b.K_below hb h1⟩
 K_of_M := by
  rintro w base ok x cs ⟨c0, c1, rfl, h0, h1⟩
  exact ⟨c0, c1, rfl, a.K_of_M h0, b.K_of_M h1⟩
 M_mono := by
  rintro w base ok ok' x cs hok ⟨c0, c1, rfl, h0, h1⟩
  exact ⟨c0, c1, rfl, a.M_mono hok h0, b.M_mono hok h1⟩
 M_bound := by
  rintro w base ok x cs ⟨c0, c1, rfl, h0, h1⟩
  refine ⟨c0, c1, rfl, a.M_mono ?_ (a.M_bound h0), b.M_mono ?_ (b.M_bound h1)⟩
  ·rintro k ⟨h2, h3, h4, q, hq, hc⟩
   exact ⟨h2, h3, h4, q, List.mem_append_left _ hq, hc⟩
  ·rintro k ⟨h2, h3, h4, q, hq, hc⟩
   exact ⟨h2, h3, h4, q, List.mem_append_right _ hq, hc⟩
 M_move := by
  rintro w w1 base ok x cs hm ⟨c0, c1, rfl, h0, h1⟩
  exact ⟨c0, c1, rfl, a.M_move hm h0, b.M_move hm h1⟩
 M_lower := by
  rintro w base base' ok x cs hb ⟨c0, c1, rfl, h0, h1⟩
  exact ⟨c0, c1, rfl, a.M_lower hb h0, b.M_lower hb h1⟩
def iso {α β : Type} (d : Kd α) (f : β → α) : Kd β where
 sz := d.sz
 E := d.E
 K := fun w x cs => d.K w (f x) cs
 M := fun w base ok x cs => d.M w base ok (f x) cs
 K_len := d.K_len
 K_one := d.K_one
 K_below := d.K_below
 K_of_M := d.K_of_M
 M_mono := d.M_mono
 M_bound := d.M_bound
 M_move := d.M_move
 M_lower := d.M_lower
def bot {α : Type} (sz : Nat) (E : List Nat) : Kd α where
 sz := sz
 E := E
 K := fun _ _ _ => False
 M := fun _ _ _ _ _ => False
 K_len := fun h => h.elim
 K_one := fun h => h.elim
 K_below := fun _ h => h
 K_of_M := fun h => h
 M_mono := fun _ h => h
 M_bound := fun h => h
 M_move := fun _ h => h
 M_lower := fun _ h => h
def upto {α : Type} (F : Kd α → Kd α) (sz : Nat) (E : List Nat) : Nat → Kd α
 | 0 => bot sz E
 | n + 1 => F (upto F sz E n)
theorem C_get {α : Type} {d : Kd α} {w : World} {A : Option Addr} {n : Nat} {xs : List α} (h : d.C w A n xs) (z : α) (i : Int) (h0 : 0 ≤ i) (h1 : i < n) :
  ∃ ad c, A = some ad ∧ c.length = d.sz ∧ d.K w (xs.getD i.toNat z) c ∧ ∀ j u, c[j]? = some u → w.cell? (ad.add (i.toNat * d.sz + j)) = some u := ja.get_ h z i h0 h1
theorem XY {α : Type} {d : Kd α} {e base : Nat} {ok okp : Nat → Prop} {W w1 : World} {v v1 : Value} {xs : List α} {p : α} {inner cs : List Value} (h0 : ∀ k, v.ownBlock = some k → ok k) (hr : zX (d.M W base (fun k => ok k ∧ some k ≠ v.ownBlock)) d.sz xs inner) (hp : d.M W base okp p cs) (hokp : ∀ k, okp k → ok k ∧ some k ≠ v.ownBlock) (hfresh : ∀ k, W.heap.size ≤ k → ok k)
  (hown : w1.ownsRow base e d.sz v1 (xs.length + 1) (inner ++ cs)) (hg : W.grownBy w1 v.ownBlock) (hat : v1.ownBlock = v.ownBlock ∨ ∃ b, v1.ownBlock = some b ∧ W.heap.size ≤ b) : d.R e w1 base ok v1 (xs ++ [p]) := by
 have hne : ∀ k, some k ≠ v.ownBlock → k < W.heap.size → some k ≠ v1.ownBlock := by
  intro k hk hlt
  rcases hat with hat | ⟨b, hb, hle⟩
  ·rw [hat]; exact hk
  ·rw [hb]
   intro he
   injection he with he
   omega
 have step : ∀ {q : α} {c : List Value} {o : Nat → Prop}, d.M W base o q c → (∀ k, o k → ok k ∧ some k ≠ v.ownBlock) → d.M w1 base (fun k => ok k ∧ some k ≠ v1.ownBlock) q c := by
  intro q c o hq ho
  have h1 := d.M_move (w1 := w1) (fun k hk => hg.block k hk.2.2.1 (ho k hk.1).2) (d.M_bound hq)
  exact d.M_mono (fun k hk => ⟨(ho k hk.1).1, hne k (ho k hk.1).2 hk.2.2.1⟩) h1
 refine ⟨fun k hk => ?_, inner ++ cs, by rw [zdN, List.length_singleton]; exact hown, ?_⟩
 ·rcases hat with hat | ⟨b, hb, hle⟩
  ·exact h0 k (hat ▸ hk)
  ·rw [hb] at hk
   injection hk with hk
   exact hfresh k (by omega)
 ·exact (hr.imp_ (fun _ _ hq => step hq (fun _ hk => hk))).snoc (step hp hokp) (d.K_len (d.K_of_M hp))
section
variable {P : Program} {ops : Array Oper} {rest : List Oper} {o : Oper} {a : Act} {Q : Exit → Act → World → Prop} {α : Type}
theorem R_append (d : Kd α) {w0 W : World} (base : Nat) (hgd : o.guard = none) (s x : Operand) (t e : TypeId) (z : Value) (bytes : Nat)
  (ho : o.op = .call { callee := .builtin .append, args := #[s, x], argTypes := #[t, t] })
  (ht : P.underlying t = some (.slice e)) (hinfo : (P.info? e).map (fun i => (i.zero, i.size, i.bytes)) = some (some z, d.sz, bytes)) (hz : z.cells.size = d.sz) (hs0 : 0 < d.sz) (hb0 : 0 < bytes)
  (v : Value) (xs : List α) (p : α) (cs : List Value) (ok okp : Nat → Prop) (hs : a.eval s = v) (hx : a.eval x = .slice (some ⟨W.heap.size, 0, none⟩) 1 1) (hp : d.M W base okp p cs) (hokp : ∀ k, okp k → ok k ∧ some k ≠ v.ownBlock) (hfresh : ∀ k, W.heap.size ≤ k → ok k)
  (HO : d.R e W base ok v xs) (HB : Below base w0 W) (hbase : base ≤ W.heap.size) (hl : (xs.length + 1) * bytes ≤ 140737488355328)
  (h : ∀ v1 w1, d.R e w1 base ok v1 (xs ++ [p]) → Below base w0 w1 → W.grownBy w1 v.ownBlock → (v1.ownBlock = v.ownBlock ∨ ∃ b, v1.ownBlock = some b ∧ W.heap.size ≤ b) → wpList P ops Q rest (a.put o.dst v1) w1) :
  wpList P ops Q (o :: rest) a (W.alloc (.cells cs.toArray e)) := by
 obtain ⟨h0, inner, hown, hr⟩ := HO
 refine ZA base hgd s x t e z d.sz bytes ho ht hinfo hz hs0 hb0 v xs.length inner cs hs hx (d.K_len (d.K_of_M hp)) (d.K_one (d.K_of_M hp)) hown HB hbase hl ?_
 intro v1 w1 hown1 hb1 hg1 hat1
 exact h v1 w1 (XY h0 hr hp hokp hfresh hown1 hg1 hat1) hb1 hg1 hat1
end
section
variable {P : Program} {ops : Array Oper} {o : Oper} {a : Act} {Q : Exit → Act → World → Prop} {Kc : Act → World → Prop} {α : Type}
theorem R_append_step (d : Kd α) {w0 W : World} (base : Nat) (hw : Region.wanted o (yielded ops a.tmps) = true) (s x : Operand) (t e : TypeId) (z : Value) (bytes : Nat)
  (ho : o.op = .call { callee := .builtin .append, args := #[s, x], argTypes := #[t, t] })
  (ht : P.underlying t = some (.slice e)) (hinfo : (P.info? e).map (fun i => (i.zero, i.size, i.bytes)) = some (some z, d.sz, bytes)) (hz : z.cells.size = d.sz) (hs0 : 0 < d.sz) (hb0 : 0 < bytes)
  (v : Value) (xs : List α) (p : α) (cs : List Value) (ok okp : Nat → Prop) (hs : a.eval s = v) (hx : a.eval x = .slice (some ⟨W.heap.size, 0, none⟩) 1 1) (hp : d.M W base okp p cs) (hokp : ∀ k, okp k → ok k ∧ some k ≠ v.ownBlock) (hfresh : ∀ k, W.heap.size ≤ k → ok k)
  (HO : d.R e W base ok v xs) (HB : Below base w0 W) (hbase : base ≤ W.heap.size) (hl : (xs.length + 1) * bytes ≤ 140737488355328)
  (h : ∀ v1 w1, d.R e w1 base ok v1 (xs ++ [p]) → Below base w0 w1 → W.grownBy w1 v.ownBlock → (v1.ownBlock = v.ownBlock ∨ ∃ b, v1.ownBlock = some b ∧ W.heap.size ≤ b) → Kc (a.put o.dst v1) w1) :
  if Region.wanted o (yielded ops a.tmps) = true then Oper.wp P o a (W.alloc (.cells cs.toArray e)) Kc Q else Kc (a.put o.dst undef) (W.alloc (.cells cs.toArray e)) := by
 obtain ⟨h0, inner, hown, hr⟩ := HO
 refine Xz base hw s x t e z d.sz bytes ho ht hinfo hz hs0 hb0 v xs.length inner cs hs hx (d.K_len (d.K_of_M hp)) (d.K_one (d.K_of_M hp)) hown HB hbase hl ?_
 intro v1 w1 hown1 hb1 hg1 hat1
 exact h v1 w1 (XY h0 hr hp hokp hfresh hown1 hg1 hat1) hb1 hg1 hat1
end
theorem Vu {α : Type} {enc : α → Value} (xs : List α) : zX (fun (x : α) (cs : List Value) => cs = [enc x]) 1 xs (Ye enc xs) := by
 refine ⟨by simp [Ye], fun j p hj => ?_⟩
 obtain ⟨hl, hp⟩ := List.getElem?_eq_some_iff.1 hj
 have hl' : j < (Ye enc xs).length := by rw [XA]; exact hl
 rw [Nat.mul_one, List.drop_eq_getElem_cons hl']
 simp [Ye, hp]
theorem R_of_own {α : Type} {enc : α → Value} {h1 : ∀ x, (enc x).oneCell' = true} {e : Nat} {w : World} {base : Nat} {ok : Nat → Prop} {v : Value} {xs : List α} (ho : w.ownsRow base e 1 v xs.length (Ye enc xs)) (hok : ∀ k, v.ownBlock = some k → ok k) : (vQ enc h1).R e w base ok v xs := ⟨hok, Ye enc xs, ho, Vu xs⟩
theorem own_of_R {α : Type} {enc : α → Value} {h1 : ∀ x, (enc x).oneCell' = true} {e : Nat} {w : World} {base : Nat} {ok : Nat → Prop} {v : Value} {xs : List α} (h : (vQ enc h1).R e w base ok v xs) : w.ownsRow base e 1 v xs.length (Ye enc xs) := by
 obtain ⟨_, inner, ho, hr⟩ := h
 have : inner = Ye enc xs := by
  apply List.ext_getElem?
  intro j
  rcases Nat.lt_or_ge j xs.length with hj | hj
  ·have h2 := hr.2 j _ (List.getElem?_eq_getElem hj)
   have hl : j < inner.length := by have := hr.1; simp [vQ] at this; omega
   have h3 : (inner.drop (j * 1)).take 1 = [enc xs[j]] := h2
   rw [Nat.mul_one, List.drop_eq_getElem_cons hl] at h3
   have h4 : inner[j] = enc xs[j] := by
    have h5 := congrArg List.head? h3
    rw [List.take_succ_cons] at h5
    exact Option.some.inj h5
   rw [List.getElem?_eq_getElem hl, h4]
   simp [Ye, List.getElem?_eq_getElem hj]
  ·have h3 : inner.length = xs.length := by have := hr.1; simp [vQ] at this; omega
   rw [List.getElem?_eq_none (by omega), List.getElem?_eq_none (by rw [XA]; omega)]
 rw [← this]
 exact ho
theorem reads_of_C {α : Type} {enc : α → Value} {d : α} {h1 : ∀ x, (enc x).oneCell' = true} {w : World} {A : Option Addr} {n : Nat} {xs : List α} (h : (vQ enc h1).C w A n xs) : xt enc d w A n xs := by
 refine ⟨h.1, h.2.1, fun hn => ?_⟩
 obtain ⟨ad, e, hc⟩ := h.2.2 hn
 refine ⟨ad, e, fun j hj => ?_⟩
 have hl : j < xs.length := by have := h.1; omega
 obtain ⟨c, _, hK, hcell⟩ := hc j _ (List.getElem?_eq_getElem hl)
 have hK' : c = [enc xs[j]] := hK
 subst hK'
 have := hcell 0 _ rfl
 simpa [vQ, List.getD_eq_getElem?_getD, List.getElem?_eq_getElem hl] using this
structure Mono {α β : Type} (F : Kd α → Kd β) : Prop where
 sz : ∀ d d' : Kd α, d.sz = d'.sz → (F d).sz = (F d').sz
 K : ∀ d d' : Kd α, d.sz = d'.sz → (∀ w x cs, d.K w x cs → d'.K w x cs) → ∀ w x cs, (F d).K w x cs → (F d').K w x cs
 M : ∀ d d' : Kd α, d.sz = d'.sz → (∀ w base ok x cs, d.M w base ok x cs → d'.M w base ok x cs) → ∀ w base ok x cs, (F d).M w base ok x cs → (F d').M w base ok x cs
section
variable {α β : Type} {d : Kd α} {d' : Kd β} {e e' : Nat} {w w1 W : World} {base b b' : Nat} {ok ok' okv oku : Nat → Prop} {v u : Value} {xs : List α} {ys : List β}
theorem R_alloc (h : d.R e w base ok v xs) (o : Obj) : d.R e (w.alloc o) base ok v xs := R_below h (zc (Below.refl _ _) o)
theorem R_drew (h : d.R e w base ok v xs) : d.R e w.drew base ok v xs := R_below h (Qb (Below.refl _ _))
theorem R_drewN (h : d.R e w base ok v xs) (m : Nat) : d.R e (w.drewN m) base ok v xs := R_below h (zb (Below.refl _ _) m)
theorem C_alloc {A : Option Addr} {n : Nat} (h : d.C w A n xs) (o : Obj) : d.C (w.alloc o) A n xs := C_below h (zc (Below.refl _ _) o)
theorem C_drew {A : Option Addr} {n : Nat} (h : d.C w A n xs) : d.C w.drew A n xs := C_below h (Qb (Below.refl _ _))
theorem C_drewN {A : Option Addr} {n : Nat} (h : d.C w A n xs) (m : Nat) : d.C (w.drewN m) A n xs := C_below h (zb (Below.refl _ _) m)
theorem C_nil (d : Kd α) (w : World) : d.C w none ([] : List α).length [] := ⟨rfl, by simp, fun h => absurd h (Nat.lt_irrefl 0)⟩
theorem R_reads' {A : Option Addr} {n c : Nat} (h : d.R e w base ok (.slice A n c) xs) : n = xs.length ∧ n ≤ c ∧ d.C w A xs.length xs := by
 obtain ⟨A', c', he, hl, hr⟩ := R_reads h
 injection he with h1 h2 h3
 subst h1
 exact ⟨h2, by omega, hr⟩
theorem R_lt (h : d.R e w base ok v xs) : ∀ k, v.ownBlock = some k → k < w.heap.size := by
 obtain ⟨inner, ho⟩ := VV h
 exact zbw ho
theorem R_base (h : d.R e w base ok v xs) : ∀ k, v.ownBlock = some k → base ≤ k := by
 obtain ⟨inner, ho⟩ := VV h
 exact Yc ho
end
section
variable {w W : World} {A : Option Addr} {n : Nat}
theorem at_int {k : IntKind} {xs : List Int} (h : (Kd.int k).C w A n xs) (i : Int) (h0 : 0 ≤ i) (h1 : i < n) : ∃ ad, A = some ad ∧ w.cell? (ad.add i.toNat) = some (.int k (rd xs i)) :=
 xt.at_ (reads_of_C (enc := Value.int k) (d := (0 : Int)) (h1 := fun _ => rfl) h) i h0 h1
theorem at_string {xs : List ByteArray} (h : Kd.string.C w A n xs) (i : Int) (h0 : 0 ≤ i) (h1 : i < n) : ∃ ad, A = some ad ∧ w.cell? (ad.add i.toNat) = some (.string (ym ByteArray.empty xs i)) :=
 xt.at_ (reads_of_C (enc := Value.string) (d := ByteArray.empty) (h1 := fun _ => rfl) h) i h0 h1
variable {α : Type} {enc : α → Value} {h1 : ∀ x, (enc x).oneCell' = true} {e base g cap : Nat} {ok : Nat → Prop} {xs : List α}
end
section
variable {P : Program} {ops : Array Oper} {rest : List Oper} {o : Oper} {a : Act} {Q : Exit → Act → World → Prop}
theorem event_run {W w1 : World} {v : Value} (hgd : o.guard = none) (hrun : (execOp a.eval o).run P W = .ok (.value v) w1) (h : wpList P ops Q rest (a.put o.dst v) w1) : wpList P ops Q (o :: rest) a W := by
 refine wpList_plain hgd fun K hK => ?_
 unfold Oper.wp
 rw [hrun]
 exact hK _ _ h
variable {α : Type}
theorem R_lit (d : Kd α) {w0 W : World} (base e : Nat) (hgd : o.guard = none) {N : Tmp} (_hd : o.dst = some N) {xs : List α} {inner : List Value} {ok okp : Nat → Prop}
  (hrun : (execOp a.eval o).run P W = .ok (.value (.slice (some ⟨W.heap.size, 0, none⟩) xs.length xs.length)) (W.alloc (.cells inner.toArray e)))
  (hrep : zX (d.M W base okp) d.sz xs inner) (hok : ∀ k, okp k → ok k) (hfresh : ok W.heap.size) (HB : Below base w0 W) (hbase : base ≤ W.heap.size) (hm : xs.length ≤ 9223372036854775807)
  (h : ∀ v1 w1, d.R e w1 base ok v1 xs → Below base w0 w1 → W.grownBy w1 none → (∃ b, v1.ownBlock = some b ∧ W.heap.size ≤ b) → wpList P ops Q rest (a.put o.dst v1) w1) : wpList P ops Q (o :: rest) a W := by
 refine event_run hgd hrun (h _ _ ⟨fun k hk => ?_, inner, ?_, ?_⟩ (HB.alloc hbase _) (World.grownBy_alloc W _ none) ⟨W.heap.size, by simp [Value.ownBlock], Nat.le_refl _⟩)
 ·have : W.heap.size = k := by simpa [Value.ownBlock] using hk
  subst this
  exact hfresh
 ·have h2 := World.ownsRow_lit (base := base) (e := e) (size := d.sz) W inner.toArray xs.length hbase (by simpa [maxLen] using hm) (by simpa using hrep.1)
  simpa using h2
 ·refine hrep.imp_ (fun p c hp => d.M_mono (fun k hk => ⟨hok k hk.1, fun he => ?_⟩) (VT (d.M_bound hp) (zc (Below.refl _ _) _)))
  have h3 : k = W.heap.size := by simpa [Value.ownBlock] using he
  have := hk.2.2.1
  omega
end
end Kd
def QRow (w : World) (base : Nat) (e : TypeId) (size : Nat) (v : Value) (n : Nat) (xs : List Value) : Prop :=
  xs.length = n * size ∧
  ((n = 0 ∧ ∃ A, v = .slice A 0 0 ∧ ∀ a, A = some a → base ≤ a.block ∧ ∃ cur, w.heap[a.block]? = some (.cells cur e (0, 0))) ∨
   ∃ g off cap cur, v = .slice (some ⟨g, off * size, none⟩) n cap ∧ base ≤ g ∧ w.heap[g]? = some (.cells cur e (0, 0)) ∧ n ≤ cap ∧ off + cap ≤ maxLen ∧ cur.size = (off + cap) * size ∧ (cur.toList.drop (off * size)).take (n * size) = xs)
section
variable {w w1 : World} {base n size : Nat} {e : TypeId} {v : Value} {xs : List Value}
theorem zcp (h : w.ownsRow base e size v n xs) : QRow w base e size v n xs := by
 obtain ⟨h1, h2⟩ := h
 refine ⟨h1, ?_⟩
 rcases h2 with ⟨rfl, h0⟩ | ⟨g, cap, cur, rfl, hb, hh, hnc, hcm, hcs, ht⟩
 ·exact .inl ⟨h0, none, rfl, fun a ha => by cases ha⟩
 ·exact .inr ⟨g, 0, cap, cur, by rw [Nat.zero_mul], hb, hh, hnc, by rw [Nat.zero_add]; exact hcm, by rw [Nat.zero_add]; exact hcs, by rw [Nat.zero_mul, List.drop_zero]; exact ht⟩
end
namespace Kd
def Q {α : Type} (d : Kd α) (e : Nat) (w : World) (base : Nat) (ok : Nat → Prop) (v : Value) (xs : List α) : Prop :=
 (∀ k, v.ownBlock = some k → ok k) ∧ ∃ inner, QRow w base e d.sz v xs.length inner ∧ zX (d.M w base (fun k => ok k ∧ some k ≠ v.ownBlock)) d.sz xs inner
section
variable {α : Type} {d : Kd α} {e : Nat} {w w1 W : World} {base : Nat} {ok ok' : Nat → Prop} {v : Value} {xs : List α}
theorem zdw (h : d.R e w base ok v xs) : d.Q e w base ok v xs := by
 obtain ⟨h0, inner, ho, hr⟩ := h
 exact ⟨h0, inner, zcp ho, hr⟩
theorem Q_nil (d : Kd α) (e : Nat) (w : World) (base : Nat) (ok : Nat → Prop) : d.Q e w base ok (.slice none 0 0) [] := zdw (R_nil d e w base ok)
end
section
variable {α : Type} {d : Kd α} {e e' : Nat} {w w1 W : World} {base : Nat} {ok : Nat → Prop} {u v : Value} {xs : List α}
theorem R_typed (h : d.R e w base ok v xs) : ∀ k, v.ownBlock = some k → ∃ cells, w.heap[k]? = some (.cells cells e (0, 0)) := by
 obtain ⟨inner, ho⟩ := VV h
 exact fun k hk => QR ho k hk
theorem R_apart' (h : d.R e W base ok u xs) (hty : ∀ k, v.ownBlock = some k → ∃ cells, W.heap[k]? = some (.cells cells e' (0, 0))) (ht : ∀ q, q ∈ e :: d.E → q ≠ e') : d.R e W base (fun k => ok k ∧ some k ≠ v.ownBlock) u xs := by
 refine R_mono (R_bound h) (fun k hk => ⟨hk.1, fun he => ?_⟩)
 obtain ⟨_, _, _, q, hq, cells, hc⟩ := hk
 obtain ⟨cells', hc'⟩ := hty k he.symm
 rw [hc] at hc'
 injection hc' with hc'
 injection hc' with _ hc'
 exact ht q hq hc'
end
end Kd
theorem Y2 {P : Program} {w : World} {g o : Nat} {e : TypeId} {cur : Array Value} (t : TypeId) (u : Value) (seg : List Value) (hh : w.heap[g]? = some (.cells cur e (0, 0))) (hu : u.cells.toList = seg) (ht : (P.info? t).map (·.size) = some seg.length)
  (hfit : o + seg.length ≤ cur.size) (h1 : ∀ q ∈ seg, q.oneCell' = true) : (Instr.storeAt t (.pointer (some ⟨g, o, none⟩)) u).run P w = .ok () (w.setCells g o seg) := by
 obtain ⟨i, hi, hsz⟩ := Option.map_eq_some_iff.1 ht
 have hc : u.cells.size = i.size := by rw [hsz, ← hu, Array.length_toList]
 have hst := run_storeCells_cells (P := P) g o seg 0 w (fun j hj => by rw [cell_of_row w g _ cur e (0, 0) hh]; simp; omega) (fun j _ => zn hh _) h1
 simp only [Nat.add_zero] at hst
 simp [Instr.storeAt, Instr.sureAddr, storeVar, sizeOf, typeInfo, hi, hc, hu, hst]
theorem VM (a : Addr) (i j : Nat) : (a.add i).add j = a.add (i + j) := by
 unfold Addr.add
 by_cases h1 : i = 0 <;> by_cases h2 : j = 0 <;> simp [h1, h2, Nat.add_assoc]
theorem X2 {P : Program} {w : World} {src dst e : TypeId} {A : Option Addr} {n c : Nat} {xs : List Int} (hs : P.underlying src = some (.slice e)) (he : P.underlying e = some (.int .u8)) (hd : P.underlying dst = some .string)
  (h : xj w .u8 A n xs) : (convert src dst (.slice A n c)).run P w = .ok (.string (strOfNums xs)) w := by
 have hn : xs.length = n := h.1
 rcases A with _ | ad
 ·have h0 : n = 0 := by
   rcases Nat.eq_zero_or_pos n with h0 | h0
   ·exact h0
   ·obtain ⟨ad, h', _⟩ := h.2.2 h0
    cases h'
  subst h0
  obtain rfl : xs = [] := List.eq_nil_of_length_eq_zero hn
  exact run_convert_bytes_nil w src e hs he 0 c dst hd
 ·have hl : (loadCells ad n).run P w = .ok (xs.map (Value.int .u8)).toArray w := by
   have := run_loadCells_list (P := P) w ad (xs.map (Value.int .u8)) (fun j v hj => by
    have hjl : j < xs.length := by
     rcases Nat.lt_or_ge j xs.length with h' | h'
     ·exact h'
     ·rw [List.getElem?_eq_none (by rw [List.length_map]; exact h')] at hj
      cases hj
    obtain ⟨ad', he', hc⟩ := h.2.2 (by omega)
    injection he' with he'
    subst he'
    rw [hc j (by omega)]
    rw [List.getElem?_map, List.getElem?_eq_getElem hjl] at hj
    simp at hj
    subst hj
    simp [List.getD_eq_getElem?_getD, List.getElem?_eq_getElem hjl])
   simpa [hn] using this
  rw [run_convert_bytes_string w src dst e _ n c hs he hd, run_bytesToString w ad n c xs hl, foldl_push_bytes]
  simp [strOfNums, ByteArray.empty, ByteArray.emptyWithCapacity]
  rfl
theorem Kd.C_string {P : Program} {w : World} {src dst e : TypeId} {A : Option Addr} {n c : Nat} {xs : List Int} (hs : P.underlying src = some (.slice e)) (he : P.underlying e = some (.int .u8)) (hd : P.underlying dst = some .string)
  (h : (Kd.int .u8).C w A n xs) : (convert src dst (.slice A n c)).run P w = .ok (.string (strOfNums xs)) w :=
 X2 hs he hd (Kd.reads_of_C (enc := Value.int .u8) (d := (0 : Int)) (h1 := fun _ => rfl) h)
theorem zF {w W : World} (h : Below w.heap.size w W) : w.heap.size ≤ W.heap.size := h.size
theorem zp {w W w2 : World} (h : Below w.heap.size w W) (k : Below W.heap.size W w2) : Below w.heap.size w w2 := zan h h.size k
theorem xj.nil (W : World) (k : IntKind) : xj W k none ([] : List Int).length [] := ⟨rfl, by simp, fun h => absurd h (Nat.lt_irrefl 0)⟩
theorem xj.drewN {W : World} {k : IntKind} {A : Option Addr} {n : Nat} {xs : List Int} (h : xj W k A n xs) (m : Nat) : xj (W.drewN m) k A n xs := h
theorem zv {w W : World} {g j : Nat} {v : Value} (h : Below w.heap.size w W) (hg : w.heap.size ≤ g) : Below w.heap.size w (W.setCell ⟨g, j, none⟩ v) := h.setCell hg _
theorem Q5 {w W : World} {g : Nat} (h : yX w W g none) {a : Addr} {v : Value} (hc : w.cell? a = some v) (hne : a.block ≠ g) : W.cell? a = some v := by
 have := h.2 a.block (zdL w a hc) hne (by simp)
 simpa [World.cell?, this] using hc
theorem vF (a : Addr) (i : Nat) : (a.add i).block = a.block := by unfold Addr.add; split <;> rfl
theorem xt.nil {α : Type} (enc : α → Value) (d : α) (W : World) : xt enc d W none ([] : List α).length [] := ⟨rfl, by simp, fun h => absurd h (Nat.lt_irrefl 0)⟩
theorem xt.drewN {α : Type} {enc : α → Value} {d : α} {W : World} {A : Option Addr} {n : Nat} {xs : List α} (h : xt enc d W A n xs) (m : Nat) : xt enc d (W.drewN m) A n xs := h
theorem xj.keep {w W : World} {k : IntKind} {A : Option Addr} {n g : Nat} {xs : List Int} (h : xj w k A n xs) (hk : yX w W g none) (hf : ∀ ad, A = some ad → 0 < n → ad.block ≠ g) : xj W k A n xs :=
 ⟨h.1, h.2.1, fun hn => by
  obtain ⟨ad, e, hc⟩ := h.2.2 hn
  exact ⟨ad, e, fun j hj => Q5 hk (hc j hj) (by rw [vF]; exact hf ad e hn)⟩⟩
theorem xt.keep {α : Type} {enc : α → Value} {d : α} {w W : World} {A : Option Addr} {n g : Nat} {xs : List α} (h : xt enc d w A n xs) (hk : yX w W g none) (hf : ∀ ad, A = some ad → 0 < n → ad.block ≠ g) : xt enc d W A n xs :=
 ⟨h.1, h.2.1, fun hn => by
  obtain ⟨ad, e, hc⟩ := h.2.2 hn
  exact ⟨ad, e, fun j hj => Q5 hk (hc j hj) (by rw [vF]; exact hf ad e hn)⟩⟩
theorem yW {w : World} {g : Nat} {t : TypeId} {cs cs' : Array Value} (h : w.heap[g]? = some (.cells cs t (0, 0))) (i : Nat) (u : Value) (e : cs.setIfInBounds i u = cs') : (w.setCell ⟨g, i, none⟩ u).heap[g]? = some (.cells cs' t (0, 0)) := e ▸ Yx h i u
theorem zd {base : Nat} {w W : World} (h : Below base w W) : Below base w W.drew := h.drew
section
variable {P : Program} {ops : Array Oper} {rest : List Oper} {o : Oper} {a : Act} {Q : Exit → Act → World → Prop}
theorem yp {W : World} (hgd : o.guard = none) {N : Tmp} (_hd : o.dst = some N) {cs : Array Value} {t : TypeId}
  (hrun : (execOp a.eval o).run P W = .ok (.value (.pointer (some ⟨W.heap.size, 0, none⟩))) (W.alloc (.cells cs t (0, 0))))
  (h : ∀ g, g = W.heap.size → ∀ w1, w1.heap[g]? = some (.cells cs t (0, 0)) → Below W.heap.size W w1 → wpList P ops Q rest (a.put o.dst (.pointer (some ⟨g, 0, none⟩))) w1) : wpList P ops Q (o :: rest) a W :=
 Kd.event_run hgd hrun (h _ rfl _ (VN W _) (zc (Below.refl _ _) _))
end
section
variable {P : Program} {ops : Array Oper} {rest : List Oper} {o : Oper} {a : Act} {Q : Exit → Act → World → Prop}
theorem vm {W w1 : World} (hgd : o.guard = none) {t : TypeId} {p : Tmp} {v : Operand} (_ho : o.op = .store t (.tmp p) v) (hN : o.dst = none)
  (hrun : (execOp a.eval o).run P W = .ok .skip w1) (h : ∀ w', w' = w1 → wpList P ops Q rest a w') : wpList P ops Q (o :: rest) a W := by
 refine wpList_plain hgd fun K hK => ?_
 unfold Oper.wp
 rw [hrun]
 show K (a.put o.dst undef) w1
 rw [hN]
 exact hK _ _ (h _ rfl)
end
section
variable {P : Program} {ops : Array Oper} {rest : List Oper} {o : Oper} {a : Act} {Q : Exit → Act → World → Prop} {W : World}
theorem zN {N : Tmp} (_hN : o.dst = some N) (h : wpList P ops Q (o :: rest) a W) : wpList P ops Q (o :: rest) a W := h
theorem vK {t : TypeId} {p : Tmp} {v : Operand} (_ho : o.op = .store t (.tmp p) v) (h : wpList P ops Q (o :: rest) a W) : wpList P ops Q (o :: rest) a W := h
end
section
variable {P : Program} {ops : Array Oper} {o : Oper} {a : Act} {Q : Exit → Act → World → Prop} {Kc : Act → World → Prop}
theorem vH {W w1 : World} {v : Value} (hw : Region.wanted o (yielded ops a.tmps) = true) (hrun : (execOp a.eval o).run P W = .ok (.value v) w1) (h : Kc (a.put o.dst v) w1) : if Region.wanted o (yielded ops a.tmps) = true then Oper.wp P o a W Kc Q else Kc (a.put o.dst undef) W := by
 rw [if_pos hw]
 unfold Oper.wp
 rw [hrun]
 exact h
namespace Kd
variable {α : Type}
theorem R_lit_step (d : Kd α) {w0 W : World} (base e : Nat) (hw : Region.wanted o (yielded ops a.tmps) = true) {N : Tmp} (_hd : o.dst = some N) {xs : List α} {inner : List Value} {ok okp : Nat → Prop}
  (hrun : (execOp a.eval o).run P W = .ok (.value (.slice (some ⟨W.heap.size, 0, none⟩) xs.length xs.length)) (W.alloc (.cells inner.toArray e)))
  (hrep : zX (d.M W base okp) d.sz xs inner) (hok : ∀ k, okp k → ok k) (hfresh : ok W.heap.size) (HB : Below base w0 W) (hbase : base ≤ W.heap.size) (hm : xs.length ≤ 9223372036854775807)
  (h : ∀ v1 w1, d.R e w1 base ok v1 xs → Below base w0 w1 → W.grownBy w1 none → (∃ b, v1.ownBlock = some b ∧ W.heap.size ≤ b) → Kc (a.put o.dst v1) w1) : if Region.wanted o (yielded ops a.tmps) = true then Oper.wp P o a W Kc Q else Kc (a.put o.dst undef) W := by
 refine vH hw hrun (h _ _ ⟨fun k hk => ?_, inner, ?_, ?_⟩ (HB.alloc hbase _) (World.grownBy_alloc W _ none) ⟨W.heap.size, by simp [Value.ownBlock], Nat.le_refl _⟩)
 ·have : W.heap.size = k := by simpa [Value.ownBlock] using hk
  subst this
  exact hfresh
 ·have h2 := World.ownsRow_lit (base := base) (e := e) (size := d.sz) W inner.toArray xs.length hbase (by simpa [maxLen] using hm) (by simpa using hrep.1)
  simpa using h2
 ·refine hrep.imp_ (fun p c hp => d.M_mono (fun k hk => ⟨hok k hk.1, fun he => ?_⟩) (VT (d.M_bound hp) (zc (Below.refl _ _) _)))
  have h3 : k = W.heap.size := by simpa [Value.ownBlock] using he
  have := hk.2.2.1
  omega
end Kd
end
inductive Xd (P : Program) (tmps : Array Value) (w : World) : List ResultVar → List Value → Prop where
 | nil : Xd P tmps w [] []
 | tmp {u : Tmp} {rs : List ResultVar} {vs : List Value} (h : Xd P tmps w rs vs) : Xd P tmps w (.tmp u :: rs) (tmps.getD u undef :: vs)
 | cell {p : Tmp} {ty : TypeId} {rs : List ResultVar} {vs : List Value} (g : Nat) (t : TypeId) (cs : Array Value) (fr : Nat × Nat) (d : TypeDesc)
   (hp : tmps.getD p undef = .pointer (some ⟨g, 0, none⟩)) (hg : w.heap[g]? = some (.cells cs t fr))
   (hu : P.underlying ty = some d) (hd : (match d with | .struct _ | .array _ _ => true | _ => false) = true) (hi : (P.info? ty).map (·.size) = some cs.size)
   (h : Xd P tmps w rs vs) : Xd P tmps w (.cell p ty :: rs) (.agg cs :: vs)
section
variable {P : Program} {tmps : Array Value} {w : World}
theorem J7 {rs : List ResultVar} {vs : List Value} (hv : Xd P tmps w rs vs) (f : ResultVar → Sem Value) (hf : ∀ u, f (.tmp u) = pure (tmps.getD u undef)) (hc : ∀ a t, f (.cell a t) = (do loadVar t (← asAddr (tmps.getD a undef)))) :
  (rs.mapM f).run P w = .ok vs w := by
 induction hv with
 | nil => simp
 | tmp h ih => simp [List.mapM_cons, hf, ih]
 | cell g t cs fr d hp hg hu hd hi h ih =>
  rw [List.mapM_cons, hc, hp]
  simp [asAddr, run_loadVar_row w g t _ cs fr d hg hu hd hi, ih]
theorem xN {fn : Func} {rs : List ResultVar} {vs : List Value} (h : fn.results = rs.toArray) (hl : vs.length ≠ 1) (hv : Xd P tmps w rs vs) : (results fn tmps).run P w = .ok (.tuple vs.toArray) w := by
 unfold results
 rw [h, List.mapM_toArray]
 simp only [Sem.run_bind, Sem.run_map]
 rw [J7 hv]
 ·simp [hl]
 ·intro u
  rfl
 ·intro a t
  rfl
theorem yZ {fn : Func} {r : ResultVar} {v : Value} (h : fn.results = #[r]) (hv : Xd P tmps w [r] [v]) : (results fn tmps).run P w = .ok v w := by
 unfold results
 rw [show fn.results = [r].toArray from h, List.mapM_toArray]
 simp only [Sem.run_bind, Sem.run_map]
 rw [J7 hv]
 ·simp
 ·intro u
  rfl
 ·intro a t
  rfl
end
end Go.Proofs.YtepipnpfggnadaaGreatW.PrintWords
namespace Go.Proofs.YtepipnpfggnadaaGreatW.PrintLast
section
variable {P : Program} {ops : Array Oper} {Q : Exit → Act → World → Prop} {md : Region.Mode} {S : World → Prop} {ds : List Nat}
def Region.reachB (md : Region.Mode) (ops : Array Oper) (i : Nat) : Nat → Nat → Bool
 | 0, _ => false
 | fuel + 1, d => match ops[d]? with
  | some o => o.after.any fun e => Region.binds md e && (e.on == i || Region.reachB md ops i fuel e.on)
  | none => false
def Region.closedB (md : Region.Mode) (ops : Array Oper) (listed : Array Bool) : Bool :=
 (List.range ops.size).all fun j => !listed.getD j false || match ops[j]? with
  | some o => o.after.all fun e => !Region.binds md e || listed.getD e.on false
  | none => true
def Region.lastB (md : Region.Mode) (ops : Array Oper) (listed : Array Bool) (ds : List Nat) (i : Nat) : Bool :=
 ds.all fun d => listed.getD d true || Region.reachB md ops i ops.size d
def qN (md : Region.Mode) (ops : Array Oper) (listed : Array Bool) : Prop :=
 ∀ j oj, ops[j]? = some oj → listed.getD j false = true → ∀ e ∈ oj.after, Region.binds md e = true → listed.getD e.on false = true
theorem Region.closedB_spec {listed : Array Bool} (h : Region.closedB md ops listed = true) : qN md ops listed := by
 intro j oj hj hl e he hb
 have hlt : j < ops.size := (Array.getElem?_eq_some_iff.1 hj).1
 have h1 := List.all_eq_true.1 h j (List.mem_range.2 hlt)
 simp only [hl, hj, Bool.not_true, Bool.false_or] at h1
 have h2 := Array.all_eq_true_iff_forall_mem.1 h1 e he
 simpa [hb] using h2
theorem qN.set {listed : Array Bool} {i : Nat} (h : qN md ops listed) (hi : i ∈ Region.ready md ops listed) : qN md ops (listed.setIfInBounds i true) := by
 obtain ⟨_, oi, hoi, hall⟩ := mem_ready.1 hi
 intro j oj hj hl e he hb
 by_cases hij : i = j
 ·subst hij
  have : oj = oi := Option.some.inj (hj.symm.trans hoi)
  subst this
  exact getD_set_true (hall e he hb)
 ·rw [getD_set_ne false hij] at hl
  exact getD_set_true (h j oj hj hl e he hb)
theorem Region.reach_listed {listed : Array Bool} {i : Nat} (hc : qN md ops listed) : ∀ (fuel d : Nat), Region.reachB md ops i fuel d = true → listed.getD d false = true → listed.getD i false = true
 | 0, _, h, _ => by simp [Region.reachB] at h
 | fuel + 1, d, h, hl => by
  unfold Region.reachB at h
  cases ho : ops[d]? with
  | none => rw [ho] at h; simp at h
  | some o =>
   rw [ho] at h
   obtain ⟨e, he, h1⟩ := Array.any_eq_true'.1 h
   simp only [Bool.and_eq_true, Bool.or_eq_true, beq_iff_eq] at h1
   have hle := hc d o ho hl e he h1.1
   rcases h1.2 with h2 | h2
   ·rw [← h2]; exact hle
   ·exact Region.reach_listed hc fuel e.on h2 hle
theorem Region.reach_not_ready {listed : Array Bool} {i d fuel : Nat} (hc : qN md ops listed) (hr : Region.reachB md ops i fuel d = true) (hun : listed.getD i true = false) : d ∉ Region.ready md ops listed := by
 intro hd
 obtain ⟨_, o, ho, hall⟩ := mem_ready.1 hd
 have hi : listed.getD i false = true := by
  cases fuel with
  | zero => simp [Region.reachB] at hr
  | succ n =>
   unfold Region.reachB at hr
   rw [ho] at hr
   obtain ⟨e, he, h1⟩ := Array.any_eq_true'.1 hr
   simp only [Bool.and_eq_true, Bool.or_eq_true, beq_iff_eq] at h1
   have hle := hall e he h1.1
   rcases h1.2 with h2 | h2
   ·rw [← h2]; exact hle
   ·exact Region.reach_listed hc n e.on h2 hle
 rcases Nat.lt_or_ge i listed.size with h' | h'
 ·simp [h'] at hun hi
  rw [hun] at hi
  cases hi
 ·simp [Array.getElem?_eq_none h'] at hun
def yg (P : Program) (md : Region.Mode) (ops : Array Oper) (Q : Exit → Act → World → Prop) (S : World → Prop) (ds : List Nat) : Nat → Array Bool → Act → World → Prop
 | 0, listed, a, w => Region.ready md ops listed = [] ∧ Q .normal a w
 | fuel + 1, listed, a, w =>
  (Region.ready md ops listed = [] → Q .normal a w) ∧
  ∀ i ∈ Region.ready md ops listed, wpOp P ops Q i (fun a' w' => (i ∉ ds → S w → S w') ∧ yg P md ops Q S ds fuel (listed.setIfInBounds i true) a' w') a w
theorem YZ : ∀ (fuel : Nat) (listed : Array Bool) (a : Act) (w : World), yg P md ops Q S ds fuel listed a w → wpAny P md ops Q fuel listed a w
 | 0, _, _, _, h => h
 | fuel + 1, _, _, _, h => ⟨h.1, fun i hi => wpOp_mono (fun a' w' h' => YZ fuel _ a' w' h'.2) (h.2 i hi)⟩
theorem XZ {i : Nat} {oi : Oper} {v : Value} (hi : ops[i]? = some oi) (hsel : ∀ (j : Nat) (o : Oper) cs b, ops[j]? = some o → o.op ≠ .select cs b)
  (hQ : ∀ c a w, Q (.panic c) (a.put oi.dst v) w → Q (.panic c) a w) (n : Nat) :
  ∀ (fuel : Nat) (listed : Array Bool) (a : Act) (w : World),
   (∀ j oj, ops[j]? = some oj → j ≠ i → listed.getD j true = false → (∀ e ∈ oj.after, Region.binds md e = true → e.on ≠ i) → oi.apart ops oj = true) →
   qN md ops listed → (∀ d ∈ ds, listed.getD d true = false → Region.reachB md ops i n d = true) →
   i ∈ Region.ready md ops listed → YieldsIf P ops S oi v a → S w →
   yg P md ops Q S ds fuel (listed.setIfInBounds i true) (a.put oi.dst v) w → yg P md ops Q S ds (fuel + 1) listed a w := by
 intro fuel
 induction fuel with
 | zero =>
  intro listed a w _ _ _ hr hy hS H
  refine ⟨fun h => (by rw [h] at hr; cases hr), fun j hj => ?_⟩
  by_cases hji : j = i
  ·subst hji; exact hy.wpOp hi hS ⟨fun _ h => h, H⟩
  ·have := ready_mono hj hji
   rw [H.1] at this
   cases this
 | succ fuel ih =>
  intro listed a w hfree hc hd hr hy hS H
  refine ⟨fun h => (by rw [h] at hr; cases hr), fun j hj => ?_⟩
  by_cases hji : j = i
  ·subst hji; exact hy.wpOp hi hS ⟨fun _ h => h, H⟩
  ·have h1 := H.2 j (ready_mono hj hji)
   obtain ⟨hjun, oj, hoj, hall⟩ := mem_ready.1 hj
   have hiun := (mem_ready.1 hr).1
   have hnot : ∀ e ∈ oj.after, Region.binds md e = true → e.on ≠ i := fun e he hb heq => by
    have h1 := hall e he hb
    rw [heq] at h1
    rcases Nat.lt_or_ge i listed.size with h' | h'
    ·simp [h'] at hiun h1; rw [hiun] at h1; cases h1
    ·simp [Array.getElem?_eq_none h'] at h1
   have hjd : j ∉ ds := fun hm => Region.reach_not_ready hc (hd j hm hjun) hiun hj
   have h2 := wpOp_putIf hoj (hfree j oj hoj hji hjun hnot) (fun cs b => hsel i oi cs b hi) (fun cs b => hsel j oj cs b hoj) hQ hy h1
   have hfree' : ∀ k ok, ops[k]? = some ok → k ≠ i → (listed.setIfInBounds j true).getD k true = false →
     (∀ e ∈ ok.after, Region.binds md e = true → e.on ≠ i) → oi.apart ops ok = true := fun k ok hk hki hun hno => by
    refine hfree k ok hk hki ?_ hno
    by_cases hjk : j = k
    ·subst hjk; exact hjun
    ·rw [getD_set_ne true hjk] at hun; exact hun
   have hd' : ∀ d ∈ ds, (listed.setIfInBounds j true).getD d true = false → Region.reachB md ops i n d = true := fun d hm hun => by
    refine hd d hm ?_
    by_cases hjk : j = d
    ·subst hjk; exact hjun
    ·rw [getD_set_ne true hjk] at hun; exact hun
   refine wpOp_mono (fun a' w' h3 => ⟨h3.2.1, ih (listed.setIfInBounds j true) a' w' hfree' (hc.set hj) hd' (ready_mono hr (Ne.symm hji)) h3.1 (h3.2.1 hjd hS) ?_⟩) h2
   rw [Array.setIfInBounds_comm _ _ hji]
   exact h3.2.2
theorem Jl {i : Nat} {oi : Oper} {v : Value} (hi : ops[i]? = some oi) (hsel : ∀ (j : Nat) (o : Oper) cs b, ops[j]? = some o → o.op ≠ .select cs b)
  (hQ : ∀ c a w, Q (.panic c) (a.put oi.dst v) w → Q (.panic c) a w) :
  ∀ (fuel : Nat) (listed : Array Bool) (a : Act) (w : World),
   (∀ j oj, ops[j]? = some oj → j ≠ i → listed.getD j true = false → (∀ e ∈ oj.after, Region.binds md e = true → e.on ≠ i) → oi.apart ops oj = true) →
   i ∈ Region.ready md ops listed → Yields P ops oi v a →
   yg P md ops Q S ds fuel (listed.setIfInBounds i true) (a.put oi.dst v) w → yg P md ops Q S ds (fuel + 1) listed a w := by
 intro fuel
 induction fuel with
 | zero =>
  intro listed a w _ hr hy H
  refine ⟨fun h => (by rw [h] at hr; cases hr), fun j hj => ?_⟩
  by_cases hji : j = i
  ·subst hji; exact (hy.yieldsIf (S := fun _ => True)).wpOp hi trivial ⟨fun _ h => h, H⟩
  ·have := ready_mono hj hji
   rw [H.1] at this
   cases this
 | succ fuel ih =>
  intro listed a w hfree hr hy H
  refine ⟨fun h => (by rw [h] at hr; cases hr), fun j hj => ?_⟩
  by_cases hji : j = i
  ·subst hji; exact (hy.yieldsIf (S := fun _ => True)).wpOp hi trivial ⟨fun _ h => h, H⟩
  ·have h1 := H.2 j (ready_mono hj hji)
   obtain ⟨hjun, oj, hoj, hall⟩ := mem_ready.1 hj
   have hiun := (mem_ready.1 hr).1
   have hnot : ∀ e ∈ oj.after, Region.binds md e = true → e.on ≠ i := fun e he hb heq => by
    have h1 := hall e he hb
    rw [heq] at h1
    rcases Nat.lt_or_ge i listed.size with h' | h'
    ·simp [h'] at hiun h1; rw [hiun] at h1; cases h1
    ·simp [Array.getElem?_eq_none h'] at h1
   have h2 := wpOp_put hoj (hfree j oj hoj hji hjun hnot) (fun cs b => hsel i oi cs b hi) (fun cs b => hsel j oj cs b hoj) hQ hy h1
   have hfree' : ∀ k ok, ops[k]? = some ok → k ≠ i → (listed.setIfInBounds j true).getD k true = false →
     (∀ e ∈ ok.after, Region.binds md e = true → e.on ≠ i) → oi.apart ops ok = true := fun k ok hk hki hun hno => by
    refine hfree k ok hk hki ?_ hno
    by_cases hjk : j = k
    ·subst hjk; exact hjun
    ·rw [getD_set_ne true hjk] at hun; exact hun
   refine wpOp_mono (fun a' w' h3 => ⟨h3.2.1, ih (listed.setIfInBounds j true) a' w' hfree' (ready_mono hr (Ne.symm hji)) h3.1 ?_⟩) h2
   rw [Array.setIfInBounds_comm _ _ hji]
   exact h3.2.2
theorem QI {i : Nat} {oi : Oper} {v : Value} {fuel : Nat} {listed : Array Bool} {a : Act} {w : World} (hi : ops[i]? = some oi)
  (hs : Region.noSelect ops = true) (hf : Region.free md ops listed i = true) (hr : (Region.ready md ops listed).contains i = true)
  (hc : Region.closedB md ops listed = true) (hl : Region.lastB md ops listed ds i = true)
  (hQ : ∀ c a w, Q (.panic c) (a.put oi.dst v) w → Q (.panic c) a w) (hy : YieldsIf P ops S oi v a) (hS : S w)
  (h : yg P md ops Q S ds fuel (listed.setIfInBounds i true) (a.put oi.dst v) w) : yg P md ops Q S ds (fuel + 1) listed a w :=
 XZ hi (Region.noSelect_spec hs) hQ ops.size fuel listed a w (Region.free_spec hi hf) (Region.closedB_spec hc)
  (fun d hm hun => by have := List.all_eq_true.1 hl d hm; rw [hun] at this; simpa using this) (by simpa using hr) hy hS h
theorem Jd {rs : List Nat} {fuel : Nat} {listed : Array Bool} {a : Act} {w : World} (hr : Region.ready md ops listed = rs) (hne : rs ≠ [])
  (h : ∀ i ∈ rs, wpOp P ops Q i (fun a' w' => (i ∉ ds → S w → S w') ∧ yg P md ops Q S ds fuel (listed.setIfInBounds i true) a' w') a w) : yg P md ops Q S ds (fuel + 1) listed a w :=
 ⟨fun h0 => absurd (hr ▸ h0) hne, hr ▸ h⟩
theorem Qy {listed : Array Bool} {a : Act} {w : World} (hr : Region.ready md ops listed = []) (h : Q .normal a w) :
  ∀ fuel, yg P md ops Q S ds fuel listed a w
 | 0 => ⟨hr, h⟩
 | _ + 1 => ⟨fun _ => h, by rw [hr]; simp⟩
theorem Qm {id : Nat} {a : Act} {w : World} (hm : P.follows .mixedOrders = true)
  (h : yg P .any ops Q S ds ops.size (Array.replicate ops.size false) a { w with drawn := w.drawn + 1 }) : (Code.region id ops true).wp P Q a w :=
 wp_region_any hm (YZ _ _ _ _ h)
end
section
variable {P : Program} {ops : Array Oper} {Q : Exit → Act → World → Prop} {md : Region.Mode} {S : World → Prop} {ds : List Nat}
def xd (P : Program) (md : Region.Mode) (ops : Array Oper) (Q : Exit → Act → World → Prop) (S : World → Prop) (ds : List Nat) (fuel : Nat) (listed : Array Bool) (a : Act) (w : World) (rs : List Nat) : Prop :=
 ∀ i ∈ rs, wpOp P ops Q i (fun a' w' => (i ∉ ds → S w → S w') ∧ yg P md ops Q S ds fuel (listed.setIfInBounds i true) a' w') a w
theorem xd.nil {fuel : Nat} {listed : Array Bool} {a : Act} {w : World} : xd P md ops Q S ds fuel listed a w [] := fun _ h => by cases h
theorem xd.cons {fuel : Nat} {listed : Array Bool} {a : Act} {w : World} {i : Nat} {o : Oper} {rs : List Nat} (ho : ops[i]? = some o) (hd : i ∉ ds)
  (h : ∀ K' : Act → World → Prop, Shut (∀ a w, S w → (S w → yg P md ops Q S ds fuel (listed.setIfInBounds i true) a w) → K' a w) → if Region.wanted o (yielded ops a.tmps) = true then Oper.wp P o a w K' Q else K' (a.put o.dst undef) w)
  (hs : xd P md ops Q S ds fuel listed a w rs) : xd P md ops Q S ds fuel listed a w (i :: rs) := fun j hj => by
 rcases List.mem_cons.1 hj with rfl | hj
 ·exact wpOp_step ho (fun K' hK => h K' (fun a w hS hW => hK a w ⟨fun _ _ => hS, hW hS⟩))
 ·exact hs j hj
theorem xd.cons_last {fuel : Nat} {listed : Array Bool} {a : Act} {w : World} {i : Nat} {o : Oper} {rs : List Nat} (ho : ops[i]? = some o) (hd : i ∈ ds)
  (h : ∀ K' : Act → World → Prop, Shut (∀ a w, yg P md ops Q S ds fuel (listed.setIfInBounds i true) a w → K' a w) → if Region.wanted o (yielded ops a.tmps) = true then Oper.wp P o a w K' Q else K' (a.put o.dst undef) w)
  (hs : xd P md ops Q S ds fuel listed a w rs) : xd P md ops Q S ds fuel listed a w (i :: rs) := fun j hj => by
 rcases List.mem_cons.1 hj with rfl | hj
 ·exact wpOp_step ho (fun K' hK => h K' (fun a w hW => hK a w ⟨fun hn => absurd hd hn, hW⟩))
 ·exact hs j hj
theorem vU {rs : List Nat} {fuel : Nat} {listed : Array Bool} {a : Act} {w : World} (hr : Region.ready md ops listed = rs) (hne : rs ≠ [])
  (h : xd P md ops Q S ds fuel listed a w rs) : yg P md ops Q S ds (fuel + 1) listed a w := Jd hr hne h
theorem Yv {id n : Nat} {a : Act} {w : World} (l : Array Bool) (hm : P.follows .mixedOrders = true) (hn : ops.size = n) (hl : Array.replicate n false = l) (hS : S w.drew)
  (h : S w.drew → yg P .any ops Q S ds n l a w.drew) : (Code.region id ops true).wp P Q a w := by
 subst hn
 subst hl
 exact Qm hm (h hS)
def YF (md : Region.Mode) (ops : Array Oper) (ds : List Nat) (l l' : Array Bool) (i : Nat) : Bool :=
 Region.noSelect ops && Region.free md ops l i && (Region.ready md ops l).contains i && Region.closedB md ops l && Region.lastB md ops l ds i && (l.setIfInBounds i true == l')
theorem take_ {i : Nat} {N : Option Tmp} {oi : Oper} {v : Value} {fuel : Nat} {l : Array Bool} {a : Act} {w : World} (l' : Array Bool) (hi : ops[i]? = some oi) (hN : oi.dst = N) (hc : YF md ops ds l l' i = true)
  (hQ : ∀ c a w, Q (.panic c) (a.put oi.dst v) w → Q (.panic c) a w) (hy : YieldsIf P ops S oi v a) (hS : S w) {a' : Act} (ha : a.put N v = a')
  (h : yg P md ops Q S ds fuel l' a' w) : yg P md ops Q S ds (fuel + 1) l a w := by
 subst ha
 subst hN
 simp only [YF, Bool.and_eq_true, beq_iff_eq] at hc
 obtain ⟨⟨⟨⟨⟨h1, h2⟩, h3⟩, h4⟩, h5⟩, h6⟩ := hc
 subst h6
 exact QI hi h1 h2 h3 h4 h5 hQ hy hS h
def QG (md : Region.Mode) (ops : Array Oper) (l l' : Array Bool) (i : Nat) : Bool :=
 Region.noSelect ops && Region.free md ops l i && (Region.ready md ops l).contains i && (l.setIfInBounds i true == l')
theorem yM {i : Nat} {N : Option Tmp} {oi : Oper} {v : Value} {fuel : Nat} {l : Array Bool} {a : Act} {w : World} (l' : Array Bool) (hi : ops[i]? = some oi) (hN : oi.dst = N) (hc : QG md ops l l' i = true)
  (hQ : ∀ c a w, Q (.panic c) (a.put oi.dst v) w → Q (.panic c) a w) (hy : Yields P ops oi v a) {a' : Act} (ha : a.put N v = a')
  (h : yg P md ops Q S ds fuel l' a' w) : yg P md ops Q S ds (fuel + 1) l a w := by
 subst ha
 subst hN
 simp only [QG, Bool.and_eq_true, beq_iff_eq] at hc
 obtain ⟨⟨⟨h1, h2⟩, h3⟩, h6⟩ := hc
 subst h6
 exact Jl hi (Region.noSelect_spec h1) hQ fuel l a w (Region.free_spec hi h2) (by simpa using h3) hy h
def jh (md : Region.Mode) (ops : Array Oper) (l l' : Array Bool) (i : Nat) : Bool := (Region.ready md ops l == [i]) && (l.setIfInBounds i true == l')
theorem jt {i : Nat} {N : Option Tmp} {oi : Oper} {fuel : Nat} {l : Array Bool} {a : Act} {w : World} (l' : Array Bool) (hi : ops[i]? = some oi) (hN : oi.dst = N) (hc : jh md ops l l' i = true) (hd : i ∉ ds)
  (h : ∀ K : Act → World → Prop, Shut (∀ a' w', S w' → (S w' → yg P md ops Q S ds fuel l' a' w') → K a' w') → if Region.wanted oi (yielded ops a.tmps) = true then Oper.wp P oi a w K Q else K (a.put N undef) w) :
  yg P md ops Q S ds (fuel + 1) l a w := by
 subst hN
 simp only [jh, Bool.and_eq_true, beq_iff_eq] at hc
 obtain ⟨h1, h2⟩ := hc
 subst h2
 exact vU h1 (by simp) (xd.cons hi hd (fun K hK => h K hK) xd.nil)
theorem zad {i : Nat} {N : Option Tmp} {oi : Oper} {fuel : Nat} {l : Array Bool} {a : Act} {w : World} (l' : Array Bool) (hi : ops[i]? = some oi) (hN : oi.dst = N) (hc : jh md ops l l' i = true) (hd : i ∈ ds)
  (h : ∀ K : Act → World → Prop, Shut (∀ a' w', yg P md ops Q S ds fuel l' a' w' → K a' w') → if Region.wanted oi (yielded ops a.tmps) = true then Oper.wp P oi a w K Q else K (a.put N undef) w) :
  yg P md ops Q S ds (fuel + 1) l a w := by
 subst hN
 simp only [jh, Bool.and_eq_true, beq_iff_eq] at hc
 obtain ⟨h1, h2⟩ := hc
 subst h2
 exact vU h1 (by simp) (xd.cons_last hi hd (fun K hK => h K hK) xd.nil)
theorem YK {l : Array Bool} {a : Act} {w : World} {n : Nat} (hr : (Region.ready md ops l == []) = true) (h : Q .normal a w) : yg P md ops Q S ds n l a w := Qy (by simpa using hr) h n
theorem two_ {i j : Nat} {Ni Nj : Option Tmp} {oi oj : Oper} {fuel : Nat} {l : Array Bool} {a : Act} {w : World} (li lj : Array Bool) (hi : ops[i]? = some oi) (hj : ops[j]? = some oj) (hNi : oi.dst = Ni) (hNj : oj.dst = Nj)
  (hc : (Region.ready md ops l == [i, j] && l.setIfInBounds i true == li && l.setIfInBounds j true == lj) = true) (hdi : i ∉ ds) (hdj : j ∉ ds)
  (h1 : ∀ K : Act → World → Prop, Shut (∀ a' w', S w' → (S w' → yg P md ops Q S ds fuel li a' w') → K a' w') → if Region.wanted oi (yielded ops a.tmps) = true then Oper.wp P oi a w K Q else K (a.put Ni undef) w)
  (h2 : ∀ K : Act → World → Prop, Shut (∀ a' w', S w' → (S w' → yg P md ops Q S ds fuel lj a' w') → K a' w') → if Region.wanted oj (yielded ops a.tmps) = true then Oper.wp P oj a w K Q else K (a.put Nj undef) w) :
  yg P md ops Q S ds (fuel + 1) l a w := by
 subst hNi
 subst hNj
 simp only [Bool.and_eq_true, beq_iff_eq] at hc
 obtain ⟨⟨h3, h4⟩, h5⟩ := hc
 subst h4
 subst h5
 exact vU h3 (by simp) (xd.cons hi hdi (fun K hK => h1 K hK) (xd.cons hj hdj (fun K hK => h2 K hK) xd.nil))
def vp : Act → List (Tmp × Value) → Act
 | a, [] => a
 | a, (n, v) :: r => vp (a.put (some n) v) r
theorem zcJ {σ : Type} {fuel : Nat} {l : Array Bool} {a : Act} {w : World} (fuel' : Nat) (l' : Array Bool) (ns : σ → List (Tmp × Value)) (F : σ → World → Prop)
  (hcont : ∀ s w', F s w' → yg P md ops Q S ds fuel' l' (vp a (ns s)) w')
  (h : (∀ s w', F s w' → yg P md ops Q S ds fuel' l' (vp a (ns s)) w') → yg P md ops Q S ds fuel l a w) : yg P md ops Q S ds fuel l a w := h hcont
theorem xh {fuel : Nat} {l : Array Bool} {a a' : Act} {w : World} (ha : a = a') (h : yg P md ops Q S ds fuel l a' w) : yg P md ops Q S ds fuel l a w := by
 subst ha
 exact h
theorem zcL {oi : Oper} {N : Option Tmp} {a : Act} {w : World} {K : Act → World → Prop} (f : FuncId) (args : Array Value) (hw : Region.wanted oi (yielded ops a.tmps) = true) (hN : oi.dst = N) (hrun : (execOp a.eval oi).run P w = .ok (.enter f args) w)
  (h : Calls P f args w fun e w' => ∃ v, e = .returned v ∧ K (a.put N v) w') : if Region.wanted oi (yielded ops a.tmps) = true then Oper.wp P oi a w K Q else K (a.put N undef) w := by
 rw [if_pos hw]
 subst hN
 unfold Oper.wp
 rw [hrun, Oper.upon_enter]
 refine h.mono fun e w'' hh => ?_
 obtain ⟨v, rfl, hk⟩ := hh
 exact hk
theorem Xw {f : FuncId} {fn : Func} (hf : P.funcs[f]? = some fn) (hname : (fn.name == "runtime.NumGoroutine") = false) (hb : fn.body.isSome = true) (args : Array Value) (w : World) : (callFunc f args).run P w = .ok (.enter f args) w := by
 have h1 : fn.name ≠ "runtime.NumGoroutine" := by simpa using hname
 obtain ⟨c, hc⟩ := Option.isSome_iff_exists.1 hb
 simp [callFunc, hf, h1, hc]
theorem jV {oi : Oper} {N : Option Tmp} {a : Act} {w : World} {K : Act → World → Prop} {f : FuncId} {fn : Func} {as9 : Array Operand} {ts : Array TypeId} (hf : P.funcs[f]? = some fn) (hname : (fn.name == "runtime.NumGoroutine") = false) (hb : fn.body.isSome = true) (args : Array Value)
  (hw : Region.wanted oi (yielded ops a.tmps) = true) (hN : oi.dst = N) (hop : oi.op = .call { callee := .value (.func f), args := as9, argTypes := ts }) (hargs : as9.map a.eval = args)
  (h : Calls P f args w fun e w' => ∃ v, e = .returned v ∧ K (a.put N v) w') : if Region.wanted oi (yielded ops a.tmps) = true then Oper.wp P oi a w K Q else K (a.put N undef) w := by
 refine zcL f args hw hN ?_ h
 have he := Xw hf hname hb args w
 unfold execOp
 simp [hop, resolve, Deferred.ofValue, invoke, Act.eval, hargs, he]
theorem zL {rest : List Oper} {oi : Oper} {a : Act} {w : World} (N : Option Tmp) (hd : oi.dst = N) (hg : oi.guard = none) {f : FuncId} {fn : Func} {as9 : Array Operand} {ts : Array TypeId} (hf : P.funcs[f]? = some fn) (hname : (fn.name == "runtime.NumGoroutine") = false) (hb : fn.body.isSome = true) (args : Array Value)
  (hop : oi.op = .call { callee := .value (.func f), args := as9, argTypes := ts }) (hargs : as9.map a.eval = args)
  (h : Calls P f args w fun e w' => ∃ v, e = .returned v ∧ wpList P ops Q rest (a.put N v) w') : wpList P ops Q (oi :: rest) a w := by
 refine wpList_plain hg fun K hK => ?_
 have he := Xw hf hname hb args w
 have hrun : (execOp a.eval oi).run P w = .ok (.enter f args) w := by
  unfold execOp
  simp [hop, resolve, Deferred.ofValue, invoke, Act.eval, hargs, he]
 unfold Oper.wp
 rw [hrun, Oper.upon_enter]
 refine h.mono fun e w'' hh => ?_
 obtain ⟨v, rfl, hk⟩ := hh
 subst hd
 exact hK _ _ hk
theorem J9 {oi : Oper} {N : Option Tmp} {a : Act} {w w1 : World} {v : Value} {K : Act → World → Prop} (hw : Region.wanted oi (yielded ops a.tmps) = true) (hN : oi.dst = N) (hrun : (execOp a.eval oi).run P w = .ok (.value v) w1)
  (h : K (a.put N v) w1) : if Region.wanted oi (yielded ops a.tmps) = true then Oper.wp P oi a w K Q else K (a.put N undef) w := by
 rw [if_pos hw]
 subst hN
 unfold Oper.wp
 rw [hrun]
 exact h
theorem skip_ {oi : Oper} {a : Act} {w w1 : World} {K : Act → World → Prop} (hw : Region.wanted oi (yielded ops a.tmps) = true) (hN : oi.dst = none) (hrun : (execOp a.eval oi).run P w = .ok .skip w1)
  (h : K a w1) : if Region.wanted oi (yielded ops a.tmps) = true then Oper.wp P oi a w K Q else K (a.put none undef) w := by
 rw [if_pos hw]
 unfold Oper.wp
 rw [hrun]
 show K (a.put oi.dst undef) w1
 rw [hN]
 exact h
theorem zT (n : Int) : IntKind.i64.wrap n = Go.RowKit.wrap64 n := by unfold Go.RowKit.wrap64; exact IntKind.wrap_i64 n
theorem yc (n : Int) : IntKind.i32.wrap n = Go.RowKit.wrap32 n := by unfold Go.RowKit.wrap32; exact IntKind.wrap_i32 n
end
open Go.Proofs.YtepipnpfggnadaaGreatW.PrintWords (za)
def Z0 (md : Region.Mode) (o : Oper) : List Nat := (o.after.toList.filter (fun e => Region.binds md e)).map (fun e => e.on)
def QL (md : Region.Mode) (ops : Array Oper) (i : Nat) (oi : Oper) : List Nat := (List.range ops.size).filter fun j => !(j == i) && match ops[j]? with
 | some oj => !(oj.after.any (fun e => Region.binds md e && e.on == i) || oi.apart ops oj)
 | none => false
def qr (md : Region.Mode) (ops : Array Oper) : Bool × List (List Nat × List Nat) := (Region.noSelect ops, (List.range ops.size).map fun i => match ops[i]? with
 | some o => (Z0 md o, QL md ops i o)
 | none => ([], []))
def vG (T : List (List Nat × List Nat)) (l : List Bool) (i : Nat) : Bool := !l.getD i true && match T[i]? with
 | some r => r.1.all (fun j => l.getD j false)
 | none => false
def Yt (T : List (List Nat × List Nat)) (l : List Bool) : List Nat := (List.range T.length).filter (vG T l)
def XU (T : List (List Nat × List Nat)) (l : List Bool) (i : Nat) : Bool := match T[i]? with
 | some r => r.2.all (fun j => l.getD j true)
 | none => false
def Xy (T : List (List Nat × List Nat)) (l : List Bool) : Bool := (List.range T.length).all fun j => !l.getD j false || match T[j]? with
 | some r => r.1.all (fun k => l.getD k false)
 | none => true
def YE (T : List (List Nat × List Nat)) (i : Nat) : Nat → Nat → Bool
 | 0, _ => false
 | fuel + 1, d => match T[d]? with
  | some r => r.1.any fun j => j == i || YE T i fuel j
  | none => false
def Jv (T : List (List Nat × List Nat)) (l : List Bool) (ds : List Nat) (i : Nat) : Bool := ds.all fun d => l.getD d true || YE T i T.length d
section
variable {md : Region.Mode} {ops : Array Oper} {T : Bool × List (List Nat × List Nat)} {l l' li lj lk : Array Bool} {ds : List Nat} {i j k : Nat}
theorem gd (l : Array Bool) (j : Nat) (b : Bool) : l.getD j b = l.toList.getD j b := by simp [Array.getD_eq_getD_getElem?, List.getD_eq_getElem?_getD]
theorem Q7 (o : Oper) (p : Nat → Bool) : o.after.all (fun e => !Region.binds md e || p e.on) = (Z0 md o).all p := by
 unfold Z0
 rw [← Array.all_toList]
 induction o.after.toList with
 | nil => rfl
 | cons e r ih =>
  rw [List.all_cons, ih, List.filter_cons]
  cases h : Region.binds md e <;> simp
theorem zbo (o : Oper) (p : Nat → Bool) : o.after.any (fun e => Region.binds md e && p e.on) = (Z0 md o).any p := by
 unfold Z0
 rw [← Array.any_toList]
 induction o.after.toList with
 | nil => rfl
 | cons e r ih =>
  rw [List.any_cons, ih, List.filter_cons]
  cases h : Region.binds md e <;> simp
theorem Zx : (qr md ops).2.length = ops.size := by simp [qr]
theorem Yl {o : Oper} (h : ops[i]? = some o) : (qr md ops).2[i]? = some (Z0 md o, QL md ops i o) := by
 have hi := (Array.getElem?_eq_some_iff.1 h).1
 unfold qr
 rw [List.getElem?_map, List.getElem?_range hi, Option.map_some, h]
theorem Ym (h : ops[i]? = none) : (qr md ops).2[i]? = none := by
 have hi : ops.size ≤ i := Array.getElem?_eq_none_iff.1 h
 exact List.getElem?_eq_none (by rw [Zx]; exact hi)
theorem zal : vG (qr md ops).2 l.toList i = (!l.getD i true && ((ops[i]?).map (·.after.all fun e => !Region.binds md e || l.getD e.on false)).getD false) := by
 unfold vG
 rw [gd]
 cases h : ops[i]? with
 | none => rw [Ym h]; rfl
 | some o =>
  rw [Yl h]
  simp only [Option.map_some, Option.getD_some]
  rw [← Q7]
  simp only [gd]
theorem YG : Region.ready md ops l = Yt (qr md ops).2 l.toList := by
 unfold Region.ready Yt
 rw [Zx]
 refine List.filter_congr (fun i _ => ?_)
 rw [zal]
theorem VH : Region.free md ops l i = XU (qr md ops).2 l.toList i := by
 unfold Region.free XU
 cases h : ops[i]? with
 | none => rw [Ym h]
 | some oi =>
  rw [Yl h]
  simp only [QL]
  rw [List.all_filter]
  congr 1
  funext j
  rw [gd]
  cases hj : ops[j]? with
  | none => cases (j == i) <;> cases (l.toList.getD j true) <;> simp
  | some oj =>
   cases (j == i) <;> cases (l.toList.getD j true) <;> cases (oj.after.any (fun e => Region.binds md e && e.on == i) || oi.apart ops oj) <;> simp_all
theorem zaT : Region.closedB md ops l = Xy (qr md ops).2 l.toList := by
 unfold Region.closedB Xy
 rw [Zx]
 congr 1
 funext j
 rw [gd]
 cases h : ops[j]? with
 | none => rw [Ym h]
 | some o =>
  rw [Yl h]
  simp only
  rw [← Q7]
  simp only [gd]
theorem JO : ∀ (fuel d : Nat), Region.reachB md ops i fuel d = YE (qr md ops).2 i fuel d
 | 0, _ => rfl
 | fuel + 1, d => by
  unfold Region.reachB YE
  cases h : ops[d]? with
  | none => rw [Ym h]
  | some o =>
   rw [Yl h]
   simp only
   rw [← zbo]
   congr 1
   funext e
   rw [JO fuel]
theorem zcY : Region.lastB md ops l ds i = Jv (qr md ops).2 l.toList ds i := by
 unfold Region.lastB Jv
 rw [Zx]
 congr 1
 funext d
 rw [gd, JO]
theorem XI (h : vG T.2 l.toList i = true) (hT : qr md ops = T) : (Region.ready md ops l).contains i = true := by
 subst hT
 rw [YG]
 unfold Yt
 rw [List.contains_iff_mem, List.mem_filter, List.mem_range]
 refine ⟨?_, h⟩
 unfold vG at h
 rw [Bool.and_eq_true] at h
 cases hq : (qr md ops).2[i]? with
 | none => rw [hq] at h; simp at h
 | some r => exact (List.getElem?_eq_some_iff.1 hq).1
theorem Xc (h : (l.toList.set i true == l'.toList) = true) : (l.setIfInBounds i true == l') = true := by
 rw [beq_iff_eq] at h ⊢
 apply Array.ext'
 rw [Array.toList_setIfInBounds]
 exact h
def anyT (T : Bool × List (List Nat × List Nat)) (l l' : List Bool) (i : Nat) : Bool := T.1 && XU T.2 l i && vG T.2 l i && (l.set i true == l')
theorem yG (hT : qr md ops = T) (h : anyT T l.toList l'.toList i = true) : QG md ops l l' i = true := by
 simp only [anyT, Bool.and_eq_true] at h
 obtain ⟨⟨⟨h1, h2⟩, h3⟩, h4⟩ := h
 have h5 := XI h3 hT
 have h6 := Xc h4
 subst hT
 simp only [QG, Bool.and_eq_true]
 exact ⟨⟨⟨h1, by rw [VH]; exact h2⟩, h5⟩, h6⟩
def VY (T : Bool × List (List Nat × List Nat)) (ds : List Nat) (l l' : List Bool) (i : Nat) : Bool := T.1 && XU T.2 l i && vG T.2 l i && Xy T.2 l && Jv T.2 l ds i && (l.set i true == l')
theorem zcT (hT : qr md ops = T) (h : VY T ds l.toList l'.toList i = true) : YF md ops ds l l' i = true := by
 simp only [VY, Bool.and_eq_true] at h
 obtain ⟨⟨⟨⟨⟨h1, h2⟩, h3⟩, h4⟩, h5⟩, h6⟩ := h
 have h7 := XI h3 hT
 have h8 := Xc h6
 subst hT
 simp only [YF, Bool.and_eq_true]
 exact ⟨⟨⟨⟨⟨h1, by rw [VH]; exact h2⟩, h7⟩, by rw [zaT]; exact h4⟩, by rw [zcY]; exact h5⟩, h8⟩
theorem qM (hT : qr md ops = T) (h : (Yt T.2 l.toList == [i] && l.toList.set i true == l'.toList) = true) : jh md ops l l' i = true := by
 simp only [Bool.and_eq_true] at h
 obtain ⟨h1, h2⟩ := h
 subst hT
 simp only [jh, Bool.and_eq_true]
 exact ⟨by rw [YG]; exact h1, Xc h2⟩
theorem JZ (hT : qr md ops = T) (h : (Yt T.2 l.toList == [i, j] && l.toList.set i true == li.toList && l.toList.set j true == lj.toList) = true) : (Region.ready md ops l == [i, j] && l.setIfInBounds i true == li && l.setIfInBounds j true == lj) = true := by
 simp only [Bool.and_eq_true] at h ⊢
 obtain ⟨⟨h1, h2⟩, h3⟩ := h
 subst hT
 exact ⟨⟨by rw [YG]; exact h1, Xc h2⟩, Xc h3⟩
theorem YA (hT : qr md ops = T) (h : (Yt T.2 l.toList == []) = true) : (Region.ready md ops l == []) = true := by
 subst hT
 rw [YG]
 exact h
def upM (B : List Nat) (d : Nat) : List Nat → Nat
 | [] => 0
 | n :: r => (2 ^ n ||| (if n < d then B.getD n 0 else 0)) ||| upM B d r
def vC (T : List (List Nat × List Nat)) (B : List Nat) : Bool := (List.range T.length).all fun d => match T[d]? with
 | some r => (B.getD d 0 ||| upM B d r.1) == upM B d r.1
 | none => false
theorem VL {B : List Nat} {d i : Nat} : ∀ {ns : List Nat}, (upM B d ns).testBit i = true → ∃ n ∈ ns, n = i ∨ (n < d ∧ (B.getD n 0).testBit i = true)
 | [], h => by simp [upM] at h
 | n :: r, h => by
  unfold upM at h
  rw [Nat.testBit_or, Nat.testBit_or, Bool.or_eq_true, Bool.or_eq_true] at h
  rcases h with (h | h) | h
  ·rw [Nat.testBit_two_pow] at h
   exact ⟨n, List.mem_cons_self, .inl (by simpa using h)⟩
  ·by_cases hn : n < d
   ·rw [if_pos hn] at h
    exact ⟨n, List.mem_cons_self, .inr ⟨hn, h⟩⟩
   ·rw [if_neg hn] at h
    simp at h
  ·obtain ⟨m, hm, h2⟩ := VL h
   exact ⟨m, List.mem_cons_of_mem _ hm, h2⟩
theorem QV {T : List (List Nat × List Nat)} {B : List Nat} (hB : vC T B = true) : ∀ (fuel d : Nat), d < fuel → d < T.length → (B.getD d 0).testBit i = true → YE T i fuel d = true
 | 0, d, h, _, _ => by omega
 | fuel + 1, d, h, hd, hb => by
  have h1 := List.all_eq_true.1 hB d (List.mem_range.2 hd)
  cases hr : T[d]? with
  | none => rw [hr] at h1; simp at h1
  | some r =>
   rw [hr] at h1
   simp only [beq_iff_eq] at h1
   have h2 : (upM B d r.1).testBit i = true := by rw [← h1, Nat.testBit_or, hb, Bool.true_or]
   obtain ⟨n, hn, h3⟩ := VL h2
   unfold YE
   rw [hr]
   simp only
   rw [List.any_eq_true]
   refine ⟨n, hn, ?_⟩
   rcases h3 with rfl | ⟨h4, h5⟩
   ·simp
   ·rw [QV hB fuel n (by omega) (by omega) h5, Bool.or_true]
def zcR (T : List (List Nat × List Nat)) (B : List Nat) (l : List Bool) (ds : List Nat) (i : Nat) : Bool := ds.all fun d => l.getD d true || (decide (d < T.length) && (B.getD d 0).testBit i)
def zcM (T : Bool × List (List Nat × List Nat)) (B : List Nat) (ds : List Nat) (l l' : List Bool) (i : Nat) : Bool := T.1 && XU T.2 l i && vG T.2 l i && Xy T.2 l && zcR T.2 B l ds i && (l.set i true == l')
theorem Zo {B : List Nat} (hT : qr md ops = T) (hB : vC T.2 B = true) (h : zcM T B ds l.toList l'.toList i = true) : YF md ops ds l l' i = true := by
 refine zcT hT ?_
 simp only [zcM, VY, Bool.and_eq_true] at h ⊢
 obtain ⟨⟨⟨⟨⟨h1, h2⟩, h3⟩, h4⟩, h5⟩, h6⟩ := h
 refine ⟨⟨⟨⟨⟨h1, h2⟩, h3⟩, h4⟩, ?_⟩, h6⟩
 unfold zcR at h5
 unfold Jv
 rw [List.all_eq_true] at h5 ⊢
 intro d hd
 have h7 := h5 d hd
 rw [Bool.or_eq_true, Bool.and_eq_true, decide_eq_true_eq] at h7
 rcases h7 with h7 | ⟨h8, h9⟩
 ·rw [h7, Bool.true_or]
 ·rw [QV hB _ d h8 h8 h9, Bool.or_true]
theorem ZK {P : Program} {Q : Exit → Act → World → Prop} {S : World → Prop} {n : Nat} {a : Act} {w : World} {B : List Nat} (hT : qr md ops = T) (hB : vC T.2 B = true) (h : za (qr md ops = T) → za (vC T.2 B = true) → yg P md ops Q S ds n l a w) : yg P md ops Q S ds n l a w := h ⟨hT⟩ ⟨hB⟩
end
def Zy : Code → Nat → Option (Array Oper)
 | .region id ops _, k => if id == k then some ops else none
 | .seq a b, k => match Zy a k with
  | some o => some o
  | none => Zy b k
 | .cond _ a b, k => match Zy a k with
  | some o => some o
  | none => Zy b k
 | .block _ c, k => Zy c k
 | .loop c, k => Zy c k
 | .scope c, k => Zy c k
 | .rangeFunc _ _ a b, k => match Zy a k with
  | some o => some o
  | none => Zy b k
 | _, _ => none
def Ju (f : Func) (k : Nat) : Array Oper := ((f.body.bind fun c => Zy c k)).getD #[]
end Go.Proofs.YtepipnpfggnadaaGreatW.PrintLast
namespace Go.Proofs.YtepipnpfggnadaaGreatW.PrintWords
open Go.RowKit
namespace Kd
def tag {α : Type} (f : Nat → Nat) (d : Kd α) : Kd (α × Nat) where
 sz := d.sz
 E := d.E
 K := fun w x cs => d.K w x.1 cs
 M := fun w base ok x cs => d.M w base (fun k => ok k ∧ f k = x.2) x.1 cs
 K_len := fun h => d.K_len h
 K_one := fun h => d.K_one h
 K_below := fun hb h => d.K_below hb h
 K_of_M := fun h => d.K_of_M h
 M_mono := fun hok h => d.M_mono (fun k hk => ⟨hok k hk.1, hk.2⟩) h
 M_bound := fun h => d.M_mono (fun _ hk => ⟨⟨hk.1.1, hk.2⟩, hk.1.2⟩) (d.M_bound h)
 M_move := fun hm h => d.M_move (fun k hk => hm k hk.1) h
 M_lower := fun hb h => d.M_lower hb h
def raw (sz : Nat) : Kd (List Value) where
 sz := sz
 E := []
 K := fun _ x cs => cs = x ∧ cs.length = sz ∧ ∀ u ∈ cs, u.oneCell' = true
 M := fun _ _ _ x cs => cs = x ∧ cs.length = sz ∧ ∀ u ∈ cs, u.oneCell' = true
 K_len := fun h => h.2.1
 K_one := fun h => h.2.2
 K_below := fun _ h => h
 K_of_M := fun h => h
 M_mono := fun _ h => h
 M_bound := fun h => h
 M_move := fun _ h => h
 M_lower := fun _ h => h
def S {α : Type} (d : Kd α) (e : Nat) (w : World) (base : Nat) (ok : Nat → Prop) (v : Value) (xs : List α) : Prop := ∃ f, (tag f d).R e w base ok v xs.zipIdx
section
variable {α β : Type} {d : Kd α} {d' : Kd β} {e e' : Nat} {w w1 W : World} {base b : Nat} {ok ok' okv oku : Nat → Prop} {u v : Value} {xs : List α} {ys : List β}
theorem R_tight (hE : d.E = []) (h : d.R e w base ok v xs) : d.R e w base (fun k => some k = v.ownBlock) v xs := by
 obtain ⟨h0, inner, ho, hr⟩ := h
 refine ⟨fun k hk => hk.symm, inner, ho, hr.imp_ (fun p c hp => d.M_mono (fun k hk => ?_) (d.M_bound hp))⟩
 obtain ⟨_, _, _, q, hq, _⟩ := hk
 rw [hE] at hq
 cases hq
theorem S_nil (d : Kd α) (e : Nat) (w : World) (base : Nat) (ok : Nat → Prop) : S d e w base ok (.slice none 0 0) [] := ⟨fun _ => 0, R_nil _ _ _ _ _⟩
theorem S_mono (h : S d e w base ok v xs) (hok : ∀ k, ok k → ok' k) : S d e w base ok' v xs := by
 obtain ⟨f, h⟩ := h
 exact ⟨f, R_mono h hok⟩
theorem S_bound (h : S d e w base ok v xs) : S d e w base (fun k => ok k ∧ base ≤ k ∧ k < w.heap.size ∧ ∃ q, q ∈ e :: d.E ∧ ∃ cells, w.heap[k]? = some (.cells cells q (0, 0))) v xs := by
 obtain ⟨f, h⟩ := h
 exact ⟨f, R_bound h⟩
theorem S_move (h : S d e w base ok v xs) (hm : ∀ k, ok k → w1.heap[k]? = w.heap[k]?) : S d e w1 base ok v xs := by
 obtain ⟨f, h⟩ := h
 exact ⟨f, R_move h hm⟩
theorem S_lower {base' : Nat} (h : S d e w base ok v xs) (hb : base' ≤ base) : S d e w base' ok v xs := by
 obtain ⟨f, h⟩ := h
 exact ⟨f, R_lower h hb⟩
end
def gap {α : Type} (f : Nat → Nat) (d : Kd α) (i : Nat) (c : List Value) : Kd (α × Nat) where
 sz := d.sz
 E := d.E
 K := fun w x cs => (x.2 = i → cs = c ∧ cs.length = d.sz ∧ ∀ u ∈ cs, u.oneCell' = true) ∧ (x.2 ≠ i → d.K w x.1 cs)
 M := fun w base ok x cs => (x.2 = i → cs = c ∧ cs.length = d.sz ∧ ∀ u ∈ cs, u.oneCell' = true) ∧ (x.2 ≠ i → d.M w base (fun k => ok k ∧ f k = x.2) x.1 cs)
 K_len := fun {w x cs} h => by
  by_cases hx : x.2 = i
  ·exact (h.1 hx).2.1
  ·exact d.K_len (h.2 hx)
 K_one := fun {w x cs} h => by
  by_cases hx : x.2 = i
  ·exact (h.1 hx).2.2
  ·exact d.K_one (h.2 hx)
 K_below := fun hb h => ⟨h.1, fun hx => d.K_below hb (h.2 hx)⟩
 K_of_M := fun h => ⟨h.1, fun hx => d.K_of_M (h.2 hx)⟩
 M_mono := fun hok h => ⟨h.1, fun hx => d.M_mono (fun k hk => ⟨hok k hk.1, hk.2⟩) (h.2 hx)⟩
 M_bound := fun h => ⟨h.1, fun hx => d.M_mono (fun _ hk => ⟨⟨hk.1.1, hk.2⟩, hk.1.2⟩) (d.M_bound (h.2 hx))⟩
 M_move := fun hm h => ⟨h.1, fun hx => d.M_move (fun k hk => hm k hk.1) (h.2 hx)⟩
 M_lower := fun hb h => ⟨h.1, fun hx => d.M_lower hb (h.2 hx)⟩
def H {α : Type} (d : Kd α) (e : Nat) (w : World) (base : Nat) (ok : Nat → Prop) (v : Value) (xs : List α) (i : Int) (oki : Nat → Prop) (c : List Value) : Prop :=
 (∀ k, oki k → ok k) ∧ ∃ f, (gap f d i.toNat c).R e w base (fun k => ok k ∧ ¬ oki k) v xs.zipIdx
end Kd
open Go.RowKit
namespace Kd
structure Heap {α : Type} (d : Kd α) : Prop where
 K : ∀ {w w1 : World} {x : α} {cs : List Value}, (∀ k, k < w.heap.size → w1.heap[k]? = w.heap[k]?) → d.K w x cs → d.K w1 x cs
theorem zbB {w w1 : World} (hb : ∀ k, k < w.heap.size → w1.heap[k]? = w.heap[k]?) {a : Addr} {v : Value} (h : w.cell? a = some v) : w1.cell? a = some v := by
 have := hb a.block (zdL w a h)
 simpa [World.cell?, this] using h
theorem Heap.C {α : Type} {d : Kd α} (hd : Heap d) {w w1 : World} {A : Option Addr} {n : Nat} {xs : List α} (hb : ∀ k, k < w.heap.size → w1.heap[k]? = w.heap[k]?) (h : d.C w A n xs) : d.C w1 A n xs :=
 ⟨h.1, h.2.1, fun hn => by
  obtain ⟨ad, e, hc⟩ := h.2.2 hn
  refine ⟨ad, e, fun j p hj => ?_⟩
  obtain ⟨c, hs, hr, hcell⟩ := hc j p hj
  exact ⟨c, hs, hd.K hb hr, fun i u hu => zbB hb (hcell i u hu)⟩⟩
theorem heap_int (k : IntKind) : Heap (Kd.int k) := ⟨fun _ h => h⟩
theorem heap_string : Heap Kd.string := ⟨fun _ h => h⟩
theorem heap_slice {α : Type} {d : Kd α} (e : Nat) (hd : Heap d) : Heap (slice e d) := ⟨by
 rintro w w1 x cs hb ⟨A, c, rfl, hl, hr⟩
 exact ⟨A, c, rfl, hl, hd.C hb hr⟩⟩
theorem heap_pair {α β : Type} {a : Kd α} {b : Kd β} (ha : Heap a) (hb' : Heap b) : Heap (pair a b) := ⟨by
 rintro w w1 x cs hb ⟨c0, c1, rfl, h0, h1⟩
 exact ⟨c0, c1, rfl, ha.K hb h0, hb'.K hb h1⟩⟩
theorem heap_iso {α β : Type} {d : Kd α} (f : β → α) (hd : Heap d) : Heap (iso d f) := ⟨fun hb h => hd.K hb h⟩
end Kd
open Go.RowKit
def zj (w W : World) (S : Nat → Prop) : Prop := w.heap.size ≤ W.heap.size ∧ ∀ i, i < w.heap.size → ¬ S i → W.heap[i]? = w.heap[i]?
section
variable {w W W2 : World} {S S2 S' : Nat → Prop}
theorem zj.refl (w : World) (S : Nat → Prop) : zj w w S := ⟨Nat.le_refl _, fun _ _ _ => rfl⟩
theorem zj.of_below (h : Below w.heap.size w W) (S : Nat → Prop) : zj w W S := ⟨h.size, fun i hi _ => h.block i hi⟩
theorem zj.mono (h : zj w W S) (hs : ∀ k, S k → S' k) : zj w W S' := ⟨h.1, fun i hi hn => h.2 i hi (fun hk => hn (hs i hk))⟩
theorem zj.then_ (h : zj w W S) (k : zj W W2 S2) (hs : ∀ k, S2 k → S k ∨ w.heap.size ≤ k) : zj w W2 S :=
 ⟨Nat.le_trans h.1 k.1, fun i hi hn => (k.2 i (Nat.lt_of_lt_of_le hi h.1) (fun h2 => (hs i h2).elim hn (fun h3 => by omega))).trans (h.2 i hi hn)⟩
theorem zj.of_grown {row : Option Nat} (hg : W.grownBy W2 row) (h : zj w W S) (hr : ∀ k, row = some k → S k ∨ w.heap.size ≤ k) : zj w W2 S :=
 h.then_ (S2 := fun k => row = some k) ⟨hg.size, fun i hi hn => hg.block i hi (fun he => hn he.symm)⟩ hr
theorem zj.below (h : zj w W S) (hb : Below W.heap.size W W2) : zj w W2 S := h.then_ (zj.of_below hb (fun _ => False)) (fun _ hk => hk.elim)
theorem zj.alloc (h : zj w W S) (o : Obj) : zj w (W.alloc o) S := h.below (zc (Below.refl _ _) o)
theorem zj.drew (h : zj w W S) : zj w W.drew S := h
theorem zj.drewN (h : zj w W S) (m : Nat) : zj w (W.drewN m) S := h
theorem zj.setCell (h : zj w W S) {p : Addr} (hp : S p.block ∨ w.heap.size ≤ p.block) (u : Value) : zj w (W.setCell p u) S :=
 h.then_ (S2 := fun k => k = p.block) ⟨by simp [World.setCell], fun i _ hn => Below.heap_setCell W p u i hn⟩ (fun k hk => by rw [hk]; exact hp)
theorem zj.keep {g : Nat} (h : yX w W g none) (k : zj W W2 S2) (hs : ∀ k, S2 k → w.heap.size ≤ k) : yX w W2 g none :=
 ⟨Nat.le_trans h.1 k.1, fun i hi hg hr => (k.2 i (Nat.lt_of_lt_of_le hi h.1) (fun h2 => by have := hs i h2; omega)).trans (h.2 i hi hg hr)⟩
theorem jF {g : Nat} {o : Obj} (hb : W.heap[g]? = some o) (hk : zj W W2 S) (hne : ¬ S g) : W2.heap[g]? = some o := (hk.2 g (xY hb) hne).trans hb
theorem QT {a : Addr} {v : Value} (hc : W.cell? a = some v) (hk : zj W W2 S) (hne : ¬ S a.block) : W2.cell? a = some v := by
 have := hk.2 a.block (zdL W a hc) hne
 simpa [World.cell?, this] using hc
end
namespace Kd
section
variable {α : Type} {d : Kd α} {e base n c : Nat} {ok oki S S2 : Nat → Prop} {w w0 W W1 W2 : World} {v : Value} {A : Option Addr} {xs : List α} {i : Int} {cs : List Value}
theorem zaZ (h : d.R e W base ok v xs) (hk : zj W W2 S) (hne : ∀ k, ok k → ¬ S k) : d.R e W2 base ok v xs := Vd h (fun k ho hlt => hk.2 k hlt (hne k ho))
theorem C_kept_own (h : d.R e W base ok (.slice A n c) xs) (hok : ∀ k, ok k → ¬ S k) : ∀ W', zj W W' S → d.C W' A n xs := fun W' hk => by
 have h2 := R_reads' (zaZ h hk hok)
 rw [h2.1]
 exact h2.2.2
theorem C_kept_came (hd : Heap d) (h : d.C w0 A n xs) (hb : Below w0.heap.size w0 W) (hS : ∀ k, S k → w0.heap.size ≤ k) : ∀ W', zj W W' S → d.C W' A n xs := fun W' hk =>
 hd.C (fun k hlt => (hk.2 k (Nat.lt_of_lt_of_le hlt hb.size) (fun h2 => by have := hS k h2; omega)).trans (hb.block k hlt)) h
theorem C_kept_call (h : ∀ W', zj w W' S → d.C W' A n xs) (hk : zj w W S) (hs : ∀ k, S2 k → S k ∨ w.heap.size ≤ k) : ∀ W', zj W W' S2 → d.C W' A n xs := fun W' hk' => h W' (hk.then_ hk' hs)
theorem C_kept_now (h : ∀ W', zj w W' S → d.C W' A n xs) (hk : zj w W S) : d.C W A n xs := h W hk
end
end Kd
open Go.RowKit
def Zd (P : World → Prop) (W : World) (ok : Nat → Prop) : Prop := ∀ W' : World, (∀ k, ok k → k < W.heap.size → W'.heap[k]? = W.heap[k]?) → P W'
theorem zdd {W W1 : World} {k : Nat} (h : W1.heap[k]? = W.heap[k]?) (hlt : k < W.heap.size) : k < W1.heap.size := by
 rw [Array.getElem?_eq_getElem hlt] at h
 exact (Array.getElem?_eq_some_iff.1 h).1
namespace Zd
variable {P Q : World → Prop} {W W1 : World} {ok ok' : Nat → Prop}
theorem now (h : Zd P W ok) : P W := h W (fun _ _ _ => rfl)
theorem mono (h : Zd P W ok) (hok : ∀ k, ok k → ok' k) : Zd P W ok' := fun W' hW => h W' (fun k hk hlt => hW k (hok k hk) hlt)
theorem bound (h : Zd P W ok) : Zd P W (fun k => ok k ∧ k < W.heap.size) := fun W' hW => h W' (fun k hk hlt => hW k ⟨hk, hlt⟩ hlt)
theorem step (h : Zd P W ok) (hm : ∀ k, ok k → k < W.heap.size → W1.heap[k]? = W.heap[k]?) : Zd P W1 ok := fun W' hW => h W' (fun k hk hlt => (hW k hk (zdd (hm k hk hlt) hlt)).trans (hm k hk hlt))
theorem old (h : Zd P W ok) (hb : Below W.heap.size W W1) : Zd P W1 (fun k => ok k ∧ k < W.heap.size) := (h.bound).step (fun k _ hlt => hb.block k hlt)
end Zd
namespace Kd
def F {α : Type} (d : Kd α) (W : World) (ok : Nat → Prop) (A : Option Addr) (n : Nat) (xs : List α) : Prop := Zd (fun W => d.C W A n xs) W ok
def FK {α : Type} (d : Kd α) (W : World) (ok : Nat → Prop) (x : α) (c : List Value) : Prop := Zd (fun W => d.K W x c) W ok
section
variable {α β : Type} {d : Kd α} {e base n n' cc g N : Nat} {ok ok' okp S : Nat → Prop} {w w0 w1 W W1 : World} {A A' : Option Addr} {u v v1 : Value} {xs : List α} {xs' : List β} {d' : Kd β} {x : α} {c : List Value}
theorem F_nil (d : Kd α) (W : World) (ok : Nat → Prop) : F d W ok none ([] : List α).length [] := fun W' _ => C_nil d W'
theorem zc9 (h : d.M W base ok x c) : FK d W ok x c := fun _ hW => d.K_of_M (zaB h hW)
end
end Kd
open Go.RowKit
namespace Kd
def Z5 (sz : Nat) (n : Nat) (inner : List Value) : List (List Value) := (List.range n).map fun j => (inner.drop (j * sz)).take sz
theorem jA (sz n : Nat) (inner : List Value) : (Z5 sz n inner).length = n := by simp [Z5]
theorem zbk {sz n : Nat} {inner : List Value} {j : Nat} (hj : j < n) : (Z5 sz n inner)[j]? = some ((inner.drop (j * sz)).take sz) := by simp [Z5, hj]
theorem Qe {sz n : Nat} {inner : List Value} {j : Nat} {c : List Value} (h : (Z5 sz n inner)[j]? = some c) : c = (inner.drop (j * sz)).take sz := by
 have hj : j < n := by have := (List.getElem?_eq_some_iff.1 h).1; rwa [jA] at this
 rw [zbk hj] at h
 injection h with h
 exact h.symm
theorem zbY {α : Type} {Rr : α → List Value → Prop} {sz : Nat} {xs : List α} {inner : List Value} (h : zX Rr sz xs inner) (hR : ∀ x c, Rr x c → c.length = sz ∧ ∀ u ∈ c, u.oneCell' = true) : zX (fun x cs => cs = x ∧ cs.length = sz ∧ ∀ u ∈ cs, u.oneCell' = true) sz (Z5 sz xs.length inner) inner := by
 refine ⟨by rw [jA]; exact h.1, fun j p hj => ?_⟩
 have hjl : j < xs.length := by have := (List.getElem?_eq_some_iff.1 hj).1; rwa [jA] at this
 have hp := Qe hj
 exact ⟨hp.symm, hR _ _ (h.2 j _ (List.getElem?_eq_getElem hjl))⟩
section
variable {α : Type} {d : Kd α} {e base n cc g : Nat} {ok ok' okp S : Nat → Prop} {w w1 W W1 : World} {A : Option Addr} {u v v1 : Value} {xs : List α} {x : α} {c : List Value}
def N {α : Type} (d : Kd α) (e : Nat) (w : World) (base : Nat) (ok : Nat → Prop) (v : Value) (xs : List α) : Prop :=
 (∀ k, v.ownBlock = some k → ok k) ∧ ∃ rows : List (List Value), rows.length = xs.length ∧ (raw d.sz).R e w base (fun k => some k = v.ownBlock) v rows ∧ ∀ (j : Nat) (x : α) (c : List Value), xs[j]? = some x → rows[j]? = some c → FK d w (fun k => ok k ∧ some k ≠ v.ownBlock) x c
theorem R_N (h : d.R e w base ok v xs) : N d e w base ok v xs := by
 obtain ⟨h0, inner, ho, hr⟩ := h
 refine ⟨h0, Z5 d.sz xs.length inner, jA _ _ _, ⟨fun k hk => hk.symm, inner, by rw [jA]; exact ho, zbY hr (fun x c hp => ⟨d.K_len (d.K_of_M hp), d.K_one (d.K_of_M hp)⟩)⟩, fun j x c hx hc => ?_⟩
 rw [Qe hc]
 exact zc9 (hr.2 j x hx)
theorem N_nil (d : Kd α) (e : Nat) (w : World) (base : Nat) (ok : Nat → Prop) : N d e w base ok (.slice none 0 0) [] := R_N (R_nil _ _ _ _ _)
end
end Kd
open Go.RowKit
section
variable {P : Program} {d : Nat} {xs ys : Array Value} {f : Field} {fs : List Field} {a b : Value} {r s : Bool} {w : World}
theorem zcl (hn : (f.name == "_") = false) (ha : (part f.type xs f.offset).run P w = .ok a w) (hb : (part f.type ys f.offset).run P w = .ok b w) (he : (Op.equalIn d f.type a b).run P w = .ok r w) : (Op.eqFields d xs ys [f]).run P w = .ok r w := by
 have hn' : f.name ≠ "_" := by simpa using hn
 simp only [Op.eqFields, if_pos hn', Sem.run_bind, ha, hb, he, Result.andThen_ok]
 cases r <;> simp
theorem zbO (hn : (f.name == "_") = false) (ha : (part f.type xs f.offset).run P w = .ok a w) (hb : (part f.type ys f.offset).run P w = .ok b w) (he : (Op.equalIn d f.type a b).run P w = .ok r w) (hr : (Op.eqFields d xs ys fs).run P w = .ok s w) : (Op.eqFields d xs ys (f :: fs)).run P w = .ok (r && s) w := by
 have hn' : f.name ≠ "_" := by simpa using hn
 rw [Op.eqFields]
 simp only [if_pos hn', Sem.run_bind, ha, hb, he, Result.andThen_ok]
 cases r
 ·simp
 ·simpa using hr
theorem zdz {t : TypeId} {fs : Array Field} (hu : P.underlying t = some (.struct fs)) (hp : P.stoodInHeld t = false) (h : (Op.eqFields d xs ys fs.toList).run P w = .ok r w) : (Op.equalIn (d + 1) t (.agg xs) (.agg ys)).run P w = .ok r w := by
 have hf : P.fieldsOf t = fs := by simp [Program.fieldsOf, hu]
 rw [run_equalIn_struct (P := P) w d t xs ys (by rw [hf]; exact hu) hp, hf]
 exact h
end
theorem zX.one {α : Type} {R : α → List Value → Prop} {ps : List α} {cs : List Value} {p : α} {v : Value} (hp : R p [v]) (h : zX R 1 ps cs) : zX R 1 (p :: ps) (v :: cs) := by
 refine ⟨by simp [h.1], fun j q hq => ?_⟩
 cases j with
 | zero =>
  simp only [List.getElem?_cons_zero, Option.some.injEq] at hq
  subst hq
  simpa using hp
 | succ j =>
  simp only [List.getElem?_cons_succ] at hq
  have h1 := h.2 j q hq
  simpa [Nat.mul_one] using h1
theorem zX.front {α : Type} {R : α → List Value → Prop} {size : Nat} {ps : List α} {cs c all : List Value} {p : α} (hp : R p c) (hc : c.length = size) (h : zX R size ps cs) (ha : c ++ cs = all) : zX R size (p :: ps) all := by
 subst ha
 refine ⟨by rw [zdN, hc, h.1, List.length_cons, Nat.succ_mul, Nat.add_comm], fun j q hq => ?_⟩
 cases j with
 | zero =>
  simp only [List.getElem?_cons_zero, Option.some.injEq] at hq
  subst hq
  rw [Nat.zero_mul, List.drop_zero, List.take_append_of_le_length (by omega), List.take_of_length_le (by omega)]
  exact hp
 | succ j =>
  simp only [List.getElem?_cons_succ] at hq
  have h1 := h.2 j q hq
  rw [Nat.succ_mul, List.drop_append, List.drop_of_length_le (by rw [hc]; exact Nat.le_add_left _ _), List.nil_append, hc, Nat.add_sub_cancel]
  exact h1
theorem zX.c2 {α : Type} {R : α → List Value → Prop} {ps : List α} {cs : List Value} {p : α} {va vb : Value} (hp : R p [va, vb]) (h : zX R 2 ps cs) : zX R 2 (p :: ps) (va :: vb :: cs) := zX.front hp rfl h rfl
theorem zX.c3 {α : Type} {R : α → List Value → Prop} {ps : List α} {cs : List Value} {p : α} {va vb vc : Value} (hp : R p [va, vb, vc]) (h : zX R 3 ps cs) : zX R 3 (p :: ps) (va :: vb :: vc :: cs) := zX.front hp rfl h rfl
theorem zX.c4 {α : Type} {R : α → List Value → Prop} {ps : List α} {cs : List Value} {p : α} {va vb vc vd : Value} (hp : R p [va, vb, vc, vd]) (h : zX R 4 ps cs) : zX R 4 (p :: ps) (va :: vb :: vc :: vd :: cs) := zX.front hp rfl h rfl
theorem zX.c5 {α : Type} {R : α → List Value → Prop} {ps : List α} {cs : List Value} {p : α} {va vb vc vd ve : Value} (hp : R p [va, vb, vc, vd, ve]) (h : zX R 5 ps cs) : zX R 5 (p :: ps) (va :: vb :: vc :: vd :: ve :: cs) := zX.front hp rfl h rfl
theorem zX.c6 {α : Type} {R : α → List Value → Prop} {ps : List α} {cs : List Value} {p : α} {va vb vc vd ve vf : Value} (hp : R p [va, vb, vc, vd, ve, vf]) (h : zX R 6 ps cs) : zX R 6 (p :: ps) (va :: vb :: vc :: vd :: ve :: vf :: cs) := zX.front hp rfl h rfl
theorem zX.c7 {α : Type} {R : α → List Value → Prop} {ps : List α} {cs : List Value} {p : α} {va vb vc vd ve vf vg : Value} (hp : R p [va, vb, vc, vd, ve, vf, vg]) (h : zX R 7 ps cs) : zX R 7 (p :: ps) (va :: vb :: vc :: vd :: ve :: vf :: vg :: cs) := zX.front hp rfl h rfl
theorem zX.c8 {α : Type} {R : α → List Value → Prop} {ps : List α} {cs : List Value} {p : α} {va vb vc vd ve vf vg vh : Value} (hp : R p [va, vb, vc, vd, ve, vf, vg, vh]) (h : zX R 8 ps cs) : zX R 8 (p :: ps) (va :: vb :: vc :: vd :: ve :: vf :: vg :: vh :: cs) := zX.front hp rfl h rfl
theorem zX.c9 {α : Type} {R : α → List Value → Prop} {ps : List α} {cs : List Value} {p : α} {va vb vc vd ve vf vg vh vi : Value} (hp : R p [va, vb, vc, vd, ve, vf, vg, vh, vi]) (h : zX R 9 ps cs) : zX R 9 (p :: ps) (va :: vb :: vc :: vd :: ve :: vf :: vg :: vh :: vi :: cs) := zX.front hp rfl h rfl
theorem zX.c10 {α : Type} {R : α → List Value → Prop} {ps : List α} {cs : List Value} {p : α} {va vb vc vd ve vf vg vh vi vj : Value} (hp : R p [va, vb, vc, vd, ve, vf, vg, vh, vi, vj]) (h : zX R 10 ps cs) : zX R 10 (p :: ps) (va :: vb :: vc :: vd :: ve :: vf :: vg :: vh :: vi :: vj :: cs) := zX.front hp rfl h rfl
end Go.Proofs.YtepipnpfggnadaaGreatW.PrintWords
namespace Go.Proofs.YtepipnpfggnadaaGreatW.PrintLast
def up (b : Nat → Bool) (i : Nat) : Nat → Bool := fun j => if j = i then true else b j
end Go.Proofs.YtepipnpfggnadaaGreatW.PrintLast
namespace Go.Proofs.YtepipnpfggnadaaGreatW.PrintMore
open Go.RowKit Go.Proofs.YtepipnpfggnadaaGreatW.PrintWords
theorem jM (k k' : IntKind) (x y : Int) : Builtin.max2 (.int k x) (.int k' y) = pure (.int k (if x < y then y else x)) := by simp only [Builtin.max2, gt_iff_lt]
theorem jJ (k k' : IntKind) (x y : Int) : Builtin.min2 (.int k x) (.int k' y) = pure (.int k (if y < x then y else x)) := by simp only [Builtin.min2]
theorem vE (ats : Array TypeId) (ty : TypeId) (a b : Value) : Builtin.max_ ats ty #[a, b] = (Builtin.max2 a b >>= fun s => pure s) := by simp only [Builtin.max_, List.foldlM_cons, List.foldlM_nil]
theorem vD (ats : Array TypeId) (ty : TypeId) (a b : Value) : Builtin.min_ ats ty #[a, b] = (Builtin.min2 a b >>= fun s => pure s) := by simp only [Builtin.min_, List.foldlM_cons, List.foldlM_nil]
theorem jm (ats : Array TypeId) (ty : TypeId) (a b c : Value) : Builtin.max_ ats ty #[a, b, c] = (Builtin.max2 a b >>= fun s => Builtin.max2 s c >>= fun s => pure s) := by simp only [Builtin.max_, List.foldlM_cons, List.foldlM_nil]
theorem jl (ats : Array TypeId) (ty : TypeId) (a b c : Value) : Builtin.min_ ats ty #[a, b, c] = (Builtin.min2 a b >>= fun s => Builtin.min2 s c >>= fun s => pure s) := by simp only [Builtin.min_, List.foldlM_cons, List.foldlM_nil]
theorem jL (ats : Array TypeId) (ty : TypeId) (a b c d : Value) : Builtin.max_ ats ty #[a, b, c, d] = (Builtin.max2 a b >>= fun s => Builtin.max2 s c >>= fun s => Builtin.max2 s d >>= fun s => pure s) := by simp only [Builtin.max_, List.foldlM_cons, List.foldlM_nil]
theorem jO (ats : Array TypeId) (ty : TypeId) (a b c d : Value) : Builtin.min_ ats ty #[a, b, c, d] = (Builtin.min2 a b >>= fun s => Builtin.min2 s c >>= fun s => Builtin.min2 s d >>= fun s => pure s) := by simp only [Builtin.min_, List.foldlM_cons, List.foldlM_nil]
end Go.Proofs.YtepipnpfggnadaaGreatW.PrintMore
namespace Go.Proofs.YtepipnpfggnadaaGreatW.PrintWords
open Go.RowKit
section
variable {P : Program} {ops : Array Oper} {rest : List Oper} {o : Oper} {a : Act} {Q : Exit → Act → World → Prop} {W : World}
theorem zr {f : FuncId} {as9 : Array Operand} {ts : Array TypeId} (_ho : o.op = .call { callee := .value (.func f), args := as9, argTypes := ts }) (h : wpList P ops Q (o :: rest) a W) : wpList P ops Q (o :: rest) a W := h
theorem jH {b : Builtin} {xs : Array Operand} {ts : Array TypeId} (_ho : o.op = .call { callee := .builtin b, args := xs, argTypes := ts }) (h : wpList P ops Q (o :: rest) a W) : wpList P ops Q (o :: rest) a W := h
end
theorem Jb {P : Program} {f : FuncId} {args args' : Array Value} {w : World} {Q : Ending → World → Prop} (h : args = args') (hc : Calls P f args' w Q) : Calls P f args w Q := h ▸ hc
def shl (k : IntKind) (x y : Int) : Int := k.wrap (x * 2 ^ min y.toNat k.bits)
theorem zbq {k : IntKind} {x y j : Int} (h : shl k x y = j) (hy : y ≤ k.bits) : k.wrap (x * 2 ^ y.toNat) = j := by rw [← h]; unfold shl; rw [Nat.min_eq_left (by omega)]
namespace Kd
section
variable {α : Type} {d : Kd α} {e base b b' g N : Nat} {ok ok1 : Nat → Prop} {W W2 w1 : World} {u v : Value} {xs ys : List α} {S : Nat → Prop}
theorem R_keptB (h : d.R e W base ok v xs) (hk : zj W W2 S) (hne : ∀ k, ok k → ¬ S k) : d.R e W2 base (fun k => ok k ∧ (¬ S k ∧ k < W.heap.size)) v xs :=
 zaZ (R_mono (R_bound h) (fun k hk => ⟨hk.1, hne k hk.1, hk.2.2.1⟩)) hk (fun _ hk => hk.2.1)
end
end Kd
open Go.RowKit
namespace Kd
def V {α : Type} (d : Kd α) (_e : Nat) (W : World) (_base : Nat) (ok : Nat → Prop) (v : Value) (xs : List α) : Prop := ∃ A c, v = .slice A xs.length c ∧ xs.length ≤ c ∧ F d W ok A xs.length xs
section
variable {α β : Type} {d : Kd α} {e base base' n m c g N' lo hi : Nat} {ok ok' S : Nat → Prop} {w W w1 : World} {A : Option Addr} {ad : Addr} {u v v1 : Value} {xs : List α}
theorem V_nil (d : Kd α) (e : Nat) (W : World) (base : Nat) (ok : Nat → Prop) : V d e W base ok (.slice none 0 0) [] := ⟨none, 0, rfl, Nat.le_refl _, F_nil d W ok⟩
theorem R_newM {M : Nat → Prop} (h : d.R e w1 W.heap.size ok v xs) (hle : w.heap.size ≤ W.heap.size) (hM : ∀ k, w.heap.size ≤ k → M k) : d.R e w1 W.heap.size (fun k => M k ∧ ok k) v xs := R_mono (R_bound h) (fun k hk => ⟨hM k (Nat.le_trans hle hk.2.1), hk.1⟩)
end
end Kd
end Go.Proofs.YtepipnpfggnadaaGreatW.PrintWords
namespace Go.Proofs.YtepipnpfggnadaaGreat.Q
open Go.RowKit Go.Proofs.YtepipnpfggnadaaGreatW.PrintWords Go.Proofs.YtepipnpfggnadaaGreatW.PrintLast Go.Proofs.YtepipnpfggnadaaGreatW.PrintMore
attribute [local go_sem] jM jJ vE vD jm jl jL jO
theorem Zg : ∀ (x y : List UInt8), (!(Op.bytesLess x y || x == y)) = Op.bytesLess y x
 | [], [] => rfl
 | [], _ :: _ => rfl
 | _ :: _, [] => rfl
 | a :: x, b :: y => by
  have ih := Zg x y
  simp only [Op.bytesLess]
  by_cases h : a = b
  ·subst h
   have h1 : decide (a < a) = false := decide_eq_false (by simp)
   have h2 : (a :: x == a :: y) = (x == y) := by simp
   have h3 : (a == a) = true := by simp
   rw [h1, h2, h3, Bool.false_or, Bool.true_and, Bool.false_or, Bool.true_and]
   exact ih
  ·have h2 : (a :: x == b :: y) = false := by simp [h]
   have h3 : (a == b) = false := by simp [h]
   have h4 : (b == a) = false := by simp [Ne.symm h]
   rw [h2, h3, h4, Bool.false_and, Bool.false_and, Bool.or_false, Bool.or_false, Bool.or_false]
   have hab : a.toNat ≠ b.toNat := fun h' => h (UInt8.toNat_inj.mp h')
   by_cases hl : a < b
   ·have h5 : ¬ b < a := by rw [UInt8.lt_iff_toNat_lt] at hl ⊢; omega
    rw [decide_eq_true hl, decide_eq_false h5]
    rfl
   ·have h5 : b < a := by rw [UInt8.lt_iff_toNat_lt] at hl ⊢; omega
    rw [decide_eq_false hl, decide_eq_true h5]
    rfl
@[go_sem high] theorem gtr_swap (t : TypeId) (a b : ByteArray) : binOp .gtr t (.string a) (.string b) = pure (.bool (Op.bytesLess b.toList a.toList)) := by
 rw [← Zg]
 simp [binOp, Op.stringOp]
@[go_sem high] theorem leq_swap (t : TypeId) (a b : ByteArray) : binOp .leq t (.string a) (.string b) = pure (.bool !(Op.bytesLess b.toList a.toList)) := by
 rw [← Zg, Bool.not_not]
 simp [binOp, Op.stringOp]
theorem vR {P : Program} {ops : Array Oper} {Q : Exit → Act → World → Prop} {rest : List Oper} {oi : Oper} {a : Act} {w : World} (N : Option Tmp) (hd : oi.dst = N) (hg : oi.guard = none) {x : Operand} {f : FuncId} {fn : Func} {xs : Array Operand} {ts : Array TypeId} (hf : P.funcs[f]? = some fn) (hname : (fn.name == "runtime.NumGoroutine") = false) (hb : fn.body.isSome = true) (args : Array Value)
  (hop : oi.op = .call { callee := .value x, args := xs, argTypes := ts }) (hargs : xs.map a.eval = args)
  (h : Calls P f args w fun e w' => ∃ v, e = .returned v ∧ wpList P ops Q rest (a.put N v) w') (hx : a.eval x = .func (.func f) #[] #[] := by rfl) : wpList P ops Q (oi :: rest) a w := by
 refine wpList_plain hg fun K hK => ?_
 have he := Xw hf hname hb args w
 have hrun : (execOp a.eval oi).run P w = .ok (.enter f args) w := by
  unfold execOp
  simp [hop, resolve, Deferred.ofValue, invoke, hx, hargs, he]
 unfold Oper.wp
 rw [hrun, Oper.upon_enter]
 refine h.mono fun e w'' hh => ?_
 obtain ⟨v, rfl, hk⟩ := hh
 subst hd
 exact hK _ _ hk
theorem zc8 {P : Program} (W : World) (base : Nat) (t u ty e : TypeId) (i : TypeInfo) (ht : P.underlying t = some (.slice e)) (hu : P.underlying u = some .string) (hi : P.info? e = some i) (hz : i.zero = some (.int .u8 0)) (hsize : i.size = 1) (hby : i.bytes = 1)
  (v : Value) (n : Nat) (xs : List Value) (hown : W.ownsRow base e 1 v n xs) (s : ByteArray) (hbytes : n + s.size ≤ 140737488355328) (v1 : Value) (w1 : World)
  (hr : (Builtin.append_ #[t, u] ty #[v, .string s]).run P W = .ok v1 w1) (hnil : v1 = .slice none 0 0 ↔ v = .slice none 0 0 ∧ s.size = 0) : v1.ownBlock = v.ownBlock ∨ ∃ b, v1.ownBlock = some b ∧ W.heap.size ≤ b := by
 have hxl : xs.length = n := by simpa using hown.1
 rcases hown.2 with ⟨rfl, rfl⟩ | ⟨g, cap, cur, rfl, hbg, hg, hnc, hcm, hcs, htake⟩
 ·by_cases hm : s.size = 0
  ·rw [hnil.mpr ⟨rfl, hm⟩]
   exact .inl rfl
  ·have hr2 := run_append_nil_string (P := P) W t u ty e i (.int .u8 0) ht hu hi hz s (by omega) (by omega) (by rw [hby]; omega)
   rw [hr2] at hr
   injection hr with hv _
   rw [← hv]
   exact .inr ⟨_, rfl, Nat.le_refl _⟩
 ·by_cases hroom : n + s.size ≤ cap
  ·have hcs' : cur.size = cap := by simpa using hcs
   have hr2 := Lib.run_append_room_string (P := P) W t u ty e i ht hu hi hsize g n cap cur hg s hroom (by omega)
   rw [hr2] at hr
   injection hr with hv _
   rw [← hv]
   exact .inl rfl
  ·have holds : ∀ j u, xs[j]? = some u → W.cell? ((⟨g, 0, none⟩ : Addr).add j) = some u := hown.cells (g := g) rfl
   have hr2 := Lib.run_append_grow_string (P := P) W t u ty e i (.int .u8 0) ht hu hi hz ⟨g, 0, none⟩ n cap xs (by rw [hsize]; simpa using hxl) holds s (by omega) (by omega) (by rw [hby]; exact growslice_fits (by omega) (by omega))
   rw [hr2] at hr
   injection hr with hv _
   rw [← hv]
   exact .inr ⟨_, rfl, Nat.le_refl _⟩
theorem jT {P : Program} {ops : Array Oper} {rest : List Oper} {o : Oper} {a : Act} {Q : Exit → Act → World → Prop} {w0 W : World} (base : Nat) (hgd : o.guard = none) (s x : Operand) (t u e : TypeId)
  (ho : o.op = .call { callee := .builtin .append, args := #[s, x], argTypes := #[t, u] })
  (ht : P.underlying t = some (.slice e)) (hu : P.underlying u = some .string) (hinfo : (P.info? e).map (fun i => (i.zero, i.size, i.bytes)) = some (some (.int .u8 0), 1, 1))
  (v : Value) (xs : List Int) (y : ByteArray) (hs : a.eval s = v) (hx : a.eval x = .string y)
  (HO : W.ownsRow base e 1 v xs.length (yH .u8 xs)) (HB : Below base w0 W) (hbase : base ≤ W.heap.size) (hl : xs.length + y.size ≤ 140737488355328)
  (h : ∀ v1 w1, w1.ownsRow base e 1 v1 (xs ++ bytesOf y).length (yH .u8 (xs ++ bytesOf y)) → Below base w0 w1 → W.grownBy w1 v.ownBlock → (v1.ownBlock = v.ownBlock ∨ ∃ b, v1.ownBlock = some b ∧ W.heap.size ≤ b) → wpList P ops Q rest (a.put o.dst v1) w1) :
  wpList P ops Q (o :: rest) a W := by
 obtain ⟨i0, hi, hzz⟩ := Option.map_eq_some_iff.1 hinfo
 simp only [Prod.mk.injEq] at hzz
 obtain ⟨hz0, hz1, hz2⟩ := hzz
 refine wpList_plain hgd fun K hK => ?_
 obtain ⟨v1, w1, hr, hown, hg, hnil⟩ := Lib.run_append_own_string (P := P) W base t u o.type e i0 ht hu hi hz0 hz1 hz2 v xs.length (yH .u8 xs) HO y (by simp only [maxLen]; omega) hl hbase
 have hat := zc8 W base t u o.type e i0 ht hu hi hz0 hz1 hz2 v xs.length (yH .u8 xs) HO y hl v1 w1 hr hnil
 have hl2 : (xs ++ bytesOf y).length = xs.length + y.size := by rw [zdN, yy]
 have hc : yH .u8 (xs ++ bytesOf y) = yH .u8 xs ++ Lib.strCells y := by
  rw [XH]
  congr 1
  simp [yH, bytesOf, Lib.strCells]
 unfold Oper.wp execOp
 simp only [ho, resolve, invoke, builtin, Sem.run_bind, Sem.run_pure, Result.andThen_ok, zdJ, List.map_cons, List.map_nil, hs, hx, hr]
 exact hK _ _ (h v1 w1 (by rw [hl2, hc]; exact hown) (HB.grown hg hbase (Yc HO)) hg hat)
def errW : Option Int → Value
 | none => .nilIface
 | some c => .iface 0 (.int .i64 c)
theorem zl : errW none = .nilIface := rfl
theorem zk (c : Int) : errW (some c) = .iface 0 (.int .i64 c) := rfl
theorem info3 : (Tryz.prog.info? 3).map (fun i => (i.zero, i.size, i.bytes)) = some (some (.int .i64 0), 1, 8) := by kernel_rfl
theorem XT : (Tryz.prog.info? 5).map (fun i => (i.zero, i.size, i.bytes)) = some (some (.int .u8 0), 1, 1) := by kernel_rfl
theorem Js : (Tryz.prog.info? 9).map (fun i => (i.zero, i.size, i.bytes)) = some (some (.string ⟨#[]⟩), 1, 16) := by kernel_rfl
structure S77 where
 f0 : Int
 f1 : Int
def z77 : S77 := ⟨(0 : Int), (0 : Int)⟩
def k77 : Kd S77 := Kd.iso (Kd.pair (Kd.int .i64) (Kd.int .i64)) (fun x : S77 => (x.f0, x.f1))
theorem zca : Kd.Heap k77 := Kd.heap_iso _ (Kd.heap_pair (Kd.heap_int .i64) (Kd.heap_int .i64))
theorem zb5 {w : World} {x : S77} {cs : List Value} (h : k77.K w x cs) : cs = [.int .i64 x.f0, .int .i64 x.f1] := by
 obtain ⟨_, _, rfl, rfl, rfl⟩ := h
 exact rfl
theorem zbm {w : World} {base : Nat} {ok : Nat → Prop} {x : S77} {cs : List Value} (h : k77.M w base ok x cs) : cs = [.int .i64 x.f0, .int .i64 x.f1] := by
 obtain ⟨_, _, rfl, rfl, rfl⟩ := h
 exact rfl
theorem zdc (w : World) (base : Nat) (ok : Nat → Prop) (x : S77)  : k77.M w base ok x [.int .i64 x.f0, .int .i64 x.f1] := ⟨[.int .i64 x.f0], [.int .i64 x.f1], rfl, rfl, rfl⟩
def yv (xs : List S77) (i : Int) : S77 := xs.getD i.toNat z77
theorem vr {w : World} {A : Option Addr} {n : Nat} {xs : List S77} (h : Kd.C k77 w A n xs) (i : Int) (h0 : 0 ≤ i) (h1 : i < n) : ∃ ad , A = some ad ∧ w.cell? (ad.add (i.toNat * 2)) = some (.int .i64 (yv xs i).f0) ∧ w.cell? ⟨(ad.add (i.toNat * 2)).block, (ad.add (i.toNat * 2)).off + 1, none⟩ = some (.int .i64 (yv xs i).f1) := by
 obtain ⟨ad, c, e, _, hK, hc0⟩ := Kd.C_get h z77 i h0 h1
 have hc : ∀ j u, c[j]? = some u → w.cell? (ad.add (i.toNat * 2 + j)) = some u := hc0
 obtain rfl := zb5 hK
 exact ⟨ad, e, hc 0 _ rfl, by rw [← xy _ _ 1 (by omega)]; exact hc 1 _ rfl⟩
structure S108 where
 f0 : Int
 f1 : (List Int)
def z108 : S108 := ⟨(0 : Int), ([] : List Int)⟩
def k108 : Kd S108 := Kd.iso (Kd.pair (Kd.int .i64) (Kd.slice 3 (Kd.int .i64))) (fun x : S108 => (x.f0, x.f1))
theorem zaO : Kd.Heap k108 := Kd.heap_iso _ (Kd.heap_pair (Kd.heap_int .i64) (Kd.heap_slice 3 (Kd.heap_int .i64)))
theorem zaC {w : World} {x : S108} {cs : List Value} (h : k108.K w x cs) : ∃ A1 c1, cs = [.int .i64 x.f0, .slice A1 x.f1.length c1] ∧ x.f1.length ≤ c1 ∧ (Kd.int .i64).C w A1 x.f1.length x.f1 := by
 obtain ⟨_, _, rfl, rfl, ⟨A1, c1, rfl, l1, g1⟩⟩ := h
 exact ⟨A1, c1, rfl, l1, g1⟩
theorem VX {w : World} {base : Nat} {ok : Nat → Prop} {x : S108} {cs : List Value} (h : k108.M w base ok x cs) : ∃ v1, cs = [.int .i64 x.f0, v1] ∧ (Kd.int .i64).R 3 w base ok v1 x.f1 := by
 obtain ⟨_, _, rfl, rfl, ⟨v1, rfl, g1⟩⟩ := h
 exact ⟨v1, rfl, g1⟩
theorem zbR (w : World) (base : Nat) (ok : Nat → Prop) (x : S108) {v1 : Value} (g1 : (Kd.int .i64).R 3 w base ok v1 x.f1) : k108.M w base ok x [.int .i64 x.f0, v1] := ⟨[.int .i64 x.f0], [v1], rfl, rfl, ⟨v1, rfl, g1⟩⟩
def yq (xs : List S108) (i : Int) : S108 := xs.getD i.toNat z108
theorem qR {w : World} {A : Option Addr} {n : Nat} {xs : List S108} (h : Kd.C k108 w A n xs) (i : Int) (h0 : 0 ≤ i) (h1 : i < n) : ∃ ad A1 c1, A = some ad ∧ w.cell? (ad.add (i.toNat * 2)) = some (.int .i64 (yq xs i).f0) ∧ w.cell? ⟨(ad.add (i.toNat * 2)).block, (ad.add (i.toNat * 2)).off + 1, none⟩ = some (.slice A1 (yq xs i).f1.length c1) ∧ (yq xs i).f1.length ≤ c1 ∧ (Kd.int .i64).C w A1 (yq xs i).f1.length (yq xs i).f1 := by
 obtain ⟨ad, c, e, _, hK, hc0⟩ := Kd.C_get h z108 i h0 h1
 have hc : ∀ j u, c[j]? = some u → w.cell? (ad.add (i.toNat * 2 + j)) = some u := hc0
 obtain ⟨A1, c1, rfl, l1, g1⟩ := zaC hK
 exact ⟨ad, A1, c1, e, hc 0 _ rfl, by rw [← xy _ _ 1 (by omega)]; exact hc 1 _ rfl, l1, g1⟩
structure S52 where
 f0 : Int
 f1 : Int
 f2 : ByteArray
 f3 : Int
 f4 : (List Int)
 f5 : Int
def z52 : S52 := ⟨(0 : Int), (0 : Int), (⟨#[]⟩ : ByteArray), (0 : Int), ([] : List Int), (0 : Int)⟩
def k52 : Kd S52 := Kd.iso (Kd.pair (Kd.int .i64) (Kd.pair (Kd.int .i64) (Kd.pair Kd.string (Kd.pair (Kd.int .i64) (Kd.pair (Kd.slice 3 (Kd.int .i64)) (Kd.int .i64)))))) (fun x : S52 => (x.f0, x.f1, x.f2, x.f3, x.f4, x.f5))
theorem zbT {w : World} {x : S52} {cs : List Value} (h : k52.K w x cs) : ∃ A4 c4, cs = [.int .i64 x.f0, .int .i64 x.f1, .string x.f2, .int .i64 x.f3, .slice A4 x.f4.length c4, .int .i64 x.f5] ∧ x.f4.length ≤ c4 ∧ (Kd.int .i64).C w A4 x.f4.length x.f4 := by
 obtain ⟨_, _, rfl, rfl, ⟨_, _, rfl, rfl, ⟨_, _, rfl, rfl, ⟨_, _, rfl, rfl, ⟨_, _, rfl, ⟨A4, c4, rfl, l4, g4⟩, rfl⟩⟩⟩⟩⟩ := h
 exact ⟨A4, c4, rfl, l4, g4⟩
theorem zaW {w : World} {base : Nat} {ok : Nat → Prop} {x : S52} {cs : List Value} (h : k52.M w base ok x cs) : ∃ v4, cs = [.int .i64 x.f0, .int .i64 x.f1, .string x.f2, .int .i64 x.f3, v4, .int .i64 x.f5] ∧ (Kd.int .i64).R 3 w base ok v4 x.f4 := by
 obtain ⟨_, _, rfl, rfl, ⟨_, _, rfl, rfl, ⟨_, _, rfl, rfl, ⟨_, _, rfl, rfl, ⟨_, _, rfl, ⟨v4, rfl, g4⟩, rfl⟩⟩⟩⟩⟩ := h
 exact ⟨v4, rfl, g4⟩
theorem QC (w : World) (base : Nat) (ok : Nat → Prop) (x : S52) {v4 : Value} (g4 : (Kd.int .i64).R 3 w base ok v4 x.f4) : k52.M w base ok x [.int .i64 x.f0, .int .i64 x.f1, .string x.f2, .int .i64 x.f3, v4, .int .i64 x.f5] := ⟨[.int .i64 x.f0], [.int .i64 x.f1, .string x.f2, .int .i64 x.f3, v4, .int .i64 x.f5], rfl, rfl, ⟨[.int .i64 x.f1], [.string x.f2, .int .i64 x.f3, v4, .int .i64 x.f5], rfl, rfl, ⟨[.string x.f2], [.int .i64 x.f3, v4, .int .i64 x.f5], rfl, rfl, ⟨[.int .i64 x.f3], [v4, .int .i64 x.f5], rfl, rfl, ⟨[v4], [.int .i64 x.f5], rfl, ⟨v4, rfl, g4⟩, rfl⟩⟩⟩⟩⟩
def xf (xs : List S52) (i : Int) : S52 := xs.getD i.toNat z52
theorem ZE {w : World} {A : Option Addr} {n : Nat} {xs : List S52} (h : Kd.C k52 w A n xs) (i : Int) (h0 : 0 ≤ i) (h1 : i < n) : ∃ ad A4 c4, A = some ad ∧ w.cell? (ad.add (i.toNat * 6)) = some (.int .i64 (xf xs i).f0) ∧ w.cell? ⟨(ad.add (i.toNat * 6)).block, (ad.add (i.toNat * 6)).off + 1, none⟩ = some (.int .i64 (xf xs i).f1) ∧ w.cell? ⟨(ad.add (i.toNat * 6)).block, (ad.add (i.toNat * 6)).off + 2, none⟩ = some (.string (xf xs i).f2) ∧ w.cell? ⟨(ad.add (i.toNat * 6)).block, (ad.add (i.toNat * 6)).off + 3, none⟩ = some (.int .i64 (xf xs i).f3) ∧ w.cell? ⟨(ad.add (i.toNat * 6)).block, (ad.add (i.toNat * 6)).off + 4, none⟩ = some (.slice A4 (xf xs i).f4.length c4) ∧ w.cell? ⟨(ad.add (i.toNat * 6)).block, (ad.add (i.toNat * 6)).off + 5, none⟩ = some (.int .i64 (xf xs i).f5) ∧ (xf xs i).f4.length ≤ c4 ∧ (Kd.int .i64).C w A4 (xf xs i).f4.length (xf xs i).f4 := by
 obtain ⟨ad, c, e, _, hK, hc0⟩ := Kd.C_get h z52 i h0 h1
 have hc : ∀ j u, c[j]? = some u → w.cell? (ad.add (i.toNat * 6 + j)) = some u := hc0
 obtain ⟨A4, c4, rfl, l4, g4⟩ := zbT hK
 exact ⟨ad, A4, c4, e, hc 0 _ rfl, by rw [← xy _ _ 1 (by omega)]; exact hc 1 _ rfl, by rw [← xy _ _ 2 (by omega)]; exact hc 2 _ rfl, by rw [← xy _ _ 3 (by omega)]; exact hc 3 _ rfl, by rw [← xy _ _ 4 (by omega)]; exact hc 4 _ rfl, by rw [← xy _ _ 5 (by omega)]; exact hc 5 _ rfl, l4, g4⟩
structure S46 where
 f0 : Int
 f1 : ByteArray
 f2 : (List S108)
 f3 : Int
 f4 : Int
def z46 : S46 := ⟨(0 : Int), (⟨#[]⟩ : ByteArray), ([] : List S108), (0 : Int), (0 : Int)⟩
def k46 : Kd S46 := Kd.iso (Kd.pair (Kd.int .i64) (Kd.pair Kd.string (Kd.pair (Kd.slice 108 k108) (Kd.pair (Kd.int .i64) (Kd.int .i64))))) (fun x : S46 => (x.f0, x.f1, x.f2, x.f3, x.f4))
theorem zcc {w : World} {x : S46} {cs : List Value} (h : k46.K w x cs) : ∃ A2 c2, cs = [.int .i64 x.f0, .string x.f1, .slice A2 x.f2.length c2, .int .i64 x.f3, .int .i64 x.f4] ∧ x.f2.length ≤ c2 ∧ k108.C w A2 x.f2.length x.f2 := by
 obtain ⟨_, _, rfl, rfl, ⟨_, _, rfl, rfl, ⟨_, _, rfl, ⟨A2, c2, rfl, l2, g2⟩, ⟨_, _, rfl, rfl, rfl⟩⟩⟩⟩ := h
 exact ⟨A2, c2, rfl, l2, g2⟩
theorem zdj (w : World) (base : Nat) (ok : Nat → Prop) (x : S46) {v2 : Value} (g2 : k108.R 108 w base ok v2 x.f2) : k46.M w base ok x [.int .i64 x.f0, .string x.f1, v2, .int .i64 x.f3, .int .i64 x.f4] := ⟨[.int .i64 x.f0], [.string x.f1, v2, .int .i64 x.f3, .int .i64 x.f4], rfl, rfl, ⟨[.string x.f1], [v2, .int .i64 x.f3, .int .i64 x.f4], rfl, rfl, ⟨[v2], [.int .i64 x.f3, .int .i64 x.f4], rfl, ⟨v2, rfl, g2⟩, ⟨[.int .i64 x.f3], [.int .i64 x.f4], rfl, rfl, rfl⟩⟩⟩⟩
def xb (xs : List S46) (i : Int) : S46 := xs.getD i.toNat z46
theorem vV {w : World} {A : Option Addr} {n : Nat} {xs : List S46} (h : Kd.C k46 w A n xs) (i : Int) (h0 : 0 ≤ i) (h1 : i < n) : ∃ ad A2 c2, A = some ad ∧ w.cell? (ad.add (i.toNat * 5)) = some (.int .i64 (xb xs i).f0) ∧ w.cell? ⟨(ad.add (i.toNat * 5)).block, (ad.add (i.toNat * 5)).off + 1, none⟩ = some (.string (xb xs i).f1) ∧ w.cell? ⟨(ad.add (i.toNat * 5)).block, (ad.add (i.toNat * 5)).off + 2, none⟩ = some (.slice A2 (xb xs i).f2.length c2) ∧ w.cell? ⟨(ad.add (i.toNat * 5)).block, (ad.add (i.toNat * 5)).off + 3, none⟩ = some (.int .i64 (xb xs i).f3) ∧ w.cell? ⟨(ad.add (i.toNat * 5)).block, (ad.add (i.toNat * 5)).off + 4, none⟩ = some (.int .i64 (xb xs i).f4) ∧ (xb xs i).f2.length ≤ c2 ∧ k108.C w A2 (xb xs i).f2.length (xb xs i).f2 := by
 obtain ⟨ad, c, e, _, hK, hc0⟩ := Kd.C_get h z46 i h0 h1
 have hc : ∀ j u, c[j]? = some u → w.cell? (ad.add (i.toNat * 5 + j)) = some u := hc0
 obtain ⟨A2, c2, rfl, l2, g2⟩ := zcc hK
 exact ⟨ad, A2, c2, e, hc 0 _ rfl, by rw [← xy _ _ 1 (by omega)]; exact hc 1 _ rfl, by rw [← xy _ _ 2 (by omega)]; exact hc 2 _ rfl, by rw [← xy _ _ 3 (by omega)]; exact hc 3 _ rfl, by rw [← xy _ _ 4 (by omega)]; exact hc 4 _ rfl, l2, g2⟩
structure S84 where
 f0 : Int
 f1 : Int
 f2 : (List Int)
def z84 : S84 := ⟨(0 : Int), (0 : Int), ([] : List Int)⟩
def k84 : Kd S84 := Kd.iso (Kd.pair (Kd.int .i64) (Kd.pair (Kd.int .i64) (Kd.slice 3 (Kd.int .i64)))) (fun x : S84 => (x.f0, x.f1, x.f2))
theorem zck : Kd.Heap k84 := Kd.heap_iso _ (Kd.heap_pair (Kd.heap_int .i64) (Kd.heap_pair (Kd.heap_int .i64) (Kd.heap_slice 3 (Kd.heap_int .i64))))
theorem zcz {w : World} {x : S84} {cs : List Value} (h : k84.K w x cs) : ∃ A2 c2, cs = [.int .i64 x.f0, .int .i64 x.f1, .slice A2 x.f2.length c2] ∧ x.f2.length ≤ c2 ∧ (Kd.int .i64).C w A2 x.f2.length x.f2 := by
 obtain ⟨_, _, rfl, rfl, ⟨_, _, rfl, rfl, ⟨A2, c2, rfl, l2, g2⟩⟩⟩ := h
 exact ⟨A2, c2, rfl, l2, g2⟩
theorem zbf {w : World} {base : Nat} {ok : Nat → Prop} {x : S84} {cs : List Value} (h : k84.M w base ok x cs) : ∃ v2, cs = [.int .i64 x.f0, .int .i64 x.f1, v2] ∧ (Kd.int .i64).R 3 w base ok v2 x.f2 := by
 obtain ⟨_, _, rfl, rfl, ⟨_, _, rfl, rfl, ⟨v2, rfl, g2⟩⟩⟩ := h
 exact ⟨v2, rfl, g2⟩
theorem zdh (w : World) (base : Nat) (ok : Nat → Prop) (x : S84) {v2 : Value} (g2 : (Kd.int .i64).R 3 w base ok v2 x.f2) : k84.M w base ok x [.int .i64 x.f0, .int .i64 x.f1, v2] := ⟨[.int .i64 x.f0], [.int .i64 x.f1, v2], rfl, rfl, ⟨[.int .i64 x.f1], [v2], rfl, rfl, ⟨v2, rfl, g2⟩⟩⟩
structure S86 where
 f0 : ByteArray
 f1 : S84
def z86 : S86 := ⟨(⟨#[]⟩ : ByteArray), z84⟩
def k86 : Kd S86 := Kd.iso (Kd.pair Kd.string k84) (fun x : S86 => (x.f0, x.f1))
theorem zci : Kd.Heap k86 := Kd.heap_iso _ (Kd.heap_pair Kd.heap_string zck)
theorem zcn {w : World} {x : S86} {cs : List Value} (h : k86.K w x cs) : ∃ A3 c3, cs = [.string x.f0, .int .i64 x.f1.f0, .int .i64 x.f1.f1, .slice A3 x.f1.f2.length c3] ∧ x.f1.f2.length ≤ c3 ∧ (Kd.int .i64).C w A3 x.f1.f2.length x.f1.f2 := by
 obtain ⟨_, _, rfl, rfl, s1⟩ := h
 obtain ⟨A3, c3, rfl, l3, g3⟩ := zcz s1
 exact ⟨A3, c3, rfl, l3, g3⟩
theorem zaN {w : World} {base : Nat} {ok : Nat → Prop} {x : S86} {cs : List Value} (h : k86.M w base ok x cs) : ∃ v3, cs = [.string x.f0, .int .i64 x.f1.f0, .int .i64 x.f1.f1, v3] ∧ (Kd.int .i64).R 3 w base ok v3 x.f1.f2 := by
 obtain ⟨_, _, rfl, rfl, s1⟩ := h
 obtain ⟨v3, rfl, g3⟩ := zbf s1
 exact ⟨v3, rfl, g3⟩
theorem zc7 (w : World) (base : Nat) (ok : Nat → Prop) (x : S86) {v3 : Value} (g3 : (Kd.int .i64).R 3 w base ok v3 x.f1.f2) : k86.M w base ok x [.string x.f0, .int .i64 x.f1.f0, .int .i64 x.f1.f1, v3] := ⟨[.string x.f0], [.int .i64 x.f1.f0, .int .i64 x.f1.f1, v3], rfl, rfl, (zdh w base ok x.f1 g3)⟩
def xD (xs : List S86) (i : Int) : S86 := xs.getD i.toNat z86
theorem vW {w : World} {A : Option Addr} {n : Nat} {xs : List S86} (h : Kd.C k86 w A n xs) (i : Int) (h0 : 0 ≤ i) (h1 : i < n) : ∃ ad A3 c3, A = some ad ∧ w.cell? (ad.add (i.toNat * 4)) = some (.string (xD xs i).f0) ∧ w.cell? ⟨(ad.add (i.toNat * 4)).block, (ad.add (i.toNat * 4)).off + 1, none⟩ = some (.int .i64 (xD xs i).f1.f0) ∧ w.cell? ⟨(ad.add (i.toNat * 4)).block, (ad.add (i.toNat * 4)).off + 2, none⟩ = some (.int .i64 (xD xs i).f1.f1) ∧ w.cell? ⟨(ad.add (i.toNat * 4)).block, (ad.add (i.toNat * 4)).off + 3, none⟩ = some (.slice A3 (xD xs i).f1.f2.length c3) ∧ (xD xs i).f1.f2.length ≤ c3 ∧ (Kd.int .i64).C w A3 (xD xs i).f1.f2.length (xD xs i).f1.f2 := by
 obtain ⟨ad, c, e, _, hK, hc0⟩ := Kd.C_get h z86 i h0 h1
 have hc : ∀ j u, c[j]? = some u → w.cell? (ad.add (i.toNat * 4 + j)) = some u := hc0
 obtain ⟨A3, c3, rfl, l3, g3⟩ := zcn hK
 exact ⟨ad, A3, c3, e, hc 0 _ rfl, by rw [← xy _ _ 1 (by omega)]; exact hc 1 _ rfl, by rw [← xy _ _ 2 (by omega)]; exact hc 2 _ rfl, by rw [← xy _ _ 3 (by omega)]; exact hc 3 _ rfl, l3, g3⟩
theorem QO {a b : ByteArray} (h : a = b) : Ending.returned (.string a) = .returned (.string b) := by rw [h]
theorem zch (op : BinOp) (x y : Int) : 0 ≤ Go.bits op .u32 x y ∧ Go.bits op .u32 x y < 4294967296 := by
 unfold Go.bits
 rw [IntKind.wrap_u32]
 omega
theorem Z2 (a b : Nat) (ha : a < 4294967296) (hb : b < 4294967296) : Go.bits .xor .u32 (a : Int) (b : Int) = ((a ^^^ b : Nat) : Int) := by
 have h32 : a ^^^ b < 4294967296 := Nat.xor_lt_two_pow (n := 32) ha hb
 unfold Go.bits
 rw [IntKind.wrap_u32]
 simp only [BitVec.ofInt_natCast, BitVec.toNat_xor, BitVec.toNat_ofNat]
 have e1 : a % 2 ^ IntKind.u32.bits = a := Nat.mod_eq_of_lt ha
 have e2 : b % 2 ^ IntKind.u32.bits = b := Nat.mod_eq_of_lt hb
 rw [e1, e2]
 omega
theorem zb2 (a : Nat) (ha : a < 4294967296) : Go.bits .and .u32 (a : Int) 1 = ((a % 2 : Nat) : Int) := by
 have h := bits_mask .u32 32 (by decide) (fun n h0 h1 => by rw [IntKind.wrap_u32]; omega) 1 (by decide) (a : Int) (by omega) (by omega)
 simpa using h
section
variable {P : Program} {ops : Array Oper} {Q : Exit → Act → World → Prop} {S : World → Prop}
def RP (P : Program) (ops : Array Oper) (Q : Exit → Act → World → Prop) (S : World → Prop) : List (Nat × Nat × Nat) → Act → World → Prop
 | [], a, w => Q .normal a w
 | (i, 0, d) :: r, a, w => ∃ o v, ops[i]? = some o ∧ o.dst = some d ∧ S w ∧ YieldsIf P ops S o v a ∧ RP P ops Q S r (a.put (some d) v) w
 | (i, 1, d) :: r, a, w => ∃ o v, ops[i]? = some o ∧ o.dst = some d ∧ Yields P ops o v a ∧ RP P ops Q S r (a.put (some d) v) w
 | (i, 2, d) :: r, a, w => ∃ o, ops[i]? = some o ∧ o.dst = some d ∧ ∀ K : Act → World → Prop, Shut (∀ a' w', S w' → (S w' → RP P ops Q S r a' w') → K a' w') → if Region.wanted o (yielded ops a.tmps) = true then Oper.wp P o a w K Q else K (a.put (some d) undef) w
 | (i, 3, d) :: r, a, w => ∃ o, ops[i]? = some o ∧ o.dst = none ∧ ∀ K : Act → World → Prop, Shut (∀ a' w', RP P ops Q S r a' w' → K a' w') → if Region.wanted o (yielded ops a.tmps) = true then Oper.wp P o a w K Q else K (a.put (none) undef) w
 | (i, 4, d) :: r, a, w => ∃ o, ops[i]? = some o ∧ o.dst = none ∧ ∀ K : Act → World → Prop, Shut (∀ a' w', S w' → (S w' → RP P ops Q S r a' w') → K a' w') → if Region.wanted o (yielded ops a.tmps) = true then Oper.wp P o a w K Q else K (a.put (none) undef) w
 | (i, _ + 5, d) :: r, a, w => ∃ o, ops[i]? = some o ∧ o.dst = some d ∧ ∀ K : Act → World → Prop, Shut (∀ a' w', RP P ops Q S r a' w' → K a' w') → if Region.wanted o (yielded ops a.tmps) = true then Oper.wp P o a w K Q else K (a.put (some d) undef) w
def jg (ops : Array Oper) (ds : List Nat) : List (Nat × Nat × Nat) → Array Bool → Bool
 | [], l => Region.ready .any ops l == []
 | (i, 0, _) :: r, l => YF .any ops ds l (l.setIfInBounds i true) i && jg ops ds r (l.setIfInBounds i true)
 | (i, 1, _) :: r, l => QG .any ops l (l.setIfInBounds i true) i && jg ops ds r (l.setIfInBounds i true)
 | (i, 2, _) :: r, l => (jh .any ops l (l.setIfInBounds i true) i && !ds.contains i) && jg ops ds r (l.setIfInBounds i true)
 | (i, 3, _) :: r, l => (jh .any ops l (l.setIfInBounds i true) i && ds.contains i) && jg ops ds r (l.setIfInBounds i true)
 | (i, 4, _) :: r, l => (jh .any ops l (l.setIfInBounds i true) i && !ds.contains i) && jg ops ds r (l.setIfInBounds i true)
 | (i, _ + 5, _) :: r, l => (jh .any ops l (l.setIfInBounds i true) i && ds.contains i) && jg ops ds r (l.setIfInBounds i true)
theorem RP.sound {ds : List Nat} (hQ : ∀ c t v a w, Q (.panic c) (Act.put a t v) w → Q (.panic c) a w) : ∀ (p : List (Nat × Nat × Nat)) (l : Array Bool) (a : Act) (w : World), jg ops ds p l = true → RP P ops Q S p a w → yg P .any ops Q S ds p.length l a w
 | [], l, a, w, hp, h => YK hp h
 | (i, 0, d) :: r, l, a, w, hp, h => by
  obtain ⟨o, v, ho, hd, hS, hy, h⟩ := h
  simp only [jg, Bool.and_eq_true] at hp
  exact take_ _ ho hd hp.1 (fun c a w => hQ c _ _ a w) hy hS rfl (RP.sound hQ r _ _ _ hp.2 h)
 | (i, 1, d) :: r, l, a, w, hp, h => by
  obtain ⟨o, v, ho, hd, hy, h⟩ := h
  simp only [jg, Bool.and_eq_true] at hp
  exact yM _ ho hd hp.1 (fun c a w => hQ c _ _ a w) hy rfl (RP.sound hQ r _ _ _ hp.2 h)
 | (i, 2, d) :: r, l, a, w, hp, h => by
  obtain ⟨o, ho, hd, h⟩ := h
  simp only [jg, Bool.and_eq_true, Bool.not_eq_true'] at hp
  exact jt _ ho hd hp.1.1 (by have := hp.1.2; simpa using this) (fun K hK => h K (fun a' w' hS' hr => hK a' w' hS' (fun hS2 => RP.sound hQ r _ _ _ hp.2 (hr hS2))))
 | (i, 3, d) :: r, l, a, w, hp, h => by
  obtain ⟨o, ho, hd, h⟩ := h
  simp only [jg, Bool.and_eq_true] at hp
  exact zad _ ho hd hp.1.1 (by have := hp.1.2; simpa using this) (fun K hK => h K (fun a' w' hr => hK a' w' (RP.sound hQ r _ _ _ hp.2 hr)))
 | (i, 4, d) :: r, l, a, w, hp, h => by
  obtain ⟨o, ho, hd, h⟩ := h
  simp only [jg, Bool.and_eq_true, Bool.not_eq_true'] at hp
  exact jt _ ho hd hp.1.1 (by have := hp.1.2; simpa using this) (fun K hK => h K (fun a' w' hS' hr => hK a' w' hS' (fun hS2 => RP.sound hQ r _ _ _ hp.2 (hr hS2))))
 | (i, _ + 5, d) :: r, l, a, w, hp, h => by
  obtain ⟨o, ho, hd, h⟩ := h
  simp only [jg, Bool.and_eq_true] at hp
  exact zad _ ho hd hp.1.1 (by have := hp.1.2; simpa using this) (fun K hK => h K (fun a' w' hr => hK a' w' (RP.sound hQ r _ _ _ hp.2 hr)))
theorem RP.take {i d : Nat} {r : List (Nat × Nat × Nat)} {a : Act} {w : World} {o : Oper} {v : Value} (ho : ops[i]? = some o) (hd : o.dst = some d) (hS : S w) (hy : YieldsIf P ops S o v a) {a' : Act} (ha : a.put (some d) v = a') (h : RP P ops Q S r a' w) : RP P ops Q S ((i, 0, d) :: r) a w := by
 subst ha
 exact ⟨o, v, ho, hd, hS, hy, h⟩
theorem RP.pure {i d : Nat} {r : List (Nat × Nat × Nat)} {a : Act} {w : World} {o : Oper} {v : Value} (ho : ops[i]? = some o) (hd : o.dst = some d) (hy : Yields P ops o v a) {a' : Act} (ha : a.put (some d) v = a') (h : RP P ops Q S r a' w) : RP P ops Q S ((i, 1, d) :: r) a w := by
 subst ha
 exact ⟨o, v, ho, hd, hy, h⟩
theorem RP.one {i d : Nat} {r : List (Nat × Nat × Nat)} {a : Act} {w : World} {o : Oper} (ho : ops[i]? = some o) (hd : o.dst = some d) (h : ∀ K : Act → World → Prop, Shut (∀ a' w', S w' → (S w' → RP P ops Q S r a' w') → K a' w') → if Region.wanted o (yielded ops a.tmps) = true then Oper.wp P o a w K Q else K (a.put (some d) undef) w) : RP P ops Q S ((i, 2, d) :: r) a w := ⟨o, ho, hd, h⟩
theorem RP.last {i d : Nat} {r : List (Nat × Nat × Nat)} {a : Act} {w : World} {o : Oper} (ho : ops[i]? = some o) (hd : o.dst = none) (h : ∀ K : Act → World → Prop, Shut (∀ a' w', RP P ops Q S r a' w' → K a' w') → if Region.wanted o (yielded ops a.tmps) = true then Oper.wp P o a w K Q else K (a.put (none) undef) w) : RP P ops Q S ((i, 3, d) :: r) a w := ⟨o, ho, hd, h⟩
theorem RP.nil {a : Act} {w : World} (h : Q .normal a w) : RP P ops Q S [] a w := h
theorem RP.norm {p : List (Nat × Nat × Nat)} {a a' : Act} {w : World} (ha : a = a') (h : RP P ops Q S p a' w) : RP P ops Q S p a w := by
 subst ha
 exact h
end
inductive PT where
 | nil
 | op (i k d : Nat) (r : PT)
 | two (i di j dj : Nat) (p q : PT)
def PT.len : PT → Nat
 | .nil => 0
 | .op _ _ _ r => r.len + 1
 | .two _ _ _ _ p _ => p.len + 1
section
variable {P : Program} {ops : Array Oper} {Q : Exit → Act → World → Prop} {S : World → Prop}
def RT (P : Program) (ops : Array Oper) (Q : Exit → Act → World → Prop) (S : World → Prop) : PT → Act → World → Prop
 | .nil, a, w => Q .normal a w
 | .op i 0 d r, a, w => ∃ o v, ops[i]? = some o ∧ o.dst = some d ∧ S w ∧ YieldsIf P ops S o v a ∧ RT P ops Q S r (a.put (some d) v) w
 | .op i 1 d r, a, w => ∃ o v, ops[i]? = some o ∧ o.dst = some d ∧ Yields P ops o v a ∧ RT P ops Q S r (a.put (some d) v) w
 | .op i 2 d r, a, w => ∃ o, ops[i]? = some o ∧ o.dst = some d ∧ ∀ K : Act → World → Prop, Shut (∀ a' w', S w' → (S w' → RT P ops Q S r a' w') → K a' w') → if Region.wanted o (yielded ops a.tmps) = true then Oper.wp P o a w K Q else K (a.put (some d) undef) w
 | .op i (_ + 4) d r, a, w => ∃ o, ops[i]? = some o ∧ o.dst = none ∧ ∀ K : Act → World → Prop, Shut (∀ a' w', S w' → (S w' → RT P ops Q S r a' w') → K a' w') → if Region.wanted o (yielded ops a.tmps) = true then Oper.wp P o a w K Q else K (a.put (none) undef) w
 | .op i 3 d r, a, w => ∃ o, ops[i]? = some o ∧ o.dst = none ∧ ∀ K : Act → World → Prop, Shut (∀ a' w', RT P ops Q S r a' w' → K a' w') → if Region.wanted o (yielded ops a.tmps) = true then Oper.wp P o a w K Q else K (a.put (none) undef) w
 | .two i di j dj p q, a, w => ∃ oi oj, ops[i]? = some oi ∧ ops[j]? = some oj ∧ oi.dst = some di ∧ oj.dst = some dj ∧
   (∀ K : Act → World → Prop, Shut (∀ a' w', S w' → (S w' → RT P ops Q S p a' w') → K a' w') → if Region.wanted oi (yielded ops a.tmps) = true then Oper.wp P oi a w K Q else K (a.put (some di) undef) w) ∧
   (∀ K : Act → World → Prop, Shut (∀ a' w', S w' → (S w' → RT P ops Q S q a' w') → K a' w') → if Region.wanted oj (yielded ops a.tmps) = true then Oper.wp P oj a w K Q else K (a.put (some dj) undef) w)
def qk (ops : Array Oper) (ds : List Nat) : PT → Array Bool → Bool
 | .nil, l => Region.ready .any ops l == []
 | .op i 0 _ r, l => YF .any ops ds l (l.setIfInBounds i true) i && qk ops ds r (l.setIfInBounds i true)
 | .op i 1 _ r, l => QG .any ops l (l.setIfInBounds i true) i && qk ops ds r (l.setIfInBounds i true)
 | .op i 2 _ r, l => (jh .any ops l (l.setIfInBounds i true) i && !ds.contains i) && qk ops ds r (l.setIfInBounds i true)
 | .op i (_ + 4) _ r, l => (jh .any ops l (l.setIfInBounds i true) i && !ds.contains i) && qk ops ds r (l.setIfInBounds i true)
 | .op i 3 _ r, l => (jh .any ops l (l.setIfInBounds i true) i && ds.contains i) && qk ops ds r (l.setIfInBounds i true)
 | .two i _ j _ p q, l => ((Region.ready .any ops l == [i, j]) && !ds.contains i && !ds.contains j && p.len == q.len) && (qk ops ds p (l.setIfInBounds i true) && qk ops ds q (l.setIfInBounds j true))
theorem RT.sound {ds : List Nat} (hQ : ∀ c t v a w, Q (.panic c) (Act.put a t v) w → Q (.panic c) a w) : ∀ (p : PT) (l : Array Bool) (a : Act) (w : World), qk ops ds p l = true → RT P ops Q S p a w → yg P .any ops Q S ds p.len l a w
 | .nil, l, a, w, hp, h => YK hp h
 | .op i 0 d r, l, a, w, hp, h => by
  obtain ⟨o, v, ho, hd, hS, hy, h⟩ := h
  simp only [qk, Bool.and_eq_true] at hp
  exact take_ _ ho hd hp.1 (fun c a w => hQ c _ _ a w) hy hS rfl (RT.sound hQ r _ _ _ hp.2 h)
 | .op i 1 d r, l, a, w, hp, h => by
  obtain ⟨o, v, ho, hd, hy, h⟩ := h
  simp only [qk, Bool.and_eq_true] at hp
  exact yM _ ho hd hp.1 (fun c a w => hQ c _ _ a w) hy rfl (RT.sound hQ r _ _ _ hp.2 h)
 | .op i 2 d r, l, a, w, hp, h => by
  obtain ⟨o, ho, hd, h⟩ := h
  simp only [qk, Bool.and_eq_true, Bool.not_eq_true'] at hp
  exact jt _ ho hd hp.1.1 (by have := hp.1.2; simpa using this) (fun K hK => h K (fun a' w' hS' hr => hK a' w' hS' (fun hS2 => RT.sound hQ r _ _ _ hp.2 (hr hS2))))
 | .op i (k + 4) d r, l, a, w, hp, h => by
  obtain ⟨o, ho, hd, h⟩ := h
  simp only [qk, Bool.and_eq_true, Bool.not_eq_true'] at hp
  exact jt _ ho hd hp.1.1 (by have := hp.1.2; simpa using this) (fun K hK => h K (fun a' w' hS' hr => hK a' w' hS' (fun hS2 => RT.sound hQ r _ _ _ hp.2 (hr hS2))))
 | .op i 3 d r, l, a, w, hp, h => by
  obtain ⟨o, ho, hd, h⟩ := h
  simp only [qk, Bool.and_eq_true] at hp
  exact zad _ ho hd hp.1.1 (by have := hp.1.2; simpa using this) (fun K hK => h K (fun a' w' hr => hK a' w' (RT.sound hQ r _ _ _ hp.2 hr)))
 | .two i di j dj p q, l, a, w, hp, h => by
  obtain ⟨oi, oj, hi, hj, hdi, hdj, h1, h2⟩ := h
  simp only [qk, Bool.and_eq_true, Bool.not_eq_true', beq_iff_eq] at hp
  obtain ⟨⟨⟨⟨hr, hi'⟩, hj'⟩, hl⟩, hp, hq⟩ := hp
  exact two_ (l.setIfInBounds i true) (l.setIfInBounds j true) hi hj hdi hdj (by simp [hr]) (by simpa using hi') (by simpa using hj') (fun K hK => h1 K (fun a' w' hS' hr => hK a' w' hS' (fun hS2 => RT.sound hQ p _ _ _ hp (hr hS2)))) (fun K hK => h2 K (fun a' w' hS' hr => hK a' w' hS' (fun hS2 => by have := RT.sound hQ q _ _ _ hq (hr hS2); rwa [← hl] at this)))
theorem VJ {id : Nat} {a : Act} {w : World} (p : PT) (ds : List Nat) (S : World → Prop) (hm : P.follows .mixedOrders = true) (hn : ops.size = p.len) (hp : qk ops ds p (Array.replicate p.len false) = true)
  (hQ : ∀ c t v a w, Q (.panic c) (Act.put a t v) w → Q (.panic c) a w) (hS : S (w.drewN 1)) (h : S (w.drewN 1) → RT P ops Q S p a (w.drewN 1)) : (Code.region id ops true).wp P Q a w :=
 Yv _ hm hn rfl hS (fun hs => RT.sound hQ p _ _ _ hp (h hs))
theorem RT.take {i d : Nat} {r : PT} {a : Act} {w : World} {o : Oper} {v : Value} (ho : ops[i]? = some o) (hd : o.dst = some d) (hS : S w) (hy : YieldsIf P ops S o v a) {a' : Act} (ha : a.put (some d) v = a') (h : RT P ops Q S r a' w) : RT P ops Q S (.op i 0 d r) a w := by
 subst ha
 exact ⟨o, v, ho, hd, hS, hy, h⟩
theorem RT.pure {i d : Nat} {r : PT} {a : Act} {w : World} {o : Oper} {v : Value} (ho : ops[i]? = some o) (hd : o.dst = some d) (hy : Yields P ops o v a) {a' : Act} (ha : a.put (some d) v = a') (h : RT P ops Q S r a' w) : RT P ops Q S (.op i 1 d r) a w := by
 subst ha
 exact ⟨o, v, ho, hd, hy, h⟩
theorem RT.one {i d : Nat} {r : PT} {a : Act} {w : World} {o : Oper} (ho : ops[i]? = some o) (hd : o.dst = some d) (h : ∀ K : Act → World → Prop, Shut (∀ a' w', S w' → (S w' → RT P ops Q S r a' w') → K a' w') → if Region.wanted o (yielded ops a.tmps) = true then Oper.wp P o a w K Q else K (a.put (some d) undef) w) : RT P ops Q S (.op i 2 d r) a w := ⟨o, ho, hd, h⟩
theorem RT.last {i d : Nat} {r : PT} {a : Act} {w : World} {o : Oper} (ho : ops[i]? = some o) (hd : o.dst = none) (h : ∀ K : Act → World → Prop, Shut (∀ a' w', RT P ops Q S r a' w' → K a' w') → if Region.wanted o (yielded ops a.tmps) = true then Oper.wp P o a w K Q else K (a.put (none) undef) w) : RT P ops Q S (.op i 3 d r) a w := ⟨o, ho, hd, h⟩
theorem RT.fork {i di j dj : Nat} {p q : PT} {a : Act} {w : World} {oi oj : Oper} (hi : ops[i]? = some oi) (hj : ops[j]? = some oj) (hdi : oi.dst = some di) (hdj : oj.dst = some dj)
  (h1 : ∀ K : Act → World → Prop, Shut (∀ a' w', S w' → (S w' → RT P ops Q S p a' w') → K a' w') → if Region.wanted oi (yielded ops a.tmps) = true then Oper.wp P oi a w K Q else K (a.put (some di) undef) w)
  (h2 : ∀ K : Act → World → Prop, Shut (∀ a' w', S w' → (S w' → RT P ops Q S q a' w') → K a' w') → if Region.wanted oj (yielded ops a.tmps) = true then Oper.wp P oj a w K Q else K (a.put (some dj) undef) w) : RT P ops Q S (.two i di j dj p q) a w := ⟨oi, oj, hi, hj, hdi, hdj, h1, h2⟩
theorem RT.nil {a : Act} {w : World} (h : Q .normal a w) : RT P ops Q S .nil a w := h
theorem RT.norm {p : PT} {a a' : Act} {w : World} (ha : a = a') (h : RT P ops Q S p a' w) : RT P ops Q S p a w := by
 subst ha
 exact h
end
abbrev Bk := Nat × List Value × Nat
abbrev Rw := List Nat × (World → Prop)
structure xJ (gs : List Nat) (w w' : World) : Prop where
 os : w'.os = w.os
 tape : w'.tape = w.tape
 output : w'.output = w.output
 size : w.heap.size ≤ w'.heap.size
 blk : ∀ i, i < w.heap.size → i ∉ gs → w'.heap[i]? = w.heap[i]?
theorem xJ.refl (gs : List Nat) (w : World) : xJ gs w w := ⟨rfl, rfl, rfl, Nat.le_refl _, fun _ _ _ => rfl⟩
theorem xJ.trans {gs hs : List Nat} {w w1 w2 : World} (h : xJ gs w w1) (k : xJ hs w1 w2) (hh : ∀ x ∈ hs, x ∈ gs ∨ w.heap.size ≤ x) : xJ gs w w2 :=
 ⟨k.os.trans h.os, k.tape.trans h.tape, k.output.trans h.output, Nat.le_trans h.size k.size, fun i hi hn => by
  rw [k.blk i (Nat.lt_of_lt_of_le hi h.size) (fun hm => by rcases hh i hm with h1 | h1; exact hn h1; omega)]
  exact h.blk i hi hn⟩
theorem xJ.below {w w' : World} (h : xJ [] w w') : Below w.heap.size w w' := ⟨h.os, h.tape, h.output, h.size, fun i hi => h.blk i hi (by simp)⟩
theorem xJ.of_below {w w' : World} (h : Below w.heap.size w w') : xJ [] w w' := ⟨h.os, h.tape, h.output, h.size, fun i hi _ => h.block i hi⟩
theorem xJ.but {g : Nat} {w w' : World} (h : xJ [g] w w') : yX w w' g none := ⟨h.size, fun i hi hn _ => h.blk i hi (by simpa using hn)⟩
theorem xJ.of_but {g : Nat} {w0 w w' : World} (h0 : Below w0.heap.size w0 w) (h : Below w0.heap.size w0 w') (k : yX w w' g none) : xJ [g] w w' :=
 ⟨h.os.trans h0.os.symm, h.tape.trans h0.tape.symm, h.output.trans h0.output.symm, k.1, fun i hi hn => k.2 i hi (by simpa using hn) (by simp)⟩
theorem xJ.below_of {gs : List Nat} {w0 w w' : World} (h : xJ gs w w') (h0 : Below w0.heap.size w0 w) (hg : ∀ g ∈ gs, w0.heap.size ≤ g) : Below w0.heap.size w0 w' :=
 ⟨h.os.trans h0.os, h.tape.trans h0.tape, h.output.trans h0.output, Nat.le_trans h0.size h.size, fun i hi => (h.blk i (Nat.lt_of_lt_of_le hi h0.size) (fun hm => by have := hg i hm; omega)).trans (h0.block i hi)⟩
def Ty (ts : List Nat) (P : World → Prop) : Prop := ∀ w w' : World, (∀ k q cells, k < w.heap.size → w.heap[k]? = some (.cells cells q (0, 0)) → q ∈ ts → w'.heap[k]? = w.heap[k]?) → P w → P w'
theorem Ty.R {α : Type} (d : Kd α) (e base : Nat) (v : Value) (xs : List α) : Ty (e :: d.E) (fun w => d.R e w base (fun _ => True) v xs) := fun w w' hm h =>
 Kd.R_mono (Kd.R_move (Kd.R_bound h) (fun k hk => by obtain ⟨_, _, h2, q, hq, cells, hc⟩ := hk; exact hm k q cells h2 hc hq)) (fun _ _ => trivial)
theorem Ty.S {α : Type} (d : Kd α) (e base : Nat) (v : Value) (xs : List α) : Ty (e :: d.E) (fun w => d.S e w base (fun _ => True) v xs) := fun w w' hm h =>
 Kd.S_mono (Kd.S_move (Kd.S_bound h) (fun k hk => by obtain ⟨_, _, h2, q, hq, cells, hc⟩ := hk; exact hm k q cells h2 hc hq)) (fun _ _ => trivial)
structure Sat (gs : List Nat) (w0 w : World) (bs : List Bk) (rs : List Rw) : Prop where
 keep : xJ gs w0 w
 blk : ∀ x ∈ bs, (x.1 ∈ gs ∨ w0.heap.size ≤ x.1) ∧ w.heap[x.1]? = some (.cells x.2.1.toArray x.2.2 (0, 0))
 apart : bs.Pairwise (fun x y => x.1 ≠ y.1)
 rows : ∀ r ∈ rs, Ty r.1 r.2 ∧ r.2 w
theorem Sat.nil (w : World) : Sat [] w w [] [] := ⟨xJ.refl _ _, by simp, .nil, by simp⟩
theorem Sat.one {w : World} {g t : Nat} {cs : List Value} (h : w.heap[g]? = some (.cells cs.toArray t (0, 0))) : Sat [g] w w [(g, cs, t)] [] := ⟨xJ.refl _ _, by simpa using h, by simp, by simp⟩
theorem Sat.two {w : World} {g g' t t' : Nat} {cs cs' : List Value} (h : w.heap[g]? = some (.cells cs.toArray t (0, 0))) (h' : w.heap[g']? = some (.cells cs'.toArray t' (0, 0))) (hn : g ≠ g') : Sat [g, g'] w w [(g, cs, t), (g', cs', t')] [] := ⟨xJ.refl _ _, by simp [h, h'], by simpa using hn, by simp⟩
section
variable {gs : List Nat} {w0 w w' : World} {bs bs' : List Bk} {rs : List Rw}
theorem Sat.below (H : Sat [] w0 w bs rs) : Below w0.heap.size w0 w := H.keep.below
theorem Sat.call (H : Sat gs w0 w bs rs) (hb : Below w.heap.size w w') : Sat gs w0 w' bs rs :=
 ⟨H.keep.trans (xJ.of_below hb) (by simp), fun x hx => ⟨(H.blk x hx).1, zZ (H.blk x hx).2 hb⟩, H.apart, fun r hr => ⟨(H.rows r hr).1, (H.rows r hr).1 w w' (fun k _ _ hk _ _ => hb.block k hk) (H.rows r hr).2⟩⟩
theorem Sat.drewN (H : Sat gs w0 w bs rs) (n : Nat) : Sat gs w0 (w.drewN n) bs rs := H.call (zb (Below.refl _ _) n)
theorem Sat.alloc (H : Sat gs w0 w bs rs) (cs : List Value) (t : Nat) : Sat gs w0 (w.alloc (.cells cs.toArray t (0, 0))) ((w.heap.size, cs, t) :: bs) rs := by
 have h := H.call (zc (Below.refl _ _) (.cells cs.toArray t (0, 0)))
 refine ⟨h.keep, fun x hx => ?_, .cons (fun y hy => Ne.symm (Nat.ne_of_lt (xY (H.blk y hy).2))) h.apart, h.rows⟩
 rcases List.mem_cons.1 hx with rfl | hx
 ·exact ⟨.inr H.keep.size, VN w _⟩
 ·exact h.blk x hx
theorem Sat.row (H : Sat gs w0 w bs rs) {ts : List Nat} {P : World → Prop} (ht : Ty ts P) (h : P w) : Sat gs w0 w bs ((ts, P) :: rs) :=
 ⟨H.keep, H.blk, H.apart, fun r hr => by rcases List.mem_cons.1 hr with rfl | hr; exact ⟨ht, h⟩; exact H.rows r hr⟩
theorem Sat.R (H : Sat gs w0 w bs rs) {α : Type} {d : Kd α} {e base : Nat} {v : Value} {xs : List α} {ok : Nat → Prop} (h : d.R e w base ok v xs) (hb : w0.heap.size ≤ base) : Sat gs w0 w bs ((e :: d.E, fun w => d.R e w w0.heap.size (fun _ => True) v xs) :: rs) :=
 H.row (Ty.R d e _ v xs) (Kd.R_mono (Kd.R_lower h hb) (fun _ _ => trivial))
theorem Sat.S (H : Sat gs w0 w bs rs) {α : Type} {d : Kd α} {e base : Nat} {v : Value} {xs : List α} {ok : Nat → Prop} (h : d.S e w base ok v xs) (hb : w0.heap.size ≤ base) : Sat gs w0 w bs ((e :: d.E, fun w => d.S e w w0.heap.size (fun _ => True) v xs) :: rs) :=
 H.row (Ty.S d e _ v xs) (Kd.S_mono (Kd.S_lower h hb) (fun _ _ => trivial))
theorem Sat.drop (H : Sat gs w0 w bs rs) {rs' : List Rw} (h : ∀ r ∈ rs', r ∈ rs) : Sat gs w0 w bs rs' := ⟨H.keep, H.blk, H.apart, fun r hr => H.rows r (h r hr)⟩
theorem Sat.off (H : Sat gs w0 w bs rs) {bs1 : List Bk} (h : bs1.Sublist bs) : Sat gs w0 w bs1 rs := ⟨H.keep, fun x hx => H.blk x (h.subset hx), H.apart.sublist h, H.rows⟩
inductive Up (g t n : Nat) (f : List Value → List Value) : List Bk → List Bk → Prop
 | here {cs : List Value} {r : List Bk} (h : Nat.ble n cs.length = true) : Up g t n f ((g, cs, t) :: r) ((g, f cs, t) :: r)
 | there {x : Bk} {r r' : List Bk} : Up g t n f r r' → Up g t n f (x :: r) (x :: r')
theorem Up.mem {g t n : Nat} {f : List Value → List Value} (U : Up g t n f bs bs') : ∃ cs, (g, cs, t) ∈ bs ∧ n ≤ cs.length ∧ (∀ y ∈ bs', y ∈ bs ∨ y = (g, f cs, t)) := by
 induction U with
 | here hn => exact ⟨_, List.mem_cons_self, Nat.le_of_ble_eq_true hn, fun y hy => by rcases List.mem_cons.1 hy with h | h; exact .inr h; exact .inl (List.mem_cons_of_mem _ h)⟩
 | there U ih =>
  obtain ⟨cs, h1, hn, h2⟩ := ih
  refine ⟨cs, List.mem_cons_of_mem _ h1, hn, fun y hy => ?_⟩
  rcases List.mem_cons.1 hy with h | h
  ·exact .inl (h ▸ List.mem_cons_self)
  ·rcases h2 y h with h | h
   ·exact .inl (List.mem_cons_of_mem _ h)
   ·exact .inr h
theorem Up.fst {g t n : Nat} {f : List Value → List Value} (U : Up g t n f bs bs') : bs'.map (·.1) = bs.map (·.1) := by
 induction U with
 | here _ => rfl
 | there U ih => rw [List.map_cons, List.map_cons, ih]
theorem YD (l : List Bk) : l.Pairwise (fun x y => x.1 ≠ y.1) ↔ (l.map (·.1)).Pairwise (· ≠ ·) := by rw [List.pairwise_map]
theorem Up.own {g t n : Nat} {f : List Value → List Value} (U : Up g t n f bs bs') (hp : bs.Pairwise (fun x y => x.1 ≠ y.1)) : ∀ y ∈ bs', (y ∈ bs ∧ y.1 ≠ g) ∨ ∃ cs, (g, cs, t) ∈ bs ∧ y = (g, f cs, t) := by
 induction U with
 | @here cs r _ =>
  intro y hy
  rcases List.mem_cons.1 hy with h | h
  ·exact .inr ⟨cs, List.mem_cons_self, h⟩
  ·exact .inl ⟨List.mem_cons_of_mem _ h, fun e => (List.pairwise_cons.1 hp).1 y h e.symm⟩
 | @there x r r' U ih =>
  intro y hy
  rcases List.mem_cons.1 hy with h | h
  ·subst h
   obtain ⟨cs, hm, _, _⟩ := U.mem
   exact .inl ⟨List.mem_cons_self, (List.pairwise_cons.1 hp).1 _ hm⟩
  ·rcases ih (List.pairwise_cons.1 hp).2 y h with ⟨h1, h2⟩ | ⟨cs, h1, h2⟩
   ·exact .inl ⟨List.mem_cons_of_mem _ h1, h2⟩
   ·exact .inr ⟨cs, List.mem_cons_of_mem _ h1, h2⟩
def xC (t : Nat) (rs : List Rw) : Bool := rs.all fun r => !r.1.contains t
theorem Sat.turn (H : Sat gs w0 w bs rs) {g t n : Nat} {f : List Value → List Value} (U : Up g t n f bs bs') (ht : xC t rs = true) (K : xJ [g] w w')
  (hg : ∀ cs, w.heap[g]? = some (.cells (List.toArray cs) t (0, 0)) → w'.heap[g]? = some (.cells (f cs).toArray t (0, 0))) : Sat gs w0 w' bs' rs := by
 obtain ⟨cs, hm, _⟩ := U.mem
 have hb := H.blk _ hm
 refine ⟨H.keep.trans K (by simpa using hb.1), fun y hy => ?_, ?_, fun r hr => ⟨(H.rows r hr).1, (H.rows r hr).1 w w' (fun k q cells hk hc hq => K.blk k hk ?_) (H.rows r hr).2⟩⟩
 ·rcases U.own H.apart y hy with ⟨h1, h2⟩ | ⟨cs', h1, rfl⟩
  ·exact ⟨(H.blk y h1).1, (K.blk _ (xY (H.blk y h1).2) (by simpa using h2)).trans (H.blk y h1).2⟩
  ·exact ⟨(H.blk _ h1).1, hg cs' (H.blk _ h1).2⟩
 ·rw [YD, U.fst, ← YD]
  exact H.apart
 ·simp only [List.mem_singleton]
  rintro rfl
  rw [hb.2] at hc
  injection hc with hc
  injection hc with _ hc
  dsimp only at hc
  subst hc
  have h2 := List.all_eq_true.1 ht r hr
  simp only [Bool.not_eq_true', List.contains_eq_mem, decide_eq_false_iff_not] at h2
  exact h2 hq
def YU : List Value → List Value → List Value
 | _ :: cs, s :: ss => s :: YU cs ss
 | cs, [] => cs
 | [], _ => []
def Zc : List Value → Nat → List Value → List Value
 | cs, 0, s => YU cs s
 | c :: cs, j + 1, s => c :: Zc cs j s
 | [], _ + 1, _ => []
theorem zh (cs : List Value) : YU cs [] = cs := by cases cs <;> rfl
theorem ze (c s : Value) (cs ss : List Value) : YU (c :: cs) (s :: ss) = s :: YU cs ss := rfl
theorem zg (cs s : List Value) : Zc cs 0 s = YU cs s := by cases cs <;> rfl
theorem zf (c : Value) (cs s : List Value) (j : Nat) : Zc (c :: cs) (j + 1) s = c :: Zc cs j s := rfl
theorem JQ : ∀ (cs : List Value) (j : Nat) (v : Value) (s : List Value), Zc cs j (v :: s) = Zc (cs.set j v) (j + 1) s
 | [], 0, v, s => by simp [Zc, YU]
 | [], j + 1, v, s => by simp [Zc]
 | c :: cs, 0, v, s => by simp [zg, ze, zf]
 | c :: cs, j + 1, v, s => by rw [zf, zdI, zf, JQ cs j v s]
theorem zbU (cs : List Value) (j : Nat) : Zc cs j [] = cs := by
 induction cs generalizing j with
 | nil => cases j <;> rfl
 | cons c cs ih => cases j with
  | zero => rw [zg, zh]
  | succ j => rw [zf, ih]
theorem Xi {t g : Nat} : ∀ (seg : List Value) (j : Nat) (w : World) (cs : List Value), w.heap[g]? = some (.cells cs.toArray t (0, 0)) → (w.setCells g j seg).heap[g]? = some (.cells (Zc cs j seg).toArray t (0, 0))
 | [], j, w, cs, h => by rw [zbU]; exact h
 | v :: seg, j, w, cs, h => by
  rw [JQ]
  exact Xi seg (j + 1) _ _ (yW h j v (by simp))
theorem YX (g : Nat) : ∀ (seg : List Value) (j : Nat) (w : World), xJ [g] w (w.setCells g j seg)
 | [], _, w => xJ.refl _ _
 | v :: seg, j, w => (⟨rfl, rfl, rfl, by simp [World.setCell], fun i _ hn => Below.heap_setCell w _ _ i (by simpa using hn)⟩ : xJ [g] w (w.setCell ⟨g, j, none⟩ v)).trans (YX g seg (j + 1) _) (by simp)
theorem Sat.put (H : Sat gs w0 w bs rs) {g j t : Nat} {seg : List Value} {n : Nat} (U : Up g t n (fun cs => Zc cs j seg) bs bs') (ht : xC t rs = true) : Sat gs w0 (w.setCells g j seg) bs' rs :=
 H.turn U ht (YX g seg j w) (fun cs h => Xi seg j w cs h)
def LkC (w : World) (g : Nat) : Nat → List Value → Prop
 | _, [] => True
 | j, v :: r => w.cell? ⟨g, j, none⟩ = some v ∧ w.frozen? ⟨g, j, none⟩ = false ∧ LkC w g (j + 1) r
def Lk (w : World) : List Bk → Prop
 | [] => True
 | x :: r => LkC w x.1 0 x.2.1 ∧ Lk w r
theorem zby {g t : Nat} {cs : List Value} (h : w.heap[g]? = some (.cells cs.toArray t (0, 0))) : ∀ (r : List Value) (j : Nat), cs.drop j = r → LkC w g j r
 | [], _, _ => trivial
 | v :: r, j, hd => ⟨by rw [zm h j]; have : (cs.drop j)[0]? = some v := (by rw [hd]; rfl); simpa using this, zn h j, zby h r (j + 1) (by rw [← List.drop_drop, hd]; rfl)⟩
theorem Sat.lk (H : Sat gs w0 w bs rs) : Lk w bs := by
 have h := H.blk
 clear H
 induction bs with
 | nil => trivial
 | cons x r ih => exact ⟨zby (h x List.mem_cons_self).2 _ 0 rfl, ih (fun y hy => h y (List.mem_cons_of_mem _ hy))⟩
end
section
variable {P : Program} {ops : Array Oper} {rest : List Oper} {o : Oper} {a : Act} {Q : Exit → Act → World → Prop} {gs : List Nat} {w0 w : World} {bs bs' : List Bk} {rs : List Rw}
theorem gB {W : World} {t : TypeId} {x : Operand} (_ho : o.op = .box t x) (h : wpList P ops Q (o :: rest) a W) : wpList P ops Q (o :: rest) a W := h
theorem gA {W : World} {t : TypeId} (_ho : o.op = .alloc t) (h : wpList P ops Q (o :: rest) a W) : wpList P ops Q (o :: rest) a W := h
theorem gS {W : World} {t : TypeId} {p x : Operand} (_ho : o.op = .store t p x) (h : wpList P ops Q (o :: rest) a W) : wpList P ops Q (o :: rest) a W := h
theorem zz (H : Sat gs w0 w bs rs) {t : TypeId} {x : Operand} {v : Value} {cs : List Value}
  (h : ∀ g w', Sat gs w0 w' ((g, cs, t) :: bs) rs → wpList P ops Q rest (a.put o.dst (.pointer (some ⟨g, 0, none⟩))) w') (hgd : o.guard = none := by rfl) (ho : o.op = .box t x := by rfl) (hv : a.eval x = v := by go_simp; rfl) (hc : v.cells.toList = cs := by rfl) : wpList P ops Q (o :: rest) a w := by
 subst hv
 subst hc
 refine Kd.event_run hgd ?_ (h _ _ (H.alloc _ t))
 unfold execOp
 simp [ho, Instr.box, newVar, newRow]
theorem zt (H : Sat gs w0 w bs rs) {t : TypeId} {z : Value} {cs : List Value}
  (h : ∀ g w', Sat gs w0 w' ((g, cs, t) :: bs) rs → wpList P ops Q rest (a.put o.dst (.pointer (some ⟨g, 0, none⟩))) w') (hgd : o.guard = none := by rfl) (ho : o.op = .alloc t := by rfl) (hz : (P.info? t).bind (·.zero) = some z := by rfl) (hc : z.cells.toList = cs := by rfl) : wpList P ops Q (o :: rest) a w := by
 subst hc
 obtain ⟨i, hi, hz⟩ := zdK.1 hz
 refine Kd.event_run hgd ?_ (h _ _ (H.alloc _ t))
 unfold execOp
 simp [ho, Instr.alloc, newVar, newRow, zeroValue, typeInfo, hi, hz]
theorem zu (H : Sat gs w0 w bs rs) {t : TypeId} {p x : Operand} {g j T : Nat} {v : Value} {seg : List Value}
  (h : ∀ w', Sat gs w0 w' bs' rs → wpList P ops Q rest a w') (hgd : o.guard = none := by rfl) (hN : o.dst = none := by rfl) (ho : o.op = .store t p x := by rfl) (hp : a.eval p = .pointer (some ⟨g, j, none⟩) := by rfl) (hx : a.eval x = v := by go_simp; rfl) (hc : v.cells.toList = seg := by rfl)
  (U : Up g T (j + seg.length) (fun cs => Zc cs j seg) bs bs' := by ((repeat (first | exact .here rfl | apply Up.there)); (first | done | fail))) (ht : xC T rs = true := by rfl) (hi : (P.info? t).map (·.size) = some seg.length := by rfl) (h1 : (seg.all fun v => v.oneCell') = true := by rfl) : wpList P ops Q (o :: rest) a w := by
 obtain ⟨cs, hm, hfit, _⟩ := U.mem
 have hrun := Y2 (P := P) t v seg (H.blk _ hm).2 hc hi (by simpa using hfit) (fun q hq => List.all_eq_true.1 h1 q hq)
 refine wpList_plain hgd fun K hK => ?_
 unfold Oper.wp execOp
 simp only [ho, hp, hx, Sem.run_bind, Sem.run_pure, Result.andThen_ok, hrun]
 show K (a.put o.dst undef) _
 rw [hN]
 exact hK a _ (h _ (H.put U ht))
theorem Sat.go (H : Sat gs w0 w bs rs) {f : FuncId} {args : Array Value} {K : Ending → World → Prop} {r : Value} (hc : Calls P f args w fun e w' => e = .returned r ∧ Below w.heap.size w w') (h : ∀ w', Sat gs w0 w' bs rs → K (.returned r) w') : Calls P f args w K :=
 hc.mono fun e w' he => by obtain ⟨rfl, hb⟩ := he; exact h w' (H.call hb)
theorem Sat.go0 (H : Sat gs w0 w bs rs) {f : FuncId} {args : Array Value} {K : Ending → World → Prop} {r : Value} (hc : Calls P f args w fun e w' => e = .returned r ∧ zi w w') (h : ∀ w', Sat gs w0 w' bs rs → K (.returned r) w') : Calls P f args w K :=
 hc.mono fun e w' he => by obtain ⟨rfl, hb⟩ := he; exact h w' (H.call hb.below)
def xM (w : World) (g : Nat) : World := { w with heap := w.heap.take g }
theorem YR {g : Nat} (h : g ≤ w.heap.size) : Below (xM w g).heap.size (xM w g) w := by
 have e : (xM w g).heap.size = g := by simp [xM]; omega
 refine ⟨rfl, rfl, rfl, by rw [e]; exact h, fun k hk => ?_⟩
 rw [e] at hk
 show w.heap[k]? = (w.heap.extract 0 g)[k]?
 rw [Array.getElem?_extract]
 have : k < min g w.heap.size := by omega
 simp [this]
theorem ZJ {g : Nat} (h : g ≤ w.heap.size) : (xM w g).heap.size = g := by simp [xM]; omega
theorem zcF (H : Sat gs w0 w bs rs) {Kc : Act → World → Prop} {t : TypeId} {z : Value} {cs : List Value}
  (h : ∀ g w', Sat gs w0 w' ((g, cs, t) :: bs) rs → Kc (a.put o.dst (.pointer (some ⟨g, 0, none⟩))) w') (hw : Region.wanted o (yielded ops a.tmps) = true := by rfl) (ho : o.op = .alloc t := by rfl) (hz : (P.info? t).bind (·.zero) = some z := by rfl) (hc : z.cells.toList = cs := by rfl) : if Region.wanted o (yielded ops a.tmps) = true then Oper.wp P o a w Kc Q else Kc (a.put o.dst undef) w := by
 subst hc
 obtain ⟨i, hi, hz⟩ := zdK.1 hz
 refine vH hw ?_ (h _ _ (H.alloc _ t))
 unfold execOp
 simp [ho, Instr.alloc, newVar, newRow, zeroValue, typeInfo, hi, hz]
theorem xG (H : Sat gs w0 w bs rs) {Kc : Act → World → Prop} {t : TypeId} {p x : Operand} {g j T : Nat} {v : Value} {seg : List Value}
  (h : ∀ w', Sat gs w0 w' bs' rs → Kc a w') (hw : Region.wanted o (yielded ops a.tmps) = true := by rfl) (hN : o.dst = none := by rfl) (ho : o.op = .store t p x := by rfl) (hp : a.eval p = .pointer (some ⟨g, j, none⟩) := by rfl) (hx : a.eval x = v := by go_simp; rfl) (hc : v.cells.toList = seg := by rfl)
  (U : Up g T (j + seg.length) (fun cs => Zc cs j seg) bs bs' := by ((repeat (first | exact .here rfl | apply Up.there)); (first | done | fail))) (ht : xC T rs = true := by rfl) (hi : (P.info? t).map (·.size) = some seg.length := by rfl) (h1 : (seg.all fun v => v.oneCell') = true := by rfl) : if Region.wanted o (yielded ops a.tmps) = true then Oper.wp P o a w Kc Q else Kc (a.put none undef) w := by
 obtain ⟨cs, hm, hfit, _⟩ := U.mem
 have hrun := Y2 (P := P) t v seg (H.blk _ hm).2 hc hi (by simpa using hfit) (fun q hq => List.all_eq_true.1 h1 q hq)
 refine skip_ (w1 := w.setCells g j seg) hw hN ?_ (h _ (H.put U ht))
 unfold execOp
 simp only [ho, hp, hx, Sem.run_bind, Sem.run_pure, Result.andThen_ok, hrun]
theorem Sat.st (H : Sat gs w0 w bs rs) {f : FuncId} {args : Array Value} {K : Ending → World → Prop} {W : World} {g T : Nat} {new : List Value} {Φ : Ending → World → Prop}
  (hc : Calls P f args w fun e w' => Φ e w' ∧ w'.heap[g]? = some (.cells new.toArray T (0, 0)) ∧ Below W.heap.size W w' ∧ yX w w' g none) (hW : Below W.heap.size W w)
  (h : ∀ e w', Φ e w' → Sat gs w0 w' bs' rs → K e w') (U : Up g T 0 (fun _ => new) bs bs' := by ((repeat (first | exact .here rfl | apply Up.there)); (first | done | fail))) (ht : xC T rs = true := by rfl) : Calls P f args w K :=
 hc.mono fun e w' he => h e w' he.1 (H.turn U ht (xJ.of_but hW he.2.2.1 he.2.2.2) (fun _ _ => he.2.1))
theorem Sat.lt (H : Sat gs w0 w bs rs) {x : Bk} (hx : x ∈ bs) : x.1 ≤ w.heap.size := Nat.le_of_lt (xY (H.blk x hx).2)
end
theorem gaA {α : Type} {l : List α} {i : Nat} {o : α} (h : l[i]? = some o) : l.toArray[i]? = some o := by simpa using h
theorem gaS {α : Type} {x : α} {l : List α} {i : Nat} {o : α} (h : l[i]? = some o) : (x :: l)[i + 1]? = some o := by simpa using h
theorem gaZ {α : Type} {x : α} {l : List α} : (x :: l)[0]? = some x := rfl
section
variable {P : Program} {ops : Array Oper} {Q : Exit → Act → World → Prop} {S : World → Prop} {i d : Nat} {r : PT} {a a' : Act} {w : World} {o : Oper} {v : Value}
theorem RT.tk (h : RT P ops Q S r a' w) (ho : ops[i]? = some o := by (with_reducible (apply gaA; (repeat (apply gaS)); exact gaZ))) (hd : o.dst = some d := by rfl) (hS : S w := by assumption) (hw : Region.wanted o (yielded ops a.tmps) = true := by rfl)
  (hy : ∀ w', S w' → (execOp a.eval o).run P w' = .ok (.value v) w' := by (intro w' hS'; (try dsimp only at hS'); (try simp only [Lk, LkC, Nat.reduceAdd, Nat.zero_add, and_true] at hS'); go_simp; with_reducible rfl)) (ha : a.put (some d) v = a' := by (simp only [Act.put, zdG, zdH, zdI, zT, yc]; rfl)) : RT P ops Q S (.op i 0 d r) a w :=
 RT.take ho hd hS (.inl ⟨hw, hy⟩) ha h
theorem RT.pu (h : RT P ops Q S r a' w) (ho : ops[i]? = some o := by (with_reducible (apply gaA; (repeat (apply gaS)); exact gaZ))) (hd : o.dst = some d := by rfl) (hw : Region.wanted o (yielded ops a.tmps) = true := by rfl)
  (hy : ∀ w', (execOp a.eval o).run P w' = .ok (.value v) w' := by (intro w'; go_simp; with_reducible rfl)) (ha : a.put (some d) v = a' := by (simp only [Act.put, zdG, zdH, zdI, zT, yc]; rfl)) : RT P ops Q S (.op i 1 d r) a w :=
 RT.pure ho hd (.inl ⟨hw, hy⟩) ha h
theorem RT.tn (h : RT P ops Q S r a' w) (ho : ops[i]? = some o := by (with_reducible (apply gaA; (repeat (apply gaS)); exact gaZ))) (hd : o.dst = some d := by rfl) (hS : S w := by assumption) (hw : Region.wanted o (yielded ops a.tmps) = false := by rfl)
  (ha : a.put (some d) undef = a' := by (simp only [Act.put, zdG, zdH, zdI]; rfl)) : RT P ops Q S (.op i 0 d r) a w :=
 RT.take ho hd hS (.inr ⟨hw, rfl⟩) ha h
theorem RT.pn (h : RT P ops Q S r a' w) (ho : ops[i]? = some o := by (with_reducible (apply gaA; (repeat (apply gaS)); exact gaZ))) (hd : o.dst = some d := by rfl) (hw : Region.wanted o (yielded ops a.tmps) = false := by rfl)
  (ha : a.put (some d) undef = a' := by (simp only [Act.put, zdG, zdH, zdI]; rfl)) : RT P ops Q S (.op i 1 d r) a w :=
 RT.pure ho hd (.inr ⟨hw, rfl⟩) ha h
theorem RT.o1 (h : ∀ K : Act → World → Prop, (∀ a' w', S w' → (S w' → RT P ops Q S r a' w') → K a' w') → if Region.wanted o (yielded ops a.tmps) = true then Oper.wp P o a w K Q else K (a.put (some d) undef) w) (ho : ops[i]? = some o := by (with_reducible (apply gaA; (repeat (apply gaS)); exact gaZ))) (hd : o.dst = some d := by rfl) : RT P ops Q S (.op i 2 d r) a w :=
 RT.one ho hd fun K hK => h K hK.out
theorem RT.n2 (h : RT P ops Q S r a' w) (ho : ops[i]? = some o := by (with_reducible (apply gaA; (repeat (apply gaS)); exact gaZ))) (hd : o.dst = some d := by rfl) (hS : S w := by assumption) (hw : Region.wanted o (yielded ops a.tmps) = false := by rfl)
  (ha : a.put (some d) undef = a' := by (simp only [Act.put, zdG, zdH, zdI]; rfl)) : RT P ops Q S (.op i 2 d r) a w :=
 RT.o1 (fun K hK => by rw [if_neg (by rw [hw]; exact Bool.false_ne_true)]; exact hK _ _ hS (fun _ => ha ▸ h)) ho hd
theorem RT.o3 (h : ∀ K : Act → World → Prop, (∀ a' w', RT P ops Q S r a' w' → K a' w') → if Region.wanted o (yielded ops a.tmps) = true then Oper.wp P o a w K Q else K (a.put none undef) w) (ho : ops[i]? = some o := by (with_reducible (apply gaA; (repeat (apply gaS)); exact gaZ))) (hd : o.dst = none := by rfl) : RT P ops Q S (.op i 3 d r) a w :=
 RT.last ho hd fun K hK => h K hK.out
theorem RT.o4 (h : ∀ K : Act → World → Prop, (∀ a' w', S w' → (S w' → RT P ops Q S r a' w') → K a' w') → if Region.wanted o (yielded ops a.tmps) = true then Oper.wp P o a w K Q else K (a.put none undef) w) (ho : ops[i]? = some o := by (with_reducible (apply gaA; (repeat (apply gaS)); exact gaZ))) (hd : o.dst = none := by rfl) : RT P ops Q S (.op i 4 d r) a w :=
 ⟨o, ho, hd, fun K hK => h K hK.out⟩
theorem RT.f2 {di dj j : Nat} {p q : PT} {oj : Oper} (h1 : ∀ K : Act → World → Prop, (∀ a' w', S w' → (S w' → RT P ops Q S p a' w') → K a' w') → if Region.wanted o (yielded ops a.tmps) = true then Oper.wp P o a w K Q else K (a.put (some di) undef) w)
  (h2 : ∀ K : Act → World → Prop, (∀ a' w', S w' → (S w' → RT P ops Q S q a' w') → K a' w') → if Region.wanted oj (yielded ops a.tmps) = true then Oper.wp P oj a w K Q else K (a.put (some dj) undef) w) (hi : ops[i]? = some o := by (with_reducible (apply gaA; (repeat (apply gaS)); exact gaZ))) (hj : ops[j]? = some oj := by (with_reducible (apply gaA; (repeat (apply gaS)); exact gaZ))) (hdi : o.dst = some di := by rfl) (hdj : oj.dst = some dj := by rfl) : RT P ops Q S (.two i di j dj p q) a w :=
 RT.fork hi hj hdi hdj (fun K hK => h1 K hK.out) (fun K hK => h2 K hK.out)
theorem RT.nm {p : PT} (h : RT P ops Q S p a' w) (ha : a = a' := by (unfold Act.put; simp only [zdG, zdH, zdI, zT, yc]; rfl)) : RT P ops Q S p a w := RT.norm ha h
theorem Z1 {K : Act → World → Prop} {f : FuncId} {fn : Func} {c : Operand} {xs : Array Operand} {ts : Array TypeId} {args : Array Value} {N : Option Tmp} (h : Calls P f args w fun e w' => ∃ v, e = .returned v ∧ K (a.put N v) w') (hf : P.funcs[f]? = some fn := by rfl) (hop : o.op = .call { callee := .value c, args := xs, argTypes := ts } := by rfl) (hc : a.eval c = .func (Fn.func f) #[] #[] := by rfl) (hargs : xs.map a.eval = args := by (simp only [zdJ, List.map_cons, List.map_nil]; rfl))
  (hname : (fn.name == "runtime.NumGoroutine") = false := by rfl) (hb : fn.body.isSome = true := by rfl) (hw : Region.wanted o (yielded ops a.tmps) = true := by rfl) (hN : o.dst = N := by rfl) : if Region.wanted o (yielded ops a.tmps) = true then Oper.wp P o a w K Q else K (a.put N undef) w := by
 refine zcL f args hw hN ?_ h
 have he := Xw hf hname hb args w
 unfold execOp
 simp [hop, resolve, hc, Deferred.ofValue, invoke, hargs, he]
theorem jx {id : Nat} (p : PT) (ds : List Nat) (S : World → Prop) (hS : S (w.drewN 1)) (h : S (w.drewN 1) → RT P ops Q S p a (w.drewN 1)) (hm : P.follows .mixedOrders = true := by kernel_rfl) (hn : ops.size = p.len := by rfl) (hp : qk ops ds p (Array.replicate p.len false) = true := by kernel_rfl)
  (hQ : ∀ c t v a w, Q (.panic c) (Act.put a t v) w → Q (.panic c) a w := by (intro _ t _ _ _ h; cases t <;> exact h)) : (Code.region id ops true).wp P Q a w :=
 VJ p ds S hm hn hp hQ hS h
end
section
variable {P : Program} {ops : Array Oper} {Q : Exit → Act → World → Prop} {S : World → Prop} {r : PT} {a : Act} {gs : List Nat} {w0 W w1 : World} {bs : List Bk} {rs : List Rw} {α : Type} {d : Kd α} {e : Nat} {v v1 : Value} {xs : List α} {p : α}
abbrev qA {α : Type} (d : Kd α) (e : Nat) (w0 : World) (v : Value) (xs : List α) : Rw := (e :: d.E, fun w => d.R e w w0.heap.size (fun _ => True) v xs)
theorem Sat.grown (H : Sat gs w0 W bs (qA d e w0 v xs :: rs)) {ys : List α} (hr : d.R e w1 w0.heap.size (fun _ => True) v1 ys) (hg : W.grownBy w1 v.ownBlock) (ht : W.tape = w1.tape) (hb : ∀ b ∈ bs, v.ownBlock ≠ some b.1) (hf : xC e rs = true) : Sat gs w0 w1 bs (qA d e w0 v1 ys :: rs) := by
 have h0 := (H.rows _ (.head _)).2
 have hty : ∀ k, v.ownBlock = some k → ∃ cells, W.heap[k]? = some (.cells cells e (0, 0)) := Kd.R_typed h0
 have hba : ∀ k, v.ownBlock = some k → w0.heap.size ≤ k := Kd.R_base h0
 have hk : ∀ (k q : Nat) (cells : Array Value), W.heap[k]? = some (Obj.cells cells q (0, 0)) → q ≠ e → w1.heap[k]? = W.heap[k]? := fun k q cells hc hq => hg.block k (xY hc) (fun he => by
  obtain ⟨cells', hc'⟩ := hty k he.symm
  rw [hc] at hc'
  injection hc' with hc'
  injection hc' with _ hc'
  exact hq hc')
 refine ⟨⟨hg.os.trans H.keep.os, ht.symm.trans H.keep.tape, hg.output.trans H.keep.output, Nat.le_trans H.keep.size hg.size, fun i hi hn => (hg.block i (Nat.lt_of_lt_of_le hi H.keep.size) (fun he => by have := hba i he.symm; omega)).trans (H.keep.blk i hi hn)⟩, fun x hx => ⟨(H.blk x hx).1, ?_⟩, H.apart, fun y hy => ?_⟩
 ·exact (hg.block _ (xY (H.blk x hx).2) (fun he => hb x hx he.symm)).trans (H.blk x hx).2
 ·rcases List.mem_cons.1 hy with rfl | hm
  ·exact ⟨Ty.R d e _ v1 ys, hr⟩
  ·have h1 := H.rows y (List.mem_cons_of_mem _ hm)
   refine ⟨h1.1, h1.1 W w1 (fun k q cells _ hc hq => hk k q cells hc ?_) h1.2⟩
   rintro rfl
   have h2 := List.all_eq_true.1 hf y hm
   simp only [Bool.not_eq_true', List.contains_eq_mem, decide_eq_false_iff_not] at h2
   exact h2 hq
theorem Sat.apartOf (H : Sat gs w0 W bs (qA d e w0 v xs :: rs)) (hb : (bs.all fun b => b.2.2 != e) = true) : ∀ b ∈ bs, v.ownBlock ≠ some b.1 := fun b hm he => by
 obtain ⟨cells, hc⟩ := Kd.R_typed (H.rows _ (.head _)).2 b.1 he
 rw [(H.blk b hm).2] at hc
 injection hc with hc
 injection hc with _ hc
 have := List.all_eq_true.1 hb b hm
 simp [hc] at this
theorem Sat.again {bs1 : List Bk} (H : Sat gs w0 W bs rs) (hs : bs1.Sublist bs) (hg : ∀ b ∈ bs1, b.1 ∈ gs) : Sat gs W W bs1 [] :=
 ⟨xJ.refl _ _, fun x hx => ⟨.inl (hg x hx), (H.blk x (hs.subset hx)).2⟩, H.apart.sublist hs, by simp⟩
theorem Sat.trans {bs1 : List Bk} {rs1 : List Rw} (H : Sat gs w0 W bs rs) (H1 : Sat gs W w1 bs1 rs1) (hg : ∀ g ∈ gs, ∃ b ∈ bs, b.1 = g) (hf : (bs.all fun b => xC b.2.2 rs) = true) : Sat gs w0 w1 bs1 (rs ++ rs1) := by
 refine ⟨H.keep.trans H1.keep (fun x hx => .inl hx), fun x hx => ⟨?_, (H1.blk x hx).2⟩, H1.apart, fun r hr => ?_⟩
 ·rcases (H1.blk x hx).1 with h | h
  ·exact .inl h
  ·exact .inr (Nat.le_trans H.keep.size h)
 ·rcases List.mem_append.1 hr with hr | hr
  ·have h1 := H.rows r hr
   refine ⟨h1.1, h1.1 W w1 (fun k q cells hk hc hq => H1.keep.blk k hk (fun hm => ?_)) h1.2⟩
   obtain ⟨b, hb, rfl⟩ := hg k hm
   have h2 := List.all_eq_true.1 (List.all_eq_true.1 hf b hb) r hr
   rw [(H.blk b hb).2] at hc
   injection hc with hc
   injection hc with _ hc
   subst hc
   simp only [Bool.not_eq_true', List.contains_eq_mem, decide_eq_false_iff_not] at h2
   exact h2 hq
  ·exact H1.rows r hr
theorem Sat.elder {v : Value} (H : Sat gs w0 W bs (qA d e w0 v xs :: rs)) {bs1 : List Bk} {rs1 : List Rw} (H1 : Sat gs W w1 bs1 rs1) (hg : ∀ g ∈ gs, ∃ b ∈ bs, b.1 = g) (hb : (bs.all fun b => b.2.2 != e) = true) : ∀ b ∈ bs1, v.ownBlock ≠ some b.1 := fun b hm he => by
 rcases (H1.blk b hm).1 with h | h
 ·obtain ⟨x, hx, h2⟩ := hg b.1 h
  exact H.apartOf hb x hx (by rw [h2]; exact he)
 ·have := Kd.R_lt (H.rows _ (.head _)).2 b.1 he
  omega
theorem zcO {w : World} {base : Nat} {cs : List Value} (h0 : d.R e w base (fun _ => True) v xs) (hp : d.M w base (fun _ => True) p cs) (hE : d.E.contains e = false) : d.M w base (fun k => True ∧ some k ≠ v.ownBlock) p cs :=
 d.M_mono (fun k hk => ⟨trivial, fun he => by
  obtain ⟨_, _, _, q, hq, cells, hc⟩ := hk
  obtain ⟨cells', hc'⟩ := Kd.R_typed h0 k he.symm
  rw [hc] at hc'
  injection hc' with hc'
  injection hc' with _ hc'
  subst hc'
  have : d.E.contains q = true := by simpa using hq
  rw [this] at hE
  cases hE⟩) (d.M_bound hp)
theorem RT.ap (H : Sat gs w0 W bs (qA d e w0 v xs :: rs)) {cs : List Value} {i j d1 d2 : Nat} {o1 o2 : Oper} {s x : Operand} {t : TypeId} {z : Value} {bytes : Nat} (hp : d.M W w0.heap.size (fun _ => True) p cs) (hl : (xs.length + 1) * bytes ≤ 140737488355328) (hS : ∀ w', Lk w' bs → S w') (hb : ∀ b ∈ bs, v.ownBlock ≠ some b.1)
  (h : ∀ A c w1, Sat gs w0 w1 bs (qA d e w0 (.slice A (xs ++ [p]).length c) (xs ++ [p]) :: rs) → RT P ops Q S r ((a.put (some d1) (.slice (some ⟨W.heap.size, 0, none⟩) 1 1)).put (some d2) (.slice A (xs ++ [p]).length c)) w1)
  (ho1 : ops[i]? = some o1 := by (with_reducible (apply gaA; (repeat (apply gaS)); exact gaZ))) (hd1 : o1.dst = some d1 := by rfl) (hw1 : Region.wanted o1 (yielded ops a.tmps) = true := by rfl) (hr1 : (execOp a.eval o1).run P W = .ok (.value (.slice (some ⟨W.heap.size, 0, none⟩) 1 1)) (W.alloc (.cells cs.toArray e)) := by (go_simp; try rfl))
  (ho2 : ops[j]? = some o2 := by (with_reducible (apply gaA; (repeat (apply gaS)); exact gaZ))) (hd2 : o2.dst = some d2 := by rfl) (hw2 : Region.wanted o2 (yielded ops (a.put (some d1) (.slice (some ⟨W.heap.size, 0, none⟩) 1 1)).tmps) = true := by rfl) (hop : o2.op = .call { callee := .builtin .append, args := #[s, x], argTypes := #[t, t] } := by rfl)
  (hs : (a.put (some d1) (.slice (some ⟨W.heap.size, 0, none⟩) 1 1)).eval s = v := by rfl) (hx : (a.put (some d1) (.slice (some ⟨W.heap.size, 0, none⟩) 1 1)).eval x = .slice (some ⟨W.heap.size, 0, none⟩) 1 1 := by rfl)
  (ht : P.underlying t = some (.slice e) := by rfl) (hinfo : (P.info? e).map (fun i => (i.zero, i.size, i.bytes)) = some (some z, d.sz, bytes) := by rfl) (hz : z.cells.size = d.sz := by rfl) (hs0 : 0 < d.sz := by decide) (hb0 : 0 < bytes := by decide)
  (hE : d.E.contains e = false := by rfl) (hf : xC e rs = true := by rfl) : RT P ops Q S (.op i 2 d1 (.op j 2 d2 r)) a W := by
 have h0 := (H.rows _ (.head _)).2
 refine RT.o1 (fun K1 hK1 => ?_) ho1 hd1
 have hst := vH (o := o1) (Q := Q) (Kc := K1) hw1 hr1
 rw [hd1] at hst
 refine hst ?_
 refine hK1 _ _ (hS _ (H.call (zc (Below.refl _ _) _)).lk) (fun _ => ?_)
 refine RT.o1 (fun K2 hK2 => ?_) ho2 hd2
 have := Kd.R_append_step (P := P) (ops := ops) (Q := Q) (Kc := K2) d (w0 := xM W w0.heap.size) (W := W) w0.heap.size hw2 s x t e z bytes hop ht hinfo hz hs0 hb0 v xs p cs (fun _ => True) _ hs hx (zcO h0 hp hE) (fun _ hk => hk) (fun _ _ => trivial) h0
  ⟨rfl, rfl, rfl, by rw [ZJ H.keep.size]; exact H.keep.size, (YR H.keep.size).block |> fun hb k hk => hb k (by rw [ZJ H.keep.size]; exact hk)⟩ H.keep.size hl ?_
 ·rw [hd2] at this
  exact this
 ·intro v1 w1 hr hbl hg _
  obtain ⟨A, c, rfl⟩ := Kd.R_slice hr
  have HS := H.grown hr hg (show W.tape = w1.tape from hbl.tape.symm) hb hf
  rw [hd2]
  exact hK2 _ _ (hS _ HS.lk) (fun _ => h A c w1 HS)
theorem xv {w : World} {bs bs1 : List Bk} (hs : bs1.Sublist bs) (h : Lk w bs) : Lk w bs1 := by
 induction hs with
 | slnil => trivial
 | cons x _ ih => exact ih h.2
 | cons_cons x _ ih => exact ⟨h.1, ih h.2⟩
theorem yE {id : Nat} (p : PT) (ds : List Nat) {bs1 : List Bk} (H : Sat gs w0 W bs rs) (hs : bs1.Sublist bs) (h : Sat gs w0 (W.drewN 1) bs rs → Lk (W.drewN 1) bs1 → RT P ops Q (fun W => Lk W bs1) p a (W.drewN 1)) (hm : P.follows .mixedOrders = true := by kernel_rfl) (hn : ops.size = p.len := by rfl) (hp : qk ops ds p (Array.replicate p.len false) = true := by kernel_rfl)
  (hQ : ∀ c t v a w, Q (.panic c) (Act.put a t v) w → Q (.panic c) a w := by (intro _ t _ _ _ h; cases t <;> exact h)) : (Code.region id ops true).wp P Q a W :=
 VJ p ds _ hm hn hp hQ (xv hs (H.drewN 1).lk) (fun hS => h (H.drewN 1) hS)
end
end Go.Proofs.YtepipnpfggnadaaGreat.Q
