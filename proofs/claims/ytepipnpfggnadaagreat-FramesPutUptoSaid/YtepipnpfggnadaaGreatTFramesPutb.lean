/- Texts of this session laid together (shrink.py): what the claim's law rests on. -/
import Derived.Below
import Derived.Deep.Draws
import Derived.Deep.AppendLies
import Derived.Maps.AppendAt
import Derived.OwnWalk
import Derived.Laws.BytesArg
import Derived.Laws.MakeOwn
import Derived.Laws.OwnMore
import Derived.Deep.OwnRows
import Derived.Tactics
import Derived.Lib.ConvBytes
import Derived.Laws.Slices
import Derived.WalkKit
import Derived.KernelRfl
import Derived.RowKit3
import Derived.Deep.LoopGhost
import Derived.Deep.QuietTactic
import Derived.BigQuiet
import Derived.WideLaws
import Derived.Deep.DeepCutAuto
import Derived.Deep.CutBlock
import Derived.Deep.RegionHeld3
import Derived.Laws.Rows
import Derived.Lib.AppendStr
import Derived.ArgAppend
import Derived.Laws.IdiomCopy
import Derived.RowKit
import Derived.OrdersHeld
import Derived.Laws.BitsLemmas
import Derived.Laws.StructEq
import Derived.Test.YtepipnpfggnadaaGreatProg
import Derived.WalkMore
import Derived.Lib.Strings
import Derived.Test.YtepipnpfggnadaaGreatTFramesPuta
set_option linter.unusedVariables false
set_option linter.unusedSimpArgs false
set_option maxRecDepth 100000
set_option maxHeartbeats 8000000
open List renaming setIfInBounds_toArray → zdG
open List renaming set_cons_zero → zdH
open List renaming set_cons_succ → zdI
open List renaming map_toArray → zdJ
open Option renaming bind_eq_some_iff → zdK
open Go.World renaming block_lt_of_cell? → zdL
open Bool renaming eq_false_iff → zdM
open List renaming length_append → zdN
namespace Go.Proofs.YtepipnpfggnadaaGreat.Q
open Go.RowKit Go.Proofs.YtepipnpfggnadaaGreatW.PrintWords Go.Proofs.YtepipnpfggnadaaGreatW.PrintLast Go.Proofs.YtepipnpfggnadaaGreatW.PrintMore
abbrev vN (w0 : World) (v : Value) (xs : List Int) : Rw := qA (Kd.int .u8) 5 w0 v xs
abbrev JN (w0 : World) (v : Value) (xs : List Int) : Rw := qA (Kd.int .i64) 3 w0 v xs
abbrev Grew (w0 w : World) (v : Value) (r : List Int) (e : Ending) (w' : World) : Prop := ∃ v1, e = .returned v1 ∧ Kd.R (Kd.int .u8) 5 w' w0.heap.size (fun k => some k = v.ownBlock ∨ w.heap.size ≤ k) v1 r ∧ Below w0.heap.size w0 w' ∧ zj w w' (fun k => some k = v.ownBlock)
section
variable {P : Program} {ops : Array Oper} {Q : Exit → Act → World → Prop} {i d : Nat} {r : PT} {a : Act} {w w0 w1 : World} {o : Oper} {bs bs1 : List Bk} {rs : List Rw} {v v1 : Value} {xs ys : List Int}
theorem Sat.grew (H : Sat [] w0 w bs (vN w0 v xs :: rs)) (hr : Kd.R (Kd.int .u8) 5 w1 w0.heap.size (fun _ => True) v1 ys) (hb1 : Below w0.heap.size w0 w1) (hk : zj w w1 (fun k => some k = v.ownBlock)) (hb : (bs.all fun b => b.2.2 != 5) = true) (hf : xC 5 rs = true) : Sat [] w0 w1 bs (vN w0 v1 ys :: rs) := by
 refine ⟨xJ.of_below hb1, fun x hx => ⟨(H.blk x hx).1, (hk.2 _ (xY (H.blk x hx).2) (fun he => H.apartOf hb x hx he.symm)).trans (H.blk x hx).2⟩, H.apart, fun y hy => ?_⟩
 rcases List.mem_cons.1 hy with rfl | hm
 ·exact ⟨Ty.R _ _ _ v1 ys, hr⟩
 ·have h1 := H.rows y (List.mem_cons_of_mem _ hm)
  refine ⟨h1.1, h1.1 w w1 (fun k q cells hlt hc hq => hk.2 k hlt (fun he => ?_)) h1.2⟩
  obtain ⟨cells', hc'⟩ := Kd.R_typed (H.rows _ (.head _)).2 k he.symm
  rw [hc] at hc'
  injection hc' with hc'
  injection hc' with _ hc'
  subst hc'
  have h2 := List.all_eq_true.1 hf y hm
  simp only [Bool.not_eq_true', List.contains_eq_mem, decide_eq_false_iff_not] at h2
  exact h2 hq
theorem Sat.bytes (H : Sat [] w0 w bs (vN w0 v xs :: rs)) : Kd.R (Kd.int .u8) 5 w w0.heap.size (fun k => some k = v.ownBlock) v xs := Kd.R_tight rfl (H.rows _ (.head _)).2
theorem Sat.gr (H : Sat [] w0 w bs (vN w0 v xs :: rs)) {f : FuncId} {args : Array Value} {K : Ending → World → Prop} (hc : Calls P f args w (Grew w0 w v ys)) (h : ∀ A c w', Sat [] w0 w' bs (vN w0 (.slice A ys.length c) ys :: rs) → K (.returned (.slice A ys.length c)) w')
  (hb : (bs.all fun b => b.2.2 != 5) = true := by rfl) (hf : xC 5 rs = true := by rfl) : Calls P f args w K :=
 hc.mono fun e w' he => by
  obtain ⟨v1, rfl, hr, hb1, hk⟩ := he
  obtain ⟨A, c, rfl⟩ := Kd.R_slice hr
  exact h A c w' (H.grew (Kd.R_mono hr (fun _ _ => trivial)) hb1 hk hb hf)
theorem Sat.now {A : Option Addr} {n c : Nat} (H : Sat [] w0 w bs (vN w0 (.slice A n c) xs :: rs)) : n = xs.length ∧ n ≤ c ∧ (Kd.int .u8).C w A xs.length xs := Kd.R_reads' (H.rows _ (.head _)).2
theorem Sat.came (H : Sat [] w0 w bs (vN w0 v xs :: rs)) {α : Type} {dk : Kd α} {A : Option Addr} {n : Nat} {l : List α} (hd : Kd.Heap dk) (hl : dk.C w0 A n l) : ∀ W, zj w W (fun k => some k = v.ownBlock) → dk.C W A n l :=
 Kd.C_kept_came hd hl H.below (fun k hk => Kd.R_base (H.rows _ (.head _)).2 k hk.symm)
theorem Sat.made {A : Option Addr} {n c : Nat} {l : List Int} (H : Sat [] w0 w bs (vN w0 v xs :: JN w0 (.slice A n c) l :: rs)) : ∀ W, zj w W (fun k => some k = v.ownBlock) → (Kd.int .i64).C W A n l := by
 have h1 := (H.rows _ (.tail _ (.head _))).2
 refine Kd.C_kept_own (Kd.R_bound h1) (fun k hk he => ?_)
 obtain ⟨_, _, _, q, hq, cells, hc⟩ := hk
 obtain ⟨cells', hc'⟩ := Kd.R_typed (H.rows _ (.head _)).2 k he.symm
 rw [hc] at hc'
 injection hc' with hc'
 injection hc' with _ hc'
 subst hc'
 revert hq
 decide
theorem Sat.lit {r0 : Rw} {l : List Int} (H : Sat [] w0 w bs (r0 :: rs)) (hl : l.length ≤ 9223372036854775807) : Sat [] w0 (w.alloc (.cells (yH .i64 l).toArray 3)) bs (r0 :: JN w0 (.slice (some ⟨w.heap.size, 0, none⟩) l.length l.length) l :: rs) := by
 have h1 := H.call (zc (Below.refl _ _) (.cells (yH .i64 l).toArray 3))
 have hrow : (Kd.int .i64).R 3 (w.alloc (.cells (yH .i64 l).toArray 3)) w0.heap.size (fun _ => True) (.slice (some ⟨w.heap.size, 0, none⟩) l.length l.length) l :=
  Kd.R_of_own (zcZ w w0.heap.size 3 .i64 l H.keep.size hl) (fun _ _ => trivial)
 refine ⟨h1.keep, h1.blk, h1.apart, fun y hy => ?_⟩
 rcases List.mem_cons.1 hy with rfl | hy
 ·exact h1.rows _ (.head _)
 rcases List.mem_cons.1 hy with rfl | hy
 ·exact ⟨Ty.R _ _ _ _ _, hrow⟩
 ·exact h1.rows y (.tail _ hy)
abbrev Stp (P : Program) (ops : Array Oper) (Q : Exit → Act → World → Prop) (S : World → Prop) (X : Act → World → Prop) (o : Oper) (d : Nat) (a : Act) (w : World) : Prop := ∀ K : Act → World → Prop, (∀ a' w', S w' → (S w' → X a' w') → K a' w') → if Region.wanted o (yielded ops a.tmps) = true then Oper.wp P o a w K Q else K (a.put (some d) undef) w
variable {X : Act → World → Prop}
theorem Yb {r0 : Rw} {l : List Int} (H : Sat [] w0 w bs (r0 :: rs)) (hs : bs1.Sublist bs) (h : ∀ g w', Sat [] w0 w' bs (r0 :: JN w0 (.slice (some ⟨g, 0, none⟩) l.length l.length) l :: rs) → X (a.put (some d) (.slice (some ⟨g, 0, none⟩) l.length l.length)) w') (hl : l.length ≤ 9223372036854775807)
  (hd : o.dst = some d := by rfl) (hw : Region.wanted o (yielded ops a.tmps) = true := by rfl) (hr : (execOp a.eval o).run P w = .ok (.value (.slice (some ⟨w.heap.size, 0, none⟩) l.length l.length)) (w.alloc (.cells (yH .i64 l).toArray 3)) := by (go_simp; rfl)) : Stp P ops Q (fun W => Lk W bs1) X o d a w := by
 have h2 := H.lit hl
 intro K hK
 have hst := vH (o := o) (Q := Q) (Kc := K) hw hr
 rw [hd] at hst
 exact hst (hK _ _ (xv hs h2.lk) (fun _ => h _ _ h2))
theorem Qc (H : Sat [] w0 w bs (vN w0 v xs :: rs)) (hs : bs1.Sublist bs) {f : FuncId} {fn : Func} {c : Operand} {ax : Array Operand} {ts : Array TypeId} {args : Array Value} (hc : Calls P f args w (Grew w0 w v ys))
  (h : ∀ A c w', Sat [] w0 w' bs (vN w0 (.slice A ys.length c) ys :: rs) → X (a.put (some d) (.slice A ys.length c)) w')
  (hd : o.dst = some d := by rfl) (hop : o.op = .call { callee := .value c, args := ax, argTypes := ts } := by rfl) (hcv : a.eval c = .func (Fn.func f) #[] #[] := by rfl) (hargs : ax.map a.eval = args := by (simp only [zdJ, List.map_cons, List.map_nil]; rfl)) (hf : P.funcs[f]? = some fn := by rfl)
  (hname : (fn.name == "runtime.NumGoroutine") = false := by rfl) (hbd : fn.body.isSome = true := by rfl) (hw : Region.wanted o (yielded ops a.tmps) = true := by rfl) (hb : (bs.all fun b => b.2.2 != 5) = true := by rfl) (hfr : xC 5 rs = true := by rfl) : Stp P ops Q (fun W => Lk W bs1) X o d a w :=
 fun K hK => Z1 (H.gr hc (fun A c w' HS => ⟨_, rfl, hK _ _ (xv hs HS.lk) (fun _ => h A c w' HS)⟩) hb hfr) hf hop hcv hargs hname hbd hw hd
theorem xS {gs : List Nat} (H : Sat gs w0 w bs rs) (hs : bs1.Sublist bs) {f : FuncId} {fn : Func} {c : Operand} {ax : Array Operand} {ts : Array TypeId} {args : Array Value} {u : Value} (hc : Calls P f args w fun e w' => e = .returned u ∧ Below w.heap.size w w')
  (h : ∀ w', Sat gs w0 w' bs rs → X (a.put (some d) u) w')
  (hd : o.dst = some d := by rfl) (hop : o.op = .call { callee := .value c, args := ax, argTypes := ts } := by rfl) (hcv : a.eval c = .func (Fn.func f) #[] #[] := by rfl) (hargs : ax.map a.eval = args := by (simp only [zdJ, List.map_cons, List.map_nil]; rfl)) (hf : P.funcs[f]? = some fn := by rfl)
  (hname : (fn.name == "runtime.NumGoroutine") = false := by rfl) (hbd : fn.body.isSome = true := by rfl) (hw : Region.wanted o (yielded ops a.tmps) = true := by rfl) : Stp P ops Q (fun W => Lk W bs1) X o d a w :=
 fun K hK => Z1 (H.go hc (fun w' HS => ⟨_, rfl, hK _ _ (xv hs HS.lk) (fun _ => h w' HS)⟩)) hf hop hcv hargs hname hbd hw hd
theorem qq {f : FuncId} {args : Array Value} {u : Value} (hc : Calls P f args w fun e w' => e = .returned u ∧ zi w w') : Calls P f args w fun e w' => e = .returned u ∧ Below w.heap.size w w' := hc.mono fun e w' he => ⟨he.1, he.2.below⟩
end
section
variable {P : Program} {ops : Array Oper} {Q : Exit → Act → World → Prop} {d : Nat} {a : Act} {w w0 : World} {o : Oper} {bs : List Bk} {rs : List Rw} {S : World → Prop} {X : Act → World → Prop}
theorem xU {gs : List Nat} (H : Sat gs w0 w bs rs) (hS : ∀ w', Sat gs w0 w' bs rs → S w') {f : FuncId} {fn : Func} {c : Operand} {ax : Array Operand} {ts : Array TypeId} {args : Array Value} {u : Value} (hc : Calls P f args w fun e w' => e = .returned u ∧ Below w.heap.size w w')
  (h : ∀ w', S w' → Sat gs w0 w' bs rs → X (a.put (some d) u) w')
  (hd : o.dst = some d := by rfl) (hop : o.op = .call { callee := .value c, args := ax, argTypes := ts } := by rfl) (hcv : a.eval c = .func (Fn.func f) #[] #[] := by rfl) (hargs : ax.map a.eval = args := by (simp only [zdJ, List.map_cons, List.map_nil]; rfl)) (hf : P.funcs[f]? = some fn := by rfl)
  (hname : (fn.name == "runtime.NumGoroutine") = false := by rfl) (hbd : fn.body.isSome = true := by rfl) (hw : Region.wanted o (yielded ops a.tmps) = true := by rfl) : Stp P ops Q S X o d a w :=
 fun K hK => Z1 (H.go hc (fun w' HS => ⟨_, rfl, hK _ _ (hS _ HS) (fun hs => h w' hs HS)⟩)) hf hop hcv hargs hname hbd hw hd
theorem Sat.hd {gs : List Nat} {g t : Nat} {cs : List Value} (H : Sat gs w0 w ((g, cs, t) :: bs) rs) : ∃ g', g' = g := ⟨g, rfl⟩
theorem Sat.at_ {p : Addr} {v : Value} (H : Sat [] w0 w bs rs) (h : w0.cell? p = some v) : w.cell? p = some v := (H.below.cell (zdL _ _ h)).trans h
end
structure Fm where
 f0 : Int
 f1 : Int
 f2 : Int
 f3 : Int
 f4 : Int
 f5 : List ByteArray
 f6 : List S52
 f7 : List S46
 f8 : List S86
 f9 : List S77
def Rd {α : Type} (d : Kd α) (w : World) (v : Value) (xs : List α) : Prop := ∃ A c, v = .slice A xs.length c ∧ xs.length ≤ c ∧ d.C w A xs.length xs
section
variable {α : Type} {d : Kd α} {w w' : World} {v : Value} {xs : List α} {e base : Nat} {ok : Nat → Prop}
theorem Rd.below (h : Rd d w v xs) (hb : Below w.heap.size w w') : Rd d w' v xs := by
 obtain ⟨A, c, rfl, h1, h2⟩ := h
 exact ⟨A, c, rfl, h1, Kd.C_below h2 hb⟩
theorem Rd.id (h : Rd d w v xs) : ∃ A c, v = .slice A xs.length c ∧ True := by
 obtain ⟨A, c, h1, _⟩ := h
 exact ⟨A, c, h1, trivial⟩
theorem Z4 (h : d.R e w base ok v xs) : Rd d w v xs := Kd.R_reads h
theorem jS : Rd d w (.slice none 0 0) [] := Z4 (Kd.R_nil d 0 w 0 (fun _ => True))
end
def FmC (w : World) (x : Fm) (cs : List Value) : Prop := ∃ v5 v6 v7 v8 v9, cs = [.int .i64 x.f0, .int .i64 x.f1, .int .i64 x.f2, .int .i64 x.f3, .int .i64 x.f4, v5, v6, v7, v8, v9] ∧ Rd Kd.string w v5 x.f5 ∧ Rd k52 w v6 x.f6 ∧ Rd k46 w v7 x.f7 ∧ Rd k86 w v8 x.f8 ∧ Rd k77 w v9 x.f9
theorem FmC.below {w w' : World} {x : Fm} {cs : List Value} (h : FmC w x cs) (hb : Below w.heap.size w w') : FmC w' x cs := by
 obtain ⟨v5, v6, v7, v8, v9, h0, h5, h6, h7, h8, h9⟩ := h
 exact ⟨v5, v6, v7, v8, v9, h0, h5.below hb, h6.below hb, h7.below hb, h8.below hb, h9.below hb⟩
def FmO (w : World) (b : Nat) (x : Fm) (cs : List Value) : Prop := ∃ v5 v6 v7 v8 v9, cs = [.int .i64 x.f0, .int .i64 x.f1, .int .i64 x.f2, .int .i64 x.f3, .int .i64 x.f4, v5, v6, v7, v8, v9] ∧ Kd.string.R 9 w b (fun _ => True) v5 x.f5 ∧ k52.R 52 w b (fun _ => True) v6 x.f6 ∧ k46.R 46 w b (fun _ => True) v7 x.f7 ∧ k86.R 86 w b (fun _ => True) v8 x.f8 ∧ k77.R 77 w b (fun _ => True) v9 x.f9
theorem oN {α : Type} {d : Kd α} {w : World} {b e : Nat} : d.R e w b (fun _ => True) (.slice none 0 0) [] := Kd.R_nil _ _ _ _ _
structure Sl where
 A5 : Option Addr
 c5 : Nat
 A6 : Option Addr
 c6 : Nat
 A7 : Option Addr
 c7 : Nat
 A8 : Option Addr
 c8 : Nat
 A9 : Option Addr
 c9 : Nat
abbrev fmS (x : Fm) (S : Sl) : List Value := [.int .i64 x.f0, .int .i64 x.f1, .int .i64 x.f2, .int .i64 x.f3, .int .i64 x.f4, .slice S.A5 x.f5.length S.c5, .slice S.A6 x.f6.length S.c6, .slice S.A7 x.f7.length S.c7, .slice S.A8 x.f8.length S.c8, .slice S.A9 x.f9.length S.c9]
def Zb (x : Fm) (S : Sl) : List Value := if (x.f0 == 1) = true then [.int .i64 0, .int .i64 0, .int .i64 0, .int .i64 x.f3, .int .i64 x.f4, .slice S.A5 x.f5.length S.c5, .slice none 0 0, .slice none 0 0, .slice none 0 0, .slice none 0 0] else if (x.f0 == 2) = true then [.int .i64 0, .int .i64 0, .int .i64 0, .int .i64 0, .int .i64 0, .slice none 0 0, .slice S.A6 x.f6.length S.c6, .slice none 0 0, .slice none 0 0, .slice none 0 0] else if (x.f0 == 3) = true then [.int .i64 0, .int .i64 0, .int .i64 0, .int .i64 0, .int .i64 x.f4, .slice none 0 0, .slice none 0 0, .slice none 0 0, .slice none 0 0, .slice none 0 0] else if (x.f0 == 4) = true then [.int .i64 0, .int .i64 0, .int .i64 0, .int .i64 x.f3, .int .i64 x.f4, .slice none 0 0, .slice none 0 0, .slice S.A7 x.f7.length S.c7, .slice none 0 0, .slice none 0 0] else [.int .i64 0, .int .i64 0, .int .i64 0, .int .i64 0, .int .i64 x.f4, .slice none 0 0, .slice none 0 0, .slice none 0 0, .slice S.A8 x.f8.length S.c8, .slice S.A9 x.f9.length S.c9]
theorem zae (x : Fm) (S : Sl) (w : World) : Calls Tryz.prog 90 #[.agg #[], .agg (fmS x S).toArray] w fun e w' => e = .returned (.agg #[.int .i64 0, .int .i64 0, .int .i64 0, .int .i64 x.f3, .int .i64 x.f4, .slice S.A5 x.f5.length S.c5, .slice none 0 0, .slice none 0 0, .slice none 0 0, .slice none 0 0]) ∧ Below w.heap.size w w' := by
 have HS := Sat.nil w
 go_enter Tryz.func90, Tryz.ntmps90
 go_wp2_with ((first | ((with_reducible refine gB rfl ?_); refine zz HS ?_) | ((with_reducible refine gA rfl ?_); refine zt HS ?_) | ((with_reducible refine gS rfl ?_); refine zu HS ?_)); clear HS; (try clear hc); intros; rename_i HS; have hc := HS.lk; simp only [Lk, LkC, Value.cells, List.toList_toArray, Nat.reduceAdd, Nat.zero_add, and_true, zf, zg, ze, zh] at HS hc)
 refine bodyPost_ret (yZ rfl (.cell _ _ _ _ _ rfl (HS.blk _ (.head _)).2 Tryz.underlying28 rfl (by kernel_rfl) .nil)) rfl ?_
 exact ⟨rfl, HS.below⟩
theorem zbx (x : Fm) (S : Sl) (w : World) : Calls Tryz.prog 91 #[.agg #[], .agg (fmS x S).toArray] w fun e w' => e = .returned (.agg #[.int .i64 0, .int .i64 0, .int .i64 0, .int .i64 0, .int .i64 0, .slice none 0 0, .slice S.A6 x.f6.length S.c6, .slice none 0 0, .slice none 0 0, .slice none 0 0]) ∧ Below w.heap.size w w' := by
 have HS := Sat.nil w
 go_enter Tryz.func91, Tryz.ntmps91
 go_wp2_with ((first | ((with_reducible refine gB rfl ?_); refine zz HS ?_) | ((with_reducible refine gA rfl ?_); refine zt HS ?_) | ((with_reducible refine gS rfl ?_); refine zu HS ?_)); clear HS; (try clear hc); intros; rename_i HS; have hc := HS.lk; simp only [Lk, LkC, Value.cells, List.toList_toArray, Nat.reduceAdd, Nat.zero_add, and_true, zf, zg, ze, zh] at HS hc)
 refine bodyPost_ret (yZ rfl (.cell _ _ _ _ _ rfl (HS.blk _ (.head _)).2 Tryz.underlying28 rfl (by kernel_rfl) .nil)) rfl ?_
 exact ⟨rfl, HS.below⟩
theorem zcb (x : Fm) (S : Sl) (w : World) : Calls Tryz.prog 92 #[.agg #[], .agg (fmS x S).toArray] w fun e w' => e = .returned (.agg #[.int .i64 0, .int .i64 0, .int .i64 0, .int .i64 0, .int .i64 x.f4, .slice none 0 0, .slice none 0 0, .slice none 0 0, .slice none 0 0, .slice none 0 0]) ∧ Below w.heap.size w w' := by
 have HS := Sat.nil w
 go_enter Tryz.func92, Tryz.ntmps92
 go_wp2_with ((first | ((with_reducible refine gB rfl ?_); refine zz HS ?_) | ((with_reducible refine gA rfl ?_); refine zt HS ?_) | ((with_reducible refine gS rfl ?_); refine zu HS ?_)); clear HS; (try clear hc); intros; rename_i HS; have hc := HS.lk; simp only [Lk, LkC, Value.cells, List.toList_toArray, Nat.reduceAdd, Nat.zero_add, and_true, zf, zg, ze, zh] at HS hc)
 refine bodyPost_ret (yZ rfl (.cell _ _ _ _ _ rfl (HS.blk _ (.head _)).2 Tryz.underlying28 rfl (by kernel_rfl) .nil)) rfl ?_
 exact ⟨rfl, HS.below⟩
theorem zap (x : Fm) (S : Sl) (w : World) : Calls Tryz.prog 93 #[.agg #[], .agg (fmS x S).toArray] w fun e w' => e = .returned (.agg #[.int .i64 0, .int .i64 0, .int .i64 0, .int .i64 x.f3, .int .i64 x.f4, .slice none 0 0, .slice none 0 0, .slice S.A7 x.f7.length S.c7, .slice none 0 0, .slice none 0 0]) ∧ Below w.heap.size w w' := by
 have HS := Sat.nil w
 go_enter Tryz.func93, Tryz.ntmps93
 go_wp2_with ((first | ((with_reducible refine gB rfl ?_); refine zz HS ?_) | ((with_reducible refine gA rfl ?_); refine zt HS ?_) | ((with_reducible refine gS rfl ?_); refine zu HS ?_)); clear HS; (try clear hc); intros; rename_i HS; have hc := HS.lk; simp only [Lk, LkC, Value.cells, List.toList_toArray, Nat.reduceAdd, Nat.zero_add, and_true, zf, zg, ze, zh] at HS hc)
 refine bodyPost_ret (yZ rfl (.cell _ _ _ _ _ rfl (HS.blk _ (.head _)).2 Tryz.underlying28 rfl (by kernel_rfl) .nil)) rfl ?_
 exact ⟨rfl, HS.below⟩
theorem zav (x : Fm) (S : Sl) (w : World) : Calls Tryz.prog 94 #[.agg #[], .agg (fmS x S).toArray] w fun e w' => e = .returned (.agg #[.int .i64 0, .int .i64 0, .int .i64 0, .int .i64 0, .int .i64 x.f4, .slice none 0 0, .slice none 0 0, .slice none 0 0, .slice S.A8 x.f8.length S.c8, .slice S.A9 x.f9.length S.c9]) ∧ Below w.heap.size w w' := by
 have HS := Sat.nil w
 go_enter Tryz.func94, Tryz.ntmps94
 go_wp2_with ((first | ((with_reducible refine gB rfl ?_); refine zz HS ?_) | ((with_reducible refine gA rfl ?_); refine zt HS ?_) | ((with_reducible refine gS rfl ?_); refine zu HS ?_)); clear HS; (try clear hc); intros; rename_i HS; have hc := HS.lk; simp only [Lk, LkC, Value.cells, List.toList_toArray, Nat.reduceAdd, Nat.zero_add, and_true, zf, zg, ze, zh] at HS hc)
 refine bodyPost_ret (yZ rfl (.cell _ _ _ _ _ rfl (HS.blk _ (.head _)).2 Tryz.underlying28 rfl (by kernel_rfl) .nil)) rfl ?_
 exact ⟨rfl, HS.below⟩
theorem kind5 (n : Int) : (n == 1) = true ∨ ((n == 1) = false ∧ (n == 2) = true) ∨ ((n == 1) = false ∧ (n == 2) = false ∧ (n == 3) = true) ∨ ((n == 1) = false ∧ (n == 2) = false ∧ (n == 3) = false ∧ (n == 4) = true) ∨ ((n == 1) = false ∧ (n == 2) = false ∧ (n == 3) = false ∧ (n == 4) = false) := by
 cases (n == 1) <;> cases (n == 2) <;> cases (n == 3) <;> cases (n == 4) <;> simp
theorem zaS (x : Fm) (S : Sl) (w : World) : Calls Tryz.prog 53 #[.agg (fmS x S).toArray] w fun e w' => e = .returned (.agg (Zb x S).toArray) ∧ Below w.heap.size w w' := by
 have HS := Sat.nil w
 rcases kind5 x.f0 with c | c | c | c | c
 all_goals
  simp only [Zb, c, ↓reduceIte, Bool.false_eq_true]
  go_enter Tryz.func53, Tryz.ntmps53
  go_wp2_with ((first | ((with_reducible refine gB rfl ?_); refine zz HS ?_) | ((with_reducible refine gA rfl ?_); refine zt HS ?_) | ((with_reducible refine gS rfl ?_); refine zu HS ?_) | (go_at_call 90; refine HS.go (zae x S _) ?_) | (go_at_call 91; refine HS.go (zbx x S _) ?_) | (go_at_call 92; refine HS.go (zcb x S _) ?_) | (go_at_call 93; refine HS.go (zap x S _) ?_) | (go_at_call 94; refine HS.go (zav x S _) ?_)); clear HS; (try clear hc); intros; rename_i HS; have hc := HS.lk; simp only [Lk, LkC, Value.cells, List.toList_toArray, Nat.reduceAdd, Nat.zero_add, and_true, zf, zg, ze, zh] at HS hc)
  refine bodyPost_ret (yZ rfl (.cell _ _ _ _ _ rfl (HS.blk _ (.head _)).2 Tryz.underlying28 rfl (by kernel_rfl) .nil)) rfl ?_
  exact ⟨rfl, HS.below⟩
theorem zC {α β : Type} {o : Option α} {x : α} (h : o = some x) (f : α → Option β) : o.bind f = f x := by rw [h]; rfl
theorem z4 {i : Int} (h0 : 0 ≤ i) (h : i < 9223372036854775807) : wrap64 (i + 1) = i + 1 := by
 unfold wrap64
 omega
theorem xo {i : Int} (h0 : -9223372036854775808 ≤ i) (h : i ≤ 9223372036854775807) : wrap64 i = i := by
 unfold wrap64
 omega
def bl (s : ByteArray) : List Nat := s.data.toList.map (·.toNat)
theorem yo (s : ByteArray) : (bl s).length = s.size := by simp [bl, XE]
theorem Xx (s : ByteArray) : ∀ c ∈ bl s, c < 256 := by
 intro c hc
 simp only [bl, List.mem_map] at hc
 obtain ⟨b, _, rfl⟩ := hc
 exact b.toNat_lt
theorem ZQ (s : ByteArray) (i : Nat) (hi : i < s.size) : bt s (i : Int) = (((bl s)[i]'(by rw [yo]; exact hi) : Nat) : Int) := by
 simp only [bt, Int.toNat_natCast, dif_pos hi, bl, List.getElem_map]
 rfl
theorem jX (s : ByteArray) (i : Nat) (hi : i < s.size) : (bl s).drop i = (bl s)[i]'(by rw [yo]; exact hi) :: (bl s).drop (i + 1) := List.drop_eq_getElem_cons _
theorem Qd (s : ByteArray) (i : Nat) (hi : i < (bl s).length) : (bl s)[i] < 256 := Xx s _ (List.getElem_mem hi)
theorem Qp {a b : ByteArray} (h : a.data.toList = b.data.toList) : a = b := by
 obtain ⟨⟨a⟩⟩ := a
 obtain ⟨⟨b⟩⟩ := b
 simp only at h
 rw [h]
theorem j7 {a b : ByteArray} : a.toList = b.toList ↔ a = b := by
 constructor
 ·intro h
  rw [Go.Lib.toList_data, Go.Lib.toList_data] at h
  exact Qp h
 ·intro h
  rw [h]
theorem vI {a b : ByteArray} (h : bl a = bl b) : a = b := by
 apply Qp
 unfold bl at h
 generalize a.data.toList = x at h
 generalize b.data.toList = y at h
 induction x generalizing y with
 | nil => cases y with
  | nil => rfl
  | cons c y => simp at h
 | cons c x ih => cases y with
  | nil => simp at h
  | cons d y =>
   simp only [List.map_cons, List.cons.injEq] at h
   rw [UInt8.toNat_inj.1 h.1, ih y h.2]
theorem ZI (a b : ByteArray) : bl (a ++ b) = bl a ++ bl b := by simp [bl, ByteArray.data_append]
theorem qV (s : ByteArray) (i j : Nat) : bl (s.extract i j) = ((bl s).take j).drop i := by
 simp [bl, ByteArray.data_extract, List.map_drop, List.map_take]
 rw [List.drop_take]
theorem VE (l : List Int) (h : ∀ x ∈ l, 0 ≤ x ∧ x < 256) : bl (strOfNums l) = l.map Int.toNat := by
 simp only [bl, strOfNums_data, List.map_map]
 apply List.map_congr_left
 intro x hx
 have := h x hx
 simp only [Function.comp_apply, UInt8.toNat_ofNat']
 omega
theorem vO (s : ByteArray) : bytesOf s = (bl s).map fun (n : Nat) => (n : Int) := by simp [bytesOf, bl]
theorem vz (a b : List Int) : strOfNums (a ++ b) = strOfNums a ++ strOfNums b := by
 apply Qp
 simp [strOfNums_data, ByteArray.data_append]
theorem xc (s : ByteArray) : strOfNums (bytesOf s) = s := by
 apply vI
 rw [VE _ (by intro x hx; rw [vO, List.mem_map] at hx; obtain ⟨n, hn, rfl⟩ := hx; have := Xx s n hn; omega), vO, List.map_map]
 have e : (Int.toNat ∘ fun (n : Nat) => (n : Int)) = id := by funext n; rfl
 rw [e, List.map_id]
attribute [local go_sem] jM jJ vE vD jm jl jL jO
def z3.l0 : Nat → List Int → List Int → Int → Int → Option (Bool)
 | 0, _, _, _, _ => none
 | k + 1, x0, x1, x12, x13 => if x13 < x12 then (if 0 ≤ x13 then (if x13 < (x0.length : Int) then (if x13 < (x1.length : Int) then (if (rd x0 x13) = (rd x1 x13) then (z3.l0 k x0 x1 x12 (wrap64 (x13 + 1))) else (some false)) else (none)) else (none)) else (none)) else (some true)
def z3.f (k : Nat) (l0 : List Int) (l1 : List Int) : Option (Bool) := if (l0.length : Int) = (l1.length : Int) then (z3.l0 k l0 l1 (l0.length : Int) 0) else (some false)
theorem z3.calls (k : Nat) (A0 : Option Addr) (c0 : Nat) (l0 : List Int) (A1 : Option Addr) (c1 : Nat) (l1 : List Int) (r : Bool) (w : World) (hr0 : Kd.C (Kd.int .i64) w A0 l0.length l0) (hc0 : l0.length ≤ c0) (hr1 : Kd.C (Kd.int .i64) w A1 l1.length l1) (hc1 : l1.length ≤ c1) (h : z3.f k l0 l1 = some r) :
  Calls Tryz.prog 85 #[.slice A0 l0.length c0, .slice A1 l1.length c1] w fun e w' => e = .returned (.bool r) ∧ zi w w' := by
 have HR0 := za.mk hr0
 have HC0 := za.mk hc0
 clear hr0 hc0
 have HR1 := za.mk hr1
 have HC1 := za.mk hc1
 clear hr1 hc1
 have H : (if (l0.length : Int) = (l1.length : Int) then (z3.l0 k l0 l1 (l0.length : Int) 0) else (some false)) = some r := h
 clear h
 by_cases c3 : (l0.length : Int) = (l1.length : Int)
 ·rw [if_pos c3] at H
  have c3b0 : ((l0.length : Int) == (l1.length : Int)) = true := beq_iff_eq.mpr c3
  have c3b1 : ((l0.length : Int) != (l1.length : Int)) = false := bne_eq_false_iff_eq.mpr c3
  have c3b2 : (l0.length == l1.length) = true := by first | simpa using c3 | (simp at c3 ⊢; omega)
  clear c3
  have H' := za.mk H
  clear H
  go_enter Tryz.func85, Tryz.ntmps85
  go_wp2
  repeat (go_quiet (fail); try go_wp2)
  go_loopg [13] k (fun kq v13 w' => ∃ (x13_1 : Int), v13 = .int .i64 x13_1 ∧ za (z3.l0 kq l0 l1 (l0.length : Int) x13_1 = some r) ∧ za (kq ≤ k) ∧ zi w w')
  case atStart => exact ⟨(0), (by first | rfl | (simp; done) | (simp [*]; done)), H', ⟨Nat.le_refl _⟩, by repeat (first | exact zi.refl _ | apply zi.step)⟩
  case round =>
   clear H'
   try clear c1
   try clear p2
   try clear c3
   try clear c3b0
   try clear c3b1
   try clear c3b2
   obtain ⟨x13_1, rfl, HA, HK1, ⟨m1, rfl⟩⟩ := hrel
   cases gk with
   | zero => exact absurd HA.out (by simp [z3.l0])
   | succ k1 =>
    have H := HA.out
    clear HA
    simp only [z3.l0] at H
    by_cases c4 : x13_1 < (l0.length : Int)
    ·rw [if_pos c4] at H
     have c4b0 : decide (x13_1 < (l0.length : Int)) = true := decide_eq_true c4
     clear c4
     by_cases c5 : 0 ≤ x13_1
     ·rw [if_pos c5] at H
      have c5b0 : decide (0 ≤ x13_1) = true := decide_eq_true c5
      clear c5
      by_cases c6 : x13_1 < (l0.length : Int)
      ·rw [if_pos c6] at H
       have c6b0 : decide (x13_1 < (l0.length : Int)) = true := decide_eq_true c6
       clear c6
       by_cases c7 : x13_1 < (l1.length : Int)
       ·rw [if_pos c7] at H
        have c7b0 : decide (x13_1 < (l1.length : Int)) = true := decide_eq_true c7
        clear c7
        by_cases c8 : (rd l0 x13_1) = (rd l1 x13_1)
        ·rw [if_pos c8] at H
         have c8b0 : ((rd l0 x13_1) == (rd l1 x13_1)) = true := beq_iff_eq.mpr c8
         have c8b1 : ((rd l0 x13_1) != (rd l1 x13_1)) = false := bne_eq_false_iff_eq.mpr c8
         clear c8
         have H' := za.mk H
         clear H
         have p116 : 0 ≤ (x13_1 : Int) := of_decide_eq_true (by first | (with_reducible assumption) | assumption)
         have q116 : x13_1 < (l0.length : Int) := of_decide_eq_true (by first | (with_reducible assumption) | assumption)
         obtain ⟨ad116, e116, hx116_0⟩ := Kd.at_int HR0.out x13_1 p116 q116
         cases e116
         replace p116 := eq_true p116
         replace q116 := eq_true q116
         have p117 : 0 ≤ (x13_1 : Int) := of_decide_eq_true (by first | (with_reducible assumption) | assumption)
         have q117 : x13_1 < (l1.length : Int) := of_decide_eq_true (by first | (with_reducible assumption) | assumption)
         obtain ⟨ad117, e117, hx117_0⟩ := Kd.at_int HR1.out x13_1 p117 q117
         cases e117
         replace p117 := eq_true p117
         replace q117 := eq_true q117
         go_wp2
         repeat (go_quiet (fail); try go_wp2)
         go_roundg k1
         case measure => have := HK1.out; omega
         case rel => exact ⟨(wrap64 (x13_1 + 1)), (by first | rfl | (simp; done) | (simp [*]; done)), H', ⟨by have := HK1.out; omega⟩, by repeat (first | exact zi.refl _ | apply zi.step)⟩
        ·rw [if_neg c8] at H
         have c8b0 : ((rd l0 x13_1) == (rd l1 x13_1)) = false := beq_eq_false_iff_ne.mpr c8
         have c8b1 : ((rd l0 x13_1) != (rd l1 x13_1)) = true := bne_iff_ne.mpr c8
         obtain rfl := Option.some.inj H
         have p116 : 0 ≤ (x13_1 : Int) := of_decide_eq_true (by first | (with_reducible assumption) | assumption)
         have q116 : x13_1 < (l0.length : Int) := of_decide_eq_true (by first | (with_reducible assumption) | assumption)
         obtain ⟨ad116, e116, hx116_0⟩ := Kd.at_int HR0.out x13_1 p116 q116
         cases e116
         replace p116 := eq_true p116
         replace q116 := eq_true q116
         have p117 : 0 ≤ (x13_1 : Int) := of_decide_eq_true (by first | (with_reducible assumption) | assumption)
         have q117 : x13_1 < (l1.length : Int) := of_decide_eq_true (by first | (with_reducible assumption) | assumption)
         obtain ⟨ad117, e117, hx117_0⟩ := Kd.at_int HR1.out x13_1 p117 q117
         cases e117
         replace p117 := eq_true p117
         replace q117 := eq_true q117
         go_wp2
         repeat (go_quiet (fail); try go_wp2)
         go_ret
         exact ⟨by first | rfl | (simp; done) | (simp [*]; done), by repeat (first | exact zi.refl _ | apply zi.step)⟩
       ·rw [if_neg c7] at H
        exact absurd H (by simp)
      ·rw [if_neg c6] at H
       exact absurd H (by simp)
     ·rw [if_neg c5] at H
      exact absurd H (by simp)
    ·rw [if_neg c4] at H
     have c4b0 : decide (x13_1 < (l0.length : Int)) = false := decide_eq_false c4
     clear c4
     obtain rfl := Option.some.inj H
     go_wp2
     repeat (go_quiet (fail); try go_wp2)
     go_ret
     exact ⟨by first | rfl | (simp; done) | (simp [*]; done), by repeat (first | exact zi.refl _ | apply zi.step)⟩
 ·rw [if_neg c3] at H
  have c3b0 : ((l0.length : Int) == (l1.length : Int)) = false := beq_eq_false_iff_ne.mpr c3
  have c3b1 : ((l0.length : Int) != (l1.length : Int)) = true := bne_iff_ne.mpr c3
  have c3b2 : (l0.length == l1.length) = false := by first | simpa using c3 | (simp at c3 ⊢; omega)
  obtain rfl := Option.some.inj H
  go_enter Tryz.func85, Tryz.ntmps85
  go_wp2
  repeat (go_quiet (fail); try go_wp2)
  go_ret
  exact ⟨by first | rfl | (simp; done) | (simp [*]; done), by repeat (first | exact zi.refl _ | apply zi.step)⟩
def jd (o : Option Bool) (p : Prop) : Prop := ∃ b, o = some b ∧ (b = true ↔ p)
theorem jd.iff {o : Option Bool} {p q : Prop} (h : jd o p) (e : p ↔ q) : jd o q := by
 obtain ⟨b, h1, h2⟩ := h
 exact ⟨b, h1, h2.trans e⟩
theorem zbh {o o' : Option Bool} {p q : Prop} (h : jd o p) (h' : jd o' q) : jd (o.bind fun t => if t = true then o' else some false) (p ∧ q) := by
 obtain ⟨b, rfl, h2⟩ := h
 cases b with
 | true => exact h'.iff ⟨fun x => ⟨h2.1 rfl, x⟩, fun x => x.2⟩
 | false => exact ⟨false, rfl, by simp at h2; simp [h2]⟩
theorem Xh (p : Prop) [Decidable p] : jd (some (decide p)) p := ⟨_, rfl, decide_eq_true_iff⟩
theorem Xp {α : Type} {x y : List α} {o : Option Bool} (h : x.length = y.length → jd o (x = y)) : jd (if (x.length : Int) = (y.length : Int) then o else some false) (x = y) := by
 by_cases e : x.length = y.length
 ·rw [if_pos (by omega)]
  exact h e
 ·rw [if_neg (by omega)]
  exact ⟨false, rfl, by simp; intro h; exact e (by rw [h])⟩
theorem JR (p : Prop) [Decidable p] (R : Option Bool) : (if p then R else some false) = (some (decide p)).bind fun b => if b = true then R else some false := by
 by_cases h : p <;> simp [h]
theorem VW {α : Type} (L : Nat → Int → Option Bool) (x y : List α) (hl : x.length = y.length) (M : Nat)
  (hend : ∀ k, L (k + 1) (x.length : Int) = some true)
  (hstep : ∀ (k i : Nat) (h0 : i < x.length) (h1 : i < y.length), M ≤ k → ∃ o : Option Bool, jd o (x[i] = y[i]) ∧ L (k + 1) (i : Int) = o.bind fun b => if b = true then L k ((i + 1 : Nat) : Int) else some false) (d : Nat) :
  ∀ (k i : Nat), i + d = x.length → M + d + 1 ≤ k → jd (L k (i : Int)) (x.drop i = y.drop i) := by
 induction d with
 | zero =>
  intro k i hi hk
  obtain ⟨k, rfl⟩ : ∃ m, k = m + 1 := ⟨k - 1, by omega⟩
  obtain rfl : i = x.length := by omega
  exact ⟨true, hend k, by simp [hl]⟩
 | succ d ih =>
  intro k i hi hk
  obtain ⟨k, rfl⟩ : ∃ m, k = m + 1 := ⟨k - 1, by omega⟩
  have h0 : i < x.length := by omega
  have h1 : i < y.length := by omega
  obtain ⟨o, ho, e⟩ := hstep k i h0 h1 (by omega)
  rw [e, List.drop_eq_getElem_cons h0, List.drop_eq_getElem_cons h1]
  refine (zbh ho (ih k (i + 1) (by omega) (by omega))).iff ?_
  rw [List.cons.injEq]
theorem Xa {α : Type} (L : Nat → Int → Option Bool) (x y : List α) (hl : x.length = y.length) (M k : Nat) (hk : M + x.length + 1 ≤ k)
  (hend : ∀ k, L (k + 1) (x.length : Int) = some true)
  (hstep : ∀ (k i : Nat) (h0 : i < x.length) (h1 : i < y.length), M ≤ k → ∃ o : Option Bool, jd o (x[i] = y[i]) ∧ L (k + 1) (i : Int) = o.bind fun b => if b = true then L k ((i + 1 : Nat) : Int) else some false) : jd (L k 0) (x = y) := by
 have := VW L x y hl M hend hstep x.length k 0 (by omega) hk
 rwa [List.drop_zero, List.drop_zero] at this
theorem zaQ (l : List Int) (i : Nat) (h : i < l.length) : rd l (i : Int) = l[i] := by simp [rd, h]
theorem zaU (l : List ByteArray) (i : Nat) (h : i < l.length) : ym ByteArray.empty l (i : Int) = l[i] := by simp [ym, h]
theorem ZS (x y : List Int) (hb : x.length ≤ 9223372036854775807) (k : Nat) (hk : 10000000000000000000 ≤ k) : jd (z3.f k x y) (x = y) := by
 unfold z3.f
 refine Xp fun hl => ?_
 refine Xa (fun k i => z3.l0 k x y (x.length : Int) i) x y hl 0 k (by omega) (fun k => ?_) (fun k i h0 h1 hk => ?_)
 ·show z3.l0 (k + 1) x y (x.length : Int) _ = _
  rw [z3.l0, if_neg (by omega)]
 ·have ei := z4 (i := (i : Int)) (by omega) (by omega)
  show ∃ o, _ ∧ z3.l0 (k + 1) x y (x.length : Int) _ = _
  rw [z3.l0, if_pos (by omega), if_pos (by omega), if_pos (by omega), if_pos (by omega), zaQ x i h0, zaQ y i h1, ei]
  rw [JR]
  exact ⟨_, Xh _, rfl⟩
def El (w : World) : List (Addr × Value) → Prop
 | [] => True
 | (a, v) :: r => w.cell? a = some v ∧ El w r
theorem El.below {w w' : World} (hb : Below w.heap.size w w') : ∀ {l : List (Addr × Value)}, El w l → El w' l
 | [], _ => trivial
 | (_, _) :: _, h => ⟨vu hb h.1, El.below hb h.2⟩
theorem QJ (l : List Int) (h : l.length ≤ 9223372036854775807) : ∃ k, z3.f k l l = some true := by
 obtain ⟨b, h1, h2⟩ := ZS l l h 10000000000000000000 (Nat.le_refl _)
 exact ⟨_, by rw [h1, h2.2 rfl]⟩
theorem V6 {x : S108} {v v2 : Value} {w : World} (h : Rd (Kd.int .i64) w v x.f1) (h2 : Rd (Kd.int .i64) w v2 x.f1) : Calls Tryz.prog 88 #[.agg #[.int .i64 x.f0, v], .agg #[.int .i64 x.f0, v2]] w fun e w' => e = .returned (.bool true) ∧ Below w.heap.size w w' := by
 obtain ⟨A, c, rfl, hl, hr⟩ := h
 obtain ⟨A2, c2, rfl, hl2, hr2⟩ := h2
 obtain ⟨k, hk⟩ := QJ x.f1 hr.2.1
 replace hl := za.mk hl
 replace hr := za.mk hr
 replace hl2 := za.mk hl2
 replace hr2 := za.mk hr2
 replace hk := za.mk hk
 have HS := Sat.nil w
 go_enter Tryz.func88, Tryz.ntmps88
 go_wp2_with ((first | ((with_reducible refine gB rfl ?_); refine zz HS ?_) | ((with_reducible refine gA rfl ?_); refine zt HS ?_) | ((with_reducible refine gS rfl ?_); refine zu HS ?_) | (go_at_call 85; refine HS.go0 (z3.calls k A c _ A2 c2 _ true _ (Kd.C_below hr.out HS.below) hl.out (Kd.C_below hr2.out HS.below) hl2.out hk.out) ?_)); clear HS; (try clear hc); intros; rename_i HS; have hc := HS.lk; simp only [Lk, LkC, Value.cells, List.toList_toArray, Nat.reduceAdd, Nat.zero_add, and_true, zf, zg, ze, zh] at HS hc)
 go_ret
 exact ⟨by first | rfl | simp, HS.below⟩
theorem zaI {l : List S108} {v v2 : Value} {w : World} (h : Rd k108 w v l) (h2 : Rd k108 w v2 l) : Calls Tryz.prog 126 #[v, v2, .func (Fn.func 88) #[] #[]] w fun e w' => e = .returned (.bool true) ∧ Below w.heap.size w w' := by
 obtain ⟨A, c, rfl, hl, hr⟩ := h
 obtain ⟨A2, c2, rfl, hl2, hr2⟩ := h2
 replace hr := za.mk hr
 replace hr2 := za.mk hr2
 have HN := za.mk hr.out.2.1
 clear hl hl2
 go_enter Tryz.func126, Tryz.ntmps126
 go_wp2
 go_loopg [17] l.length (fun kq vi wr => ∃ i : Nat, vi = .int .i64 i ∧ za (i + kq = l.length) ∧ za (Sat [] w wr [] []))
 case atStart => exact ⟨0, rfl, ⟨by simp⟩, ⟨Sat.nil w⟩⟩
 case round =>
  obtain ⟨i, rfl, HK, HT⟩ := hrel
  have HS := HT.out
  by_cases hlt : i < l.length
  ·obtain ⟨ad, Ai, ci, rfl, x0, x1, g1, f1⟩ := qR hr.out (i : Int) (by omega) (by omega)
   obtain ⟨ad2, Aj, cj, rfl, y0, y1, g2, f2⟩ := qR hr2.out (i : Int) (by omega) (by omega)
   rw [Int.toNat_natCast] at x0 x1 y0 y1
   have hq : yq l (i : Int) = l[i] := by simp [yq, hlt]
   rw [hq] at x0 x1 y0 y1 g1 g2 f1 f2
   obtain ⟨x, hx⟩ : ∃ x, x = l[i] := ⟨_, rfl⟩
   rw [← hx] at x0 x1 y0 y1 g1 g2 f1 f2
   have HE : za (El w [(_, _), (_, _), (_, _), (_, _)]) := ⟨⟨x0, x1, y0, y1, trivial⟩⟩
   have R1 : za (Rd (Kd.int .i64) w _ x.f1) := ⟨⟨Ai, ci, rfl, g1, f1⟩⟩
   have R2 : za (Rd (Kd.int .i64) w _ x.f1) := ⟨⟨Aj, cj, rfl, g2, f2⟩⟩
   clear x0 x1 y0 y1 g1 g2 f1 f2 hq hx HT
   have he := HE.out.below HS.below
   simp only [El, and_true] at he
   go_wp2_with ((first | ((with_reducible refine gB rfl ?_); refine zz HS ?_) | ((with_reducible refine gA rfl ?_); refine zt HS ?_) | ((with_reducible refine gS rfl ?_); refine zu HS ?_) | (go_at_call 88; refine HS.go (V6 (R1.out.below HS.below) (R2.out.below HS.below)) ?_)); clear HS; (try clear hc); intros; rename_i HS; have hc := HS.lk; simp only [Lk, LkC, Value.cells, List.toList_toArray, Nat.reduceAdd, Nat.zero_add, and_true, zf, zg, ze, zh] at HS hc; clear he; have he := HE.out.below HS.below; simp only [El, and_true] at he)
   go_roundg (l.length - (i + 1))
   case measure => have := HK.out; omega
   case rel => exact ⟨i + 1, by have h_ : wrap64 ((i : Int) + 1) = ((i + 1 : Nat) : Int) := z4 (by omega) (by have := HN.out; omega); first | (rw [h_]) | (simp only [h_]) | rfl | go_num, ⟨by have := HK.out; omega⟩, ⟨HS.off (List.nil_sublist _)⟩⟩
  ·obtain rfl : i = l.length := by have := HK.out; omega
   go_wp2
   go_ret
   exact ⟨rfl, HT.out.below⟩
theorem J8 {v v2 : Value} {b : Bool} {w : World} (h : Calls Tryz.prog 126 #[v, v2, .func (Fn.func 88) #[] #[]] w fun e w' => e = .returned (.bool b) ∧ Below w.heap.size w w') : Calls Tryz.prog 87 #[v, v2, .func (Fn.func 88) #[] #[]] w fun e w' => e = .returned (.bool b) ∧ Below w.heap.size w w' := by
 replace h := za.mk h
 have HS := Sat.nil w
 go_enter Tryz.func87, Tryz.ntmps87
 go_wp2_with (go_at_call 126; refine HS.go h.out ?_; clear HS; intro w_ HS)
 go_ret
 exact ⟨rfl, HS.below⟩
theorem Vv {l : List S108} {v v2 : Value} {w : World} (h : Rd k108 w v l) (h2 : Rd k108 w v2 l) : Calls Tryz.prog 87 #[v, v2, .func (Fn.func 88) #[] #[]] w fun e w' => e = .returned (.bool true) ∧ Below w.heap.size w w' := J8 (zaI h h2)
theorem zcs {x : S52} {v v2 : Value} {w : World} (h : Rd (Kd.int .i64) w v x.f4) (h2 : Rd (Kd.int .i64) w v2 x.f4) : Calls Tryz.prog 48 #[.agg #[.int .i64 x.f0, .int .i64 x.f1, .string x.f2, .int .i64 x.f3, v, .int .i64 x.f5], .agg #[.int .i64 x.f0, .int .i64 x.f1, .string x.f2, .int .i64 x.f3, v2, .int .i64 x.f5]] w fun e w' => e = .returned (.bool true) ∧ Below w.heap.size w w' := by
 obtain ⟨A, c, rfl, hl, hr⟩ := h
 obtain ⟨A2, c2, rfl, hl2, hr2⟩ := h2
 obtain ⟨k, hk⟩ := QJ x.f4 hr.2.1
 replace hl := za.mk hl
 replace hr := za.mk hr
 replace hl2 := za.mk hl2
 replace hr2 := za.mk hr2
 replace hk := za.mk hk
 have HS := Sat.nil w
 go_enter Tryz.func48, Tryz.ntmps48
 go_wp2_with ((first | ((with_reducible refine gB rfl ?_); refine zz HS ?_) | ((with_reducible refine gA rfl ?_); refine zt HS ?_) | ((with_reducible refine gS rfl ?_); refine zu HS ?_) | (go_at_call 85; refine HS.go0 (z3.calls k A c _ A2 c2 _ true _ (Kd.C_below hr.out HS.below) hl.out (Kd.C_below hr2.out HS.below) hl2.out hk.out) ?_)); clear HS; (try clear hc); intros; rename_i HS; have hc := HS.lk; simp only [Lk, LkC, Value.cells, List.toList_toArray, Nat.reduceAdd, Nat.zero_add, and_true, zf, zg, ze, zh] at HS hc)
 go_ret
 exact ⟨by first | rfl | simp, HS.below⟩
theorem zdb {l : List S52} {v v2 : Value} {w : World} (h : Rd k52 w v l) (h2 : Rd k52 w v2 l) : Calls Tryz.prog 84 #[v, v2, .func (Fn.func 48) #[] #[]] w fun e w' => e = .returned (.bool true) ∧ Below w.heap.size w w' := by
 obtain ⟨A, c, rfl, hl, hr⟩ := h
 obtain ⟨A2, c2, rfl, hl2, hr2⟩ := h2
 replace hr := za.mk hr
 replace hr2 := za.mk hr2
 have HN := za.mk hr.out.2.1
 clear hl hl2
 go_enter Tryz.func84, Tryz.ntmps84
 go_wp2
 go_loopg [17] l.length (fun kq vi wr => ∃ i : Nat, vi = .int .i64 i ∧ za (i + kq = l.length) ∧ za (Sat [] w wr [] []))
 case atStart => exact ⟨0, rfl, ⟨by simp⟩, ⟨Sat.nil w⟩⟩
 case round =>
  obtain ⟨i, rfl, HK, HT⟩ := hrel
  have HS := HT.out
  by_cases hlt : i < l.length
  ·obtain ⟨ad, Ai, ci, rfl, x0, x1, x2, x3, x4, x5, g1, f1⟩ := ZE hr.out (i : Int) (by omega) (by omega)
   obtain ⟨ad2, Aj, cj, rfl, y0, y1, y2, y3, y4, y5, g2, f2⟩ := ZE hr2.out (i : Int) (by omega) (by omega)
   rw [Int.toNat_natCast] at x0 x1 x2 x3 x4 x5 y0 y1 y2 y3 y4 y5
   have hq : xf l (i : Int) = l[i] := by simp [xf, hlt]
   rw [hq] at x0 x1 x2 x3 x4 x5 y0 y1 y2 y3 y4 y5 g1 g2 f1 f2
   obtain ⟨x, hx⟩ : ∃ x, x = l[i] := ⟨_, rfl⟩
   rw [← hx] at x0 x1 x2 x3 x4 x5 y0 y1 y2 y3 y4 y5 g1 g2 f1 f2
   have HE : za (El w [(_, _), (_, _), (_, _), (_, _), (_, _), (_, _), (_, _), (_, _), (_, _), (_, _), (_, _), (_, _)]) := ⟨⟨x0, x1, x2, x3, x4, x5, y0, y1, y2, y3, y4, y5, trivial⟩⟩
   have R1 : za (Rd (Kd.int .i64) w _ x.f4) := ⟨⟨Ai, ci, rfl, g1, f1⟩⟩
   have R2 : za (Rd (Kd.int .i64) w _ x.f4) := ⟨⟨Aj, cj, rfl, g2, f2⟩⟩
   clear x0 x1 x2 x3 x4 x5 y0 y1 y2 y3 y4 y5 g1 g2 f1 f2 hq hx HT
   have he := HE.out.below HS.below
   simp only [El, and_true] at he
   go_wp2_with ((first | ((with_reducible refine gB rfl ?_); refine zz HS ?_) | ((with_reducible refine gA rfl ?_); refine zt HS ?_) | ((with_reducible refine gS rfl ?_); refine zu HS ?_) | (go_at_call 48; refine HS.go (zcs (R1.out.below HS.below) (R2.out.below HS.below)) ?_)); clear HS; (try clear hc); intros; rename_i HS; have hc := HS.lk; simp only [Lk, LkC, Value.cells, List.toList_toArray, Nat.reduceAdd, Nat.zero_add, and_true, zf, zg, ze, zh] at HS hc; clear he; have he := HE.out.below HS.below; simp only [El, and_true] at he)
   go_roundg (l.length - (i + 1))
   case measure => have := HK.out; omega
   case rel => exact ⟨i + 1, by have h_ : wrap64 ((i : Int) + 1) = ((i + 1 : Nat) : Int) := z4 (by omega) (by have := HN.out; omega); first | (rw [h_]) | (simp only [h_]) | rfl | go_num, ⟨by have := HK.out; omega⟩, ⟨HS.off (List.nil_sublist _)⟩⟩
  ·obtain rfl : i = l.length := by have := HK.out; omega
   go_wp2
   go_ret
   exact ⟨rfl, HT.out.below⟩
theorem zdk {n m c c2 : Nat} {A A2 : Option Addr} {w : World} (h : n ≠ m) : Calls Tryz.prog 84 #[.slice A n c, .slice A2 m c2, .func (Fn.func 48) #[] #[]] w fun e w' => e = .returned (.bool false) ∧ Below w.heap.size w w' := by
 have h1 : ((n : Int) == (m : Int)) = false := beq_eq_false_iff_ne.mpr (by omega)
 have h2 : ((n : Int) != (m : Int)) = true := bne_iff_ne.mpr (by omega)
 go_enter Tryz.func84, Tryz.ntmps84
 go_wp2
 go_ret
 exact ⟨rfl, Below.refl _ _⟩
theorem Qk {v v2 : Value} {b : Bool} {w : World} (h : Calls Tryz.prog 84 #[v, v2, .func (Fn.func 48) #[] #[]] w fun e w' => e = .returned (.bool b) ∧ Below w.heap.size w w') : Calls Tryz.prog 47 #[v, v2, .func (Fn.func 48) #[] #[]] w fun e w' => e = .returned (.bool b) ∧ Below w.heap.size w w' := by
 replace h := za.mk h
 have HS := Sat.nil w
 go_enter Tryz.func47, Tryz.ntmps47
 go_wp2_with (go_at_call 84; refine HS.go h.out ?_; clear HS; intro w_ HS)
 go_ret
 exact ⟨rfl, HS.below⟩
theorem QU {l : List S52} {v v2 : Value} {w : World} (h : Rd k52 w v l) (h2 : Rd k52 w v2 l) : Calls Tryz.prog 47 #[v, v2, .func (Fn.func 48) #[] #[]] w fun e w' => e = .returned (.bool true) ∧ Below w.heap.size w w' := Qk (zdb h h2)
theorem za6 {x : S86} {v v2 : Value} {w : World} (h : Rd (Kd.int .i64) w v x.f1.f2) (h2 : Rd (Kd.int .i64) w v2 x.f1.f2) : Calls Tryz.prog 52 #[.agg #[.string x.f0, .int .i64 x.f1.f0, .int .i64 x.f1.f1, v], .agg #[.string x.f0, .int .i64 x.f1.f0, .int .i64 x.f1.f1, v2]] w fun e w' => e = .returned (.bool true) ∧ Below w.heap.size w w' := by
 obtain ⟨A, c, rfl, hl, hr⟩ := h
 obtain ⟨A2, c2, rfl, hl2, hr2⟩ := h2
 obtain ⟨k, hk⟩ := QJ x.f1.f2 hr.2.1
 replace hl := za.mk hl
 replace hr := za.mk hr
 replace hl2 := za.mk hl2
 replace hr2 := za.mk hr2
 replace hk := za.mk hk
 have HS := Sat.nil w
 go_enter Tryz.func52, Tryz.ntmps52
 go_wp2_with ((first | ((with_reducible refine gB rfl ?_); refine zz HS ?_) | ((with_reducible refine gA rfl ?_); refine zt HS ?_) | ((with_reducible refine gS rfl ?_); refine zu HS ?_) | (go_at_call 85; refine HS.go0 (z3.calls k A c _ A2 c2 _ true _ (Kd.C_below hr.out HS.below) hl.out (Kd.C_below hr2.out HS.below) hl2.out hk.out) ?_)); clear HS; (try clear hc); intros; rename_i HS; have hc := HS.lk; simp only [Lk, LkC, Value.cells, List.toList_toArray, Nat.reduceAdd, Nat.zero_add, and_true, zf, zg, ze, zh] at HS hc)
 go_ret
 exact ⟨by first | rfl | simp, HS.below⟩
theorem zb8 {l : List S86} {v v2 : Value} {w : World} (h : Rd k86 w v l) (h2 : Rd k86 w v2 l) : Calls Tryz.prog 89 #[v, v2, .func (Fn.func 52) #[] #[]] w fun e w' => e = .returned (.bool true) ∧ Below w.heap.size w w' := by
 obtain ⟨A, c, rfl, hl, hr⟩ := h
 obtain ⟨A2, c2, rfl, hl2, hr2⟩ := h2
 replace hr := za.mk hr
 replace hr2 := za.mk hr2
 have HN := za.mk hr.out.2.1
 clear hl hl2
 go_enter Tryz.func89, Tryz.ntmps89
 go_wp2
 go_loopg [17] l.length (fun kq vi wr => ∃ i : Nat, vi = .int .i64 i ∧ za (i + kq = l.length) ∧ za (Sat [] w wr [] []))
 case atStart => exact ⟨0, rfl, ⟨by simp⟩, ⟨Sat.nil w⟩⟩
 case round =>
  obtain ⟨i, rfl, HK, HT⟩ := hrel
  have HS := HT.out
  by_cases hlt : i < l.length
  ·obtain ⟨ad, Ai, ci, rfl, x0, x1, x2, x3, g1, f1⟩ := vW hr.out (i : Int) (by omega) (by omega)
   obtain ⟨ad2, Aj, cj, rfl, y0, y1, y2, y3, g2, f2⟩ := vW hr2.out (i : Int) (by omega) (by omega)
   rw [Int.toNat_natCast] at x0 x1 x2 x3 y0 y1 y2 y3
   have hq : xD l (i : Int) = l[i] := by simp [xD, hlt]
   rw [hq] at x0 x1 x2 x3 y0 y1 y2 y3 g1 g2 f1 f2
   obtain ⟨x, hx⟩ : ∃ x, x = l[i] := ⟨_, rfl⟩
   rw [← hx] at x0 x1 x2 x3 y0 y1 y2 y3 g1 g2 f1 f2
   have HE : za (El w [(_, _), (_, _), (_, _), (_, _), (_, _), (_, _), (_, _), (_, _)]) := ⟨⟨x0, x1, x2, x3, y0, y1, y2, y3, trivial⟩⟩
   have R1 : za (Rd (Kd.int .i64) w _ x.f1.f2) := ⟨⟨Ai, ci, rfl, g1, f1⟩⟩
   have R2 : za (Rd (Kd.int .i64) w _ x.f1.f2) := ⟨⟨Aj, cj, rfl, g2, f2⟩⟩
   clear x0 x1 x2 x3 y0 y1 y2 y3 g1 g2 f1 f2 hq hx HT
   have he := HE.out.below HS.below
   simp only [El, and_true] at he
   go_wp2_with ((first | ((with_reducible refine gB rfl ?_); refine zz HS ?_) | ((with_reducible refine gA rfl ?_); refine zt HS ?_) | ((with_reducible refine gS rfl ?_); refine zu HS ?_) | (go_at_call 52; refine HS.go (za6 (R1.out.below HS.below) (R2.out.below HS.below)) ?_)); clear HS; (try clear hc); intros; rename_i HS; have hc := HS.lk; simp only [Lk, LkC, Value.cells, List.toList_toArray, Nat.reduceAdd, Nat.zero_add, and_true, zf, zg, ze, zh] at HS hc; clear he; have he := HE.out.below HS.below; simp only [El, and_true] at he)
   go_roundg (l.length - (i + 1))
   case measure => have := HK.out; omega
   case rel => exact ⟨i + 1, by have h_ : wrap64 ((i : Int) + 1) = ((i + 1 : Nat) : Int) := z4 (by omega) (by have := HN.out; omega); first | (rw [h_]) | (simp only [h_]) | rfl | go_num, ⟨by have := HK.out; omega⟩, ⟨HS.off (List.nil_sublist _)⟩⟩
  ·obtain rfl : i = l.length := by have := HK.out; omega
   go_wp2
   go_ret
   exact ⟨rfl, HT.out.below⟩
theorem zcx {n m c c2 : Nat} {A A2 : Option Addr} {w : World} (h : n ≠ m) : Calls Tryz.prog 89 #[.slice A n c, .slice A2 m c2, .func (Fn.func 52) #[] #[]] w fun e w' => e = .returned (.bool false) ∧ Below w.heap.size w w' := by
 have h1 : ((n : Int) == (m : Int)) = false := beq_eq_false_iff_ne.mpr (by omega)
 have h2 : ((n : Int) != (m : Int)) = true := bne_iff_ne.mpr (by omega)
 go_enter Tryz.func89, Tryz.ntmps89
 go_wp2
 go_ret
 exact ⟨rfl, Below.refl _ _⟩
theorem XF {v v2 : Value} {b : Bool} {w : World} (h : Calls Tryz.prog 89 #[v, v2, .func (Fn.func 52) #[] #[]] w fun e w' => e = .returned (.bool b) ∧ Below w.heap.size w w') : Calls Tryz.prog 51 #[v, v2, .func (Fn.func 52) #[] #[]] w fun e w' => e = .returned (.bool b) ∧ Below w.heap.size w w' := by
 replace h := za.mk h
 have HS := Sat.nil w
 go_enter Tryz.func51, Tryz.ntmps51
 go_wp2_with (go_at_call 89; refine HS.go h.out ?_; clear HS; intro w_ HS)
 go_ret
 exact ⟨rfl, HS.below⟩
theorem XV {l : List S86} {v v2 : Value} {w : World} (h : Rd k86 w v l) (h2 : Rd k86 w v2 l) : Calls Tryz.prog 51 #[v, v2, .func (Fn.func 52) #[] #[]] w fun e w' => e = .returned (.bool true) ∧ Below w.heap.size w w' := XF (zb8 h h2)
theorem zao {x : S46} {v v2 : Value} {w : World} (h : Rd k108 w v x.f2) (h2 : Rd k108 w v2 x.f2) : Calls Tryz.prog 50 #[.agg #[.int .i64 x.f0, .string x.f1, v, .int .i64 x.f3, .int .i64 x.f4], .agg #[.int .i64 x.f0, .string x.f1, v2, .int .i64 x.f3, .int .i64 x.f4]] w fun e w' => e = .returned (.bool true) ∧ Below w.heap.size w w' := by
 replace h := za.mk h
 replace h2 := za.mk h2
 have HS := Sat.nil w
 go_enter Tryz.func50, Tryz.ntmps50
 go_wp2_with ((first | ((with_reducible refine gB rfl ?_); refine zz HS ?_) | ((with_reducible refine gA rfl ?_); refine zt HS ?_) | ((with_reducible refine gS rfl ?_); refine zu HS ?_) | (go_at_call 87; refine HS.go (Vv (h.out.below HS.below) (h2.out.below HS.below)) ?_)); clear HS; (try clear hc); intros; rename_i HS; have hc := HS.lk; simp only [Lk, LkC, Value.cells, List.toList_toArray, Nat.reduceAdd, Nat.zero_add, and_true, zf, zg, ze, zh] at HS hc)
 go_ret
 exact ⟨by first | rfl | simp, HS.below⟩
theorem zbt {l : List S46} {v v2 : Value} {w : World} (h : Rd k46 w v l) (h2 : Rd k46 w v2 l) : Calls Tryz.prog 86 #[v, v2, .func (Fn.func 50) #[] #[]] w fun e w' => e = .returned (.bool true) ∧ Below w.heap.size w w' := by
 obtain ⟨A, c, rfl, hl, hr⟩ := h
 obtain ⟨A2, c2, rfl, hl2, hr2⟩ := h2
 replace hr := za.mk hr
 replace hr2 := za.mk hr2
 have HN := za.mk hr.out.2.1
 clear hl hl2
 go_enter Tryz.func86, Tryz.ntmps86
 go_wp2
 go_loopg [17] l.length (fun kq vi wr => ∃ i : Nat, vi = .int .i64 i ∧ za (i + kq = l.length) ∧ za (Sat [] w wr [] []))
 case atStart => exact ⟨0, rfl, ⟨by simp⟩, ⟨Sat.nil w⟩⟩
 case round =>
  obtain ⟨i, rfl, HK, HT⟩ := hrel
  have HS := HT.out
  by_cases hlt : i < l.length
  ·obtain ⟨ad, Ai, ci, rfl, x0, x1, x2, x3, x4, g1, f1⟩ := vV hr.out (i : Int) (by omega) (by omega)
   obtain ⟨ad2, Aj, cj, rfl, y0, y1, y2, y3, y4, g2, f2⟩ := vV hr2.out (i : Int) (by omega) (by omega)
   rw [Int.toNat_natCast] at x0 x1 x2 x3 x4 y0 y1 y2 y3 y4
   have hq : xb l (i : Int) = l[i] := by simp [xb, hlt]
   rw [hq] at x0 x1 x2 x3 x4 y0 y1 y2 y3 y4 g1 g2 f1 f2
   obtain ⟨x, hx⟩ : ∃ x, x = l[i] := ⟨_, rfl⟩
   rw [← hx] at x0 x1 x2 x3 x4 y0 y1 y2 y3 y4 g1 g2 f1 f2
   have HE : za (El w [(_, _), (_, _), (_, _), (_, _), (_, _), (_, _), (_, _), (_, _), (_, _), (_, _)]) := ⟨⟨x0, x1, x2, x3, x4, y0, y1, y2, y3, y4, trivial⟩⟩
   have R1 : za (Rd k108 w _ x.f2) := ⟨⟨Ai, ci, rfl, g1, f1⟩⟩
   have R2 : za (Rd k108 w _ x.f2) := ⟨⟨Aj, cj, rfl, g2, f2⟩⟩
   clear x0 x1 x2 x3 x4 y0 y1 y2 y3 y4 g1 g2 f1 f2 hq hx HT
   have he := HE.out.below HS.below
   simp only [El, and_true] at he
   go_wp2_with ((first | ((with_reducible refine gB rfl ?_); refine zz HS ?_) | ((with_reducible refine gA rfl ?_); refine zt HS ?_) | ((with_reducible refine gS rfl ?_); refine zu HS ?_) | (go_at_call 50; refine HS.go (zao (R1.out.below HS.below) (R2.out.below HS.below)) ?_)); clear HS; (try clear hc); intros; rename_i HS; have hc := HS.lk; simp only [Lk, LkC, Value.cells, List.toList_toArray, Nat.reduceAdd, Nat.zero_add, and_true, zf, zg, ze, zh] at HS hc; clear he; have he := HE.out.below HS.below; simp only [El, and_true] at he)
   go_roundg (l.length - (i + 1))
   case measure => have := HK.out; omega
   case rel => exact ⟨i + 1, by have h_ : wrap64 ((i : Int) + 1) = ((i + 1 : Nat) : Int) := z4 (by omega) (by have := HN.out; omega); first | (rw [h_]) | (simp only [h_]) | rfl | go_num, ⟨by have := HK.out; omega⟩, ⟨HS.off (List.nil_sublist _)⟩⟩
  ·obtain rfl : i = l.length := by have := HK.out; omega
   go_wp2
   go_ret
   exact ⟨rfl, HT.out.below⟩
theorem za8 {n m c c2 : Nat} {A A2 : Option Addr} {w : World} (h : n ≠ m) : Calls Tryz.prog 86 #[.slice A n c, .slice A2 m c2, .func (Fn.func 50) #[] #[]] w fun e w' => e = .returned (.bool false) ∧ Below w.heap.size w w' := by
 have h1 : ((n : Int) == (m : Int)) = false := beq_eq_false_iff_ne.mpr (by omega)
 have h2 : ((n : Int) != (m : Int)) = true := bne_iff_ne.mpr (by omega)
 go_enter Tryz.func86, Tryz.ntmps86
 go_wp2
 go_ret
 exact ⟨rfl, Below.refl _ _⟩
theorem Y6 {v v2 : Value} {b : Bool} {w : World} (h : Calls Tryz.prog 86 #[v, v2, .func (Fn.func 50) #[] #[]] w fun e w' => e = .returned (.bool b) ∧ Below w.heap.size w w') : Calls Tryz.prog 49 #[v, v2, .func (Fn.func 50) #[] #[]] w fun e w' => e = .returned (.bool b) ∧ Below w.heap.size w w' := by
 replace h := za.mk h
 have HS := Sat.nil w
 go_enter Tryz.func49, Tryz.ntmps49
 go_wp2_with (go_at_call 86; refine HS.go h.out ?_; clear HS; intro w_ HS)
 go_ret
 exact ⟨rfl, HS.below⟩
theorem XD {l : List S46} {v v2 : Value} {w : World} (h : Rd k46 w v l) (h2 : Rd k46 w v2 l) : Calls Tryz.prog 49 #[v, v2, .func (Fn.func 50) #[] #[]] w fun e w' => e = .returned (.bool true) ∧ Below w.heap.size w w' := Y6 (zbt h h2)
def zP.l0 : Nat → List ByteArray → List ByteArray → Int → Int → Option (Bool)
 | 0, _, _, _, _ => none
 | k + 1, x0, x1, x12, x13 => if x13 < x12 then (if 0 ≤ x13 then (if x13 < (x0.length : Int) then (if x13 < (x1.length : Int) then (if (ym ByteArray.empty x0 x13).toList = (ym ByteArray.empty x1 x13).toList then (zP.l0 k x0 x1 x12 (wrap64 (x13 + 1))) else (some false)) else (none)) else (none)) else (none)) else (some true)
def zP.f (k : Nat) (l0 : List ByteArray) (l1 : List ByteArray) : Option (Bool) := if (l0.length : Int) = (l1.length : Int) then (zP.l0 k l0 l1 (l0.length : Int) 0) else (some false)
theorem zP.calls (k : Nat) (A0 : Option Addr) (c0 : Nat) (l0 : List ByteArray) (A1 : Option Addr) (c1 : Nat) (l1 : List ByteArray) (r : Bool) (w : World) (hr0 : Kd.C Kd.string w A0 l0.length l0) (hc0 : l0.length ≤ c0) (hr1 : Kd.C Kd.string w A1 l1.length l1) (hc1 : l1.length ≤ c1) (h : zP.f k l0 l1 = some r) :
  Calls Tryz.prog 45 #[.slice A0 l0.length c0, .slice A1 l1.length c1] w fun e w' => e = .returned (.bool r) ∧ zi w w' := by
 have HR0 := za.mk hr0
 have HC0 := za.mk hc0
 clear hr0 hc0
 have HR1 := za.mk hr1
 have HC1 := za.mk hc1
 clear hr1 hc1
 have H : (if (l0.length : Int) = (l1.length : Int) then (zP.l0 k l0 l1 (l0.length : Int) 0) else (some false)) = some r := h
 clear h
 by_cases c3 : (l0.length : Int) = (l1.length : Int)
 ·rw [if_pos c3] at H
  have c3b0 : ((l0.length : Int) == (l1.length : Int)) = true := beq_iff_eq.mpr c3
  have c3b1 : ((l0.length : Int) != (l1.length : Int)) = false := bne_eq_false_iff_eq.mpr c3
  have c3b2 : (l0.length == l1.length) = true := by first | simpa using c3 | (simp at c3 ⊢; omega)
  clear c3
  have H' := za.mk H
  clear H
  go_enter Tryz.func45, Tryz.ntmps45
  go_wp2
  repeat (go_quiet (fail); try go_wp2)
  go_loopg [13] k (fun kq v13 w' => ∃ (x13_1 : Int), v13 = .int .i64 x13_1 ∧ za (zP.l0 kq l0 l1 (l0.length : Int) x13_1 = some r) ∧ za (kq ≤ k) ∧ zi w w')
  case atStart => exact ⟨(0), (by first | rfl | (simp; done) | (simp [*]; done)), H', ⟨Nat.le_refl _⟩, by repeat (first | exact zi.refl _ | apply zi.step)⟩
  case round =>
   clear H'
   try clear c1
   try clear p2
   try clear c3
   try clear c3b0
   try clear c3b1
   try clear c3b2
   obtain ⟨x13_1, rfl, HA, HK1, ⟨m1, rfl⟩⟩ := hrel
   cases gk with
   | zero => exact absurd HA.out (by simp [zP.l0])
   | succ k1 =>
    have H := HA.out
    clear HA
    simp only [zP.l0] at H
    by_cases c4 : x13_1 < (l0.length : Int)
    ·rw [if_pos c4] at H
     have c4b0 : decide (x13_1 < (l0.length : Int)) = true := decide_eq_true c4
     clear c4
     by_cases c5 : 0 ≤ x13_1
     ·rw [if_pos c5] at H
      have c5b0 : decide (0 ≤ x13_1) = true := decide_eq_true c5
      clear c5
      by_cases c6 : x13_1 < (l0.length : Int)
      ·rw [if_pos c6] at H
       have c6b0 : decide (x13_1 < (l0.length : Int)) = true := decide_eq_true c6
       clear c6
       by_cases c7 : x13_1 < (l1.length : Int)
       ·rw [if_pos c7] at H
        have c7b0 : decide (x13_1 < (l1.length : Int)) = true := decide_eq_true c7
        clear c7
        by_cases c8 : (ym ByteArray.empty l0 x13_1).toList = (ym ByteArray.empty l1 x13_1).toList
        ·rw [if_pos c8] at H
         have c8b0 : ((ym ByteArray.empty l0 x13_1).toList == (ym ByteArray.empty l1 x13_1).toList) = true := beq_iff_eq.mpr c8
         have c8b1 : ((ym ByteArray.empty l0 x13_1).toList != (ym ByteArray.empty l1 x13_1).toList) = false := bne_eq_false_iff_eq.mpr c8
         clear c8
         have H' := za.mk H
         clear H
         have p112 : 0 ≤ (x13_1 : Int) := of_decide_eq_true (by first | (with_reducible assumption) | assumption)
         have q112 : x13_1 < (l0.length : Int) := of_decide_eq_true (by first | (with_reducible assumption) | assumption)
         obtain ⟨ad112, e112, hx112_0⟩ := Kd.at_string HR0.out x13_1 p112 q112
         cases e112
         replace p112 := eq_true p112
         replace q112 := eq_true q112
         have p113 : 0 ≤ (x13_1 : Int) := of_decide_eq_true (by first | (with_reducible assumption) | assumption)
         have q113 : x13_1 < (l1.length : Int) := of_decide_eq_true (by first | (with_reducible assumption) | assumption)
         obtain ⟨ad113, e113, hx113_0⟩ := Kd.at_string HR1.out x13_1 p113 q113
         cases e113
         replace p113 := eq_true p113
         replace q113 := eq_true q113
         go_wp2
         repeat (go_quiet (fail); try go_wp2)
         go_roundg k1
         case measure => have := HK1.out; omega
         case rel => exact ⟨(wrap64 (x13_1 + 1)), (by first | rfl | (simp; done) | (simp [*]; done)), H', ⟨by have := HK1.out; omega⟩, by repeat (first | exact zi.refl _ | apply zi.step)⟩
        ·rw [if_neg c8] at H
         have c8b0 : ((ym ByteArray.empty l0 x13_1).toList == (ym ByteArray.empty l1 x13_1).toList) = false := beq_eq_false_iff_ne.mpr c8
         have c8b1 : ((ym ByteArray.empty l0 x13_1).toList != (ym ByteArray.empty l1 x13_1).toList) = true := bne_iff_ne.mpr c8
         obtain rfl := Option.some.inj H
         have p112 : 0 ≤ (x13_1 : Int) := of_decide_eq_true (by first | (with_reducible assumption) | assumption)
         have q112 : x13_1 < (l0.length : Int) := of_decide_eq_true (by first | (with_reducible assumption) | assumption)
         obtain ⟨ad112, e112, hx112_0⟩ := Kd.at_string HR0.out x13_1 p112 q112
         cases e112
         replace p112 := eq_true p112
         replace q112 := eq_true q112
         have p113 : 0 ≤ (x13_1 : Int) := of_decide_eq_true (by first | (with_reducible assumption) | assumption)
         have q113 : x13_1 < (l1.length : Int) := of_decide_eq_true (by first | (with_reducible assumption) | assumption)
         obtain ⟨ad113, e113, hx113_0⟩ := Kd.at_string HR1.out x13_1 p113 q113
         cases e113
         replace p113 := eq_true p113
         replace q113 := eq_true q113
         go_wp2
         repeat (go_quiet (fail); try go_wp2)
         go_ret
         exact ⟨by first | rfl | (simp; done) | (simp [*]; done), by repeat (first | exact zi.refl _ | apply zi.step)⟩
       ·rw [if_neg c7] at H
        exact absurd H (by simp)
      ·rw [if_neg c6] at H
       exact absurd H (by simp)
     ·rw [if_neg c5] at H
      exact absurd H (by simp)
    ·rw [if_neg c4] at H
     have c4b0 : decide (x13_1 < (l0.length : Int)) = false := decide_eq_false c4
     clear c4
     obtain rfl := Option.some.inj H
     go_wp2
     repeat (go_quiet (fail); try go_wp2)
     go_ret
     exact ⟨by first | rfl | (simp; done) | (simp [*]; done), by repeat (first | exact zi.refl _ | apply zi.step)⟩
 ·rw [if_neg c3] at H
  have c3b0 : ((l0.length : Int) == (l1.length : Int)) = false := beq_eq_false_iff_ne.mpr c3
  have c3b1 : ((l0.length : Int) != (l1.length : Int)) = true := bne_iff_ne.mpr c3
  have c3b2 : (l0.length == l1.length) = false := by first | simpa using c3 | (simp at c3 ⊢; omega)
  obtain rfl := Option.some.inj H
  go_enter Tryz.func45, Tryz.ntmps45
  go_wp2
  repeat (go_quiet (fail); try go_wp2)
  go_ret
  exact ⟨by first | rfl | (simp; done) | (simp [*]; done), by repeat (first | exact zi.refl _ | apply zi.step)⟩
theorem eqA77 (d : Nat) (w : World) (x0 y0 : Int) (x1 y1 : Int) :
  (Op.equalIn (d + 2) 77 (.agg #[.int .i64 x0, .int .i64 x1]) (.agg #[.int .i64 y0, .int .i64 y1])).run Tryz.prog w = .ok (x0 == y0 && (x1 == y1)) w := by
 refine zdz Tryz.underlying77 (by kernel_rfl) ?_
 refine zbO (by rfl) (by go_simp; rfl) (by go_simp; rfl) (by go_simp) ?_
 exact zcl (by rfl) (by go_simp; rfl) (by go_simp; rfl) (by go_simp)
attribute [local go_sem high] eqA77
def yK.l0 : Nat → List (S77) → List (S77) → Int → Int → Option (Bool)
 | 0, _, _, _, _ => none
 | k + 1, x0, x1, x12, x13 => if x13 < x12 then (if 0 ≤ x13 then (if x13 < (x0.length : Int) then (if x13 < (x1.length : Int) then (if (!(((yv x0 x13).f0) == ((yv x1 x13).f0)) || (!(((yv x0 x13).f1) == ((yv x1 x13).f1)))) = true then (some false) else (yK.l0 k x0 x1 x12 (wrap64 (x13 + 1)))) else (none)) else (none)) else (none)) else (some true)
def yK.f (k : Nat) (l0 : List (S77)) (l1 : List (S77)) : Option (Bool) := if (l0.length : Int) = (l1.length : Int) then (yK.l0 k l0 l1 (l0.length : Int) 0) else (some false)
theorem yK.calls (k : Nat) (A0 : Option Addr) (c0 : Nat) (l0 : List (S77)) (A1 : Option Addr) (c1 : Nat) (l1 : List (S77)) (r : Bool) (w : World) (hr0 : Kd.C k77 w A0 l0.length l0) (hc0 : l0.length ≤ c0) (hr1 : Kd.C k77 w A1 l1.length l1) (hc1 : l1.length ≤ c1) (h : yK.f k l0 l1 = some r) :
  Calls Tryz.prog 46 #[.slice A0 l0.length c0, .slice A1 l1.length c1] w fun e w' => e = .returned (.bool r) ∧ zi w w' := by
 have hu77 := Tryz.underlying77
 have HR0 := za.mk hr0
 have HC0 := za.mk hc0
 clear hr0 hc0
 have HR1 := za.mk hr1
 have HC1 := za.mk hc1
 clear hr1 hc1
 have H : (if (l0.length : Int) = (l1.length : Int) then (yK.l0 k l0 l1 (l0.length : Int) 0) else (some false)) = some r := h
 clear h
 by_cases c3 : (l0.length : Int) = (l1.length : Int)
 ·rw [if_pos c3] at H
  have c3b0 : ((l0.length : Int) == (l1.length : Int)) = true := beq_iff_eq.mpr c3
  have c3b1 : ((l0.length : Int) != (l1.length : Int)) = false := bne_eq_false_iff_eq.mpr c3
  have c3b2 : (l0.length == l1.length) = true := by first | simpa using c3 | (simp at c3 ⊢; omega)
  clear c3
  have H' := za.mk H
  clear H
  go_enter Tryz.func46, Tryz.ntmps46
  go_wp2
  repeat (go_quiet (fail); try go_wp2)
  go_loopg [13] k (fun kq v13 w' => ∃ (x13_1 : Int), v13 = .int .i64 x13_1 ∧ za (yK.l0 kq l0 l1 (l0.length : Int) x13_1 = some r) ∧ za (kq ≤ k) ∧ zi w w')
  case atStart => exact ⟨(0), (by first | rfl | (simp; done) | (simp [*]; done)), H', ⟨Nat.le_refl _⟩, by repeat (first | exact zi.refl _ | apply zi.step)⟩
  case round =>
   clear H'
   try clear c1
   try clear p2
   try clear c3
   try clear c3b0
   try clear c3b1
   try clear c3b2
   obtain ⟨x13_1, rfl, HA, HK1, ⟨m1, rfl⟩⟩ := hrel
   cases gk with
   | zero => exact absurd HA.out (by simp [yK.l0])
   | succ k1 =>
    have H := HA.out
    clear HA
    simp only [yK.l0] at H
    by_cases c4 : x13_1 < (l0.length : Int)
    ·rw [if_pos c4] at H
     have c4b0 : decide (x13_1 < (l0.length : Int)) = true := decide_eq_true c4
     clear c4
     by_cases c5 : 0 ≤ x13_1
     ·rw [if_pos c5] at H
      have c5b0 : decide (0 ≤ x13_1) = true := decide_eq_true c5
      clear c5
      by_cases c6 : x13_1 < (l0.length : Int)
      ·rw [if_pos c6] at H
       have c6b0 : decide (x13_1 < (l0.length : Int)) = true := decide_eq_true c6
       clear c6
       by_cases c7 : x13_1 < (l1.length : Int)
       ·rw [if_pos c7] at H
        have c7b0 : decide (x13_1 < (l1.length : Int)) = true := decide_eq_true c7
        clear c7
        by_cases c8 : (!(((yv l0 x13_1).f0) == ((yv l1 x13_1).f0)) || (!(((yv l0 x13_1).f1) == ((yv l1 x13_1).f1)))) = true
        ·rw [if_pos c8] at H
         have c8b0 : (!(((yv l0 x13_1).f0) == ((yv l1 x13_1).f0)) || (!(((yv l0 x13_1).f1) == ((yv l1 x13_1).f1)))) = true := c8
         clear c8
         obtain rfl := Option.some.inj H
         have p114 : 0 ≤ (x13_1 : Int) := of_decide_eq_true (by first | (with_reducible assumption) | assumption)
         have q114 : x13_1 < (l0.length : Int) := of_decide_eq_true (by first | (with_reducible assumption) | assumption)
         obtain ⟨ad114, e114, hx114_0, hx114_1⟩ := vr HR0.out x13_1 p114 q114
         cases e114
         replace p114 := eq_true p114
         replace q114 := eq_true q114
         have p115 : 0 ≤ (x13_1 : Int) := of_decide_eq_true (by first | (with_reducible assumption) | assumption)
         have q115 : x13_1 < (l1.length : Int) := of_decide_eq_true (by first | (with_reducible assumption) | assumption)
         obtain ⟨ad115, e115, hx115_0, hx115_1⟩ := vr HR1.out x13_1 p115 q115
         cases e115
         replace p115 := eq_true p115
         replace q115 := eq_true q115
         go_wp2
         repeat (go_quiet (fail); try go_wp2)
         go_ret
         exact ⟨by first | rfl | (simp; done) | (simp [*]; done), by repeat (first | exact zi.refl _ | apply zi.step)⟩
        ·rw [if_neg c8] at H
         have c8b0 : (!(((yv l0 x13_1).f0) == ((yv l1 x13_1).f0)) || (!(((yv l0 x13_1).f1) == ((yv l1 x13_1).f1)))) = false := by simpa using c8
         clear c8
         have H' := za.mk H
         clear H
         have p114 : 0 ≤ (x13_1 : Int) := of_decide_eq_true (by first | (with_reducible assumption) | assumption)
         have q114 : x13_1 < (l0.length : Int) := of_decide_eq_true (by first | (with_reducible assumption) | assumption)
         obtain ⟨ad114, e114, hx114_0, hx114_1⟩ := vr HR0.out x13_1 p114 q114
         cases e114
         replace p114 := eq_true p114
         replace q114 := eq_true q114
         have p115 : 0 ≤ (x13_1 : Int) := of_decide_eq_true (by first | (with_reducible assumption) | assumption)
         have q115 : x13_1 < (l1.length : Int) := of_decide_eq_true (by first | (with_reducible assumption) | assumption)
         obtain ⟨ad115, e115, hx115_0, hx115_1⟩ := vr HR1.out x13_1 p115 q115
         cases e115
         replace p115 := eq_true p115
         replace q115 := eq_true q115
         go_wp2
         repeat (go_quiet (fail); try go_wp2)
         go_roundg k1
         case measure => have := HK1.out; omega
         case rel => exact ⟨(wrap64 (x13_1 + 1)), (by first | rfl | (simp; done) | (simp [*]; done)), H', ⟨by have := HK1.out; omega⟩, by repeat (first | exact zi.refl _ | apply zi.step)⟩
       ·rw [if_neg c7] at H
        exact absurd H (by simp)
      ·rw [if_neg c6] at H
       exact absurd H (by simp)
     ·rw [if_neg c5] at H
      exact absurd H (by simp)
    ·rw [if_neg c4] at H
     have c4b0 : decide (x13_1 < (l0.length : Int)) = false := decide_eq_false c4
     clear c4
     obtain rfl := Option.some.inj H
     go_wp2
     repeat (go_quiet (fail); try go_wp2)
     go_ret
     exact ⟨by first | rfl | (simp; done) | (simp [*]; done), by repeat (first | exact zi.refl _ | apply zi.step)⟩
 ·rw [if_neg c3] at H
  have c3b0 : ((l0.length : Int) == (l1.length : Int)) = false := beq_eq_false_iff_ne.mpr c3
  have c3b1 : ((l0.length : Int) != (l1.length : Int)) = true := bne_iff_ne.mpr c3
  have c3b2 : (l0.length == l1.length) = false := by first | simpa using c3 | (simp at c3 ⊢; omega)
  obtain rfl := Option.some.inj H
  go_enter Tryz.func46, Tryz.ntmps46
  go_wp2
  repeat (go_quiet (fail); try go_wp2)
  go_ret
  exact ⟨by first | rfl | (simp; done) | (simp [*]; done), by repeat (first | exact zi.refl _ | apply zi.step)⟩
theorem zb3 (a b c d : Int) (R : Option Bool) : (if (!(a == b) || !(c == d)) = true then some false else R) = (some (decide (a = b ∧ c = d))).bind fun b => if b = true then R else some false := by
 by_cases h1 : a = b <;> by_cases h2 : c = d <;> simp [h1, h2]
theorem Va (l : List S77) (i : Nat) (h : i < l.length) : yv l (i : Int) = l[i] := by simp [yv, h]
theorem eqT77 (a b : S77) : a = b ↔ a.f0 = b.f0 ∧ a.f1 = b.f1 := by
 cases a
 cases b
 simp
theorem qP (x y : List ByteArray) (hb : x.length ≤ 9223372036854775807) (k : Nat) (hk : 10000000000000000000 ≤ k) : jd (zP.f k x y) (x = y) := by
 unfold zP.f
 refine Xp fun hl => ?_
 refine Xa (fun k i => zP.l0 k x y (x.length : Int) i) x y hl 0 k (by omega) (fun k => ?_) (fun k i h0 h1 hk => ?_)
 ·show zP.l0 (k + 1) x y (x.length : Int) _ = _
  rw [zP.l0, if_neg (by omega)]
 ·have ei := z4 (i := (i : Int)) (by omega) (by omega)
  show ∃ o, _ ∧ zP.l0 (k + 1) x y (x.length : Int) _ = _
  rw [zP.l0, if_pos (by omega), if_pos (by omega), if_pos (by omega), if_pos (by omega), zaU x i h0, zaU y i h1, ei]
  rw [JR]
  exact ⟨_, (Xh _).iff j7, rfl⟩
theorem Yd (x y : List S77) (hb : x.length ≤ 9223372036854775807) (k : Nat) (hk : 10000000000000000000 ≤ k) : jd (yK.f k x y) (x = y) := by
 unfold yK.f
 refine Xp fun hl => ?_
 refine Xa (fun k i => yK.l0 k x y (x.length : Int) i) x y hl 0 k (by omega) (fun k => ?_) (fun k i h0 h1 hk => ?_)
 ·show yK.l0 (k + 1) x y (x.length : Int) _ = _
  rw [yK.l0, if_neg (by omega)]
 ·have ei := z4 (i := (i : Int)) (by omega) (by omega)
  show ∃ o, _ ∧ yK.l0 (k + 1) x y (x.length : Int) _ = _
  rw [yK.l0, if_pos (by omega), if_pos (by omega), if_pos (by omega), if_pos (by omega), Va x i h0, Va y i h1, ei]
  rw [zb3]
  exact ⟨_, (Xh _).iff (eqT77 _ _).symm, rfl⟩
theorem dr_b {P : Program} {f : FuncId} {args : Array Value} {u : Value} {w : World} (h : Calls P f args w fun e w' => e = .returned u ∧ zi w w') : Calls P f args w fun e w' => e = .returned u ∧ Below w.heap.size w w' := h.mono fun e w' he => ⟨he.1, he.2.below⟩
abbrev Cmp5 (w : World) (v u : Value) (b : Bool) : Prop := ∀ w', Below w.heap.size w w' → Calls Tryz.prog 45 #[v, u] w' fun e w2 => e = .returned (.bool b) ∧ Below w'.heap.size w' w2
abbrev Cmp6 (w : World) (v u : Value) (b : Bool) : Prop := ∀ w', Below w.heap.size w w' → Calls Tryz.prog 47 #[v, u, .func (Fn.func 48) #[] #[]] w' fun e w2 => e = .returned (.bool b) ∧ Below w'.heap.size w' w2
abbrev Cmp7 (w : World) (v u : Value) (b : Bool) : Prop := ∀ w', Below w.heap.size w w' → Calls Tryz.prog 49 #[v, u, .func (Fn.func 50) #[] #[]] w' fun e w2 => e = .returned (.bool b) ∧ Below w'.heap.size w' w2
abbrev Cmp8 (w : World) (v u : Value) (b : Bool) : Prop := ∀ w', Below w.heap.size w w' → Calls Tryz.prog 51 #[v, u, .func (Fn.func 52) #[] #[]] w' fun e w2 => e = .returned (.bool b) ∧ Below w'.heap.size w' w2
abbrev Cmp9 (w : World) (v u : Value) (b : Bool) : Prop := ∀ w', Below w.heap.size w w' → Calls Tryz.prog 46 #[v, u] w' fun e w2 => e = .returned (.bool b) ∧ Below w'.heap.size w' w2
theorem vy {a0 a1 a2 a3 a4 e0 e1 e2 e3 e4 : Int} {v5 v6 v7 v8 v9 u5 u6 u7 u8 u9 : Value} {p0 p1 p2 p3 p4 b5 b6 b7 b8 b9 : Bool} {w : World} (q0 : (a0 == e0) = p0) (q1 : (a1 == e1) = p1) (q2 : (a2 == e2) = p2) (q3 : (a3 == e3) = p3) (q4 : (a4 == e4) = p4) (h5 : Cmp5 w v5 u5 b5) (h6 : Cmp6 w v6 u6 b6) (h7 : Cmp7 w v7 u7 b7) (h8 : Cmp8 w v8 u8 b8) (h9 : Cmp9 w v9 u9 b9) :
  Calls Tryz.prog 15 #[.agg #[.int .i64 a0, .int .i64 a1, .int .i64 a2, .int .i64 a3, .int .i64 a4, v5, v6, v7, v8, v9], .agg #[.int .i64 e0, .int .i64 e1, .int .i64 e2, .int .i64 e3, .int .i64 e4, u5, u6, u7, u8, u9]] w fun e w' => e = .returned (.bool ((p0 && (p1 && (p2 && (p3 && p4)))) && (b5 && (b9 && (b6 && (b7 && b8)))))) ∧ Below w.heap.size w w' := by
 have HS := Sat.nil w
 replace h5 := za.mk h5
 replace h6 := za.mk h6
 replace h7 := za.mk h7
 replace h8 := za.mk h8
 replace h9 := za.mk h9
 go_enter Tryz.func15, Tryz.ntmps15
 go_upto_region 1 with ((first | ((with_reducible refine gB rfl ?_); refine zz HS ?_) | ((with_reducible refine gA rfl ?_); refine zt HS ?_) | ((with_reducible refine gS rfl ?_); refine zu HS ?_)); clear HS; (try clear hc); intros; rename_i HS; have hc := HS.lk; simp only [Lk, LkC, Value.cells, List.toList_toArray, Nat.reduceAdd, Nat.zero_add, and_true, zf, zg, ze, zh] at HS hc)
 cases p0
 case' true => cases p1
 case' true.true => cases p2
 case' true.true.true => cases p3
 case' true.true.true.true => cases p4
 case' true.true.true.true.true => cases b5
 case' true.true.true.true.true.true => cases b9
 case' true.true.true.true.true.true.true => cases b6
 case' true.true.true.true.true.true.true.true => cases b7
 case' true.true.true.true.true.true.true.true.true => cases b8
 all_goals
  go_wp2_with ((first | (go_at_call 45; refine HS.go (h5.out _ HS.below) ?_) | (go_at_call 47; refine HS.go (h6.out _ HS.below) ?_) | (go_at_call 49; refine HS.go (h7.out _ HS.below) ?_) | (go_at_call 51; refine HS.go (h8.out _ HS.below) ?_) | (go_at_call 46; refine HS.go (h9.out _ HS.below) ?_)); clear HS; (try clear hc); intros; rename_i HS; have hc := HS.lk; simp only [Lk, LkC, Value.cells, List.toList_toArray, Nat.reduceAdd, Nat.zero_add, and_true, zf, zg, ze, zh] at HS hc)
  go_ret
  exact ⟨rfl, HS.below⟩
theorem za5 {l : List ByteArray} {v u : Value} {w : World} (h : Rd Kd.string w v l) (h2 : Rd Kd.string w u l) : Cmp5 w v u true := fun w' hb => by
 obtain ⟨A, c, rfl, hl, hr⟩ := h
 obtain ⟨A2, c2, rfl, hl2, hr2⟩ := h2
 obtain ⟨b, h1, h2⟩ := qP l l hr.2.1 10000000000000000000 (Nat.le_refl _)
 rw [h2.2 rfl] at h1
 exact dr_b (zP.calls _ A c l A2 c2 l true w' (Kd.C_below hr hb) hl (Kd.C_below hr2 hb) hl2 h1)
theorem Zf {l : List ByteArray} {u : Value} {w : World} (h2 : Rd Kd.string w u l) : Cmp5 w (.slice none 0 0) u (decide (l.length = 0)) := fun w' hb => by
 obtain ⟨A2, c2, rfl, hl2, hr2⟩ := h2
 obtain ⟨b, h1, h2⟩ := qP [] l (by simp) 10000000000000000000 (Nat.le_refl _)
 have hb2 : b = decide (l.length = 0) := by
  rw [Bool.eq_iff_iff, h2, decide_eq_true_iff, List.length_eq_zero_iff]
  exact eq_comm
 rw [hb2] at h1
 exact dr_b (zP.calls _ none 0 [] A2 c2 l _ w' (Kd.C_nil _ _) (Nat.le_refl _) (Kd.C_below hr2 hb) hl2 h1)
theorem za9 {l : List S52} {v u : Value} {w : World} (h : Rd k52 w v l) (h2 : Rd k52 w u l) : Cmp6 w v u true := fun w' hb => QU (h.below hb) (h2.below hb)
theorem Zl {l : List S52} {u : Value} {w : World} (h2 : Rd k52 w u l) : Cmp6 w (.slice none 0 0) u (decide (l.length = 0)) := fun w' hb => by
 by_cases h : l.length = 0
 ·obtain rfl := List.eq_nil_of_length_eq_zero h
  exact QU (l := []) jS (h2.below hb)
 ·rw [decide_eq_false h]
  obtain ⟨A2, c2, rfl, hl2, hr2⟩ := h2
  exact Qk (zdk (fun e => h e.symm))
theorem zbe {l : List S46} {v u : Value} {w : World} (h : Rd k46 w v l) (h2 : Rd k46 w u l) : Cmp7 w v u true := fun w' hb => XD (h.below hb) (h2.below hb)
theorem vY {l : List S46} {u : Value} {w : World} (h2 : Rd k46 w u l) : Cmp7 w (.slice none 0 0) u (decide (l.length = 0)) := fun w' hb => by
 by_cases h : l.length = 0
 ·obtain rfl := List.eq_nil_of_length_eq_zero h
  exact XD (l := []) jS (h2.below hb)
 ·rw [decide_eq_false h]
  obtain ⟨A2, c2, rfl, hl2, hr2⟩ := h2
  exact Y6 (za8 (fun e => h e.symm))
theorem zbl {l : List S86} {v u : Value} {w : World} (h : Rd k86 w v l) (h2 : Rd k86 w u l) : Cmp8 w v u true := fun w' hb => XV (h.below hb) (h2.below hb)
theorem Zj {l : List S86} {u : Value} {w : World} (h2 : Rd k86 w u l) : Cmp8 w (.slice none 0 0) u (decide (l.length = 0)) := fun w' hb => by
 by_cases h : l.length = 0
 ·obtain rfl := List.eq_nil_of_length_eq_zero h
  exact XV (l := []) jS (h2.below hb)
 ·rw [decide_eq_false h]
  obtain ⟨A2, c2, rfl, hl2, hr2⟩ := h2
  exact XF (zcx (fun e => h e.symm))
theorem zbI {l : List S77} {v u : Value} {w : World} (h : Rd k77 w v l) (h2 : Rd k77 w u l) : Cmp9 w v u true := fun w' hb => by
 obtain ⟨A, c, rfl, hl, hr⟩ := h
 obtain ⟨A2, c2, rfl, hl2, hr2⟩ := h2
 obtain ⟨b, h1, h2⟩ := Yd l l hr.2.1 10000000000000000000 (Nat.le_refl _)
 rw [h2.2 rfl] at h1
 exact dr_b (yK.calls _ A c l A2 c2 l true w' (Kd.C_below hr hb) hl (Kd.C_below hr2 hb) hl2 h1)
theorem Zh {l : List S77} {u : Value} {w : World} (h2 : Rd k77 w u l) : Cmp9 w (.slice none 0 0) u (decide (l.length = 0)) := fun w' hb => by
 obtain ⟨A2, c2, rfl, hl2, hr2⟩ := h2
 obtain ⟨b, h1, h2⟩ := Yd [] l (by simp) 10000000000000000000 (Nat.le_refl _)
 have hb2 : b = decide (l.length = 0) := by
  rw [Bool.eq_iff_iff, h2, decide_eq_true_iff, List.length_eq_zero_iff]
  exact eq_comm
 rw [hb2] at h1
 exact dr_b (yK.calls _ none 0 [] A2 c2 l _ w' (Kd.C_nil _ _) (Nat.le_refl _) (Kd.C_below hr2 hb) hl2 h1)
def yb.f (a0 : Int) (a1 : Int) (a2 : Int) : Option (Bool) := if a0 ≥ a1 then (some (decide (a0 ≤ a2))) else (some false)
theorem yb.calls (a0 : Int) (a1 : Int) (a2 : Int) (r : Bool) (w : World) (h : yb.f a0 a1 a2 = some r) :
  Calls Tryz.prog 38 #[.int .i64 a0, .int .i64 a1, .int .i64 a2] w fun e w' => e = .returned (.bool r) ∧ zi w w' := by
 have H : (if a0 ≥ a1 then (some (decide (a0 ≤ a2))) else (some false)) = some r := h
 clear h
 by_cases c4 : a0 ≥ a1
 ·rw [if_pos c4] at H
  have c4b0 : decide (a1 ≤ a0) = true := decide_eq_true c4
  clear c4
  obtain rfl := Option.some.inj H
  go_enter Tryz.func38, Tryz.ntmps38
  go_wp2
  go_ret
  exact ⟨by first | rfl | (simp; done) | (simp [*]; done), by repeat (first | exact zi.refl _ | apply zi.step)⟩
 ·rw [if_neg c4] at H
  have c4b0 : decide (a1 ≤ a0) = false := decide_eq_false c4
  clear c4
  obtain rfl := Option.some.inj H
  go_enter Tryz.func38, Tryz.ntmps38
  go_wp2
  go_ret
  exact ⟨by first | rfl | (simp; done) | (simp [*]; done), by repeat (first | exact zi.refl _ | apply zi.step)⟩
mutual
def zD.l0 : Nat → ByteArray → Int → Int → Option (Bool)
 | 0, _, _, _ => none
 | k + 1, x0, x8, x9 => if x9 < x8 then (if 0 ≤ x9 then (if x9 < (x0.size : Int) then (if (bt x0 x9) ≥ 97 then (zD.j1 k x0 (bt x0 x9) x8 x9 (decide ((bt x0 x9) ≤ 122))) else (zD.j1 k x0 (bt x0 x9) x8 x9 false)) else (none)) else (none)) else (some true)
def zD.j1 : Nat → ByteArray → Int → Int → Int → Bool → Option (Bool)
 | 0, _, _, _, _, _ => none
 | k + 1, x0, x4, x8, x9, x15 => if x15 = true then (zD.l0 k x0 x8 (wrap64 (x9 + 1))) else (if x4 ≥ 48 then (zD.j2 k x0 x4 x8 x9 (decide (x4 ≤ 57))) else (zD.j2 k x0 x4 x8 x9 false))
def zD.j2 : Nat → ByteArray → Int → Int → Int → Bool → Option (Bool)
 | 0, _, _, _, _, _ => none
 | k + 1, x0, x4, x8, x9, x15 => if x15 = true then (zD.l0 k x0 x8 (wrap64 (x9 + 1))) else (if x4 = 45 then (zD.l0 k x0 x8 (wrap64 (x9 + 1))) else (if x4 = 95 then (zD.l0 k x0 x8 (wrap64 (x9 + 1))) else (some false)))
end
def zD.f (k : Nat) (a0 : ByteArray) : Option (Bool) := if a0.toList = ([] : List UInt8) then (some false) else (zD.l0 k a0 (a0.size : Int) 0)
theorem zD.calls (k : Nat) (a0 : ByteArray) (r : Bool) (w : World) (h : zD.f k a0 = some r) :
  Calls Tryz.prog 177 #[.string a0] w fun e w' => e = .returned (.bool r) ∧ zi w w' := by
 have H : (if a0.toList = ([] : List UInt8) then (some false) else (zD.l0 k a0 (a0.size : Int) 0)) = some r := h
 clear h
 by_cases c2 : a0.toList = ([] : List UInt8)
 ·rw [if_pos c2] at H
  have c2b0 : (a0.toList == ([] : List UInt8)) = true := beq_iff_eq.mpr c2
  have c2b1 : (a0.toList != ([] : List UInt8)) = false := bne_eq_false_iff_eq.mpr c2
  clear c2
  obtain rfl := Option.some.inj H
  go_enter Tryz.func177, Tryz.ntmps177
  go_wp2
  (try (go_step3; go_wp2))
  (try (go_step3; go_wp2))
  (try simp only [Exit.noGoto_ret, Exit.then, Exit.noGoto])
  go_ret
  exact ⟨by first | rfl | (simp; done) | (simp [*]; done), by repeat (first | exact zi.refl _ | apply zi.step)⟩
 ·rw [if_neg c2] at H
  have c2b0 : (a0.toList == ([] : List UInt8)) = false := beq_eq_false_iff_ne.mpr c2
  have c2b1 : (a0.toList != ([] : List UInt8)) = true := bne_iff_ne.mpr c2
  have H' := za.mk H
  clear H
  go_enter Tryz.func177, Tryz.ntmps177
  go_wp2
  (try (go_step3; go_wp2))
  (try (go_step3; go_wp2))
  go_loopg [9] k (fun kq v9 w' => ∃ (x9_1 : Int), v9 = .int .i64 x9_1 ∧ za (zD.l0 kq a0 (a0.size : Int) x9_1 = some r) ∧ za (kq ≤ k) ∧ zi w w')
  case atStart => exact ⟨(0), (by first | rfl | (simp; done) | (simp [*]; done)), H', ⟨Nat.le_refl _⟩, by repeat (first | exact zi.refl _ | apply zi.step)⟩
  case round =>
   clear H'
   try clear c1
   try clear c2
   try clear c2b0
   try clear c2b1
   try clear p2
   obtain ⟨x9_1, rfl, HA, HK1, ⟨m1, rfl⟩⟩ := hrel
   cases gk with
   | zero => exact absurd HA.out (by simp [zD.l0])
   | succ k1 =>
    have H := HA.out
    clear HA
    simp only [zD.l0] at H
    by_cases c3 : x9_1 < (a0.size : Int)
    ·rw [if_pos c3] at H
     have c3b0 : decide (x9_1 < (a0.size : Int)) = true := decide_eq_true c3
     clear c3
     by_cases c4 : 0 ≤ x9_1
     ·rw [if_pos c4] at H
      have c4b0 : decide (0 ≤ x9_1) = true := decide_eq_true c4
      clear c4
      by_cases c5 : x9_1 < (a0.size : Int)
      ·rw [if_pos c5] at H
       have c5b0 : decide (x9_1 < (a0.size : Int)) = true := decide_eq_true c5
       clear c5
       have HC7 := za.mk H
       clear H
       have p6 : 0 ≤ (x9_1 : Int) := of_decide_eq_true (by first | (with_reducible assumption) | assumption)
       have q6 : x9_1 < (a0.size : Int) := of_decide_eq_true (by first | (with_reducible assumption) | assumption)
       have hx6 := xg a0 x9_1
       replace p6 := eq_true p6
       replace q6 := eq_true q6
       go_upto_region 7 with (fail)
       go_cut [15] (fun v15 wc => ∃ (kq : Nat) (x15_6 : Bool), v15 = .bool x15_6 ∧ za (zD.j1 kq a0 (bt a0 x9_1) (a0.size : Int) x9_1 x15_6 = some r) ∧ za (kq ≤ k1) ∧ zi w wc)
       case first =>
        have H := HC7.out
        clear HC7
        by_cases c8 : (bt a0 x9_1) ≥ 97
        ·rw [if_pos c8] at H
         have c8b0 : decide (97 ≤ (bt a0 x9_1)) = true := decide_eq_true c8
         clear c8
         (first | rw [c8b0] | (simp only [zT, yc]; rw [c8b0]) | skip)
         have H' := za.mk H
         clear H
         go_wp2
         (try (go_step3; go_wp2))
         (try (go_step3; go_wp2))
         go_meet
         case rel => exact ⟨_, (decide ((bt a0 x9_1) ≤ 122)), (by first | rfl | (simp; done) | (simp [*]; done)), H', ⟨by have := HK1.out; first | omega | exact Nat.le_refl _⟩, by repeat (first | exact zi.refl _ | apply zi.step)⟩
        ·rw [if_neg c8] at H
         have c8b0 : decide (97 ≤ (bt a0 x9_1)) = false := decide_eq_false c8
         clear c8
         (first | rw [c8b0] | (simp only [zT, yc]; rw [c8b0]) | skip)
         have H' := za.mk H
         clear H
         go_wp2
         (try (go_step3; go_wp2))
         (try (go_step3; go_wp2))
         go_meet
         case rel => exact ⟨_, (false), (by first | rfl | (simp; done) | (simp [*]; done)), H', ⟨by have := HK1.out; first | omega | exact Nat.le_refl _⟩, by repeat (first | exact zi.refl _ | apply zi.step)⟩
       case rest =>
        clear HC7
        try clear c1
        try clear c2
        try clear c2b0
        try clear c2b1
        try clear p2
        try clear c3
        try clear c3b0
        try clear c4
        try clear c4b0
        try clear c5
        try clear c5b0
        try clear p6
        try clear q6
        try clear hx6
        try clear c8
        try clear c8b0
        try clear p2
        try clear p6
        try clear q6
        obtain ⟨kq, x15_6, rfl, HA, HJ6, ⟨mc6, rfl⟩⟩ := hcut
        cases kq with
        | zero => exact absurd HA.out (by simp [zD.j1])
        | succ kj6 =>
         have H := HA.out
         clear HA
         simp only [zD.j1] at H
         by_cases c9 : x15_6 = true
         ·subst c9
          have H1 : (zD.l0 kj6 a0 (a0.size : Int) (wrap64 (x9_1 + 1))) = some r := by rw [if_pos rfl] at H; exact H
          clear H
          have H := H1
          clear H1
          have H' := za.mk H
          clear H
          go_wp2
          (try (go_step3; go_wp2))
          (try (go_step3; go_wp2))
          go_roundg kj6
          case measure => have := HK1.out; have := HJ6.out; omega
          case rel => exact ⟨(wrap64 (x9_1 + 1)), (by first | rfl | (simp; done) | (simp [*]; done)), H', ⟨by have := HK1.out; have := HJ6.out; omega⟩, by repeat (first | exact zi.refl _ | apply zi.step)⟩
         ·replace c9 := zdM.mpr c9
          subst c9
          have H1 : (if (bt a0 x9_1) ≥ 48 then (zD.j2 kj6 a0 (bt a0 x9_1) (a0.size : Int) x9_1 (decide ((bt a0 x9_1) ≤ 57))) else (zD.j2 kj6 a0 (bt a0 x9_1) (a0.size : Int) x9_1 false)) = some r := by rw [if_neg (show ¬ (false = true) by decide)] at H; exact H
          clear H
          have H := H1
          clear H1
          have HC10 := za.mk H
          clear H
          go_upto_region 8 with (fail)
          go_cut [15] (fun v15 wc => ∃ (kq : Nat) (x15_9 : Bool), v15 = .bool x15_9 ∧ za (zD.j2 kq a0 (bt a0 x9_1) (a0.size : Int) x9_1 x15_9 = some r) ∧ za (kq ≤ kj6) ∧ zi w wc)
          case first =>
           have H := HC10.out
           clear HC10
           by_cases c11 : (bt a0 x9_1) ≥ 48
           ·rw [if_pos c11] at H
            have c11b0 : decide (48 ≤ (bt a0 x9_1)) = true := decide_eq_true c11
            clear c11
            (first | rw [c11b0] | (simp only [zT, yc]; rw [c11b0]) | skip)
            have H' := za.mk H
            clear H
            go_wp2
            (try (go_step3; go_wp2))
            (try (go_step3; go_wp2))
            go_meet
            case rel => exact ⟨_, (decide ((bt a0 x9_1) ≤ 57)), (by first | rfl | (simp; done) | (simp [*]; done)), H', ⟨by have := HK1.out; have := HJ6.out; first | omega | exact Nat.le_refl _⟩, by repeat (first | exact zi.refl _ | apply zi.step)⟩
           ·rw [if_neg c11] at H
            have c11b0 : decide (48 ≤ (bt a0 x9_1)) = false := decide_eq_false c11
            clear c11
            (first | rw [c11b0] | (simp only [zT, yc]; rw [c11b0]) | skip)
            have H' := za.mk H
            clear H
            go_wp2
            (try (go_step3; go_wp2))
            (try (go_step3; go_wp2))
            go_meet
            case rel => exact ⟨_, (false), (by first | rfl | (simp; done) | (simp [*]; done)), H', ⟨by have := HK1.out; have := HJ6.out; first | omega | exact Nat.le_refl _⟩, by repeat (first | exact zi.refl _ | apply zi.step)⟩
          case rest =>
           clear HC10
           try clear c1
           try clear c2
           try clear c2b0
           try clear c2b1
           try clear p2
           try clear c3
           try clear c3b0
           try clear c4
           try clear c4b0
           try clear c5
           try clear c5b0
           try clear c6
           try clear p6
           try clear q6
           try clear hx6
           try clear c8
           try clear c8b0
           try clear c9
           try clear c11
           try clear c11b0
           try clear p2
           try clear p6
           try clear q6
           obtain ⟨kq, x15_9, rfl, HA, HJ9, ⟨mc9, rfl⟩⟩ := hcut
           cases kq with
           | zero => exact absurd HA.out (by simp [zD.j2])
           | succ kj9 =>
            have H := HA.out
            clear HA
            simp only [zD.j2] at H
            by_cases c12 : x15_9 = true
            ·subst c12
             have H1 : (zD.l0 kj9 a0 (a0.size : Int) (wrap64 (x9_1 + 1))) = some r := by rw [if_pos rfl] at H; exact H
             clear H
             have H := H1
             clear H1
             have H' := za.mk H
             clear H
             go_wp2
             (try (go_step3; go_wp2))
             (try (go_step3; go_wp2))
             go_roundg kj9
             case measure => have := HK1.out; have := HJ6.out; have := HJ9.out; omega
             case rel => exact ⟨(wrap64 (x9_1 + 1)), (by first | rfl | (simp; done) | (simp [*]; done)), H', ⟨by have := HK1.out; have := HJ6.out; have := HJ9.out; omega⟩, by repeat (first | exact zi.refl _ | apply zi.step)⟩
            ·replace c12 := zdM.mpr c12
             subst c12
             have H1 : (if (bt a0 x9_1) = 45 then (zD.l0 kj9 a0 (a0.size : Int) (wrap64 (x9_1 + 1))) else (if (bt a0 x9_1) = 95 then (zD.l0 kj9 a0 (a0.size : Int) (wrap64 (x9_1 + 1))) else (some false))) = some r := by rw [if_neg (show ¬ (false = true) by decide)] at H; exact H
             clear H
             have H := H1
             clear H1
             by_cases c13 : (bt a0 x9_1) = 45
             ·rw [if_pos c13] at H
              have c13b0 : ((bt a0 x9_1) == 45) = true := beq_iff_eq.mpr c13
              have c13b1 : ((bt a0 x9_1) != 45) = false := bne_eq_false_iff_eq.mpr c13
              clear c13
              have H' := za.mk H
              clear H
              go_wp2
              (try (go_step3; go_wp2))
              (try (go_step3; go_wp2))
              go_roundg kj9
              case measure => have := HK1.out; have := HJ6.out; have := HJ9.out; omega
              case rel => exact ⟨(wrap64 (x9_1 + 1)), (by first | rfl | (simp; done) | (simp [*]; done)), H', ⟨by have := HK1.out; have := HJ6.out; have := HJ9.out; omega⟩, by repeat (first | exact zi.refl _ | apply zi.step)⟩
             ·rw [if_neg c13] at H
              have c13b0 : ((bt a0 x9_1) == 45) = false := beq_eq_false_iff_ne.mpr c13
              have c13b1 : ((bt a0 x9_1) != 45) = true := bne_iff_ne.mpr c13
              by_cases c14 : (bt a0 x9_1) = 95
              ·rw [if_pos c14] at H
               have c14b0 : ((bt a0 x9_1) == 95) = true := beq_iff_eq.mpr c14
               have c14b1 : ((bt a0 x9_1) != 95) = false := bne_eq_false_iff_eq.mpr c14
               clear c14
               have H' := za.mk H
               clear H
               go_wp2
               (try (go_step3; go_wp2))
               (try (go_step3; go_wp2))
               go_roundg kj9
               case measure => have := HK1.out; have := HJ6.out; have := HJ9.out; omega
               case rel => exact ⟨(wrap64 (x9_1 + 1)), (by first | rfl | (simp; done) | (simp [*]; done)), H', ⟨by have := HK1.out; have := HJ6.out; have := HJ9.out; omega⟩, by repeat (first | exact zi.refl _ | apply zi.step)⟩
              ·rw [if_neg c14] at H
               have c14b0 : ((bt a0 x9_1) == 95) = false := beq_eq_false_iff_ne.mpr c14
               have c14b1 : ((bt a0 x9_1) != 95) = true := bne_iff_ne.mpr c14
               obtain rfl := Option.some.inj H
               go_wp2
               (try (go_step3; go_wp2))
               (try (go_step3; go_wp2))
               (try simp only [Exit.noGoto_ret, Exit.then, Exit.noGoto])
               go_ret
               exact ⟨by first | rfl | (simp; done) | (simp [*]; done), by repeat (first | exact zi.refl _ | apply zi.step)⟩
      ·rw [if_neg c5] at H
       exact absurd H (by simp)
     ·rw [if_neg c4] at H
      exact absurd H (by simp)
    ·rw [if_neg c3] at H
     have c3b0 : decide (x9_1 < (a0.size : Int)) = false := decide_eq_false c3
     clear c3
     obtain rfl := Option.some.inj H
     go_wp2
     (try (go_step3; go_wp2))
     (try (go_step3; go_wp2))
     (try simp only [Exit.noGoto_ret, Exit.then, Exit.noGoto])
     go_ret
     exact ⟨by first | rfl | (simp; done) | (simp [*]; done), by repeat (first | exact zi.refl _ | apply zi.step)⟩
def xx.f (k : Nat) (a0 : Int) (a1 : Int) (a2 : ByteArray) : Option (Bool) := (zD.f k a2).bind fun t284 => (if t284 = true then (some true) else (if a2.toList = ([42] : List UInt8) then (some true) else (if a2.toList = ([42, 42] : List UInt8) then (some (a0 == (wrap64 (a1 - 1)))) else (some false))))
theorem xx.calls (k : Nat) (a0 : Int) (a1 : Int) (a2 : ByteArray) (r : Bool) (w : World) (h : xx.f k a0 a1 a2 = some r) :
  Calls Tryz.prog 176 #[.int .i64 a0, .int .i64 a1, .string a2] w fun e w' => e = .returned (.bool r) ∧ zi w w' := by
 have H : ((zD.f k a2).bind fun t284 => (if t284 = true then (some true) else (if a2.toList = ([42] : List UInt8) then (some true) else (if a2.toList = ([42, 42] : List UInt8) then (some (a0 == (wrap64 (a1 - 1)))) else (some false))))) = some r := h
 clear h
 replace H := zdK.mp H
 obtain ⟨t284, A40, H⟩ := H
 replace H : (if t284 = true then (some true) else (if a2.toList = ([42] : List UInt8) then (some true) else (if a2.toList = ([42, 42] : List UInt8) then (some (a0 == (wrap64 (a1 - 1)))) else (some false)))) = some r := H
 have A4 := za.mk A40
 clear A40
 by_cases c5 : t284 = true
 ·subst c5
  have H1 : (some true) = some r := by rw [if_pos rfl] at H; exact H
  clear H
  have H := H1
  clear H1
  obtain rfl := Option.some.inj H
  go_enter Tryz.func176, Tryz.ntmps176
  go_wp2_with (first | ((with_reducible refine zr (f := 177) rfl ?_); refine zL (some 8) rfl rfl Tryz.func177 (by kernel_rfl) rfl #[.string a2] rfl (by (try simp only [zdJ, List.map_cons, List.map_nil]); first | done | rfl | (simp only [List.length_drop, List.length_take]; rfl)) ?_; (with_reducible refine (zD.calls k a2 true _ A4.out).mono ?_); rintro e w' ⟨rfl, ⟨nd, rfl⟩⟩; refine ⟨_, rfl, ?_⟩))
  go_ret
  exact ⟨by first | rfl | (simp; done) | (simp [*]; done), by repeat (first | exact zi.refl _ | apply zi.step)⟩
 ·replace c5 := zdM.mpr c5
  subst c5
  have H1 : (if a2.toList = ([42] : List UInt8) then (some true) else (if a2.toList = ([42, 42] : List UInt8) then (some (a0 == (wrap64 (a1 - 1)))) else (some false))) = some r := by rw [if_neg (show ¬ (false = true) by decide)] at H; exact H
  clear H
  have H := H1
  clear H1
  by_cases c6 : a2.toList = ([42] : List UInt8)
  ·rw [if_pos c6] at H
   have c6b0 : (a2.toList == ([42] : List UInt8)) = true := beq_iff_eq.mpr c6
   have c6b1 : (a2.toList != ([42] : List UInt8)) = false := bne_eq_false_iff_eq.mpr c6
   clear c6
   obtain rfl := Option.some.inj H
   go_enter Tryz.func176, Tryz.ntmps176
   go_wp2_with (first | ((with_reducible refine zr (f := 177) rfl ?_); refine zL (some 8) rfl rfl Tryz.func177 (by kernel_rfl) rfl #[.string a2] rfl (by (try simp only [zdJ, List.map_cons, List.map_nil]); first | done | rfl | (simp only [List.length_drop, List.length_take]; rfl)) ?_; (with_reducible refine (zD.calls k a2 false _ A4.out).mono ?_); rintro e w' ⟨rfl, ⟨nd, rfl⟩⟩; refine ⟨_, rfl, ?_⟩))
   go_ret
   exact ⟨by first | rfl | (simp; done) | (simp [*]; done), by repeat (first | exact zi.refl _ | apply zi.step)⟩
  ·rw [if_neg c6] at H
   have c6b0 : (a2.toList == ([42] : List UInt8)) = false := beq_eq_false_iff_ne.mpr c6
   have c6b1 : (a2.toList != ([42] : List UInt8)) = true := bne_iff_ne.mpr c6
   by_cases c7 : a2.toList = ([42, 42] : List UInt8)
   ·rw [if_pos c7] at H
    have c7b0 : (a2.toList == ([42, 42] : List UInt8)) = true := beq_iff_eq.mpr c7
    have c7b1 : (a2.toList != ([42, 42] : List UInt8)) = false := bne_eq_false_iff_eq.mpr c7
    clear c7
    obtain rfl := Option.some.inj H
    go_enter Tryz.func176, Tryz.ntmps176
    go_wp2_with (first | ((with_reducible refine zr (f := 177) rfl ?_); refine zL (some 8) rfl rfl Tryz.func177 (by kernel_rfl) rfl #[.string a2] rfl (by (try simp only [zdJ, List.map_cons, List.map_nil]); first | done | rfl | (simp only [List.length_drop, List.length_take]; rfl)) ?_; (with_reducible refine (zD.calls k a2 false _ A4.out).mono ?_); rintro e w' ⟨rfl, ⟨nd, rfl⟩⟩; refine ⟨_, rfl, ?_⟩))
    go_ret
    exact ⟨by first | rfl | (simp; done) | (simp [*]; done), by repeat (first | exact zi.refl _ | apply zi.step)⟩
   ·rw [if_neg c7] at H
    have c7b0 : (a2.toList == ([42, 42] : List UInt8)) = false := beq_eq_false_iff_ne.mpr c7
    have c7b1 : (a2.toList != ([42, 42] : List UInt8)) = true := bne_iff_ne.mpr c7
    obtain rfl := Option.some.inj H
    go_enter Tryz.func176, Tryz.ntmps176
    go_wp2_with (first | ((with_reducible refine zr (f := 177) rfl ?_); refine zL (some 8) rfl rfl Tryz.func177 (by kernel_rfl) rfl #[.string a2] rfl (by (try simp only [zdJ, List.map_cons, List.map_nil]); first | done | rfl | (simp only [List.length_drop, List.length_take]; rfl)) ?_; (with_reducible refine (zD.calls k a2 false _ A4.out).mono ?_); rintro e w' ⟨rfl, ⟨nd, rfl⟩⟩; refine ⟨_, rfl, ?_⟩))
    go_ret
    exact ⟨by first | rfl | (simp; done) | (simp [*]; done), by repeat (first | exact zi.refl _ | apply zi.step)⟩
def yw.l0 : Nat → ByteArray → List ByteArray → Int → Int → Int → Option (List ByteArray)
 | 0, _, _, _, _, _ => none
 | k + 1, x0, x3, x4, x7, x8 => if x8 < x7 then (if 0 ≤ x8 then (if x8 < (x0.size : Int) then (if (bt x0 x8) = 47 then (if 0 ≤ x4 then (if x4 ≤ x8 then (if x8 ≤ (x0.size : Int) then (if x3.length < 8796093022208 then (yw.l0 k x0 (x3 ++ [x0.extract (x4 : Int).toNat (x8 : Int).toNat]) (wrap64 (x8 + 1)) x7 (wrap64 (x8 + 1))) else (none)) else (none)) else (none)) else (none)) else (yw.l0 k x0 x3 x4 x7 (wrap64 (x8 + 1)))) else (none)) else (none)) else (if 0 ≤ x4 then (if x4 ≤ (x0.size : Int) then (if x3.length < 8796093022208 then (some (x3 ++ [x0.extract (x4 : Int).toNat x0.size])) else (none)) else (none)) else (none))
def yw.f (k : Nat) (a0 : ByteArray) : Option (List ByteArray) := yw.l0 k a0 ([] : List ByteArray) 0 (a0.size : Int) 0
theorem yw.calls (k : Nat) (a0 : ByteArray) (r : List ByteArray) (w : World) (h : yw.f k a0 = some r) :
  Calls Tryz.prog 182 #[.string a0] w fun e w' => ∃ v0_ : Value, e = .returned (v0_) ∧ Kd.R Kd.string 9 w' w.heap.size (fun _ => True) v0_ r ∧ Below w.heap.size w w' := by
 have HB := za.mk (Below.refl w.heap.size w)
 have H : (yw.l0 k a0 ([] : List ByteArray) 0 (a0.size : Int) 0) = some r := h
 clear h
 have H' := za.mk H
 clear H
 go_enter Tryz.func182, Tryz.ntmps182
 go_wp2
 go_loopg [3, 4, 8] k (fun kq v3 v4 v8 w' => ∃ (x3_1 : List ByteArray) (x4_1 : Int) (x8_1 : Int), v4 = .int .i64 x4_1 ∧ v8 = .int .i64 x8_1 ∧ za (yw.l0 kq a0 x3_1 x4_1 (a0.size : Int) x8_1 = some r) ∧ za (kq ≤ k) ∧ za (Kd.R Kd.string 9 w' w.heap.size (fun _ => True) v3 x3_1) ∧ za (Below w.heap.size w w'))
 case atStart => exact ⟨(([] : List ByteArray)), (0), (0), (by first | rfl | (simp; done) | (simp [*]; done)), (by first | rfl | (simp; done) | (simp [*]; done)), H', ⟨Nat.le_refl _⟩, ⟨by first | exact Kd.R_nil _ _ _ _ _ | exact Kd.N_nil _ _ _ _ _ | exact Kd.V_nil _ _ _ _ _ | exact Kd.Q_nil _ _ _ _ _ | exact Kd.S_nil _ _ _ _ _⟩, ⟨by repeat (first | (with_reducible first | exact HB.out | apply zc | apply zb | apply zd) | exact HB.out)⟩⟩
 case round =>
  clear H'
  try clear c1
  obtain ⟨x3_1, x4_1, x8_1, rfl, rfl, HA, HK1, HO_3, HB⟩ := hrel
  cases gk with
  | zero => exact absurd HA.out (by simp [yw.l0])
  | succ k1 =>
   have H := HA.out
   clear HA
   simp only [yw.l0] at H
   by_cases c2 : x8_1 < (a0.size : Int)
   ·rw [if_pos c2] at H
    have c2b0 : decide (x8_1 < (a0.size : Int)) = true := decide_eq_true c2
    clear c2
    by_cases c3 : 0 ≤ x8_1
    ·rw [if_pos c3] at H
     have c3b0 : decide (0 ≤ x8_1) = true := decide_eq_true c3
     clear c3
     by_cases c4 : x8_1 < (a0.size : Int)
     ·rw [if_pos c4] at H
      have c4b0 : decide (x8_1 < (a0.size : Int)) = true := decide_eq_true c4
      clear c4
      by_cases c6 : (bt a0 x8_1) = 47
      ·rw [if_pos c6] at H
       have c6b0 : ((bt a0 x8_1) == 47) = true := beq_iff_eq.mpr c6
       have c6b1 : ((bt a0 x8_1) != 47) = false := bne_eq_false_iff_eq.mpr c6
       clear c6
       by_cases c7 : 0 ≤ x4_1
       ·rw [if_pos c7] at H
        have c7b0 := eq_true c7
        have c7b1 : decide (0 ≤ x4_1) = true := decide_eq_true c7
        clear c7
        by_cases c8 : x4_1 ≤ x8_1
        ·rw [if_pos c8] at H
         have c8b0 := eq_true c8
         have c8b1 : decide (x4_1 ≤ x8_1) = true := decide_eq_true c8
         clear c8
         by_cases c9 : x8_1 ≤ (a0.size : Int)
         ·rw [if_pos c9] at H
          have c9b0 := eq_true c9
          have c9b1 : decide (x8_1 ≤ (a0.size : Int)) = true := decide_eq_true c9
          clear c9
          by_cases c10 : x3_1.length < 8796093022208
          ·rw [if_pos c10] at H
           have LMc10 := za.mk c10
           clear c10
           obtain ⟨y278, hy278⟩ : ∃ y_ : List ByteArray, y_ = (x3_1 ++ [a0.extract (x4_1 : Int).toNat (x8_1 : Int).toNat]) := ⟨_, rfl⟩
           replace H : (yw.l0 k1 a0 y278 (wrap64 (x8_1 + 1)) (a0.size : Int) (wrap64 (x8_1 + 1))) = some r := by first | (rw [hy278]; with_reducible exact H) | (have H2_ := (Option.bind_some _ _).symm.trans H; rw [hy278]; with_reducible exact H2_) | (have H2_ := (Option.bind_some _ _).symm.trans H; with_reducible exact H2_) | with_reducible exact H | (rw [hy278]; exact H) | exact H
           have Ny278 := za.mk hy278
           clear hy278
           have H' := za.mk H
           clear H
           have p5 : 0 ≤ (x8_1 : Int) := of_decide_eq_true (by first | (with_reducible assumption) | assumption)
           have q5 : x8_1 < (a0.size : Int) := of_decide_eq_true (by first | (with_reducible assumption) | assumption)
           have hx5 := xg a0 x8_1
           replace p5 := eq_true p5
           replace q5 := eq_true q5
           go_wp2_with (first | ((with_reducible refine jH (b := .append) (xs := #[.tmp 15, .tmp 20]) rfl ?_); at_builtin; refine Kd.R_append Kd.string (w0 := w) w.heap.size rfl (.tmp 15) (.tmp 20) 22 9 (.string ⟨#[]⟩) 16 rfl Tryz.underlying22 Js rfl (by decide) (by omega) u3 x3_1 (a0.extract (x4_1 : Int).toNat (x8_1 : Int).toNat) [.string (a0.extract (x4_1 : Int).toNat (x8_1 : Int).toNat)] (fun _ => True) (fun _ => False) rfl rfl ?aP (fun _ hk => hk.elim) ?aF ?aO ?aB ?aS ?aL ?_; (case aP => exact rfl); (case aB => exact (by repeat (first | (with_reducible first | exact HB.out | apply zc | apply zb | apply zd) | exact HB.out))); (case aF => exact (fun _ _ => trivial)); (case aO => exact (by (with_reducible repeat (first | apply Kd.R_alloc | apply Kd.R_drewN | apply Kd.R_drew)); exact HO_3.out)); (case aS => exact (zF (by repeat (first | (with_reducible first | exact HB.out | apply zc | apply zb | apply zd) | exact HB.out)))); (case aL => have := LMc10.out; omega); intro v279 w11 ho hb hg hat; rw [← Ny278.out] at ho; have n0_ := za.mk (hb); have n1_ := za.mk (ho); clear HB; clear HO_3; have HB := n0_; have HO280 := n1_; clear n0_ n1_; clear ho hb hg hat))
           go_roundg k1
           case measure => have := HK1.out; omega
           case rel => exact ⟨(y278), (wrap64 (x8_1 + 1)), (wrap64 (x8_1 + 1)), (by first | rfl | (simp; done) | (simp [*]; done)), (by first | rfl | (simp; done) | (simp [*]; done)), H', ⟨by have := HK1.out; omega⟩, ⟨by (with_reducible repeat (first | apply Kd.R_alloc | apply Kd.R_drewN | apply Kd.R_drew)); exact HO280.out⟩, ⟨by repeat (first | (with_reducible first | exact HB.out | apply zc | apply zb | apply zd) | exact HB.out)⟩⟩
          ·rw [if_neg c10] at H
           exact absurd H (by simp)
         ·rw [if_neg c9] at H
          exact absurd H (by simp)
        ·rw [if_neg c8] at H
         exact absurd H (by simp)
       ·rw [if_neg c7] at H
        exact absurd H (by simp)
      ·rw [if_neg c6] at H
       have c6b0 : ((bt a0 x8_1) == 47) = false := beq_eq_false_iff_ne.mpr c6
       have c6b1 : ((bt a0 x8_1) != 47) = true := bne_iff_ne.mpr c6
       have H' := za.mk H
       clear H
       have p5 : 0 ≤ (x8_1 : Int) := of_decide_eq_true (by first | (with_reducible assumption) | assumption)
       have q5 : x8_1 < (a0.size : Int) := of_decide_eq_true (by first | (with_reducible assumption) | assumption)
       have hx5 := xg a0 x8_1
       replace p5 := eq_true p5
       replace q5 := eq_true q5
       go_wp2
       go_roundg k1
       case measure => have := HK1.out; omega
       case rel => exact ⟨(x3_1), (x4_1), (wrap64 (x8_1 + 1)), (by first | rfl | (simp; done) | (simp [*]; done)), (by first | rfl | (simp; done) | (simp [*]; done)), H', ⟨by have := HK1.out; omega⟩, ⟨by (with_reducible repeat (first | apply Kd.R_alloc | apply Kd.R_drewN | apply Kd.R_drew)); exact HO_3.out⟩, ⟨by repeat (first | (with_reducible first | exact HB.out | apply zc | apply zb | apply zd) | exact HB.out)⟩⟩
     ·rw [if_neg c4] at H
      exact absurd H (by simp)
    ·rw [if_neg c3] at H
     exact absurd H (by simp)
   ·rw [if_neg c2] at H
    have c2b0 : decide (x8_1 < (a0.size : Int)) = false := decide_eq_false c2
    clear c2
    by_cases c12 : 0 ≤ x4_1
    ·rw [if_pos c12] at H
     have c12b0 := eq_true c12
     have c12b1 : decide (0 ≤ x4_1) = true := decide_eq_true c12
     clear c12
     by_cases c13 : x4_1 ≤ (a0.size : Int)
     ·rw [if_pos c13] at H
      have c13b0 := eq_true c13
      have c13b1 : decide (x4_1 ≤ (a0.size : Int)) = true := decide_eq_true c13
      clear c13
      by_cases c14 : x3_1.length < 8796093022208
      ·rw [if_pos c14] at H
       have LMc14 := za.mk c14
       clear c14
       obtain ⟨y281, hy281⟩ : ∃ y_ : List ByteArray, y_ = (x3_1 ++ [a0.extract (x4_1 : Int).toNat a0.size]) := ⟨_, rfl⟩
       replace H : (some y281) = some r := by first | (rw [hy281]; with_reducible exact H) | (have H2_ := (Option.bind_some _ _).symm.trans H; rw [hy281]; with_reducible exact H2_) | (have H2_ := (Option.bind_some _ _).symm.trans H; with_reducible exact H2_) | with_reducible exact H | (rw [hy281]; exact H) | exact H
       have Ny281 := za.mk hy281
       clear hy281
       obtain rfl := Option.some.inj H
       go_wp2_with (first | ((with_reducible refine jH (b := .append) (xs := #[.tmp 25, .tmp 29]) rfl ?_); at_builtin; refine Kd.R_append Kd.string (w0 := w) w.heap.size rfl (.tmp 25) (.tmp 29) 22 9 (.string ⟨#[]⟩) 16 rfl Tryz.underlying22 Js rfl (by decide) (by omega) u3 x3_1 (a0.extract (x4_1 : Int).toNat a0.size) [.string (a0.extract (x4_1 : Int).toNat a0.size)] (fun _ => True) (fun _ => False) rfl rfl ?aP (fun _ hk => hk.elim) ?aF ?aO ?aB ?aS ?aL ?_; (case aP => exact rfl); (case aB => exact (by repeat (first | (with_reducible first | exact HB.out | apply zc | apply zb | apply zd) | exact HB.out))); (case aF => exact (fun _ _ => trivial)); (case aO => exact (by (with_reducible repeat (first | apply Kd.R_alloc | apply Kd.R_drewN | apply Kd.R_drew)); exact HO_3.out)); (case aS => exact (zF (by repeat (first | (with_reducible first | exact HB.out | apply zc | apply zb | apply zd) | exact HB.out)))); (case aL => have := LMc14.out; omega); intro v282 w15 ho hb hg hat; rw [← Ny281.out] at ho; have n0_ := za.mk (hb); have n1_ := za.mk (ho); clear HB; clear HO_3; have HB := n0_; have HO283 := n1_; clear n0_ n1_; clear ho hb hg hat))
       go_ret
       exact ⟨_, by first | rfl | (simp [zl, zk] <;> rfl) | (simp [*, zl, zk] <;> rfl), by (with_reducible repeat (first | apply Kd.R_alloc | apply Kd.R_drewN | apply Kd.R_drew)); exact HO283.out, by repeat (first | (with_reducible first | exact HB.out | apply zc | apply zb | apply zd) | exact HB.out)⟩
      ·rw [if_neg c14] at H
       exact absurd H (by simp)
     ·rw [if_neg c13] at H
      exact absurd H (by simp)
    ·rw [if_neg c12] at H
     exact absurd H (by simp)
def zA.l0 : Nat → List ByteArray → List ByteArray → Int → Int → Option (Bool)
 | 0, _, _, _, _ => none
 | k + 1, x5, x13, x14, x15 => if x15 < x14 then (if 0 ≤ x15 then (if x15 < (x13.length : Int) then ((xx.f k x15 (x5.length : Int) (ym ByteArray.empty x13 x15)).bind fun t289 => (if t289 = true then (zA.l0 k x5 x13 x14 (wrap64 (x15 + 1))) else (some false))) else (none)) else (none)) else (some (decide ((x5.length : Int) ≤ 4)))
def zA.f (k : Nat) (a0 : ByteArray)  : Option (Bool) := if (a0.size : Int) > 32 then (some false) else ((yw.f k a0).bind fun t285 => (zA.l0 k t285 t285 (t285.length : Int) 0))
theorem zA.calls (k : Nat) (a0 : ByteArray)  (r : Bool) (w : World) (h : zA.f k a0 = some r) :
  Calls Tryz.prog 175 #[.string a0, .func (Fn.func 176) #[] #[]] w fun e w' => e = .returned (.bool r) ∧ Below w.heap.size w w' := by
 have HB := za.mk (Below.refl w.heap.size w)
 have H : (if (a0.size : Int) > 32 then (some false) else ((yw.f k a0).bind fun t285 => (zA.l0 k t285 t285 (t285.length : Int) 0))) = some r := h
 clear h
 by_cases c3 : (a0.size : Int) > 32
 ·rw [if_pos c3] at H
  have c3b0 : decide (32 < (a0.size : Int)) = true := decide_eq_true c3
  have c3b1 : decide (32 < a0.size) = true := decide_eq_true (by omega)
  clear c3
  obtain rfl := Option.some.inj H
  go_enter Tryz.func175, Tryz.ntmps175
  go_wp2
  go_ret
  exact ⟨by first | rfl | (simp [zl, zk] <;> rfl) | (simp [*, zl, zk] <;> rfl), by repeat (first | (with_reducible first | exact HB.out | apply zc | apply zb | apply zd) | exact HB.out)⟩
 ·rw [if_neg c3] at H
  have c3b0 : decide (32 < (a0.size : Int)) = false := decide_eq_false c3
  have c3b1 : decide (32 < a0.size) = false := decide_eq_false (by omega)
  clear c3
  replace H := zdK.mp H
  obtain ⟨t285, A40, H⟩ := H
  replace H : (zA.l0 k t285 t285 (t285.length : Int) 0) = some r := H
  have A4 := za.mk A40
  clear A40
  have H' := za.mk H
  clear H
  go_enter Tryz.func175, Tryz.ntmps175
  go_wp2_with (first | ((with_reducible refine zr (f := 182) rfl ?_); refine zL (some 12) rfl rfl Tryz.func182 (by kernel_rfl) rfl #[.string a0] rfl (by (try simp only [zdJ, List.map_cons, List.map_nil]); first | done | rfl | (simp only [List.length_drop, List.length_take]; rfl)) ?_; (with_reducible refine (yw.calls k a0 t285 _ A4.out).mono ?_); rintro e w5 ⟨v286, rfl, ho0, hb⟩; refine ⟨_, rfl, ?_⟩; have n0_ := za.mk (Kd.R_lower ho0 (zF (by repeat (first | (with_reducible first | exact HB.out | apply zc | apply zb | apply zd) | exact HB.out)))); have n1_ := za.mk (zp (by repeat (first | (with_reducible first | exact HB.out | apply zc | apply zb | apply zd) | exact HB.out)) hb); clear HB; have HO287 := n0_; have HB := n1_; clear n0_ n1_; (try clear hb); (try clear hb2); (try clear hk); (try clear hi); (try clear ho0); obtain ⟨Ao6, co6, eo6⟩ := Kd.R_slice HO287.out; subst eo6))
  go_loopg [15] k (fun kq v15 w' => ∃ (x15_1 : Int), v15 = .int .i64 x15_1 ∧ za (zA.l0 kq t285 t285 (t285.length : Int) x15_1 = some r) ∧ za (kq ≤ k) ∧ za (Kd.R Kd.string 9 w' w.heap.size (fun _ => True) (.slice Ao6 t285.length co6) t285) ∧ za (Kd.R Kd.string 9 w' w.heap.size (fun _ => True) (.slice Ao6 t285.length co6) t285) ∧ za (Below w.heap.size w w'))
  case atStart => exact ⟨(0), (by first | rfl | (simp; done) | (simp [*]; done)), H', ⟨Nat.le_refl _⟩, ⟨by (with_reducible repeat (first | apply Kd.R_alloc | apply Kd.R_drewN | apply Kd.R_drew)); exact HO287.out⟩, ⟨by (with_reducible repeat (first | apply Kd.R_alloc | apply Kd.R_drewN | apply Kd.R_drew)); exact HO287.out⟩, ⟨by repeat (first | (with_reducible first | exact HB.out | apply zc | apply zb | apply zd) | exact HB.out)⟩⟩
  case round =>
   clear H'
   try clear c1
   try clear p2
   try clear c3
   try clear c3b0
   try clear c3b1
   obtain ⟨x15_1, rfl, HA, HK1, HO_5, HO_13, HB⟩ := hrel
   cases gk with
   | zero => exact absurd HA.out (by simp [zA.l0])
   | succ k1 =>
    have H := HA.out
    clear HA
    simp only [zA.l0] at H
    by_cases c7 : x15_1 < (t285.length : Int)
    ·rw [if_pos c7] at H
     have c7b0 : decide (x15_1 < (t285.length : Int)) = true := decide_eq_true c7
     clear c7
     by_cases c8 : 0 ≤ x15_1
     ·rw [if_pos c8] at H
      have c8b0 : decide (0 ≤ x15_1) = true := decide_eq_true c8
      clear c8
      by_cases c9 : x15_1 < (t285.length : Int)
      ·rw [if_pos c9] at H
       have c9b0 : decide (x15_1 < (t285.length : Int)) = true := decide_eq_true c9
       clear c9
       replace H := zdK.mp H
       obtain ⟨t289, A100, H⟩ := H
       replace H : (if t289 = true then (zA.l0 k1 t285 t285 (t285.length : Int) (wrap64 (x15_1 + 1))) else (some false)) = some r := H
       have A10 := za.mk A100
       clear A100
       by_cases c11 : t289 = true
       ·subst c11
        have H1 : (zA.l0 k1 t285 t285 (t285.length : Int) (wrap64 (x15_1 + 1))) = some r := by rw [if_pos rfl] at H; exact H
        clear H
        have H := H1
        clear H1
        have H' := za.mk H
        clear H
        have p288 : 0 ≤ (x15_1 : Int) := of_decide_eq_true (by first | (with_reducible assumption) | assumption)
        have q288 : x15_1 < (t285.length : Int) := of_decide_eq_true (by first | (with_reducible assumption) | assumption)
        obtain ⟨ad288, e288, hx288_0⟩ := Kd.at_string (Kd.R_reads' HO_13.out).2.2 x15_1 p288 q288
        cases e288
        replace p288 := eq_true p288
        replace q288 := eq_true q288
        go_wp2_with (first | ((with_reducible refine zN (N := 25) rfl ?_); refine vR (some 25) rfl rfl Tryz.func176 (by kernel_rfl) rfl #[.int .i64 x15_1, .int .i64 (t285.length : Int), .string (ym ByteArray.empty t285 x15_1)] rfl (by (try simp only [zdJ, List.map_cons, List.map_nil]); first | done | rfl | (simp only [List.length_drop, List.length_take]; rfl)) ?_; (with_reducible refine (xx.calls k1 x15_1 (t285.length : Int) (ym ByteArray.empty t285 x15_1) true _ A10.out).mono ?_); rintro e w' ⟨rfl, ⟨nd, rfl⟩⟩; refine ⟨_, rfl, ?_⟩))
        go_roundg k1
        case measure => have := HK1.out; omega
        case rel => exact ⟨(wrap64 (x15_1 + 1)), (by first | rfl | (simp; done) | (simp [*]; done)), H', ⟨by have := HK1.out; omega⟩, ⟨by (with_reducible repeat (first | apply Kd.R_alloc | apply Kd.R_drewN | apply Kd.R_drew)); exact HO_5.out⟩, ⟨by (with_reducible repeat (first | apply Kd.R_alloc | apply Kd.R_drewN | apply Kd.R_drew)); exact HO_13.out⟩, ⟨by repeat (first | (with_reducible first | exact HB.out | apply zc | apply zb | apply zd) | exact HB.out)⟩⟩
       ·replace c11 := zdM.mpr c11
        subst c11
        have H1 : (some false) = some r := by rw [if_neg (show ¬ (false = true) by decide)] at H; exact H
        clear H
        have H := H1
        clear H1
        obtain rfl := Option.some.inj H
        have p288 : 0 ≤ (x15_1 : Int) := of_decide_eq_true (by first | (with_reducible assumption) | assumption)
        have q288 : x15_1 < (t285.length : Int) := of_decide_eq_true (by first | (with_reducible assumption) | assumption)
        obtain ⟨ad288, e288, hx288_0⟩ := Kd.at_string (Kd.R_reads' HO_13.out).2.2 x15_1 p288 q288
        cases e288
        replace p288 := eq_true p288
        replace q288 := eq_true q288
        go_wp2_with (first | ((with_reducible refine zN (N := 25) rfl ?_); refine vR (some 25) rfl rfl Tryz.func176 (by kernel_rfl) rfl #[.int .i64 x15_1, .int .i64 (t285.length : Int), .string (ym ByteArray.empty t285 x15_1)] rfl (by (try simp only [zdJ, List.map_cons, List.map_nil]); first | done | rfl | (simp only [List.length_drop, List.length_take]; rfl)) ?_; (with_reducible refine (xx.calls k1 x15_1 (t285.length : Int) (ym ByteArray.empty t285 x15_1) false _ A10.out).mono ?_); rintro e w' ⟨rfl, ⟨nd, rfl⟩⟩; refine ⟨_, rfl, ?_⟩))
        go_ret
        exact ⟨by first | rfl | (simp [zl, zk] <;> rfl) | (simp [*, zl, zk] <;> rfl), by repeat (first | (with_reducible first | exact HB.out | apply zc | apply zb | apply zd) | exact HB.out)⟩
      ·rw [if_neg c9] at H
       exact absurd H (by simp)
     ·rw [if_neg c8] at H
      exact absurd H (by simp)
    ·rw [if_neg c7] at H
     have c7b0 : decide (x15_1 < (t285.length : Int)) = false := decide_eq_false c7
     clear c7
     obtain rfl := Option.some.inj H
     go_wp2
     go_ret
     exact ⟨by first | rfl | (simp [zl, zk] <;> rfl) | (simp [*, zl, zk] <;> rfl), by repeat (first | (with_reducible first | exact HB.out | apply zc | apply zb | apply zd) | exact HB.out)⟩
def xQ.f (k : Nat) (a0 : ByteArray) : Option (Bool) := (zA.f k a0).bind fun t290 => (some t290)
theorem xQ.calls (k : Nat) (a0 : ByteArray) (r : Bool) (w : World) (h : xQ.f k a0 = some r) :
  Calls Tryz.prog 165 #[.string a0] w fun e w' => e = .returned (.bool r) ∧ Below w.heap.size w w' := by
 have HB := za.mk (Below.refl w.heap.size w)
 have H : ((zA.f k a0).bind fun t290 => (some t290)) = some r := h
 clear h
 replace H := zdK.mp H
 obtain ⟨t290, A20, H⟩ := H
 replace H : (some t290) = some r := H
 have A2 := za.mk A20
 clear A20
 obtain rfl := Option.some.inj H
 go_enter Tryz.func165, Tryz.ntmps165
 go_wp2_with (first | ((with_reducible refine zr (f := 175) rfl ?_); refine zL (some 4) rfl rfl Tryz.func175 (by kernel_rfl) rfl #[.string a0, .func (Fn.func 176) #[] #[]] rfl (by (try simp only [zdJ, List.map_cons, List.map_nil]); first | done | rfl | (simp only [List.length_drop, List.length_take]; rfl)) ?_; (with_reducible refine (zA.calls k a0 t290 _ A2.out).mono ?_); rintro e w3 ⟨rfl, hb⟩; refine ⟨_, rfl, ?_⟩; have n0_ := za.mk (zp (by repeat (first | (with_reducible first | exact HB.out | apply zc | apply zb | apply zd) | exact HB.out)) hb); clear HB; have HB := n0_; clear n0_; (try clear hb); (try clear hb2); (try clear hk); (try clear hi)))
 go_ret
 exact ⟨by first | rfl | (simp [zl, zk] <;> rfl) | (simp [*, zl, zk] <;> rfl), by repeat (first | (with_reducible first | exact HB.out | apply zc | apply zb | apply zd) | exact HB.out)⟩
def yu.l0 : Nat → List ByteArray → Int → Int → Option (Int × Int)
 | 0, _, _, _ => none
 | k + 1, x9, x10, x11 => if x11 < x10 then (if 0 ≤ x11 then (if x11 < (x9.length : Int) then ((xQ.f k (ym ByteArray.empty x9 x11)).bind fun t292 => (if t292 = true then (yu.l0 k x9 x10 (wrap64 (x11 + 1))) else (some (x11, 6)))) else (none)) else (none)) else (some (0, 0))
def yu.f (k : Nat) (l0 : List ByteArray) : Option (Int × Int) := if (l0.length : Int) > 8 then (some (0, 4)) else (yu.l0 k l0 (l0.length : Int) 0)
theorem yu.calls (k : Nat) (A0 : Option Addr) (c0 : Nat) (l0 : List ByteArray) (r1 : Int) (r2 : Int) (w : World) (hr0 : Kd.C Kd.string w A0 l0.length l0) (hc0 : l0.length ≤ c0) (h : yu.f k l0 = some (r1, r2)) :
  Calls Tryz.prog 127 #[.slice A0 l0.length c0] w fun e w' => e = .returned (.tuple #[.int .i64 r1, .int .i64 r2]) ∧ Below w.heap.size w w' := by
 have HR0 := za.mk hr0
 have HC0 := za.mk hc0
 clear hr0 hc0
 have HB := za.mk (Below.refl w.heap.size w)
 have H : (if (l0.length : Int) > 8 then (some (0, 4)) else (yu.l0 k l0 (l0.length : Int) 0)) = some (r1, r2) := h
 clear h
 by_cases c2 : (l0.length : Int) > 8
 ·rw [if_pos c2] at H
  have c2b0 : decide (8 < (l0.length : Int)) = true := decide_eq_true c2
  have c2b1 : decide (8 < l0.length) = true := decide_eq_true (by omega)
  clear c2
  simp only [Option.some.injEq, Prod.mk.injEq] at H
  obtain ⟨rfl, rfl⟩ := H
  go_enter Tryz.func127, Tryz.ntmps127
  go_wp2
  go_ret2
  exact ⟨by first | rfl | (simp [zl, zk] <;> rfl) | (simp [*, zl, zk] <;> rfl), by repeat (first | (with_reducible first | exact HB.out | apply zc | apply zb | apply zd) | exact HB.out)⟩
 ·rw [if_neg c2] at H
  have c2b0 : decide (8 < (l0.length : Int)) = false := decide_eq_false c2
  have c2b1 : decide (8 < l0.length) = false := decide_eq_false (by omega)
  clear c2
  have H' := za.mk H
  clear H
  go_enter Tryz.func127, Tryz.ntmps127
  go_wp2
  go_loopg [11] k (fun kq v11 w' => ∃ (x11_1 : Int), v11 = .int .i64 x11_1 ∧ za (yu.l0 kq l0 (l0.length : Int) x11_1 = some (r1, r2)) ∧ za (kq ≤ k) ∧ za (Below w.heap.size w w'))
  case atStart => exact ⟨(0), (by first | rfl | (simp; done) | (simp [*]; done)), H', ⟨Nat.le_refl _⟩, ⟨by repeat (first | (with_reducible first | exact HB.out | apply zc | apply zb | apply zd) | exact HB.out)⟩⟩
  case round =>
   clear H'
   try clear c1
   try clear c2
   try clear c2b0
   try clear c2b1
   try clear p2
   obtain ⟨x11_1, rfl, HA, HK1, HB⟩ := hrel
   cases gk with
   | zero => exact absurd HA.out (by simp [yu.l0])
   | succ k1 =>
    have H := HA.out
    clear HA
    simp only [yu.l0] at H
    by_cases c3 : x11_1 < (l0.length : Int)
    ·rw [if_pos c3] at H
     have c3b0 : decide (x11_1 < (l0.length : Int)) = true := decide_eq_true c3
     clear c3
     by_cases c4 : 0 ≤ x11_1
     ·rw [if_pos c4] at H
      have c4b0 : decide (0 ≤ x11_1) = true := decide_eq_true c4
      clear c4
      by_cases c5 : x11_1 < (l0.length : Int)
      ·rw [if_pos c5] at H
       have c5b0 : decide (x11_1 < (l0.length : Int)) = true := decide_eq_true c5
       clear c5
       replace H := zdK.mp H
       obtain ⟨t292, A60, H⟩ := H
       replace H : (if t292 = true then (yu.l0 k1 l0 (l0.length : Int) (wrap64 (x11_1 + 1))) else (some (x11_1, 6))) = some (r1, r2) := H
       have A6 := za.mk A60
       clear A60
       by_cases c7 : t292 = true
       ·subst c7
        have H1 : (yu.l0 k1 l0 (l0.length : Int) (wrap64 (x11_1 + 1))) = some (r1, r2) := by rw [if_pos rfl] at H; exact H
        clear H
        have H := H1
        clear H1
        have H' := za.mk H
        clear H
        have p291 : 0 ≤ (x11_1 : Int) := of_decide_eq_true (by first | (with_reducible assumption) | assumption)
        have q291 : x11_1 < (l0.length : Int) := of_decide_eq_true (by first | (with_reducible assumption) | assumption)
        obtain ⟨ad291, e291, hx291_0⟩ := Kd.at_string HR0.out x11_1 p291 q291
        cases e291
        replace hx291_0 := (HB.out.cell (zdL w _ hx291_0)).trans hx291_0
        replace p291 := eq_true p291
        replace q291 := eq_true q291
        go_wp2_with (first | ((with_reducible refine zr (f := 165) rfl ?_); refine zL (some 17) rfl rfl Tryz.func165 (by kernel_rfl) rfl #[.string (ym ByteArray.empty l0 x11_1)] rfl (by (try simp only [zdJ, List.map_cons, List.map_nil]); first | done | rfl | (simp only [List.length_drop, List.length_take]; rfl)) ?_; (with_reducible refine (xQ.calls k1 (ym ByteArray.empty l0 x11_1) true _ A6.out).mono ?_); rintro e w8 ⟨rfl, hb⟩; refine ⟨_, rfl, ?_⟩; have n0_ := za.mk (zp (by repeat (first | (with_reducible first | exact HB.out | apply zc | apply zb | apply zd) | exact HB.out)) hb); clear HB; have HB := n0_; clear n0_; (try clear hb); (try clear hb2); (try clear hk); (try clear hi)))
        go_roundg k1
        case measure => have := HK1.out; omega
        case rel => exact ⟨(wrap64 (x11_1 + 1)), (by first | rfl | (simp; done) | (simp [*]; done)), H', ⟨by have := HK1.out; omega⟩, ⟨by repeat (first | (with_reducible first | exact HB.out | apply zc | apply zb | apply zd) | exact HB.out)⟩⟩
       ·replace c7 := zdM.mpr c7
        subst c7
        have H1 : (some (x11_1, 6)) = some (r1, r2) := by rw [if_neg (show ¬ (false = true) by decide)] at H; exact H
        clear H
        have H := H1
        clear H1
        simp only [Option.some.injEq, Prod.mk.injEq] at H
        obtain ⟨rfl, rfl⟩ := H
        have p291 : 0 ≤ (x11_1 : Int) := of_decide_eq_true (by first | (with_reducible assumption) | assumption)
        have q291 : x11_1 < (l0.length : Int) := of_decide_eq_true (by first | (with_reducible assumption) | assumption)
        obtain ⟨ad291, e291, hx291_0⟩ := Kd.at_string HR0.out x11_1 p291 q291
        cases e291
        replace hx291_0 := (HB.out.cell (zdL w _ hx291_0)).trans hx291_0
        replace p291 := eq_true p291
        replace q291 := eq_true q291
        go_wp2_with (first | ((with_reducible refine zr (f := 165) rfl ?_); refine zL (some 17) rfl rfl Tryz.func165 (by kernel_rfl) rfl #[.string (ym ByteArray.empty l0 x11_1)] rfl (by (try simp only [zdJ, List.map_cons, List.map_nil]); first | done | rfl | (simp only [List.length_drop, List.length_take]; rfl)) ?_; (with_reducible refine (xQ.calls k1 (ym ByteArray.empty l0 x11_1) false _ A6.out).mono ?_); rintro e w9 ⟨rfl, hb⟩; refine ⟨_, rfl, ?_⟩; have n0_ := za.mk (zp (by repeat (first | (with_reducible first | exact HB.out | apply zc | apply zb | apply zd) | exact HB.out)) hb); clear HB; have HB := n0_; clear n0_; (try clear hb); (try clear hb2); (try clear hk); (try clear hi)))
        go_ret2
        exact ⟨by first | rfl | (simp [zl, zk] <;> rfl) | (simp [*, zl, zk] <;> rfl), by repeat (first | (with_reducible first | exact HB.out | apply zc | apply zb | apply zd) | exact HB.out)⟩
      ·rw [if_neg c5] at H
       exact absurd H (by simp)
     ·rw [if_neg c4] at H
      exact absurd H (by simp)
    ·rw [if_neg c3] at H
     have c3b0 : decide (x11_1 < (l0.length : Int)) = false := decide_eq_false c3
     clear c3
     simp only [Option.some.injEq, Prod.mk.injEq] at H
     obtain ⟨rfl, rfl⟩ := H
     go_wp2
     go_ret2
     exact ⟨by first | rfl | (simp [zl, zk] <;> rfl) | (simp [*, zl, zk] <;> rfl), by repeat (first | (with_reducible first | exact HB.out | apply zc | apply zb | apply zd) | exact HB.out)⟩
def xX {α : Type} (T : List Int → α → Option (List Int)) : List α → List Int → Option (List Int)
 | [], acc => some acc
 | x :: l, acc => (T acc x).bind fun a => xX T l a
theorem V5 {α : Type} {T T' : List Int → α → Option (List Int)} (h : ∀ acc x, LeO (T acc x) (T' acc x)) (l : List α) : ∀ acc, LeO (xX T l acc) (xX T' l acc) := by
 induction l with
 | nil => intro acc; exact LeO.refl _
 | cons x l ih =>
  intro acc
  simp only [xX]
  exact LeO.bind (h acc x) (fun a => ih a)
theorem Qf {α : Type} {d : Kd α} {w : World} {P : Nat → Prop} {A : Option Addr} {n : Nat} {xs : List α} (hr : ∀ W_, zj w W_ P → d.C W_ A n xs) (hn : 0 < n) (hsz : 0 < d.sz) : ∃ ad, A = some ad ∧ ad.block < w.heap.size ∧ ¬ P ad.block := by
 have key : ∀ W_, d.C W_ A n xs → ∃ ad u, A = some ad ∧ W_.cell? ad = some u := by
  intro W_ hC
  obtain ⟨ad, ea, hc⟩ := hC.2.2 hn
  obtain ⟨x, hx⟩ : ∃ x, xs[0]? = some x := ⟨xs[0]'(by have := hC.1; omega), List.getElem?_eq_getElem _⟩
  obtain ⟨c, hl, _, hcell⟩ := hc 0 x hx
  have h0 : c[0]? = some (c[0]'(by omega)) := List.getElem?_eq_getElem _
  have h1 := hcell 0 _ h0
  simp only [Nat.zero_mul, Nat.add_zero, Addr.add_zero'] at h1
  exact ⟨ad, _, ea, h1⟩
 obtain ⟨ad, u, ea, hc⟩ := key w (hr w (zj.refl _ _))
 refine ⟨ad, ea, zdL w _ hc, fun hP => ?_⟩
 have hlt := zdL w _ hc
 have hk : zj w { w with heap := w.heap.setIfInBounds ad.block (.cells #[] 0) } P := by
  refine ⟨by simp, fun i hi hn => ?_⟩
  have hne : ad.block ≠ i := fun h => hn (h ▸ hP)
  simp [hne]
 obtain ⟨ad2, u2, ea2, hc2⟩ := key _ (hr _ hk)
 rw [ea] at ea2
 injection ea2 with ea2
 subst ea2
 simp [World.cell?, hlt] at hc2
def zig (n : Int) : Nat := if n < 0 then (-2 * n - 1).toNat else (2 * n).toNat
def jN : Nat → Nat → List Nat
 | 0, _ => []
 | f + 1, u => if u < 128 then [u] else (u % 128 + 128) :: jN f (u / 128)
def jj (l : List Nat) : List Int := l.map fun (n : Nat) => (n : Int)
def yn (n : Int) : ByteArray := strOfNums (jj (jN 10 (zig n)))
theorem zaK (n : Int) (h0 : -9223372036854775808 ≤ n) (h1 : n ≤ 9223372036854775807) : zig n < 18446744073709551616 := by
 unfold zig
 split <;> omega
def yf.f (a0 : Int) : Option ByteArray := if -9223372036854775808 ≤ a0 ∧ a0 ≤ 9223372036854775807 then some (yn a0) else none
theorem za3 (x : Nat) (hx : x < 18446744073709551616) : Go.bits .xor .u64 18446744073709551615 (x : Int) = 18446744073709551615 - (x : Int) := by
 have h64 : (18446744073709551615 ^^^ x : Nat) = 18446744073709551615 - x := by
  have : (18446744073709551615 : Nat) = 2 ^ 64 - 1 := rfl
  rw [this]
  apply Nat.eq_of_testBit_eq
  intro j
  rw [Nat.testBit_xor, Nat.testBit_two_pow_sub_one, Nat.sub_sub, Nat.add_comm 1 x, Nat.testBit_two_pow_sub_succ (by omega)]
  by_cases hj : j < 64
  ·simp [hj]
  ·have : x.testBit j = false := Nat.testBit_lt_two_pow (Nat.lt_of_lt_of_le hx (Nat.pow_le_pow_right (n := 2) (i := 64) (j := j) (by decide) (by omega)))
   simp [hj, this]
 have e1 : (18446744073709551615 : Int) = ((18446744073709551615 : Nat) : Int) := rfl
 unfold Go.bits
 rw [e1]
 simp only [BitVec.ofInt_natCast, BitVec.toNat_xor, BitVec.toNat_ofNat]
 have e2 : x % 2 ^ IntKind.u64.bits = x := Nat.mod_eq_of_lt hx
 have e3 : 18446744073709551615 % 2 ^ IntKind.u64.bits = 18446744073709551615 := by decide
 rw [e2, e3, h64]
 have : IntKind.u64.wrap ((18446744073709551615 - x : Nat) : Int) = ((18446744073709551615 - x : Nat) : Int) := by
  simp [IntKind.wrap, IntKind.bits, IntKind.signed]
  omega
 rw [this]
 omega
theorem zcK (u : Nat) : Go.bits .or .u8 ((u : Int) % 256) 128 = ((u % 128 + 128 : Nat) : Int) := by
 have h := (bits_nat .u8 8 (by decide) wraps_u8 (u % 256) 128 (by omega) (by omega)).2
 have e : ((u % 256 : Nat) : Int) = (u : Int) % 256 := by omega
 rw [e] at h
 have e2 : ((128 : Nat) : Int) = 128 := rfl
 rw [e2] at h
 rw [h]
 have h2 : u % 256 ||| 128 = u % 128 + 128 := by
  have h3 : u % 128 + 128 = 128 ||| u % 128 := by
   have := Nat.two_pow_add_eq_or_of_lt (i := 7) (show u % 128 < 2 ^ 7 by omega) 1
   rw [Nat.mul_one] at this
   have e7 : (2 : Nat) ^ 7 = 128 := rfl
   rw [e7] at this
   omega
  rw [h3]
  apply Nat.eq_of_testBit_eq
  intro j
  rw [Nat.testBit_or, Nat.testBit_or]
  have e256 : (256 : Nat) = 2 ^ 8 := rfl
  have e128 : (128 : Nat) = 2 ^ 7 := rfl
  rw [e256, e128, Nat.testBit_mod_two_pow, Nat.testBit_mod_two_pow, Nat.testBit_two_pow]
  by_cases h7 : j = 7
  ·subst h7; simp
  ·by_cases hj : j < 7
   ·simp [hj, show j < 8 by omega, Bool.or_comm]
   ·simp [hj, show ¬ j < 8 by omega]
 rw [h2]
def u8s (t : List Int) : Array Value := (t.map (Value.int .u8)).toArray
def jz (pre : List Nat) : List Int := jj pre ++ List.replicate (10 - pre.length) 0
theorem Zv (pre : List Nat) (h : pre.length ≤ 10) : (jz pre).length = 10 := by simp [jz, jj]; omega
theorem YM (pre : List Nat) (x : Nat) (h : pre.length < 10) : (u8s (jz pre)).setIfInBounds pre.length (.int .u8 (x : Int)) = u8s (jz (pre ++ [x])) := by
 have e : (jz pre).set pre.length (x : Int) = jz (pre ++ [x]) := by
  have h2 : (jj pre).length = pre.length := by simp [jj]
  have h3 : 10 - pre.length = (10 - (pre.length + 1)) + 1 := by omega
  unfold jz
  rw [List.set_append_right _ _ (by omega), h2, Nat.sub_self, h3, List.replicate_succ, zdH]
  simp [jj]
 rw [← e]
 simp [u8s, List.map_set]
theorem YH {w : World} {b T : Nat} {t : List Int} (hb : w.heap[b]? = some (.cells (u8s t) T (0, 0))) (i : Nat) (hi : i < t.length) : w.cell? ⟨b, i, none⟩ = some (.int .u8 (t.getD i 0)) := by
 rw [cell_of_row w b i _ T _ hb]
 simp [u8s, hi]
theorem JE : u8s (jz []) = #[.int .u8 0, .int .u8 0, .int .u8 0, .int .u8 0, .int .u8 0, .int .u8 0, .int .u8 0, .int .u8 0, .int .u8 0, .int .u8 0] := by
 simp [u8s, jz, jj, List.replicate_succ]
theorem qm (n : Int) : IntKind.u64.wrap n = n % 18446744073709551616 := by simp [IntKind.wrap, IntKind.bits, IntKind.signed]
theorem VK (n : Int) (h0 : ¬ n < 0) (h1 : n ≤ 9223372036854775807) : IntKind.u64.wrap (IntKind.u64.wrap n * 2) = ((zig n : Nat) : Int) := by
 rw [qm, qm, zig, if_neg h0]
 omega
theorem zcU (n : Int) (h0 : n < 0) (h1 : -9223372036854775808 ≤ n) : Go.bits .xor .u64 IntKind.u64.max (IntKind.u64.wrap (IntKind.u64.wrap n * 2)) = ((zig n : Nat) : Int) := by
 have e : IntKind.u64.wrap (IntKind.u64.wrap n * 2) = (((2 * n + 18446744073709551616).toNat : Nat) : Int) := by
  rw [qm, qm]
  omega
 have e2 : IntKind.u64.max = 18446744073709551615 := rfl
 rw [e, e2, za3 _ (by omega), zig, if_pos h0]
 omega
def QB (u m : Nat) : Prop := u < 2 ^ (64 - 7 * m)
theorem QB.next {u m : Nat} (h : QB u m) (hu : 128 ≤ u) : m ≤ 8 ∧ QB (u / 128) (m + 1) := by
 unfold QB at *
 have hm : m ≤ 8 := by
  rcases Nat.lt_or_ge m 9 with h9 | h9
  ·omega
  ·have : 2 ^ (64 - 7 * m) ≤ 2 ^ 1 := Nat.pow_le_pow_right (by decide) (by omega)
   omega
 refine ⟨hm, ?_⟩
 have e : 64 - 7 * m = (64 - 7 * (m + 1)) + 7 := by omega
 rw [e, Nat.pow_add] at h
 have : u / 128 < 2 ^ (64 - 7 * (m + 1)) := Nat.div_lt_of_lt_mul (by rw [Nat.mul_comm]; exact h)
 exact this
theorem Q3 (f u : Nat) (h : 128 ≤ u) : jN (f + 1) u = (u % 128 + 128) :: jN f (u / 128) := by rw [jN, if_neg (by omega)]
theorem Q0 (f u : Nat) (h : u < 128) : jN (f + 1) u = [u] := by rw [jN, if_pos h]
theorem QS : Tryz.prog.arrayLen 118 = 10 := by kernel_rfl
theorem zaw (W : World) : (sizeOf (Tryz.prog.elem 118)).run Tryz.prog W = .ok 1 W := by kernel_rfl
theorem QZ (g m : Nat) (hm : m < 10) (W : World) : (Instr.sliceAt 118 (.pointer (some ⟨g, 0, none⟩)) none (some (.int .i64 ((m : Int) + 1))) none).run Tryz.prog W = .ok (.slice (some ⟨g, 0, none⟩) (m + 1) 10) W := by
 have h := run_sliceAt_array_h (P := Tryz.prog) W 118 ⟨g, 0, none⟩ Tryz.underlying118 .i64 ((m : Int) + 1) (by omega) (by rw [QS]; omega)
 have e : ((m : Int) + 1).toNat = m + 1 := by omega
 rw [h, QS, e, zaw]
 simp [slicedAt]
 exact Y7 g 0
set_option maxHeartbeats 2000000 in
theorem yf.calls (a0 : Int) (r : ByteArray) (w : World) (h : yf.f a0 = some r) :
  Calls Tryz.prog 57 #[.int .i64 a0] w fun e w' => e = .returned (.string r) ∧ Below w.heap.size w w' := by
 unfold yf.f at h
 split at h
 case isFalse => cases h
 case isTrue hr =>
 obtain rfl := Option.some.inj h
 have HR := za.mk hr
 have HZ := za.mk (zaK a0 hr.1 hr.2)
 have HP := za.mk (fun h => VK a0 h hr.2)
 have HN := za.mk (fun h => zcU a0 h hr.1)
 clear hr h
 unfold yn
 generalize zig a0 = z at HZ HP HN
 by_cases hn : a0 < 0
 ·have HE := za.mk (HN.out hn)
  go_enter Tryz.func57, Tryz.ntmps57
  go_wp2
  rw [HE.out]
  clear HE HN HP HR
  rw [← JE]
  have HB0 := za.mk (zc (Below.refl w.heap.size w) (.cells (u8s (jz [])) 118))
  go_loopg [3, 5] 10 (fun kq v3 v5 wr => ∃ (u : Nat) (pre : List Nat), v3 = .int .u64 u ∧ v5 = .int .i64 pre.length ∧ za (pre.length + kq = 10 ∧ 1 ≤ kq ∧ QB u pre.length) ∧ za (jN 10 z = pre ++ jN kq u) ∧ za (wr.heap[w.heap.size]? = some (.cells (u8s (jz pre)) 118 (0, 0))) ∧ za (Below w.heap.size w wr))
  case atStart => exact ⟨z, [], rfl, rfl, ⟨rfl, by decide, HZ.out⟩, ⟨rfl⟩, ⟨heap_alloc_new w _⟩, HB0⟩
  case round =>
   clear HB0 HZ
   obtain ⟨u, pre, rfl, rfl, HK, HD, HO, HW⟩ := hrel
   obtain ⟨kq, rfl⟩ : ∃ m, gk = m + 1 := ⟨gk - 1, by have := HK.out; omega⟩
   obtain ⟨m, hm⟩ : ∃ m, m = pre.length := ⟨_, rfl⟩
   rw [← hm]
   have hm10 : m < 10 := by have := HK.out; omega
   have hc2 := YH HO.out m (by rw [Zv pre (by omega)]; exact hm10)
   have hf2 := zn HO.out m
   have HMm := za.mk hm
   clear hm
   by_cases hu : 128 ≤ u
   ·have HV : za (Go.bits .or .u8 ((u : Int) % 256) 128 = ((u % 128 + 128 : Nat) : Int)) := ⟨zcK u⟩
    go_wp2
    have hroom := HK.out.2.2.next hu
    have HO1 : za ((wr.setCell ⟨w.heap.size, m, none⟩ (.int .u8 (Go.bits .or .u8 ((u : Int) % 256) 128))).heap[w.heap.size]? = some (.cells (u8s (jz (pre ++ [u % 128 + 128]))) 118 (0, 0))) := ⟨by
     rw [HV.out, HMm.out, ← YM pre _ (by rw [← HMm.out]; exact hm10)]
     exact Yx HO.out _ _⟩
    have HW1 : za (Below w.heap.size w (wr.setCell ⟨w.heap.size, m, none⟩ (.int .u8 (Go.bits .or .u8 ((u : Int) % 256) 128)))) := ⟨zv HW.out (Nat.le_refl _)⟩
    have hlen : (pre ++ [u % 128 + 128]).length = m + 1 := by rw [zdN, ← HMm.out]; rfl
    have hk1 : 1 ≤ kq := by have := HK.out; have := HMm.out; omega
    obtain ⟨k2, rfl⟩ : ∃ k2, kq = k2 + 1 := ⟨kq - 1, by omega⟩
    go_roundg (k2 + 1)
    case measure => omega
    case rel => exact ⟨u / 128, pre ++ [u % 128 + 128], by go_num, by rw [hlen]; go_num, ⟨by rw [hlen]; have := HK.out; have := HMm.out; omega, by omega, by rw [hlen, HMm.out]; exact hroom.2⟩, ⟨by rw [HD.out, Q3 _ _ hu, List.append_assoc]; rfl⟩, HO1, HW1⟩
   ·have hsl := QZ w.heap.size m hm10 (wr.setCell ⟨w.heap.size, m, none⟩ (.int .u8 (u : Int)))
    have hcs : (convert 41 9 (.slice (some ⟨w.heap.size, 0, none⟩) (m + 1) 10)).run Tryz.prog (wr.setCell ⟨w.heap.size, m, none⟩ (.int .u8 (u : Int))) = .ok (.string (strOfNums (jj (pre ++ [u])))) (wr.setCell ⟨w.heap.size, m, none⟩ (.int .u8 (u : Int))) := by
     have hlen : (pre ++ [u]).length = m + 1 := by rw [zdN, ← HMm.out]; rfl
     refine run_convert_bytes_arg _ 41 5 Tryz.underlying41 Tryz.underlying5 w.heap.size 0 (m + 1) 10 (jj (pre ++ [u])) (by rw [jj, List.length_map, hlen]) (fun i hi => ?_) 9 Tryz.underlying9
     have hb : (wr.setCell ⟨w.heap.size, m, none⟩ (.int .u8 (u : Int))).heap[w.heap.size]? = some (.cells (u8s (jz (pre ++ [u]))) 118 (0, 0)) := by
      rw [HMm.out, ← YM pre u (by rw [← HMm.out]; exact hm10)]
      exact Yx HO.out _ _
     rw [Nat.zero_add, YH hb i (by rw [Zv _ (by omega)]; omega)]
     congr 2
     simp only [List.getD_eq_getElem?_getD, jz]
     rw [List.getElem?_append_left (by rw [jj, List.length_map, hlen]; exact hi)]
    have HU := za.mk hu
    have HC := za.mk hcs
    clear hcs
    have hcs := HC.out
    go_wp2
    go_ret
    refine ⟨QO ?_, zv HW.out (Nat.le_refl _)⟩
    rw [HD.out, Q0 _ _ (by have := HU.out; omega)]
 ·have HE := za.mk (HP.out hn)
  go_enter Tryz.func57, Tryz.ntmps57
  go_wp2
  rw [HE.out]
  clear HE HN HP HR
  rw [← JE]
  have HB0 := za.mk (zc (Below.refl w.heap.size w) (.cells (u8s (jz [])) 118))
  go_loopg [3, 5] 10 (fun kq v3 v5 wr => ∃ (u : Nat) (pre : List Nat), v3 = .int .u64 u ∧ v5 = .int .i64 pre.length ∧ za (pre.length + kq = 10 ∧ 1 ≤ kq ∧ QB u pre.length) ∧ za (jN 10 z = pre ++ jN kq u) ∧ za (wr.heap[w.heap.size]? = some (.cells (u8s (jz pre)) 118 (0, 0))) ∧ za (Below w.heap.size w wr))
  case atStart => exact ⟨z, [], rfl, rfl, ⟨rfl, by decide, HZ.out⟩, ⟨rfl⟩, ⟨heap_alloc_new w _⟩, HB0⟩
  case round =>
   clear HB0 HZ
   obtain ⟨u, pre, rfl, rfl, HK, HD, HO, HW⟩ := hrel
   obtain ⟨kq, rfl⟩ : ∃ m, gk = m + 1 := ⟨gk - 1, by have := HK.out; omega⟩
   obtain ⟨m, hm⟩ : ∃ m, m = pre.length := ⟨_, rfl⟩
   rw [← hm]
   have hm10 : m < 10 := by have := HK.out; omega
   have hc2 := YH HO.out m (by rw [Zv pre (by omega)]; exact hm10)
   have hf2 := zn HO.out m
   have HMm := za.mk hm
   clear hm
   by_cases hu : 128 ≤ u
   ·have HV : za (Go.bits .or .u8 ((u : Int) % 256) 128 = ((u % 128 + 128 : Nat) : Int)) := ⟨zcK u⟩
    go_wp2
    have hroom := HK.out.2.2.next hu
    have HO1 : za ((wr.setCell ⟨w.heap.size, m, none⟩ (.int .u8 (Go.bits .or .u8 ((u : Int) % 256) 128))).heap[w.heap.size]? = some (.cells (u8s (jz (pre ++ [u % 128 + 128]))) 118 (0, 0))) := ⟨by
     rw [HV.out, HMm.out, ← YM pre _ (by rw [← HMm.out]; exact hm10)]
     exact Yx HO.out _ _⟩
    have HW1 : za (Below w.heap.size w (wr.setCell ⟨w.heap.size, m, none⟩ (.int .u8 (Go.bits .or .u8 ((u : Int) % 256) 128)))) := ⟨zv HW.out (Nat.le_refl _)⟩
    have hlen : (pre ++ [u % 128 + 128]).length = m + 1 := by rw [zdN, ← HMm.out]; rfl
    have hk1 : 1 ≤ kq := by have := HK.out; have := HMm.out; omega
    obtain ⟨k2, rfl⟩ : ∃ k2, kq = k2 + 1 := ⟨kq - 1, by omega⟩
    go_roundg (k2 + 1)
    case measure => omega
    case rel => exact ⟨u / 128, pre ++ [u % 128 + 128], by go_num, by rw [hlen]; go_num, ⟨by rw [hlen]; have := HK.out; have := HMm.out; omega, by omega, by rw [hlen, HMm.out]; exact hroom.2⟩, ⟨by rw [HD.out, Q3 _ _ hu, List.append_assoc]; rfl⟩, HO1, HW1⟩
   ·have hsl := QZ w.heap.size m hm10 (wr.setCell ⟨w.heap.size, m, none⟩ (.int .u8 (u : Int)))
    have hcs : (convert 41 9 (.slice (some ⟨w.heap.size, 0, none⟩) (m + 1) 10)).run Tryz.prog (wr.setCell ⟨w.heap.size, m, none⟩ (.int .u8 (u : Int))) = .ok (.string (strOfNums (jj (pre ++ [u])))) (wr.setCell ⟨w.heap.size, m, none⟩ (.int .u8 (u : Int))) := by
     have hlen : (pre ++ [u]).length = m + 1 := by rw [zdN, ← HMm.out]; rfl
     refine run_convert_bytes_arg _ 41 5 Tryz.underlying41 Tryz.underlying5 w.heap.size 0 (m + 1) 10 (jj (pre ++ [u])) (by rw [jj, List.length_map, hlen]) (fun i hi => ?_) 9 Tryz.underlying9
     have hb : (wr.setCell ⟨w.heap.size, m, none⟩ (.int .u8 (u : Int))).heap[w.heap.size]? = some (.cells (u8s (jz (pre ++ [u]))) 118 (0, 0)) := by
      rw [HMm.out, ← YM pre u (by rw [← HMm.out]; exact hm10)]
      exact Yx HO.out _ _
     rw [Nat.zero_add, YH hb i (by rw [Zv _ (by omega)]; omega)]
     congr 2
     simp only [List.getD_eq_getElem?_getD, jz]
     rw [List.getElem?_append_left (by rw [jj, List.length_map, hlen]; exact hi)]
    have HU := za.mk hu
    have HC := za.mk hcs
    clear hcs
    have hcs := HC.out
    go_wp2
    go_ret
    refine ⟨QO ?_, zv HW.out (Nat.le_refl _)⟩
    rw [HD.out, Q0 _ _ (by have := HU.out; omega)]
def zw.l0 : Nat → List Int → List Int → Int → Int → Option (List Int)
 | 0, _, _, _, _ => none
 | k + 1, x0, x7, x8, x9 => if x9 < x8 then (if 0 ≤ x9 then (if x9 < (x7.length : Int) then ((yf.f (rd x7 x9)).bind fun t300 => (if x0.length + t300.size < 140737488355328 then (zw.l0 k (x0 ++ bytesOf t300) x7 x8 (wrap64 (x9 + 1))) else (none))) else (none)) else (none)) else (some x0)
def zw.f (k : Nat) (l0 : List Int) (l1 : List Int) : Option (List Int) := zw.l0 k l0 l1 (l1.length : Int) 0
theorem zw.mono_l : ∀ k, (∀ y0 y1 y2 y3, LeO (zw.l0 k y0 y1 y2 y3) (zw.l0 (k + 1) y0 y1 y2 y3))
 | 0 => fun _ _ _ _ r h => by simp [zw.l0] at h
 | k + 1 => by
  have ih0 := zw.mono_l k
  ·intro y0 y1 y2 y3
   unfold zw.l0
   repeat' first
   | (with_reducible exact ih0 _ _ _ _)
   | (with_reducible exact LeO.refl _)
   | (with_reducible exact LeO.none _)
   | (with_reducible refine LeO.ite ?_ ?_)
   | (with_reducible refine LeO.bind ?_ (fun _ => ?_))
   | exact ih0 _ _ _ _
   | exact LeO.none _
   | refine LeO.ite ?_ ?_
   | refine LeO.bind ?_ (fun _ => ?_)
theorem zw.mono : ∀ a0 a1 k, LeO (zw.f k a0 a1) (zw.f (k + 1) a0 a1) := by
 intro a0 a1 k
 have ih0 := zw.mono_l k
 unfold zw.f
 repeat' first
   | (with_reducible exact ih0 _ _ _ _)
   | (with_reducible exact LeO.refl _)
   | (with_reducible exact LeO.none _)
   | (with_reducible refine LeO.ite ?_ ?_)
   | (with_reducible refine LeO.bind ?_ (fun _ => ?_))
   | exact ih0 _ _ _ _
   | exact LeO.none _
   | refine LeO.ite ?_ ?_
   | refine LeO.bind ?_ (fun _ => ?_)
theorem zw.calls (k : Nat) (P0_ : Nat → Prop) (u9000_ : Value) (l0 : List Int) (A1 : Option Addr) (c1 : Nat) (l1 : List Int) (r : List Int) (w0 w : World) (hB : Below w0.heap.size w0 w) (ho0 : Kd.R (Kd.int .u8) 5 w w0.heap.size P0_ u9000_ l0) (hr1 : ∀ W_, zj w W_ (fun k_ => P0_ k_) → Kd.C (Kd.int .i64) W_ A1 l1.length l1) (hc1 : l1.length ≤ c1) (h : zw.f k l0 l1 = some r) :
  Calls Tryz.prog 134 #[u9000_, .slice A1 l1.length c1] w fun e w' => ∃ v0_ : Value, e = .returned (v0_) ∧ Kd.R (Kd.int .u8) 5 w' w0.heap.size (fun k_ => (P0_ k_ ∨ w.heap.size ≤ k_)) v0_ r ∧ Below w0.heap.size w0 w' ∧ zj w w' (fun k_ => P0_ k_) := by
 have HO0 := za.mk (show Kd.R (Kd.int .u8) 5 w w0.heap.size (fun k_ => (P0_ k_ ∨ w.heap.size ≤ k_)) u9000_ l0 from Kd.R_mono ho0 (fun k_ hk => (.inl hk)))
 have HR1 := za.mk hr1
 have HC1 := za.mk hc1
 clear hr1 hc1
 have HK := za.mk (zj.refl w (fun k_ => P0_ k_))
 have HW0 := za.mk hB.size
 have HB := za.mk hB
 clear hB
 have H : (zw.l0 k l0 l1 (l1.length : Int) 0) = some r := h
 clear h
 have H' := za.mk H
 clear H
 go_enter Tryz.func134, Tryz.ntmps134
 go_wp2
 go_loopg [0, 9] k (fun kq v0 v9 w' => ∃ (x0_1 : List Int) (x9_1 : Int), v9 = .int .i64 x9_1 ∧ za (zw.l0 kq x0_1 l1 (l1.length : Int) x9_1 = some r) ∧ za (kq ≤ k) ∧ za (Kd.R (Kd.int .u8) 5 w' w0.heap.size (fun k_ => (P0_ k_ ∨ w.heap.size ≤ k_)) v0 x0_1) ∧ za (zj w w' (fun k_ => P0_ k_)) ∧ za (Below w0.heap.size w0 w'))
 case atStart => exact ⟨(l0), (0), (by first | rfl | (simp; done) | (simp [*]; done)), H', ⟨Nat.le_refl _⟩, ⟨by (with_reducible repeat (first | apply Kd.R_alloc | apply Kd.R_drewN | apply Kd.R_drew)); exact HO0.out⟩, ⟨by repeat (first | (with_reducible first | exact HK.out | apply zj.alloc | apply zj.drewN | apply zj.drew) | exact HK.out)⟩, ⟨by repeat (first | (with_reducible first | exact HB.out | apply zc | apply zb | apply zd) | exact HB.out)⟩⟩
 case round =>
  clear H'
  try clear c1
  try clear p2
  obtain ⟨x0_1, x9_1, rfl, HA, HK1, HO_0, HK, HB⟩ := hrel
  cases gk with
  | zero => exact absurd HA.out (by simp [zw.l0])
  | succ k1 =>
   have H := HA.out
   clear HA
   simp only [zw.l0] at H
   by_cases c3 : x9_1 < (l1.length : Int)
   ·rw [if_pos c3] at H
    have c3b0 : decide (x9_1 < (l1.length : Int)) = true := decide_eq_true c3
    clear c3
    by_cases c4 : 0 ≤ x9_1
    ·rw [if_pos c4] at H
     have c4b0 : decide (0 ≤ x9_1) = true := decide_eq_true c4
     clear c4
     by_cases c5 : x9_1 < (l1.length : Int)
     ·rw [if_pos c5] at H
      have c5b0 : decide (x9_1 < (l1.length : Int)) = true := decide_eq_true c5
      clear c5
      replace H := zdK.mp H
      obtain ⟨t300, A60, H⟩ := H
      replace H : (if x0_1.length + t300.size < 140737488355328 then (zw.l0 k1 (x0_1 ++ bytesOf t300) l1 (l1.length : Int) (wrap64 (x9_1 + 1))) else (none)) = some r := H
      have A6 := za.mk A60
      clear A60
      by_cases c7 : x0_1.length + t300.size < 140737488355328
      ·rw [if_pos c7] at H
       have LMc7 := za.mk c7
       clear c7
       obtain ⟨y301, hy301⟩ : ∃ y_ : List Int, y_ = (x0_1 ++ bytesOf t300) := ⟨_, rfl⟩
       replace H : (zw.l0 k1 y301 l1 (l1.length : Int) (wrap64 (x9_1 + 1))) = some r := by first | (rw [hy301]; with_reducible exact H) | (have H2_ := (Option.bind_some _ _).symm.trans H; rw [hy301]; with_reducible exact H2_) | (have H2_ := (Option.bind_some _ _).symm.trans H; with_reducible exact H2_) | with_reducible exact H | (rw [hy301]; exact H) | exact H
       have Ny301 := za.mk hy301
       clear hy301
       have H' := za.mk H
       clear H
       have p299 : 0 ≤ (x9_1 : Int) := of_decide_eq_true (by first | (with_reducible assumption) | assumption)
       have q299 : x9_1 < (l1.length : Int) := of_decide_eq_true (by first | (with_reducible assumption) | assumption)
       obtain ⟨ad299, e299, hx299_0⟩ := Kd.at_int (Kd.C_kept_now HR1.out HK.out) x9_1 p299 q299
       cases e299
       replace p299 := eq_true p299
       replace q299 := eq_true q299
       go_wp2_with (first | ((with_reducible refine zr (f := 57) rfl ?_); refine zL (some 15) rfl rfl Tryz.func57 (by kernel_rfl) rfl #[.int .i64 (rd l1 x9_1)] rfl (by (try simp only [zdJ, List.map_cons, List.map_nil]); first | done | rfl | (simp only [List.length_drop, List.length_take]; rfl)) ?_; (with_reducible refine (yf.calls (rd l1 x9_1) t300 _ A6.out).mono ?_); rintro e w8 ⟨rfl, hb⟩; refine ⟨_, rfl, ?_⟩; have n0_ := za.mk (Kd.R_below (by (with_reducible repeat (first | apply Kd.R_alloc | apply Kd.R_drewN | apply Kd.R_drew)); exact HO_0.out) hb); have n1_ := za.mk (zj.below (S := (fun k_ => P0_ k_)) (by repeat (first | (with_reducible first | exact HK.out | apply zj.alloc | apply zj.drewN | apply zj.drew) | exact HK.out)) hb); have n2_ := za.mk (zp (by repeat (first | (with_reducible first | exact HB.out | apply zc | apply zb | apply zd) | exact HB.out)) hb); clear HO_0; clear HK; clear HB; have HO_0 := n0_; have HK := n1_; have HB := n2_; clear n0_ n1_ n2_; (try clear hb); (try clear hb2); (try clear hk); (try clear hi)) | (at_builtin; refine jT (w0 := w0) w0.heap.size rfl (.tmp 13) _ 41 9 5 rfl Tryz.underlying41 Tryz.underlying9 XT u0 x0_1 t300 rfl rfl ?aO ?aB ?aS ?aL ?_; (case aB => exact (by repeat (first | (with_reducible first | exact HB.out | apply zc | apply zb | apply zd) | exact HB.out))); (case aO => exact (Kd.own_of_R (by (with_reducible repeat (first | apply Kd.R_alloc | apply Kd.R_drewN | apply Kd.R_drew)); exact HO_0.out))); (case aS => exact (zF (by repeat (first | (with_reducible first | exact HB.out | apply zc | apply zb | apply zd) | exact HB.out)))); (case aL => have := LMc7.out; omega); intro v302 w9 ho0 hb hg hat; have ho := Kd.R_of_own (h1 := fun _ => rfl) (ok := (fun k_ => (P0_ k_ ∨ w.heap.size ≤ k_))) ho0 (fun k_ hk_ => Or.elim hat (fun h1_ => HO_0.out.1 k_ (h1_.symm.trans hk_)) (fun h2_ => (fun k_ hk => (.inr (Nat.le_trans (by first | exact HK.out.1 | exact (show zj w _ (fun k_ => P0_ k_) from by repeat (first | (with_reducible first | exact HK.out | apply zj.alloc | apply zj.drewN | apply zj.drew) | exact HK.out)).1) hk))) k_ (by obtain ⟨b_, hb_, hl_⟩ := h2_; rw [hb_] at hk_; cases hk_; exact hl_))); clear ho0; rw [← Ny301.out] at ho; change Kd.R (Kd.int .u8) 5 w9 w0.heap.size (fun k_ => (P0_ k_ ∨ w.heap.size ≤ k_)) v302 y301 at ho; have n0_ := za.mk (hb); have n1_ := za.mk (zj.of_grown (S := (fun k_ => P0_ k_)) hg (by repeat (first | (with_reducible first | exact HK.out | apply zj.alloc | apply zj.drewN | apply zj.drew) | exact HK.out)) (fun k_ e_ => (HO_0.out.1 k_ e_))); have n2_ := za.mk (ho); clear HB; clear HK; clear HO_0; have HB := n0_; have HK := n1_; have HO303 := n2_; clear n0_ n1_ n2_; clear ho hb hg hat))
       go_roundg k1
       case measure => have := HK1.out; omega
       case rel => exact ⟨(y301), (wrap64 (x9_1 + 1)), (by first | rfl | (simp; done) | (simp [*]; done)), H', ⟨by have := HK1.out; omega⟩, ⟨by (with_reducible repeat (first | apply Kd.R_alloc | apply Kd.R_drewN | apply Kd.R_drew)); exact HO303.out⟩, ⟨by repeat (first | (with_reducible first | exact HK.out | apply zj.alloc | apply zj.drewN | apply zj.drew) | exact HK.out)⟩, ⟨by repeat (first | (with_reducible first | exact HB.out | apply zc | apply zb | apply zd) | exact HB.out)⟩⟩
      ·rw [if_neg c7] at H
       exact absurd H (by simp)
     ·rw [if_neg c5] at H
      exact absurd H (by simp)
    ·rw [if_neg c4] at H
     exact absurd H (by simp)
   ·rw [if_neg c3] at H
    have c3b0 : decide (x9_1 < (l1.length : Int)) = false := decide_eq_false c3
    clear c3
    obtain rfl := Option.some.inj H
    go_wp2
    go_ret
    exact ⟨_, by first | rfl | (simp [zl, zk] <;> rfl) | (simp [*, zl, zk] <;> rfl), by (with_reducible repeat (first | apply Kd.R_alloc | apply Kd.R_drewN | apply Kd.R_drew)); exact HO_0.out, by repeat (first | (with_reducible first | exact HB.out | apply zc | apply zb | apply zd) | exact HB.out), by repeat (first | (with_reducible first | exact HK.out | apply zj.alloc | apply zj.drewN | apply zj.drew) | exact HK.out)⟩
def y9.f (a0 : ByteArray) : Option (ByteArray × Int) := if (a0.size : Int) > 4096 then (some ((⟨#[]⟩ : ByteArray), 4)) else ((yf.f (a0.size : Int)).bind fun t111 => (if t111.size + a0.size ≤ 9223372036854775807 then (some (t111 ++ a0, 0)) else (none)))
theorem y9.calls (a0 : ByteArray) (r1 : ByteArray) (r2 : Int) (w : World) (h : y9.f a0 = some (r1, r2)) :
  Calls Tryz.prog 103 #[.string a0] w fun e w' => e = .returned (.tuple #[.string r1, .int .i64 r2]) ∧ Below w.heap.size w w' := by
 have HB := za.mk (Below.refl w.heap.size w)
 have H : (if (a0.size : Int) > 4096 then (some ((⟨#[]⟩ : ByteArray), 4)) else ((yf.f (a0.size : Int)).bind fun t111 => (if t111.size + a0.size ≤ 9223372036854775807 then (some (t111 ++ a0, 0)) else (none)))) = some (r1, r2) := h
 clear h
 by_cases c2 : (a0.size : Int) > 4096
 ·rw [if_pos c2] at H
  have c2b0 : decide (4096 < (a0.size : Int)) = true := decide_eq_true c2
  have c2b1 : decide (4096 < a0.size) = true := decide_eq_true (by omega)
  clear c2
  simp only [Option.some.injEq, Prod.mk.injEq] at H
  obtain ⟨rfl, rfl⟩ := H
  go_enter Tryz.func103, Tryz.ntmps103
  go_wp2
  go_ret2
  exact ⟨by first | rfl | (simp [zl, zk] <;> rfl) | (simp [*, zl, zk] <;> rfl), by repeat (first | (with_reducible first | exact HB.out | apply zc | apply zb | apply zd) | exact HB.out)⟩
 ·rw [if_neg c2] at H
  have c2b0 : decide (4096 < (a0.size : Int)) = false := decide_eq_false c2
  have c2b1 : decide (4096 < a0.size) = false := decide_eq_false (by omega)
  clear c2
  replace H := zdK.mp H
  obtain ⟨t111, A30, H⟩ := H
  replace H : (if t111.size + a0.size ≤ 9223372036854775807 then (some (t111 ++ a0, 0)) else (none)) = some (r1, r2) := H
  have A3 := za.mk A30
  clear A30
  by_cases c4 : t111.size + a0.size ≤ 9223372036854775807
  ·rw [if_pos c4] at H
   have c4b0 := eq_true c4
   have c4b1 : decide (t111.size + a0.size ≤ 9223372036854775807) = true := decide_eq_true c4
   try have c4b2 : (9223372036854775807 < t111.size + a0.size) = False := eq_false (Nat.not_lt.2 c4)
   simp only [Option.some.injEq, Prod.mk.injEq] at H
   obtain ⟨rfl, rfl⟩ := H
   go_enter Tryz.func103, Tryz.ntmps103
   go_wp2_with (first | ((with_reducible refine zr (f := 57) rfl ?_); refine zL (some 9) rfl rfl Tryz.func57 (by kernel_rfl) rfl #[.int .i64 (a0.size : Int)] rfl (by (try simp only [zdJ, List.map_cons, List.map_nil]); first | done | rfl | (simp only [List.length_drop, List.length_take]; rfl)) ?_; (with_reducible refine (yf.calls (a0.size : Int) t111 _ A3.out).mono ?_); rintro e w5 ⟨rfl, hb⟩; refine ⟨_, rfl, ?_⟩; have n0_ := za.mk (zp (by repeat (first | (with_reducible first | exact HB.out | apply zc | apply zb | apply zd) | exact HB.out)) hb); clear HB; have HB := n0_; clear n0_; (try clear hb); (try clear hb2); (try clear hk); (try clear hi)))
   go_ret2
   exact ⟨by first | rfl | (simp [zl, zk] <;> rfl) | (simp [*, zl, zk] <;> rfl), by repeat (first | (with_reducible first | exact HB.out | apply zc | apply zb | apply zd) | exact HB.out)⟩
  ·rw [if_neg c4] at H
   exact absurd H (by simp)
def qg.f (l0 : List Int) (a1 : ByteArray) : Option (List Int) := (y9.f a1).bind fun bt294 => (if l0.length + bt294.1.size < 140737488355328 then (some (l0 ++ bytesOf bt294.1)) else (none))
theorem qg.calls (P0_ : Nat → Prop) (u9000_ : Value) (l0 : List Int) (a1 : ByteArray) (r : List Int) (w0 w : World) (hB : Below w0.heap.size w0 w) (ho0 : Kd.R (Kd.int .u8) 5 w w0.heap.size P0_ u9000_ l0) (h : qg.f l0 a1 = some r) :
  Calls Tryz.prog 133 #[u9000_, .string a1] w fun e w' => ∃ v0_ : Value, e = .returned (v0_) ∧ Kd.R (Kd.int .u8) 5 w' w0.heap.size (fun k_ => (P0_ k_ ∨ w.heap.size ≤ k_)) v0_ r ∧ Below w0.heap.size w0 w' ∧ zj w w' (fun k_ => P0_ k_) := by
 have HO0 := za.mk (show Kd.R (Kd.int .u8) 5 w w0.heap.size (fun k_ => (P0_ k_ ∨ w.heap.size ≤ k_)) u9000_ l0 from Kd.R_mono ho0 (fun k_ hk => (.inl hk)))
 have HK := za.mk (zj.refl w (fun k_ => P0_ k_))
 have HW0 := za.mk hB.size
 have HB := za.mk hB
 clear hB
 have H : ((y9.f a1).bind fun bt294 => (if l0.length + bt294.1.size < 140737488355328 then (some (l0 ++ bytesOf bt294.1)) else (none))) = some r := h
 clear h
 replace H := zdK.mp H
 obtain ⟨⟨t294, t295⟩, A30, H⟩ := H
 replace H : (if l0.length + t294.size < 140737488355328 then (some (l0 ++ bytesOf t294)) else (none)) = some r := H
 have A3 := za.mk A30
 clear A30
 by_cases c4 : l0.length + t294.size < 140737488355328
 ·rw [if_pos c4] at H
  have LMc4 := za.mk c4
  clear c4
  obtain ⟨y296, hy296⟩ : ∃ y_ : List Int, y_ = (l0 ++ bytesOf t294) := ⟨_, rfl⟩
  replace H : (some y296) = some r := by first | (rw [hy296]; with_reducible exact H) | (have H2_ := (Option.bind_some _ _).symm.trans H; rw [hy296]; with_reducible exact H2_) | (have H2_ := (Option.bind_some _ _).symm.trans H; with_reducible exact H2_) | with_reducible exact H | (rw [hy296]; exact H) | exact H
  have Ny296 := za.mk hy296
  clear hy296
  obtain rfl := Option.some.inj H
  go_enter Tryz.func133, Tryz.ntmps133
  go_wp2_with (first | ((with_reducible refine zr (f := 103) rfl ?_); refine zL (some 9) rfl rfl Tryz.func103 (by kernel_rfl) rfl #[.string a1] rfl (by (try simp only [zdJ, List.map_cons, List.map_nil]); first | done | rfl | (simp only [List.length_drop, List.length_take]; rfl)) ?_; (with_reducible refine (y9.calls a1 t294 t295 _ A3.out).mono ?_); rintro e w5 ⟨rfl, hb⟩; refine ⟨_, rfl, ?_⟩; have n0_ := za.mk (Kd.R_below (by (with_reducible repeat (first | apply Kd.R_alloc | apply Kd.R_drewN | apply Kd.R_drew)); exact HO0.out) hb); have n1_ := za.mk (zj.below (S := (fun k_ => P0_ k_)) (by repeat (first | (with_reducible first | exact HK.out | apply zj.alloc | apply zj.drewN | apply zj.drew) | exact HK.out)) hb); have n2_ := za.mk (zp (by repeat (first | (with_reducible first | exact HB.out | apply zc | apply zb | apply zd) | exact HB.out)) hb); clear HO0; clear HK; clear HB; have HO0 := n0_; have HK := n1_; have HB := n2_; clear n0_ n1_ n2_; (try clear hb); (try clear hb2); (try clear hk); (try clear hi)) | (at_builtin; refine jT (w0 := w0) w0.heap.size rfl (.tmp 12) _ 41 9 5 rfl Tryz.underlying41 Tryz.underlying9 XT u9000_ l0 t294 rfl rfl ?aO ?aB ?aS ?aL ?_; (case aB => exact (by repeat (first | (with_reducible first | exact HB.out | apply zc | apply zb | apply zd) | exact HB.out))); (case aO => exact (Kd.own_of_R (by (with_reducible repeat (first | apply Kd.R_alloc | apply Kd.R_drewN | apply Kd.R_drew)); exact HO0.out))); (case aS => exact (zF (by repeat (first | (with_reducible first | exact HB.out | apply zc | apply zb | apply zd) | exact HB.out)))); (case aL => have := LMc4.out; omega); intro v297 w6 ho0 hb hg hat; have ho := Kd.R_of_own (h1 := fun _ => rfl) (ok := (fun k_ => (P0_ k_ ∨ w.heap.size ≤ k_))) ho0 (fun k_ hk_ => Or.elim hat (fun h1_ => HO0.out.1 k_ (h1_.symm.trans hk_)) (fun h2_ => (fun k_ hk => (.inr (Nat.le_trans (by first | exact HK.out.1 | exact (show zj w _ (fun k_ => P0_ k_) from by repeat (first | (with_reducible first | exact HK.out | apply zj.alloc | apply zj.drewN | apply zj.drew) | exact HK.out)).1) hk))) k_ (by obtain ⟨b_, hb_, hl_⟩ := h2_; rw [hb_] at hk_; cases hk_; exact hl_))); clear ho0; rw [← Ny296.out] at ho; change Kd.R (Kd.int .u8) 5 w6 w0.heap.size (fun k_ => (P0_ k_ ∨ w.heap.size ≤ k_)) v297 y296 at ho; have n0_ := za.mk (hb); have n1_ := za.mk (zj.of_grown (S := (fun k_ => P0_ k_)) hg (by repeat (first | (with_reducible first | exact HK.out | apply zj.alloc | apply zj.drewN | apply zj.drew) | exact HK.out)) (fun k_ e_ => (HO0.out.1 k_ e_))); have n2_ := za.mk (ho); clear HB; clear HK; clear HO0; have HB := n0_; have HK := n1_; have HO298 := n2_; clear n0_ n1_ n2_; clear ho hb hg hat))
  go_ret
  exact ⟨_, by first | rfl | (simp [zl, zk] <;> rfl) | (simp [*, zl, zk] <;> rfl), by (with_reducible repeat (first | apply Kd.R_alloc | apply Kd.R_drewN | apply Kd.R_drew)); exact HO298.out, by repeat (first | (with_reducible first | exact HB.out | apply zc | apply zb | apply zd) | exact HB.out), by repeat (first | (with_reducible first | exact HK.out | apply zj.alloc | apply zj.drewN | apply zj.drew) | exact HK.out)⟩
 ·rw [if_neg c4] at H
  exact absurd H (by simp)
def Yz (fr : Nat × Nat) (n : Nat) : Prop := fr = (0, 0) ∨ n ≤ fr.1
theorem Yz.off {fr : Nat × Nat} {n j : Nat} (h : Yz fr n) (hj : j < n) : (decide (fr.1 ≤ j) && decide (j < fr.2)) = false := by
 rcases h with rfl | h
 ·simp
 ·simp; omega
theorem Yz.frozen {w : World} {g j : Nat} {cur : Array Value} {t : TypeId} {fr : Nat × Nat} (hg : w.heap[g]? = some (.cells cur t fr)) (h : Yz fr cur.size) (hj : j < cur.size) : w.frozen? ⟨g, j, none⟩ = false := by
 obtain ⟨lo, hi⟩ := fr
 have := h.off hj
 simpa [World.frozen?, hg] using this
theorem vw {P : Program} (g o : Nat) (t : TypeId) (fr : Nat × Nat) : ∀ (vs : List Value) (i : Nat) (cur : Array Value) (w : World), w.heap[g]? = some (.cells cur t fr) → Yz fr cur.size → o + i + vs.length ≤ cur.size → (∀ v ∈ vs, v.oneCell' = true) →
  (storeCells ⟨g, o, none⟩ vs i).run P w = .ok () (w.setRow g (cur.toList.take (o + i) ++ vs ++ cur.toList.drop (o + i + vs.length)).toArray)
 | [], i, cur, w, hg, _, _, _ => by
  simp only [storeCells, List.append_nil, List.length_nil, Nat.add_zero, List.take_append_drop, Array.toArray_toList]
  rw [setRow_self w g cur t fr hg]
  rfl
 | v :: rest, i, cur, w, hg, hm, hl, h1 => by
  have hi : o + i < cur.size := by simp at hl; omega
  have hadd : (⟨g, o, none⟩ : Addr).add i = ⟨g, o + i, none⟩ := by unfold Addr.add; split <;> simp_all
  have hcell : w.cell? ⟨g, o + i, none⟩ = some cur[o + i] := by simp [World.cell?, hg, hi]
  have hfro : w.frozen? ⟨g, o + i, none⟩ = false := hm.frozen hg hi
  have hst : (store ((⟨g, o, none⟩ : Addr).add i) v).run P w = .ok () (w.setRow g (cur.setIfInBounds (o + i) v)) := by
   rw [hadd, run_store P w _ v _ (h1 v (by simp)), hcell]
   simp [hfro, setCell_eq_setRow w g (o + i) cur t fr v hg]
  have ih := vw (P := P) g o t fr rest (i + 1) (cur.setIfInBounds (o + i) v) (w.setRow g (cur.setIfInBounds (o + i) v)) (setRow_heap w g cur _ t _ hg) (by simpa using hm) (by simp at hl ⊢; omega) (fun x hx => h1 x (by simp [hx]))
  simp only [storeCells, Sem.run_bind, hst, Result.andThen_ok, ih, setRow_setRow]
  congr 3
  have e := list_seg_step cur.toList (o + i) v rest (by simp at hl ⊢; omega)
  simpa [Array.toList_setIfInBounds, Nat.add_assoc] using e
def yL (w : World) (base : Nat) (e : TypeId) (v : Value) (xs : List Value) : Prop :=
 (v = .slice none 0 0 ∧ xs = []) ∨
 ∃ g cap cur fr, v = .slice (some ⟨g, 0, none⟩) xs.length cap ∧ base ≤ g ∧ w.heap[g]? = some (.cells cur e fr) ∧ Yz fr cur.size ∧ xs.length ≤ cap ∧ cap ≤ maxLen ∧ cur.size = cap ∧ cur.toList.take xs.length = xs
theorem yL.nil (w : World) (base : Nat) (e : TypeId) : yL w base e (.slice none 0 0) [] := .inl ⟨rfl, rfl⟩
theorem yL.of_own {w : World} {base n : Nat} {e : TypeId} {v : Value} {xs : List Value} (h : w.ownsRow base e 1 v n xs) : yL w base e v xs := by
 have hl : xs.length = n := by simpa using h.1
 subst hl
 rcases h.2 with ⟨rfl, h0⟩ | ⟨g, cap, cur, rfl, hb, hg, h1, h2, h3, h4⟩
 ·exact .inl ⟨rfl, List.eq_nil_of_length_eq_zero h0⟩
 ·exact .inr ⟨g, cap, cur, (0, 0), rfl, hb, hg, .inl rfl, h1, h2, by simpa using h3, by simpa using h4⟩
theorem yL.kept {w w' : World} {base : Nat} {e : TypeId} {v : Value} {xs : List Value} {row : Option Nat} (h : yL w base e v xs) (hg : w.grownBy w' row) (hne : v.ownBlock = none ∨ v.ownBlock ≠ row) : yL w' base e v xs := by
 rcases h with h | ⟨g, cap, cur, fr, rfl, hb, hgg, rest⟩
 ·exact .inl h
 ·refine .inr ⟨g, cap, cur, fr, rfl, hb, ?_, rest⟩
  rw [hg.block g (Array.getElem?_eq_some_iff.1 hgg).1 (by simpa [Value.ownBlock] using hne)]
  exact hgg
theorem yL.below {w w' : World} {base : Nat} {e : TypeId} {v : Value} {xs : List Value} (h : yL w base e v xs) (hb : Below w.heap.size w w') : yL w' base e v xs :=
 h.kept (YB hb none) (by cases v.ownBlock <;> simp)
theorem yL.base_le {w : World} {base : Nat} {e : TypeId} {v : Value} {xs : List Value} (h : yL w base e v xs) (k : Nat) (hk : v.ownBlock = some k) : base ≤ k := by
 rcases h with ⟨rfl, _⟩ | ⟨g, cap, cur, fr, rfl, hb, _⟩
 ·simp [Value.ownBlock] at hk
 ·have : g = k := by simpa [Value.ownBlock] using hk
  omega
theorem yL.cells {w : World} {base : Nat} {e : TypeId} {v : Value} {xs : List Value} (h : yL w base e v xs) {g : Nat} (hg : v.ownBlock = some g) : ∀ j u, xs[j]? = some u → w.cell? ((⟨g, 0, none⟩ : Addr).add j) = some u := by
 intro j u hu
 rcases h with ⟨rfl, _⟩ | ⟨g', cap, cur, fr, rfl, _, hgg, _, _, _, _, htake⟩
 ·simp [Value.ownBlock] at hg
 ·simp [Value.ownBlock] at hg
  subst hg
  rw [Y7, cell_of_row w g' j cur e fr hgg]
  rw [← htake, List.getElem?_take] at hu
  split at hu
  ·simpa using hu
  ·cases hu
theorem yL.of_bytes (w : World) (base : Nat) (e : TypeId) (s : ByteArray) (hb : base ≤ w.heap.size) (hs : s.size ≤ maxLen) :
  yL (Lib.bytesWorld w e s) base e (.slice (some ⟨w.heap.size, 0, none⟩) s.size (grownCap w s.size 0 e)) (Lib.strCells s) := by
 have hge := grownCap_ge w s.size 0 e
 have hle := grownCap_le_maxLen w s.size 0 e hs
 have hsz : (Lib.bytesCells w e s).size = grownCap w s.size 0 e := by
  simp [Lib.bytesCells]
  show s.size + _ = _
  omega
 refine .inr ⟨w.heap.size, grownCap w s.size 0 e, Lib.bytesCells w e s, _, by rw [Lib.strCells_length], hb, Lib.bytesWorld_at_new w e s, .inr (Nat.le_refl _), by rw [Lib.strCells_length]; exact hge, hle, hsz, ?_⟩
 have h1 : (Lib.bytesCells w e s).toList = Lib.strCells s ++ List.replicate (grownCap w s.size 0 e - s.size) (.int .u8 0) := by
  simp [Lib.bytesCells, Lib.strCells]
 rw [h1]
 exact List.take_left
section
variable {P : Program} (w : World)
theorem JG (base : Nat) (t ty e : TypeId) (i : TypeInfo) (z : Value) (bytes : Nat) (ht : P.underlying t = some (.slice e)) (hi : P.info? e = some i) (hz : i.zero = some z)
  (hsize : i.size = 1) (hby : i.bytes = bytes) (hb0 : 0 < bytes) (hzs : z.cells.size = 1)
  (v : Value) (xs : List Value) (hown : yL w base e v xs)
  (a : Addr) (m c : Nat) (news : List Value) (hl : news.length = m) (hnews : ∀ j u, news[j]? = some u → w.cell? (a.add j) = some u) (h1 : ∀ u ∈ news, u.oneCell' = true)
  (hbytes : (xs.length + m) * bytes ≤ 140737488355328) (hbase : base ≤ w.heap.size) :
  ∃ v' w', (Builtin.append_ #[t, t] ty #[v, .slice (some a) m c]).run P w = .ok v' w' ∧ yL w' base e v' (xs ++ news) ∧ w.grownBy w' v.ownBlock := by
 rcases hown with ⟨rfl, rfl⟩ | ⟨g, cap, cur, fr, rfl, hbg, hg, hfr, hnc, hcm, hcs, htake⟩
 ·have hle : (([] : List Value).length + m) ≤ 140737488355328 := Nat.le_trans (Nat.le_mul_of_pos_right _ hb0) hbytes
  obtain ⟨v', w', hr, ho, hgr, _⟩ := run_append_own (P := P) w base t ty e i z 1 bytes ht hi hz hsize hby hzs (by omega) (.slice none 0 0) 0 [] (World.ownsRow_nil w base e 1) a m c news (by simpa using hl) hnews h1 (by simp only [maxLen]; simp at hle; omega) (by simpa using hbytes) hbase
  exact ⟨v', w', hr, yL.of_own ho, hgr⟩
 ·have hle : xs.length + m ≤ 140737488355328 := Nat.le_trans (Nat.le_mul_of_pos_right _ hb0) hbytes
  by_cases hroom : xs.length + m ≤ cap
  ·have hf := run_firstCells_some (P := P) w 1 m a m c news (by simpa using hl) hnews
   have hst := vw (P := P) g xs.length e fr news 0 cur w hg hfr (by omega) h1
   simp only [Nat.add_zero] at hst
   refine ⟨.slice (some ⟨g, 0, none⟩) (xs.length + m) cap, w.setRow g (cur.toList.take xs.length ++ news ++ cur.toList.drop (xs.length + news.length)).toArray, ?_, ?_, ?_⟩
   ·simp [Builtin.append_, run_underlying ht, sizeOf, typeInfo, hi, hsize, Builtin.lenOf, hroom, hf, Addr.add_lit, hst]
   ·have hsz : (cur.toList.take xs.length ++ news ++ cur.toList.drop (xs.length + news.length)).toArray.size = cur.size := by
     simp only [List.size_toArray, zdN, List.length_take, List.length_drop, Array.length_toList]
     omega
    refine .inr ⟨g, cap, _, fr, by rw [zdN, hl], hbg, setRow_heap w g cur _ e fr hg, by rw [hsz]; exact hfr, by rw [zdN, hl]; exact hroom, hcm, by rw [hsz]; exact hcs, ?_⟩
    rw [htake]
    exact List.take_left
   ·exact ⟨rfl, rfl, rfl, by simp, fun k _ hk => setRow_other w g k _ (fun e => hk (by simp [Value.ownBlock, e]))⟩
  ·have holds : ∀ j u, xs[j]? = some u → w.cell? ((⟨g, 0, none⟩ : Addr).add j) = some u := yL.cells (base := base) (.inr ⟨g, cap, cur, fr, rfl, hbg, hg, hfr, hnc, hcm, hcs, htake⟩) (g := g) rfl
   have hr := run_append_grow (P := P) w t ty e i z ht hi hz ⟨g, 0, none⟩ xs.length cap xs (by rw [hsize, Nat.mul_one]) holds a m c news (by rw [hsize, Nat.mul_one]; exact hl) hnews (by omega) (by omega) (by rw [hby]; exact growslice_fits (by omega) hbytes)
   refine ⟨_, _, hr, ?_, ⟨rfl, rfl, rfl, by simp, fun k hk _ => heap_alloc_old w.drew _ hk⟩⟩
   have hge := grownCap_ge w (xs.length + m) cap e
   refine .inr ⟨w.heap.size, _, _, (0, 0), by rw [zdN, hl], hbase, heap_alloc_new w.drew _, .inl rfl, by rw [zdN, hl]; exact hge, grownCap_le_maxLen w _ _ e (by simp only [maxLen]; omega), ?_, ?_⟩
   ·simp only [Array.size_append, List.size_toArray, size_zeroCells, hzs, hl]
    omega
   ·simp only [Array.toList_append, List.append_assoc]
    rw [← List.append_assoc]
    exact List.take_left
theorem Y3 (base : Nat) (t u ty e : TypeId) (i : TypeInfo) (ht : P.underlying t = some (.slice e)) (hu : P.underlying u = some .string) (hi : P.info? e = some i) (hz : i.zero = some (.int .u8 0))
  (hsize : i.size = 1) (hby : i.bytes = 1)
  (v : Value) (xs : List Value) (hown : yL w base e v xs) (s : ByteArray)
  (hbytes : xs.length + s.size ≤ 140737488355328) (hbase : base ≤ w.heap.size) :
  ∃ v' w', (Builtin.append_ #[t, u] ty #[v, .string s]).run P w = .ok v' w' ∧ yL w' base e v' (xs ++ Lib.strCells s) ∧ w.grownBy w' v.ownBlock := by
 rcases hown with ⟨rfl, rfl⟩ | ⟨g, cap, cur, fr, rfl, hbg, hg, hfr, hnc, hcm, hcs, htake⟩
 ·obtain ⟨v', w', hr, ho, hgr, _⟩ := Lib.run_append_own_string (P := P) w base t u ty e i ht hu hi hz hsize hby (.slice none 0 0) 0 [] (World.ownsRow_nil w base e 1) s (by simp only [maxLen]; simp at hbytes; omega) (by simpa using hbytes) hbase
  exact ⟨v', w', hr, yL.of_own ho, hgr⟩
 ·by_cases hroom : xs.length + s.size ≤ cap
  ·have hf := Lib.run_firstCells_string (P := P) w 1 s
   have hst := vw (P := P) g xs.length e fr (Lib.strCells s) 0 cur w hg hfr (by rw [Lib.strCells_length]; omega) (Lib.strCells_oneCell s)
   simp only [Nat.add_zero] at hst
   refine ⟨.slice (some ⟨g, 0, none⟩) (xs.length + s.size) cap, w.setRow g (cur.toList.take xs.length ++ Lib.strCells s ++ cur.toList.drop (xs.length + (Lib.strCells s).length)).toArray, ?_, ?_, ?_⟩
   ·simp [Builtin.append_, run_underlying ht, run_underlying hu, sizeOf, typeInfo, hi, hsize, Builtin.lenOf, hroom, hf, Addr.add_lit, hst]
   ·have hsz : (cur.toList.take xs.length ++ Lib.strCells s ++ cur.toList.drop (xs.length + (Lib.strCells s).length)).toArray.size = cur.size := by
     simp only [List.size_toArray, zdN, List.length_take, List.length_drop, Array.length_toList, Lib.strCells_length]
     omega
    refine .inr ⟨g, cap, _, fr, by rw [zdN, Lib.strCells_length], hbg, setRow_heap w g cur _ e fr hg, by rw [hsz]; exact hfr, by rw [zdN, Lib.strCells_length]; exact hroom, hcm, by rw [hsz]; exact hcs, ?_⟩
    rw [htake]
    exact List.take_left
   ·exact ⟨rfl, rfl, rfl, by simp, fun k _ hk => setRow_other w g k _ (fun e => hk (by simp [Value.ownBlock, e]))⟩
  ·have holds : ∀ j u, xs[j]? = some u → w.cell? ((⟨g, 0, none⟩ : Addr).add j) = some u := yL.cells (base := base) (.inr ⟨g, cap, cur, fr, rfl, hbg, hg, hfr, hnc, hcm, hcs, htake⟩) (g := g) rfl
   have hr := Lib.run_append_grow_string (P := P) w t u ty e i (.int .u8 0) ht hu hi hz ⟨g, 0, none⟩ xs.length cap xs (by rw [hsize, Nat.mul_one]) holds s (by omega) (by omega) (by rw [hby]; exact growslice_fits (by omega) (by omega))
   refine ⟨_, _, hr, ?_, ⟨rfl, rfl, rfl, by simp, fun k hk _ => heap_alloc_old w.drew _ hk⟩⟩
   have hge := grownCap_ge w (xs.length + s.size) cap e
   have hz1 : (Value.int IntKind.u8 0).cells.size = 1 := rfl
   refine .inr ⟨w.heap.size, _, _, (0, 0), by rw [zdN, Lib.strCells_length], hbase, heap_alloc_new w.drew _, .inl rfl, by rw [zdN, Lib.strCells_length]; exact hge, grownCap_le_maxLen w _ _ e (by simp only [maxLen]; omega), ?_, ?_⟩
   ·simp only [Array.size_append, List.size_toArray, size_zeroCells, hz1, Lib.strCells_length]
    omega
   ·simp only [Array.toList_append, List.append_assoc]
    rw [← List.append_assoc]
    exact List.take_left
variable {ops : Array Oper} {rest : List Oper} {o : Oper} {a : Act} {Q : Exit → Act → World → Prop}
theorem XX (hgd : o.guard = none) (s x : Operand) (t : TypeId)
  (ho : o.op = .call { callee := .builtin .append, args := #[s, x], argTypes := #[t, t] })
  (base : Nat) (e : TypeId) (i : TypeInfo) (z : Value) (bytes : Nat) (ht : P.underlying t = some (.slice e)) (hi : P.info? e = some i) (hz : i.zero = some z)
  (hsize : i.size = 1) (hby : i.bytes = bytes) (hb0 : 0 < bytes) (hzs : z.cells.size = 1)
  (v : Value) (xs : List Value) (hs : a.eval s = v) (hown : yL w base e v xs)
  (ad : Addr) (m c : Nat) (news : List Value) (hx : a.eval x = .slice (some ad) m c) (hl : news.length = m) (hnews : ∀ j u, news[j]? = some u → w.cell? (ad.add j) = some u) (h1 : ∀ u ∈ news, u.oneCell' = true)
  (hbytes : (xs.length + m) * bytes ≤ 140737488355328) (hbase : base ≤ w.heap.size)
  (h : ∀ v' w', yL w' base e v' (xs ++ news) → w.grownBy w' v.ownBlock → wpList P ops Q rest (a.put o.dst v') w') : wpList P ops Q (o :: rest) a w := by
 refine wpList_plain hgd fun K hK => ?_
 obtain ⟨v', w', hr, h2, h3⟩ := JG (P := P) w base t o.type e i z bytes ht hi hz hsize hby hb0 hzs v xs hown ad m c news hl hnews h1 hbytes hbase
 unfold Oper.wp execOp
 simp only [ho, resolve, invoke, builtin, Sem.run_bind, Sem.run_pure, Result.andThen_ok, zdJ, List.map_cons, List.map_nil, hs, hx, hr]
 exact hK _ _ (h v' w' h2 h3)
theorem yU (hgd : o.guard = none) (sl x : Operand) (t u : TypeId)
  (ho : o.op = .call { callee := .builtin .append, args := #[sl, x], argTypes := #[t, u] })
  (base : Nat) (e : TypeId) (i : TypeInfo) (ht : P.underlying t = some (.slice e)) (hu : P.underlying u = some .string) (hi : P.info? e = some i) (hz : i.zero = some (.int .u8 0))
  (hsize : i.size = 1) (hby : i.bytes = 1)
  (v : Value) (xs : List Value) (hs : a.eval sl = v) (hown : yL w base e v xs) (s : ByteArray) (hx : a.eval x = .string s)
  (hbytes : xs.length + s.size ≤ 140737488355328) (hbase : base ≤ w.heap.size)
  (h : ∀ v' w', yL w' base e v' (xs ++ Lib.strCells s) → w.grownBy w' v.ownBlock → wpList P ops Q rest (a.put o.dst v') w') : wpList P ops Q (o :: rest) a w := by
 refine wpList_plain hgd fun K hK => ?_
 obtain ⟨v', w', hr, h2, h3⟩ := Y3 (P := P) w base t u o.type e i ht hu hi hz hsize hby v xs hown s hbytes hbase
 unfold Oper.wp execOp
 simp only [ho, resolve, invoke, builtin, Sem.run_bind, Sem.run_pure, Result.andThen_ok, zdJ, List.map_cons, List.map_nil, hs, hx, hr]
 exact hK _ _ (h v' w' h2 h3)
end
theorem yL.to_string {P : Program} {w : World} {base : Nat} {src dst e e' : TypeId} {v : Value} {xs : List Int} (hs : P.underlying src = some (.slice e')) (he : P.underlying e' = some (.int .u8)) (hd : P.underlying dst = some .string)
  (h : yL w base e v (yH .u8 xs)) : (convert src dst v).run P w = .ok (.string (strOfNums xs)) w := by
 have hl : (yH .u8 xs).length = xs.length := xL _ _
 rcases h with ⟨rfl, h0⟩ | ⟨g, cap, cur, fr, rfl, hb, hg, hfr, hnc, hcm, hcs, htake⟩
 ·obtain rfl : xs = [] := by cases xs with | nil => rfl | cons x xs => simp [yH] at h0
  exact run_convert_bytes_nil w src e' hs he 0 0 dst hd
 ·rw [hl]
  refine run_convert_bytes_arg w src e' hs he g 0 xs.length cap xs rfl (fun i hi => ?_) dst hd
  have hc := yL.cells (base := base) (e := e) (v := .slice (some ⟨g, 0, none⟩) (yH .u8 xs).length cap) (.inr ⟨g, cap, cur, fr, rfl, hb, hg, hfr, hnc, hcm, hcs, htake⟩) (g := g) rfl i (.int .u8 (xs.getD i 0)) (by simp [yH, List.getElem?_eq_getElem (show i < xs.length by omega), List.getD_eq_getElem?_getD])
  have ha : (⟨g, 0, none⟩ : Addr).add i = ⟨g, 0 + i, none⟩ := by unfold Addr.add; split <;> simp_all
  rwa [ha] at hc
theorem qo (s : ByteArray) : Lib.strCells s = yH .u8 (bytesOf s) := by simp [Lib.strCells, yH, bytesOf]
theorem yL.at_ {w : World} {base : Nat} {e : TypeId} {v : Value} {xs : List Int} (h : yL w base e v (yH .u8 xs)) (i : Nat) (hi : i < xs.length) :
  ∃ g cap, v = .slice (some ⟨g, 0, none⟩) xs.length cap ∧ base ≤ g ∧ w.cell? ⟨g, i, none⟩ = some (.int .u8 (xs.getD i 0)) ∧ w.frozen? ⟨g, i, none⟩ = false := by
 have hl : (yH .u8 xs).length = xs.length := xL _ _
 have hcell := fun g => h.cells (g := g)
 rcases h with ⟨rfl, h0⟩ | ⟨g, cap, cur, fr, rfl, hb, hg, hfr, hnc, hcm, hcs, htake⟩
 ·rw [h0] at hl; simp at hl; omega
 ·have hc := hcell g rfl i (.int .u8 (xs.getD i 0)) (by simp [yH, List.getElem?_eq_getElem hi, List.getD_eq_getElem?_getD])
  rw [Y7] at hc
  exact ⟨g, cap, by rw [hl], hb, hc, hfr.frozen hg (by omega)⟩
def jU {α : Type} (T : α → Option (ByteArray × Int)) : List α → List Int → Option (ByteArray × Int)
 | [], acc => some (strOfNums acc, 0)
 | x :: l, acc => (T x).bind fun r => if r.2 = 0 then (if acc.length + r.1.size ≤ 140737488355328 then jU T l (acc ++ bytesOf r.1) else none) else some (⟨#[]⟩, r.2)
theorem XS (l : List Int) (i : Nat) (h : i < l.length) : rd l (i : Int) = l[i] := by simp [rd, h]
theorem Qu (l : List ByteArray) (i : Nat) (h : i < l.length) : ym ByteArray.empty l (i : Int) = l[i] := by simp [ym, h]
theorem jv (xs : List Int) (s : ByteArray) : yH .u8 xs ++ Lib.strCells s = yH .u8 (xs ++ bytesOf s) := by rw [qo, XH]
theorem Jw : (Tryz.prog.info? 5).map (fun i => (i.zero, i.size, i.bytes)) = some (some (.int .u8 0), 1, 1) := by kernel_rfl
theorem XB (f : Nat) : ∀ u, (jN f u).length ≤ f := by
 induction f with
 | zero => intro u; simp [jN]
 | succ f ih =>
  intro u
  rw [jN]
  split
  ·simp
  ·have := ih (u / 128)
   simp only [List.length_cons]
   omega
theorem zE (n : Int) : (yn n).size ≤ 10 := by
 unfold yn
 rw [strOfNums_size, jj, List.length_map]
 exact XB 10 _
def jy.f (a0 : Int) : Option (ByteArray × Int) := (yf.f a0).bind fun t110 => (some (t110, 0))
theorem jy.calls (a0 : Int) (r1 : ByteArray) (r2 : Int) (w : World) (h : jy.f a0 = some (r1, r2)) :
  Calls Tryz.prog 180 #[.int .i64 a0] w fun e w' => e = .returned (.tuple #[.string r1, .int .i64 r2]) ∧ Below w.heap.size w w' := by
 have HB := za.mk (Below.refl w.heap.size w)
 have H : ((yf.f a0).bind fun t110 => (some (t110, 0))) = some (r1, r2) := h
 clear h
 replace H := zdK.mp H
 obtain ⟨t110, A20, H⟩ := H
 replace H : (some (t110, 0)) = some (r1, r2) := H
 have A2 := za.mk A20
 clear A20
 simp only [Option.some.injEq, Prod.mk.injEq] at H
 obtain ⟨rfl, rfl⟩ := H
 go_enter Tryz.func180, Tryz.ntmps180
 go_wp2_with (first | ((with_reducible refine zr (f := 57) rfl ?_); refine zL (some 5) rfl rfl Tryz.func57 (by kernel_rfl) rfl #[.int .i64 a0] rfl (by (try simp only [zdJ, List.map_cons, List.map_nil]); first | done | rfl | (simp only [List.length_drop, List.length_take]; rfl)) ?_; (with_reducible refine (yf.calls a0 t110 _ A2.out).mono ?_); rintro e w3 ⟨rfl, hb⟩; refine ⟨_, rfl, ?_⟩; have n0_ := za.mk (zp (by repeat (first | (with_reducible first | exact HB.out | apply zc | apply zb | apply zd) | exact HB.out)) hb); clear HB; have HB := n0_; clear n0_; (try clear hb); (try clear hb2); (try clear hk); (try clear hi)))
 go_ret2
 exact ⟨by first | rfl | (simp [zl, zk] <;> rfl) | (simp [*, zl, zk] <;> rfl), by repeat (first | (with_reducible first | exact HB.out | apply zc | apply zb | apply zd) | exact HB.out)⟩
end Go.Proofs.YtepipnpfggnadaaGreat.Q
