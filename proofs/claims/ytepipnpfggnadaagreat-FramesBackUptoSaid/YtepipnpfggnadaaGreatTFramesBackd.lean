/- Texts of this session laid together (shrink.py): what the claim's law rests on. -/
import Derived.Below
import Derived.Deep.Draws
import Derived.Deep.AppendLies
import Derived.Maps.AppendAt
import Derived.OwnWalk
import Derived.Laws.BytesArg
import Derived.Laws.MakeOwn
import Derived.Laws.OwnMore
import Derived.Deep.OwnRows
import Derived.Tactics
import Derived.Lib.ConvBytes
import Derived.Laws.Slices
import Derived.WalkKit
import Derived.KernelRfl
import Derived.RowKit3
import Derived.Deep.LoopGhost
import Derived.Deep.QuietTactic
import Derived.BigQuiet
import Derived.WideLaws
import Derived.Deep.DeepCutAuto
import Derived.Deep.CutBlock
import Derived.Deep.RegionHeld3
import Derived.Laws.Rows
import Derived.Lib.AppendStr
import Derived.ArgAppend
import Derived.Laws.IdiomCopy
import Derived.RowKit
import Derived.OrdersHeld
import Derived.Laws.BitsLemmas
import Derived.Laws.StructEq
import Derived.Test.YtepipnpfggnadaaGreatProg
import Derived.WalkMore
import Derived.Lib.Strings
import Derived.Test.YtepipnpfggnadaaGreatTFramesBackc
set_option linter.unusedVariables false
set_option linter.unusedSimpArgs false
set_option maxRecDepth 100000
set_option maxHeartbeats 8000000
open Bool renaming true → O, false → Y
open List renaming setIfInBounds_toArray → zdF
open List renaming set_cons_zero → zdG
open List renaming set_cons_succ → zdH
open List renaming map_toArray → zdI
open Option renaming bind_eq_some_iff → zdJ
open Go.World renaming block_lt_of_cell? → zdK
open Bool renaming eq_false_iff → zdL
open List renaming length_append → zdM
namespace Go.Proofs.YtepipnpfggnadaaGreat.Q
open Go.RowKit Go.Proofs.YtepipnpfggnadaaGreatW.PrintWords Go.Proofs.YtepipnpfggnadaaGreatW.PrintLast Go.Proofs.YtepipnpfggnadaaGreatW.PrintMore
def inB (a b c : Int) : Bool := decide (b ≤ a) && decide (a ≤ c)
theorem Q4 (a b c : Int) : zT.f a b c = some (inB a b c) := by
 unfold zT.f inB
 by_cases h : a ≥ b
 ·rw [if_pos h, decide_eq_true h]; rfl
 ·rw [if_neg h, decide_eq_false h]; rfl
theorem YE {a b c : Int} {w : World} {t : Bool} (h : inB a b c = t) : Calls Tryz.prog 38 #[.int .i64 a, .int .i64 b, .int .i64 c] w fun e w' => e = .returned (.bool t) ∧ zj w w' := zT.calls a b c t w (h ▸ Q4 a b c)
theorem Zp {a : Int} {w : World} {t : Bool} (h : inB a 0 1099511627776 = t) : Calls Tryz.prog 128 #[.int .i64 a] w fun e w' => e = .returned (.bool t) ∧ zj w w' := jX.calls a t w (by unfold jX.f; rw [Q4, h]; rfl)
def Vy (x : Fm) (r : Bool) : Prop := ∃ k s e, yd.f k x.f5 = some (s, e) ∧ r = ((e == 0) && (inB x.f3 0 1099511627776 && inB x.f4 1 1099511627776))
def zcB (x : Fm) (r : Bool) : Prop := r = inB x.f4 0 1099511627776
def VB (x : Fm) (r : Bool) : Prop := ∃ k s e k' t g, y8.f k x.f8 = some (s, e) ∧ yz.f k' x.f9 = some (t, g) ∧ r = (inB x.f4 0 1099511627776 && ((e == 0) && (g == 0)))
theorem zad {x : Fm} {r : Bool} {w : World} {cs : List Value} (h : Vy x r) (hx : FmC w x cs) : Calls Tryz.prog 95 #[.agg #[], .agg cs.toArray] w fun e w' => e = .returned (.bool r) ∧ Below w.heap.size w w' := by
 obtain ⟨v5, v6, v7, v8, v9, rfl, h5, h6, h7, h8, h9⟩ := hx
 obtain ⟨k, s, e, hq, rfl⟩ := h
 obtain ⟨A5, c5, rfl, l5, h5⟩ := h5
 have HS := Sat.nil w
 generalize hp : (e == 0) = p at *
 generalize hpl : inB x.f3 0 1099511627776 = q at *
 generalize ht : inB x.f4 1 1099511627776 = t at *
 replace h5 := za.mk h5
 replace hq := za.mk hq
 replace hpl := za.mk hpl
 replace ht := za.mk ht
 have hp2 : (e != 0) = !p := by rw [← hp]; rfl
 cases p
 case' true => cases q
 all_goals
  go_enter Tryz.func95, Tryz.ntmps95
  go_wp2_with ((first | ((with_reducible refine gB rfl ?_); refine zC HS ?_) | ((with_reducible refine gA rfl ?_); refine zt HS ?_) | ((with_reducible refine gS rfl ?_); refine zr HS ?_) | (go_at_call 127; refine HS.go (yd.calls _ _ _ _ _ _ _ (Kd.C_below h5.out HS.below) l5 hq.out) ?_) | (go_at_call 128; refine HS.go0 (Zp hpl.out) ?_) | (go_at_call 38; refine HS.go0 (YE ht.out) ?_)); clear HS; (try clear hc); intros; rename_i HS; have hc := HS.lk; simp only [Lk, LkC, Value.cells, List.toList_toArray, Nat.reduceAdd, Nat.zero_add, and_true, zf, zg, ze, zh] at HS hc)
  go_ret
  exact ⟨rfl, HS.below⟩
theorem zbC {x : Fm} {r : Bool} {w : World} {cs : List Value} (h : zcB x r) (hx : FmC w x cs) : Calls Tryz.prog 97 #[.agg #[], .agg cs.toArray] w fun e w' => e = .returned (.bool r) ∧ Below w.heap.size w w' := by
 obtain ⟨v5, v6, v7, v8, v9, rfl, h5, h6, h7, h8, h9⟩ := hx
 obtain rfl := h
 have HS := Sat.nil w
 go_enter Tryz.func97, Tryz.ntmps97
 go_wp2_with ((first | ((with_reducible refine gB rfl ?_); refine zC HS ?_) | ((with_reducible refine gA rfl ?_); refine zt HS ?_) | ((with_reducible refine gS rfl ?_); refine zr HS ?_) | (go_at_call 128; refine HS.go0 (Zp rfl) ?_)); clear HS; (try clear hc); intros; rename_i HS; have hc := HS.lk; simp only [Lk, LkC, Value.cells, List.toList_toArray, Nat.reduceAdd, Nat.zero_add, and_true, zf, zg, ze, zh] at HS hc)
 go_ret
 exact ⟨rfl, HS.below⟩
theorem VW {x : Fm} {r : Bool} {w : World} {cs : List Value} (h : VB x r) (hx : FmC w x cs) : Calls Tryz.prog 99 #[.agg #[], .agg cs.toArray] w fun e w' => e = .returned (.bool r) ∧ Below w.heap.size w w' := by
 obtain ⟨v5, v6, v7, v8, v9, rfl, h5, h6, h7, h8, h9⟩ := hx
 obtain ⟨k, s, e, k', t, g, hq, hv, rfl⟩ := h
 obtain ⟨A8, c8, rfl, l8, h8⟩ := h8
 obtain ⟨A9, c9, rfl, l9, h9⟩ := h9
 have HS := Sat.nil w
 generalize hp : (e == 0) = p at *
 generalize hu : (g == 0) = u at *
 generalize hpl : inB x.f4 0 1099511627776 = q at *
 replace h8 := za.mk h8
 replace h9 := za.mk h9
 replace hq := za.mk hq
 replace hv := za.mk hv
 replace hpl := za.mk hpl
 have hp2 : (e != 0) = !p := by rw [← hp]; rfl
 have hu2 : (g != 0) = !u := by rw [← hu]; rfl
 cases q
 case' true => cases p
 all_goals
  go_enter Tryz.func99, Tryz.ntmps99
  go_wp2_with ((first | ((with_reducible refine gB rfl ?_); refine zC HS ?_) | ((with_reducible refine gA rfl ?_); refine zt HS ?_) | ((with_reducible refine gS rfl ?_); refine zr HS ?_) | (go_at_call 105; refine HS.go (y8.calls _ _ _ _ _ _ _ (Kd.C_below h8.out HS.below) l8 hq.out) ?_) | (go_at_call 106; refine HS.go (yz.calls _ _ _ _ _ _ _ (Kd.C_below h9.out HS.below) l9 hv.out) ?_) | (go_at_call 128; refine HS.go0 (Zp hpl.out) ?_)); clear HS; (try clear hc); intros; rename_i HS; have hc := HS.lk; simp only [Lk, LkC, Value.cells, List.toList_toArray, Nat.reduceAdd, Nat.zero_add, and_true, zf, zg, ze, zh] at HS hc)
  go_ret
  exact ⟨rfl, HS.below⟩
def xX.f (_k : Nat) (a0 a1 : Int) (a2 : ByteArray) (a3 : Int) (l4 : List Int) (a5 : Int) : Option Bool := some (qU a0 a1 a2 a3 l4 a5)
theorem xX.mono : ∀ a0 a1 a2 a3 l4 a5 k, LeO (xX.f k a0 a1 a2 a3 l4 a5) (xX.f (k + 1) a0 a1 a2 a3 l4 a5) := fun _ _ _ _ _ _ _ => LeO.refl _
theorem xX.calls (k : Nat) (a0 a1 : Int) (a2 : ByteArray) (a3 : Int) (A4 : Option Addr) (c4 : Nat) (l4 : List Int) (a5 : Int) (r : Bool) (w : World) (hr : Kd.C (Kd.int .i64) w A4 l4.length l4) (hl : l4.length ≤ c4) (h : xX.f k a0 a1 a2 a3 l4 a5 = some r) :
  Calls Tryz.prog 136 #[.agg #[.int .i64 a0, .int .i64 a1, .string a2, .int .i64 a3, .slice A4 l4.length c4, .int .i64 a5]] w fun e w' => e = .returned (.bool r) ∧ Below w.heap.size w w' := by
 obtain rfl := Option.some.inj h
 clear h
 have HS := Sat.nil w
 have HR := za.mk hr
 have HL := za.mk hl
 clear hr hl
 unfold qU
 generalize gp : Yl a0 a1 a2 = p
 replace gp := za.mk gp
 generalize gq : wiB a3 0 11 = q
 replace gq := za.mk gq
 generalize gu : vo l4 4 = u
 replace gu := za.mk gu
 generalize gv : wiB a5 (-1) 1099511627776 = v
 replace gv := za.mk gv
 cases p
 case' true => cases q
 case' true.true => cases u
 all_goals
  go_enter Tryz.func136, Tryz.ntmps136
  go_wp2_with ((first | ((with_reducible refine gB rfl ?_); refine zC HS ?_) | ((with_reducible refine gA rfl ?_); refine zt HS ?_) | ((with_reducible refine gS rfl ?_); refine zr HS ?_) | (go_at_call 169; refine HS.go (zds gp.out) ?_) | (go_at_call 170; refine HS.go (xk gq.out) ?_) | (go_at_call 171; refine HS.go (zbQ (Kd.C_below HR.out HS.below) HL.out gu.out) ?_) | (go_at_call 170; refine HS.go (xk gv.out) ?_)); clear HS; (try clear hc); intros; rename_i HS; have hc := HS.lk; simp only [Lk, LkC, Value.cells, List.toList_toArray, Nat.reduceAdd, Nat.zero_add, and_true, zf, zg, ze, zh] at HS hc)
  go_ret
  exact ⟨by first | rfl | simp, HS.below⟩
def yD.f (k : Nat) (a0 : Int) (a1 : Int) (a2 : ByteArray) (a3 : Int) (l4 : List Int) (a5 : Int) : Option (ByteArray × Int) := (zu.f k [] [a0, a1]).bind fun t1 => ((xM.f t1 a2).bind fun t2 => ((zu.f k t2 [a3]).bind fun t3 => ((yn.f t3 l4).bind fun t4 => ((xX.f k a0 a1 a2 a3 l4 a5).bind fun t5 => ((zu.f k t4 [a5]).bind fun t6 => ((yl.f t5 t6).bind fun b => (some (b.1, b.2))))))))
theorem yD.mono : ∀ a0 a1 a2 a3 a4 a5 k, LeO (yD.f k a0 a1 a2 a3 a4 a5) (yD.f (k + 1) a0 a1 a2 a3 a4 a5) := fun _ _ _ _ _ _ _ =>
 LeO.bind (zu.mono _ _ _) (fun _ => LeO.bind (LeO.refl _) (fun _ => LeO.bind (zu.mono _ _ _) (fun _ => LeO.bind (LeO.refl _) (fun _ => LeO.bind (xX.mono _ _ _ _ _ _ _) (fun _ => LeO.bind (zu.mono _ _ _) (fun _ => LeO.refl _))))))
theorem yD.calls (k : Nat) (a0 : Int) (a1 : Int) (a2 : ByteArray) (a3 : Int) (A4 : Option Addr) (c4 : Nat) (l4 : List Int) (a5 : Int) (r1 : ByteArray) (r2 : Int) (w : World) (hr : Kd.C (Kd.int .i64) w A4 l4.length l4) (hl : l4.length ≤ c4) (h : yD.f k a0 a1 a2 a3 l4 a5 = some (r1, r2)) :
  Calls Tryz.prog 102 #[.agg #[.int .i64 a0, .int .i64 a1, .string a2, .int .i64 a3, .slice A4 l4.length c4, .int .i64 a5]] w fun e w' => e = .returned (.tuple #[.string r1, .int .i64 r2]) ∧ Below w.heap.size w w' := by
 unfold yD.f at h
 simp only [zdJ] at h
 obtain ⟨t1, h1, t2, h2, t3, h3, t4, h4, t5, h5, t6, h6, ⟨b1, b2⟩, h7, h⟩ := h
 injection h with h
 injection h with e1 e2
 subst e1 e2
 replace h1 := za.mk h1
 replace h2 := za.mk h2
 replace h3 := za.mk h3
 replace h4 := za.mk h4
 replace h5 := za.mk h5
 replace h6 := za.mk h6
 replace h7 := za.mk h7
 replace hr := za.mk hr
 replace hl := za.mk hl
 have HS := (Sat.nil w).row (Ty.R (Kd.int .u8) 5 w.heap.size (.slice none 0 0) []) (Kd.R_nil _ _ _ _ _)
 go_enter Tryz.func102, Tryz.ntmps102
 go_wp2_with (first | ((first | ((with_reducible refine gB rfl ?_); refine zC HS ?_) | ((with_reducible refine gA rfl ?_); refine zt HS ?_) | ((with_reducible refine gS rfl ?_); refine zr HS ?_)); clear HS; (try clear hc); intros; rename_i HS; have hc := HS.lk; simp only [Lk, LkC, Value.cells, List.toList_toArray, Nat.reduceAdd, Nat.zero_add, and_true, zf, zg, ze, zh] at HS hc) | ((first | refine yt (.op 0 0 5 (.op 1 0 6 (.op 2 0 7 (.op 3 0 8 (.op 6 0 11 (.op 7 0 12 (.op 4 2 9 (.op 5 2 10 (.op 8 2 13 (.op 9 1 4 .nil)))))))))) [] HS (List.Sublist.refl _) ?_ | refine yt (.op 0 0 14 (.op 1 0 15 (.op 2 0 16 (.op 5 0 19 (.op 6 0 20 (.op 3 2 17 (.op 4 2 18 (.op 7 2 21 (.op 8 1 4 .nil))))))))) [] HS (List.Sublist.refl _) ?_ | refine yt (.op 0 0 22 (.op 2 0 24 (.op 3 0 25 (.op 4 0 26 (.two 1 23 5 27 (.op 5 2 27 (.op 6 2 28 (.op 7 2 29 (.op 8 1 30 (.op 9 1 31 (.op 10 1 2 (.op 11 1 3 .nil))))))) (.op 1 2 23 (.op 6 2 28 (.op 7 2 29 (.op 8 1 30 (.op 9 1 31 (.op 10 1 2 (.op 11 1 3 .nil)))))))))))) [] HS (List.Sublist.refl _) ?_); clear HS; (try clear hc); intro HS hS; (repeat' (first | refine RT.tk ?_ | refine RT.pu ?_ | refine RT.f2 ?_ ?_ | refine RT.o1 ?_ | (refine Qa (l := [a0, a1]) HS (List.Sublist.refl _) ?_ (by simp); clear HS; intro g_ w_ HS; refine RT.nm ?_) | (refine Qa (l := [a3]) HS (List.Sublist.refl _) ?_ (by simp); clear HS; intro g_ w_ HS; refine RT.nm ?_) | (refine Qa (l := [a5]) HS (List.Sublist.refl _) ?_ (by simp); clear HS; intro g_ w_ HS; refine RT.nm ?_) | (refine XT HS (List.Sublist.refl _) (zu.calls k _ _ _ _ _ _ _ _ _ HS.below HS.bytes (HS.made) (Nat.le_refl _) h1.out) ?_; clear HS; intro A c w_ HS; refine RT.nm ?_) | (refine XT HS (List.Sublist.refl _) (xM.calls _ _ _ _ _ _ _ HS.below HS.bytes h2.out) ?_; clear HS; intro A c w_ HS; refine RT.nm ?_) | (refine XT HS (List.Sublist.refl _) (zu.calls k _ _ _ _ _ _ _ _ _ HS.below HS.bytes (HS.made) (Nat.le_refl _) h3.out) ?_; clear HS; intro A c w_ HS; refine RT.nm ?_) | (refine XT HS (List.Sublist.refl _) (yn.calls _ _ _ _ _ _ _ _ _ HS.below HS.bytes (HS.came (Kd.heap_int .i64) hr.out) hl.out h4.out) ?_; clear HS; intro A c w_ HS; refine RT.nm ?_) | (refine Zm HS (List.Sublist.refl _) (xX.calls k _ _ _ _ _ _ _ _ _ _ (Kd.C_below hr.out HS.below) hl.out h5.out) ?_; clear HS; intro w_ HS; refine RT.nm ?_) | (refine XT HS (List.Sublist.refl _) (zu.calls k _ _ _ _ _ _ _ _ _ HS.below HS.bytes (HS.made) (Nat.le_refl _) h6.out) ?_; clear HS; intro A c w_ HS; refine RT.nm ?_) | (refine Zm HS (List.Sublist.refl _) (jI (yl.calls _ _ _ _ _ _ _ HS.now.2.2 HS.now.2.1 h7.out)) ?_; clear HS; intro w_ HS; refine RT.nm ?_))); (all_goals clear hS); (all_goals have hc := HS.lk); (all_goals simp only [Lk, LkC, Value.cells, List.toList_toArray, Nat.reduceAdd, Nat.zero_add, and_true, zf, zg, ze, zh] at HS hc); (all_goals refine RT.nil ?_)))
 all_goals
  go_ret2
  exact ⟨rfl, HS.below⟩
def qp : Option Int → Int → Bool
 | none, _ => true
 | some s, n => decide (s < n)
def Jn (cl : Int) : Option Int → List S52 → Bool → Prop
 | _, [], r => r = true
 | p, y :: l, r => ∃ k s e, yD.f k y.f0 y.f1 y.f2 y.f3 y.f4 y.f5 = some (s, e) ∧ ((((e == 0) && ((y.f0 == cl) && qp p y.f1)) = false ∧ r = false) ∨ (((e == 0) && ((y.f0 == cl) && qp p y.f1)) = true ∧ Jn cl (some y.f1) l r))
def zaM (x : Fm) (r : Bool) : Prop := ∃ b, Jn x.f1 none x.f6 b ∧ r = (b && inB (x.f6.length : Int) 1 8)
theorem zaV {x : Fm} {r : Bool} {w : World} {cs : List Value} (h : zaM x r) (hx : FmC w x cs) : Calls Tryz.prog 96 #[.agg #[], .agg cs.toArray] w fun e w' => e = .returned (.bool r) ∧ Below w.heap.size w w' := by
 obtain ⟨v5, v6, v7, v8, v9, rfl, h5, h6, h7, h8, h9⟩ := hx
 obtain ⟨g, hg, rfl⟩ := h
 obtain ⟨A, c, rfl, hl, hr⟩ := h6
 have HR := za.mk hr
 have HLEN := za.mk hr.2.1
 have HG := za.mk hg
 have HS := Sat.nil w
 clear hr hg hl h5 h7 h8 h9
 go_enter Tryz.func96, Tryz.ntmps96
 go_wp2_with ((first | ((with_reducible refine gB rfl ?_); refine zC HS ?_) | ((with_reducible refine gA rfl ?_); refine zt HS ?_) | ((with_reducible refine gS rfl ?_); refine zr HS ?_)); clear HS; (try clear hc); intros; rename_i HS; have hc := HS.lk; simp only [Lk, LkC, Value.cells, List.toList_toArray, Nat.reduceAdd, Nat.zero_add, and_true, zf, zg, ze, zh] at HS hc)
 rename_i gz _ gf _ _ _
 have HZ := za.mk HS
 clear HS hc
 go_loopg [12] x.f6.length (fun kq vi wr => ∃ i : Nat, vi = .int .i64 i ∧ za (i + kq = x.f6.length) ∧ za (Jn x.f1 (if i = 0 then none else some (xB x.f6 ((i - 1 : Nat) : Int)).f1) (x.f6.drop i) g) ∧ za (Sat [] w wr [(gf, [.int .i64 x.f0, .int .i64 x.f1, .int .i64 x.f2, .int .i64 x.f3, .int .i64 x.f4, v5, .slice A x.f6.length c, v7, v8, v9], 28), (gz, [], 92)] []))
 case atStart => exact ⟨0, rfl, ⟨by simp⟩, ⟨by rw [if_pos rfl, List.drop_zero]; exact HG.out⟩, HZ⟩
 case round =>
  clear HZ HG
  obtain ⟨i, rfl, HK, HO, HT⟩ := hrel
  have HS := HT.out
  clear HT
  have hc := HS.lk; simp only [Lk, LkC, Value.cells, List.toList_toArray, Nat.reduceAdd, Nat.zero_add, and_true, zf, zg, ze, zh] at HS hc
  have hil : i ≤ x.f6.length := by have := HK.out; omega
  by_cases hlt : i < x.f6.length
  ·obtain ⟨ad, A4, c4, e0, x0, x1, x2, x3, x4, x5, hll, hin⟩ := ZA HR.out (i : Int) (by omega) (by omega)
   subst e0
   have hd1 : xB x.f6 ((i : Nat) : Int) = x.f6[i] := by simp [xB, hlt]
   have ho := HO.out
   rw [List.drop_eq_getElem_cons hlt] at ho
   rw [Int.toNat_natCast] at x0 x1 x2 x3 x4 x5
   rw [hd1] at x0 x1 x2 x3 x4 x5 hll hin
   obtain ⟨y, hy⟩ : ∃ y, y = x.f6[i] := ⟨_, rfl⟩
   rw [← hy] at ho x0 x1 x2 x3 x4 x5 hll hin
   obtain ⟨k, s, e, hp, ho⟩ := ho
   have HP := za.mk hp
   have HI := za.mk hin
   have HL := za.mk hll
   replace x0 := HS.at_ x0
   replace x1 := HS.at_ x1
   replace x2 := HS.at_ x2
   replace x3 := HS.at_ x3
   replace x4 := HS.at_ x4
   replace x5 := HS.at_ x5
   have HN : za ((some y.f1) = (if i + 1 = 0 then none else some (xB x.f6 ((i + 1 - 1 : Nat) : Int)).f1)) := ⟨by rw [if_neg (by omega), show i + 1 - 1 = i from rfl, hd1, ← hy]⟩
   have b0 : (0 : Int) ≤ (i : Int) := by omega
   have b1 : (i : Int) < (x.f6.length : Int) := by omega
   clear hp hin hll HO hy hd1
   generalize hp1 : (e == 0) = p at ho
   have hp2 : (e != 0) = !p := by rw [← hp1]; rfl
   generalize hq1 : (y.f0 == x.f1) = q at ho
   have hq2 : (y.f0 != x.f1) = !q := by rw [← hq1]; rfl
   go_upto_region 5 with ((first | ((with_reducible refine gB rfl ?_); refine zC HS ?_) | ((with_reducible refine gA rfl ?_); refine zt HS ?_) | ((with_reducible refine gS rfl ?_); refine zr HS ?_) | (go_at_call 102; refine HS.go (yD.calls k y.f0 y.f1 y.f2 y.f3 A4 c4 y.f4 y.f5 _ _ _ (Kd.C_below HI.out HS.below) HL.out HP.out) ?_)); clear HS; (try clear hc); intros; rename_i HS; have hc := HS.lk; simp only [Lk, LkC, Value.cells, List.toList_toArray, Nat.reduceAdd, Nat.zero_add, and_true, zf, zg, ze, zh] at HS hc)
   clear x0 x1 x2 x3 x4 x5
   obtain ⟨gx, rfl⟩ := HS.hd
   by_cases hi0 : i = 0
   ·rw [if_pos hi0] at ho
    have ht1 : qp none y.f1 = true := rfl
    rw [ht1] at ho
    have j4 : ¬ (0 : Int) < (i : Int) := by omega
    have j5 : decide (0 < i) = false := decide_eq_false (by omega)
    have j6 : decide ((0 : Int) < (i : Int)) = false := decide_eq_false (by omega)
    clear hi0
    cases p
    case' true => cases q
    all_goals
     clear hc
     replace HS := HS.drewN 1
     refine qP (.op 0 0 22 (.op 1 0 23 (.op 2 0 24 (.op 3 0 25 (.op 4 0 26 (.op 5 0 27 (.op 6 0 28 (.op 7 0 29 (.op 8 0 30 (.op 9 0 31 (.op 10 0 32 (.op 11 0 33 (.op 12 0 34 (.op 13 0 35 (.op 14 0 36 (.op 15 0 37 (.op 16 0 38 (.op 17 0 39 (.op 18 0 40 (.op 19 0 41 (.op 20 0 42 (.op 21 0 43 (.op 22 0 44 (.op 23 0 45 (.op 24 0 46 .nil))))))))))))))))))))))))) [] (fun W => Lk W [(gx, [.int .i64 y.f0, .int .i64 y.f1, .string y.f2, .int .i64 y.f3, .slice A4 y.f4.length c4, .int .i64 y.f5], 52), (gf, [.int .i64 x.f0, .int .i64 x.f1, .int .i64 x.f2, .int .i64 x.f3, .int .i64 x.f4, v5, .slice (some ad) x.f6.length c, v7, v8, v9], 28)]) ((fun w' H => (H.off (.cons_cons _ (.cons_cons _ (.cons _ .slnil)))).lk) _ HS) (fun hS => ?_)
     (repeat (first | refine RT.tk ?_ | refine RT.tn ?_ | refine RT.pu ?_ | refine RT.pn ?_))
     refine RT.nil ?_
     clear hS
     go_wp2
     first
     | (go_ret; exact ⟨by rcases ho with ⟨_, h_⟩ | ⟨h_, _⟩ <;> first | (rw [h_]; rfl) | (simp at h_; done), HS.below⟩)
     | (go_roundg (x.f6.length - (i + 1)); (case measure => have := HK.out; omega); (case rel => exact ⟨i + 1, by have h_ : wrap64 ((i : Int) + 1) = ((i + 1 : Nat) : Int) := z9 (by omega) (by have := HLEN.out; omega); first | (rw [h_]) | (simp only [h_]) | rfl, ⟨by have := HK.out; omega⟩, ⟨by rw [← HN.out]; rcases ho with ⟨h_, _⟩ | ⟨_, h_⟩ <;> first | exact h_ | (simp at h_; done)⟩, ⟨HS.off (.cons _ (List.Sublist.refl _))⟩⟩))
   ·rw [if_neg hi0] at ho
    obtain ⟨j, hij⟩ : ∃ j, i = j + 1 := ⟨i - 1, by omega⟩
    obtain ⟨ad2, _, _, e2, -, px, -⟩ := ZA HR.out (j : Int) (by omega) (by omega)
    obtain rfl : ad = ad2 := by injection e2
    rw [Int.toNat_natCast] at px
    rw [show i - 1 = j by omega] at ho
    generalize (xB x.f6 (j : Int)).f1 = sp at ho px
    have j0 : (0 : Int) ≤ (j : Int) := by omega
    have j1 : (j : Int) < (x.f6.length : Int) := by omega
    have j2 : wrap64 ((i : Int) - 1) = (j : Int) := by have := HLEN.out; rw [xL (by omega) (by omega)]; omega
    have j3 := (z6 _).trans j2
    have j4 : (0 : Int) < (i : Int) := by omega
    have j5 : decide (0 < i) = true := decide_eq_true (by omega)
    have j6 : decide ((0 : Int) < (i : Int)) = true := decide_eq_true (by omega)
    generalize ht1 : qp (some sp) y.f1 = t at ho
    have ht2 : decide (y.f1 ≤ sp) = !t := by rw [← ht1, qp, Bool.eq_iff_iff]; simp
    clear e2 hi0 hij
    cases p
    case' true => cases q
    case' true.true => cases t
    all_goals
     clear hc
     replace HS := HS.drewN 1
     refine qP (.op 0 0 22 (.op 1 0 23 (.op 2 0 24 (.op 3 0 25 (.op 4 0 26 (.op 5 0 27 (.op 6 0 28 (.op 7 0 29 (.op 8 0 30 (.op 9 0 31 (.op 10 0 32 (.op 11 0 33 (.op 12 0 34 (.op 13 0 35 (.op 14 0 36 (.op 15 0 37 (.op 16 0 38 (.op 17 0 39 (.op 18 0 40 (.op 19 0 41 (.op 20 0 42 (.op 21 0 43 (.op 22 0 44 (.op 23 0 45 (.op 24 0 46 .nil))))))))))))))))))))))))) [] (fun W => Lk W [(gx, [.int .i64 y.f0, .int .i64 y.f1, .string y.f2, .int .i64 y.f3, .slice A4 y.f4.length c4, .int .i64 y.f5], 52), (gf, [.int .i64 x.f0, .int .i64 x.f1, .int .i64 x.f2, .int .i64 x.f3, .int .i64 x.f4, v5, .slice (some ad) x.f6.length c, v7, v8, v9], 28)] ∧ W.cell? ⟨(ad.add (j * 6)).block, (ad.add (j * 6)).off + 1, none⟩ = some (.int .i64 sp)) ((fun w' H => ⟨(H.off (.cons_cons _ (.cons_cons _ (.cons _ .slnil)))).lk, H.at_ px⟩) _ HS) (fun hS => ?_)
     (repeat (first | refine RT.tk ?_ | refine RT.tn ?_ | refine RT.pu ?_ | refine RT.pn ?_))
     refine RT.nil ?_
     clear hS px
     go_wp2
     first
     | (go_ret; exact ⟨by rcases ho with ⟨_, h_⟩ | ⟨h_, _⟩ <;> first | (rw [h_]; rfl) | (simp at h_; done), HS.below⟩)
     | (go_roundg (x.f6.length - (i + 1)); (case measure => have := HK.out; omega); (case rel => exact ⟨i + 1, by have h_ : wrap64 ((i : Int) + 1) = ((i + 1 : Nat) : Int) := z9 (by omega) (by have := HLEN.out; omega); first | (rw [h_]) | (simp only [h_]) | rfl, ⟨by have := HK.out; omega⟩, ⟨by rw [← HN.out]; rcases ho with ⟨h_, _⟩ | ⟨_, h_⟩ <;> first | exact h_ | (simp at h_; done)⟩, ⟨HS.off (.cons _ (List.Sublist.refl _))⟩⟩))
  ·obtain rfl : i = x.f6.length := by omega
   have ho := HO.out
   rw [List.drop_length] at ho
   obtain rfl : g = true := ho
   clear HO
   go_wp2_with ((first | (go_at_call 38; refine HS.go0 (YE rfl) ?_)); clear HS; (try clear hc); intros; rename_i HS; have hc := HS.lk; simp only [Lk, LkC, Value.cells, List.toList_toArray, Nat.reduceAdd, Nat.zero_add, and_true, zf, zg, ze, zh] at HS hc)
   go_ret
   exact ⟨rfl, HS.below⟩
attribute [local go_sem] jG jE vD vr ja je jK jJ
def yb.f (k : Nat) (l0 : List Int) (a1_0 : Int) (l1_1 : List Int) : Option (List Int) := (zu.f k l0 (([a1_0] : List Int))).bind fun t331 => ((yn.f t331 l1_1).bind fun t334 => (some t334))
theorem yb.mono : ∀ a0 a1 a2 k, LeO (yb.f k a0 a1 a2) (yb.f (k + 1) a0 a1 a2) := by
 intro a0 a1 a2 k
 unfold yb.f
 repeat' first
   | (with_reducible exact zu.mono _ _ _)
   | (with_reducible exact LeO.refl _)
   | (with_reducible exact LeO.none _)
   | (with_reducible refine LeO.ite ?_ ?_)
   | (with_reducible refine LeO.bind ?_ (fun _ => ?_))
   | exact zu.mono _ _ _
   | exact LeO.none _
   | refine LeO.ite ?_ ?_
   | refine LeO.bind ?_ (fun _ => ?_)
def yb.T1 : Bool × List (List Nat × List Nat) := (true, [([], []), ([], []), ([1], [1]), ([2], [2]), ([0, 3], [0, 3]), ([], []), ([5], [5]), ([4, 6, 4], [4, 6]), ([7, 7, 0, 1, 2, 3, 4, 5, 6, 7], [7])])
def yb.B1 : List Nat := [0, 0, 2, 6, 15, 0, 32, 127, 255]
theorem yb.tab1 : xT .any (zak Tryz.f139 1) = yb.T1 := by kernel_rfl
theorem yb.bits1 : vu yb.T1.2 yb.B1 = true := by kernel_rfl
theorem yb.calls (k : Nat) (P0_ : Nat → Prop) (u9000_ : Value) (l0 : List Int) (a1_0 : Int) (A1_1 : Option Addr) (c1_1 : Nat) (l1_1 : List Int) (r : List Int) (w0 w : World) (hB : Below w0.heap.size w0 w) (ho0 : Kd.R (Kd.int .u8) 5 w w0.heap.size P0_ u9000_ l0) (hr1_1 : ∀ W_, zi w W_ (fun k_ => P0_ k_) → Kd.C (Kd.int .i64) W_ A1_1 l1_1.length l1_1) (hc1_1 : l1_1.length ≤ c1_1) (h : yb.f k l0 a1_0 l1_1 = some r) :
  Calls Tryz.prog 139 #[u9000_, .agg #[.int .i64 a1_0, .slice A1_1 l1_1.length c1_1]] w fun e w' => ∃ v0_ : Value, e = .returned (v0_) ∧ Kd.R (Kd.int .u8) 5 w' w0.heap.size (fun k_ => (P0_ k_ ∨ w.heap.size ≤ k_)) v0_ r ∧ Below w0.heap.size w0 w' ∧ zi w w' (fun k_ => P0_ k_) := by
 have hu108 := Tryz.underlying108
 have HO0 := za.mk (show Kd.R (Kd.int .u8) 5 w w0.heap.size (fun k_ => (P0_ k_ ∨ w.heap.size ≤ k_)) u9000_ l0 from Kd.R_mono ho0 (fun k_ hk => (.inl hk)))
 have HR1_1 := za.mk hr1_1
 have HC1_1 := za.mk hc1_1
 clear hr1_1 hc1_1
 have HK := za.mk (zi.refl w (fun k_ => P0_ k_))
 have HW0 := za.mk hB.size
 have HB := za.mk hB
 clear hB
 have H : ((zu.f k l0 (([a1_0] : List Int))).bind fun t331 => ((yn.f t331 l1_1).bind fun t334 => (some t334))) = some r := h
 clear h
 obtain ⟨y328, hy328⟩ : ∃ y_ : List Int, y_ = (([a1_0] : List Int)) := ⟨_, rfl⟩
 replace H : ((zu.f k l0 y328).bind fun t331 => ((yn.f t331 l1_1).bind fun t334 => (some t334))) = some r := by first | (rw [hy328]; with_reducible exact H) | (have H2_ := (Option.bind_some _ _).symm.trans H; rw [hy328]; with_reducible exact H2_) | (have H2_ := (Option.bind_some _ _).symm.trans H; with_reducible exact H2_) | with_reducible exact H | (rw [hy328]; exact H) | exact H
 have Ny328 := za.mk hy328
 clear hy328
 replace H := zdJ.mp H
 obtain ⟨t331, A30, H⟩ := H
 replace H : ((yn.f t331 l1_1).bind fun t334 => (some t334)) = some r := H
 have A3 := za.mk A30
 clear A30
 replace H := zdJ.mp H
 obtain ⟨t334, A40, H⟩ := H
 replace H : (some t334) = some r := H
 have A4 := za.mk A40
 clear A40
 obtain rfl := Option.some.inj H
 go_enter Tryz.func139, Tryz.ntmps139
 try go_wp2_with (first | ((with_reducible refine zJ (N := 3) rfl ?_); refine yg ?hg (N := 3) ?hd (cs := #[.int .i64 a1_0, .slice A1_1 l1_1.length c1_1]) (t := 108) ?hr ?_; (case hd => rfl); (case hg => rfl); (case hr => first | (go_simp; done) | (go_simp; rfl)); intro gb327 hg w5 hbox hb; have n0_ := za.mk (Kd.R_below (by (with_reducible repeat (first | apply Kd.R_alloc | apply Kd.R_drewN | apply Kd.R_drew)); exact HO0.out) hb); have n1_ := za.mk (zi.below (S := (fun k_ => P0_ k_)) (by repeat (first | (with_reducible first | exact HK.out | apply zi.alloc | apply zi.drewN | apply zi.drew) | exact HK.out)) hb); have n2_ := za.mk (zp (by repeat (first | (with_reducible first | exact HB.out | apply zc | apply zb | apply zd) | exact HB.out)) hb); have n3_ := za.mk (hbox); have n4_ := za.mk ((by rw [hg]; exact (by first | exact HK.out.1 | exact (show zi w _ (fun k_ => P0_ k_) from by repeat (first | (with_reducible first | exact HK.out | apply zi.alloc | apply zi.drewN | apply zi.drew) | exact HK.out)).1) : w.heap.size ≤ gb327)); have n5_ := za.mk ((by rw [hg]; exact (zG (by repeat (first | (with_reducible first | exact HB.out | apply zc | apply zb | apply zd) | exact HB.out))) : w0.heap.size ≤ gb327)); clear HO0; clear HK; clear HB; have HO0 := n0_; have HK := n1_; have HB := n2_; have BK327 := n3_; have GW327 := n4_; have GE327 := n5_; clear n0_ n1_ n2_ n3_ n4_ n5_; clear hb hbox hg))
 have n0_ := za.mk (Kd.R_drew HO0.out)
 have n1_ := za.mk (zM BK327.out)
 have n2_ := za.mk (zi.drew HK.out)
 have n3_ := za.mk (zd HB.out)
 clear HO0
 clear BK327
 clear HK
 clear HB
 have HO0 := n0_
 have BK327 := n1_
 have HK := n2_
 have HB := n3_
 clear n0_ n1_ n2_ n3_
 refine Xa (n := 9) (S := fun w' => w'.cell? ⟨gb327, 0, none⟩ = some (.int .i64 a1_0) ∧ w'.cell? ⟨gb327, 1, none⟩ = some (.slice A1_1 l1_1.length c1_1)) (ds := []) #[Y,Y,Y,Y,Y,Y,Y,Y,Y] (by kernel_rfl) rfl rfl ⟨(zk BK327.out 0).trans rfl, (zk BK327.out 1).trans rfl⟩ (fun hHeld => ?_); refine ZJ yb.tab1 yb.bits1 (fun HT_ HW_ => ?_)
 generalize w5.drew = w6 at HO0 BK327 HK HB hHeld ⊢
 refine yR (i := 0) (N := some 5) (v := ?_) (a' := ?_) #[O,Y,Y,Y,Y,Y,Y,Y,Y] rfl rfl (yC HT_.out (by kernel_rfl)) (fun _ _ _ h => h) (Or.inl ⟨by rfl, ?_⟩) ?_ ?_
 rotate_left
 ·intro w'
  go_simp
  with_reducible rfl
 rotate_left
 ·simp only [Act.put, zdF, zdG, zdH, z6, ya]
  rfl
 refine yR (i := 1) (N := some 6) (v := ?_) (a' := ?_) #[O,O,Y,Y,Y,Y,Y,Y,Y] rfl rfl (yC HT_.out (by kernel_rfl)) (fun _ _ _ h => h) (Or.inl ⟨by rfl, ?_⟩) ?_ ?_
 rotate_left
 ·intro w'
  go_simp
  with_reducible rfl
 rotate_left
 ·simp only [Act.put, zdF, zdG, zdH, z6, ya]
  rfl
 refine yR (i := 5) (N := some 10) (v := ?_) (a' := ?_) #[O,O,Y,Y,Y,O,Y,Y,Y] rfl rfl (yC HT_.out (by kernel_rfl)) (fun _ _ _ h => h) (Or.inl ⟨by rfl, ?_⟩) ?_ ?_
 rotate_left
 ·intro w'
  go_simp
  with_reducible rfl
 rotate_left
 ·simp only [Act.put, zdF, zdG, zdH, z6, ya]
  rfl
 refine take_ (i := 2) (N := some 7) (v := ?_) (a' := ?_) #[O,O,O,Y,Y,O,Y,Y,Y] rfl rfl (vk HT_.out HW_.out (by kernel_rfl)) (fun _ _ _ h => h) (Or.inl ⟨by rfl, ?_⟩) hHeld ?_ ?_
 rotate_left
 ·rintro w' ⟨s0, s1⟩
  go_simp
  with_reducible rfl
 rotate_left
 ·simp only [Act.put, zdF, zdG, zdH, z6, ya]
  rfl
 refine take_ (i := 6) (N := some 11) (v := ?_) (a' := ?_) #[O,O,O,Y,Y,O,O,Y,Y] rfl rfl (vk HT_.out HW_.out (by kernel_rfl)) (fun _ _ _ h => h) (Or.inl ⟨by rfl, ?_⟩) hHeld ?_ ?_
 rotate_left
 ·rintro w' ⟨s0, s1⟩
  go_simp
  with_reducible rfl
 rotate_left
 ·simp only [Act.put, zdF, zdG, zdH, z6, ya]
  rfl
 refine jC (i := 3) (N := some 8) #[O,O,O,O,Y,O,O,Y,Y] rfl rfl (jc HT_.out (by kernel_rfl)) (by decide) (fun K hK => ?_)
 refine Kd.R_lit_step (Kd.int .i64) _ 3 ?hg (N := 8) ?hd (xs := ([a1_0] : List Int)) (inner := [.int .i64 a1_0]) (ok := fun _ => True) (okp := fun _ => True) ?hr ?hp (fun _ hk => hk) trivial (Below.refl _ _) (Nat.le_refl _) (by simp) ?_; (case hd => rfl); (case hg => rfl); (case hr => first | (go_simp; done) | (go_simp; rfl)); (case hp => exact (zS.one (show Kd.M (Kd.int .i64) _ _ _ a1_0 [.int .i64 a1_0] from rfl) (zS.none _ _)))
 intro v329 w7 ho8 hb hg_ hnew_
 clear hg_ hnew_
 (first | rw [← Ny328.out] at ho8 | (simp only [Int.reduceToNat] at ho8; rw [← Ny328.out] at ho8))
 have n0_ := za.mk (Kd.R_below (by (with_reducible repeat (first | apply Kd.R_alloc | apply Kd.R_drewN | apply Kd.R_drew)); exact HO0.out) hb)
 have n1_ := za.mk (Kd.R_lower (Kd.R_newM (M := fun k_ => (P0_ k_ ∨ w.heap.size ≤ k_)) ho8 (by first | exact HK.out.1 | exact (show zi w _ (fun k_ => P0_ k_) from by repeat (first | (with_reducible first | exact HK.out | apply zi.alloc | apply zi.drewN | apply zi.drew | refine zi.setCell ?_ (.inr GW327.out) _) | exact HK.out)).1) (fun k_ h_ => .inr h_)) (zG (by repeat (first | (with_reducible first | exact HB.out | apply zc | apply zb | apply zd | refine zq ?_ GE327.out) | exact HB.out))))
 have n2_ := za.mk (zP (g := gb327) (o := .cells #[.int .i64 a1_0, .slice A1_1 l1_1.length c1_1] 108 (0, 0)) (by (with_reducible repeat (first | refine zH ?_ _ | refine zM ?_ | refine zI ?_ _)); exact BK327.out) hb)
 have n3_ := za.mk (zi.below (S := (fun k_ => P0_ k_)) (by repeat (first | (with_reducible first | exact HK.out | apply zi.alloc | apply zi.drewN | apply zi.drew | refine zi.setCell ?_ (.inr GW327.out) _) | exact HK.out)) hb)
 have n4_ := za.mk (zp (by repeat (first | (with_reducible first | exact HB.out | apply zc | apply zb | apply zd | refine zq ?_ GE327.out) | exact HB.out)) hb)
 clear HO0
 clear BK327
 clear HK
 clear HB
 have HO0 := n0_
 have HO330 := n1_
 have BK327 := n2_
 have HK := n3_
 have HB := n4_
 clear n0_ n1_ n2_ n3_ n4_
 clear hb ho8
 obtain ⟨Ao9, co9, eo9⟩ := Kd.R_slice HO0.out
 (first | subst eo9 | (injection eo9 with f1_ f2_ f3_; have f4_ := f1_.symm; have f5_ := f3_.symm; clear f1_ f2_ f3_; subst f4_; subst f5_))
 obtain ⟨Ao10, co10, eo10⟩ := Kd.R_slice HO330.out
 (first | subst eo10 | (injection eo10 with f1_ f2_ f3_; have f4_ := f1_.symm; have f5_ := f3_.symm; clear f1_ f2_ f3_; subst f4_; subst f5_))
 refine hK.out _ _ ⟨(zk BK327.out 0).trans rfl, (zk BK327.out 1).trans rfl⟩ (fun hHeld => ?_)
 clear hK K
 refine qz (a' := ?_) ?_ ?_
 rotate_left
 ·show Act.put _ (some 8) _ = _
  simp only [Act.put, zdF, zdG, zdH, z6, ya]
  rfl
 refine jC (i := 4) (N := some 9) #[O,O,O,O,O,O,O,Y,Y] rfl rfl (jc HT_.out (by kernel_rfl)) (by decide) (fun K hK => ?_)
 refine vL Tryz.func134 (by kernel_rfl) rfl #[.slice Ao9 l0.length co9, .slice Ao10 y328.length co10] (by rfl) rfl rfl (by (try simp only [zdI, List.map_cons, List.map_nil]); first | done | rfl | (simp only [List.length_drop, List.length_take]; rfl)) ?_
 with_reducible refine (zu.calls k (fun k_ => some k_ = (.slice Ao9 l0.length co9 : Value).ownBlock) (.slice Ao9 l0.length co9) l0 _ _ y328 t331 w0 _ ?side1 ?side2 ?side3 ?side4 A3.out).mono ?_
 (case side1 => repeat (first | (with_reducible first | exact HB.out | apply zc | apply zb | apply zd | refine zq ?_ GE327.out) | exact HB.out))
 (case side2 => exact Kd.R_tight rfl HO0.out)
 (case side3 => exact Kd.C_kept_own ((Kd.R_apart' HO330.out (Kd.R_typed HO0.out) (by decide))) (fun k_ hk_ hs_ => (hk_.2) hs_))
 (case side4 => exact (Kd.R_reads' HO330.out).2.1)
 rintro e w11 ⟨v332, rfl, ho0, hb, hkp⟩
 refine ⟨_, rfl, ?_⟩
 have n0_ := za.mk (jb (by (with_reducible repeat (first | refine zH ?_ _ | refine zM ?_ | refine zI ?_ _)); exact BK327.out) hkp (fun hs_ => (fun e_ => (Kd.R_ne HO0.out BK327.out (by decide)) e_) hs_))
 have n1_ := za.mk (Kd.R_mono (ok' := fun k_ => (P0_ k_ ∨ w.heap.size ≤ k_)) (Kd.R_keptB ((Kd.R_apart' HO330.out (Kd.R_typed HO0.out) (by decide))) hkp (fun k_ hk_ hs_ => (hk_.2) hs_)) (fun k_ hk_ => hk_.1.1.1))
 have n2_ := za.mk (Kd.R_mono (ok' := fun k_ => (P0_ k_ ∨ w.heap.size ≤ k_)) ho0 (fun k_ hk_ => Or.elim hk_ (fun hs_ => (HO0.out.1 k_ (hs_).symm)) (fun hn_ => (.inr (Nat.le_trans (by first | exact HK.out.1 | exact (show zi w _ (fun k_ => P0_ k_) from by repeat (first | (with_reducible first | exact HK.out | apply zi.alloc | apply zi.drewN | apply zi.drew | refine zi.setCell ?_ (.inr GW327.out) _) | exact HK.out)).1) hn_)))))
 have n3_ := za.mk (zi.then_ (S := (fun k_ => P0_ k_)) (by repeat (first | (with_reducible first | exact HK.out | apply zi.alloc | apply zi.drewN | apply zi.drew | refine zi.setCell ?_ (.inr GW327.out) _) | exact HK.out)) hkp (fun k_ hs_ => (fun e_ => (HO0.out.1 k_ e_.symm)) hs_))
 have n4_ := za.mk (hb)
 clear BK327
 clear HO330
 clear HK
 clear HB
 clear HO0
 have BK327 := n0_
 have HO330 := n1_
 have HO333 := n2_
 have HK := n3_
 have HB := n4_
 clear n0_ n1_ n2_ n3_ n4_
 (try clear hb)
 (try clear hkp)
 (try clear ho0)
 obtain ⟨Ao12, co12, eo12⟩ := Kd.R_slice HO333.out
 (first | subst eo12 | (injection eo12 with f1_ f2_ f3_; have f4_ := f1_.symm; have f5_ := f3_.symm; clear f1_ f2_ f3_; subst f4_; subst f5_))
 refine hK.out _ _ ⟨(zk BK327.out 0).trans rfl, (zk BK327.out 1).trans rfl⟩ (fun hHeld => ?_)
 clear hK K
 refine qz (a' := ?_) ?_ ?_
 rotate_left
 ·show Act.put _ (some 9) _ = _
  simp only [Act.put, zdF, zdG, zdH, z6, ya]
  rfl
 refine jC (i := 7) (N := some 12) #[O,O,O,O,O,O,O,O,Y] rfl rfl (jc HT_.out (by kernel_rfl)) (by decide) (fun K hK => ?_)
 refine vL Tryz.func135 (by kernel_rfl) rfl #[.slice Ao12 t331.length co12, .slice A1_1 l1_1.length c1_1] (by rfl) rfl rfl (by (try simp only [zdI, List.map_cons, List.map_nil]); first | done | rfl | (simp only [List.length_drop, List.length_take]; rfl)) ?_
 with_reducible refine (yn.calls (fun k_ => some k_ = (.slice Ao12 t331.length co12 : Value).ownBlock) (.slice Ao12 t331.length co12) t331 _ _ l1_1 t334 w0 _ ?side1 ?side2 ?side3 ?side4 A4.out).mono ?_
 (case side1 => repeat (first | (with_reducible first | exact HB.out | apply zc | apply zb | apply zd | refine zq ?_ GE327.out) | exact HB.out))
 (case side2 => exact Kd.R_tight rfl HO333.out)
 (case side3 => exact Kd.C_kept_call HR1_1.out (by repeat (first | (with_reducible first | exact HK.out | apply zi.alloc | apply zi.drewN | apply zi.drew | refine zi.setCell ?_ (.inr GW327.out) _) | exact HK.out)) (fun k_ hs_ => (fun e_ => (HO333.out.1 k_ e_.symm)) hs_))
 (case side4 => exact HC1_1.out)
 rintro e w13 ⟨v335, rfl, ho0, hb, hkp⟩
 refine ⟨_, rfl, ?_⟩
 have n0_ := za.mk (jb (by (with_reducible repeat (first | refine zH ?_ _ | refine zM ?_ | refine zI ?_ _)); exact BK327.out) hkp (fun hs_ => (fun e_ => (Kd.R_ne HO333.out BK327.out (by decide)) e_) hs_))
 have n1_ := za.mk (Kd.R_mono (ok' := fun k_ => (P0_ k_ ∨ w.heap.size ≤ k_)) (Kd.R_keptB ((Kd.R_apart' HO330.out (Kd.R_typed HO333.out) (by decide))) hkp (fun k_ hk_ hs_ => (hk_.2) hs_)) (fun k_ hk_ => hk_.1.1))
 have n2_ := za.mk (Kd.R_mono (ok' := fun k_ => (P0_ k_ ∨ w.heap.size ≤ k_)) ho0 (fun k_ hk_ => Or.elim hk_ (fun hs_ => (HO333.out.1 k_ (hs_).symm)) (fun hn_ => (.inr (Nat.le_trans (by first | exact HK.out.1 | exact (show zi w _ (fun k_ => P0_ k_) from by repeat (first | (with_reducible first | exact HK.out | apply zi.alloc | apply zi.drewN | apply zi.drew | refine zi.setCell ?_ (.inr GW327.out) _) | exact HK.out)).1) hn_)))))
 have n3_ := za.mk (zi.then_ (S := (fun k_ => P0_ k_)) (by repeat (first | (with_reducible first | exact HK.out | apply zi.alloc | apply zi.drewN | apply zi.drew | refine zi.setCell ?_ (.inr GW327.out) _) | exact HK.out)) hkp (fun k_ hs_ => (fun e_ => (HO333.out.1 k_ e_.symm)) hs_))
 have n4_ := za.mk (hb)
 clear BK327
 clear HO330
 clear HK
 clear HB
 clear HO333
 have BK327 := n0_
 have HO330 := n1_
 have HO336 := n2_
 have HK := n3_
 have HB := n4_
 clear n0_ n1_ n2_ n3_ n4_
 (try clear hb)
 (try clear hkp)
 (try clear ho0)
 refine hK.out _ _ ⟨(zk BK327.out 0).trans rfl, (zk BK327.out 1).trans rfl⟩ (fun hHeld => ?_)
 clear hK K
 refine qz (a' := ?_) ?_ ?_
 rotate_left
 ·show Act.put _ (some 12) _ = _
  simp only [Act.put, zdF, zdG, zdH, z6, ya]
  rfl
 refine yR (i := 8) (N := some 4) (v := ?_) (a' := ?_) #[O,O,O,O,O,O,O,O,O] rfl rfl (yC HT_.out (by kernel_rfl)) (fun _ _ _ h => h) (Or.inl ⟨by rfl, ?_⟩) ?_ ?_
 rotate_left
 ·intro w'
  go_simp
  with_reducible rfl
 rotate_left
 ·simp only [Act.put, zdF, zdG, zdH, z6, ya]
  rfl
 refine Xo (Xg HT_.out (by kernel_rfl)) ?_
 try go_wp2
 go_ret
 exact ⟨_, by first | rfl | (simp [zn, zo] <;> rfl) | (simp [*, zn, zo] <;> rfl), by (with_reducible repeat (first | apply Kd.R_alloc | apply Kd.R_drewN | apply Kd.R_drew)); exact HO336.out, by repeat (first | (with_reducible first | exact HB.out | apply zc | apply zb | apply zd | refine zq ?_ GE327.out) | exact HB.out), by repeat (first | (with_reducible first | exact HK.out | apply zi.alloc | apply zi.drewN | apply zi.drew | refine zi.setCell ?_ (.inr GW327.out) _) | exact HK.out)⟩
def zL.f (k : Nat) (l0 : List Int) (l1 : List S108) : Option (List Int) := (zu.f k l0 (([(l1.length : Int)] : List Int))).bind fun t => xF (fun acc x => yb.f k acc x.f0 x.f1) l1 t
theorem zL.mono : ∀ a0 a1 k, LeO (zL.f k a0 a1) (zL.f (k + 1) a0 a1) := by
 intro a0 a1 k
 unfold zL.f
 exact LeO.bind (zu.mono _ _ _) (fun t => zah (fun acc x => yb.mono _ _ _ _) _ _)
theorem zL.calls (k : Nat) (P0_ : Nat → Prop) (u9000_ : Value) (l0 : List Int) (A1 : Option Addr) (c1 : Nat) (l1 : List (S108)) (r : List Int) (w0 w : World) (hB : Below w0.heap.size w0 w) (ho0 : Kd.R (Kd.int .u8) 5 w w0.heap.size P0_ u9000_ l0) (hr1 : ∀ W_, zi w W_ (fun k_ => P0_ k_) → Kd.C k108 W_ A1 l1.length l1) (hc1 : l1.length ≤ c1) (h : zL.f k l0 l1 = some r) :
  Calls Tryz.prog 138 #[u9000_, .slice A1 l1.length c1, .func (Fn.func 139) #[] #[]] w fun e w' => ∃ v0_ : Value, e = .returned (v0_) ∧ Kd.R (Kd.int .u8) 5 w' w0.heap.size (fun k_ => (P0_ k_ ∨ w.heap.size ≤ k_)) v0_ r ∧ Below w0.heap.size w0 w' ∧ zi w w' (fun k_ => P0_ k_) := by
 have HLEN := za.mk (hr1 w (zi.refl _ _)).2.1
 have HBLK : za (0 < l1.length → ∃ ad, A1 = some ad ∧ ad.block < w.heap.size ∧ ¬ P0_ ad.block) := ⟨fun hn => Qp hr1 hn (by decide)⟩
 have HO0 := za.mk (show Kd.R (Kd.int .u8) 5 w w0.heap.size (fun k_ => (P0_ k_ ∨ w.heap.size ≤ k_)) u9000_ l0 from Kd.R_mono ho0 (fun k_ hk => (.inl hk)))
 have HR1 := za.mk hr1
 have HC1 := za.mk hc1
 clear hr1 hc1 ho0
 have HK := za.mk (zi.refl w (fun k_ => P0_ k_))
 have HB := za.mk hB
 clear hB
 unfold zL.f at h
 rw [zdJ] at h
 obtain ⟨t0, ht0, h⟩ := h
 have A4 := za.mk ht0
 have H' := za.mk h
 clear ht0 h
 obtain ⟨y391, hy391⟩ : ∃ y_ : List Int, y_ = (([(l1.length : Int)] : List Int)) := ⟨_, rfl⟩
 have Ny391 := za.mk hy391
 have A4 := za.mk (show zu.f k l0 y391 = some t0 by rw [hy391]; exact A4.out)
 clear hy391
 go_enter Tryz.func138, Tryz.ntmps138
 go_wp2_with (first | ((with_reducible refine zJ (N := 12) rfl ?_); refine Kd.R_lit (Kd.int .i64) _ 3 ?hg (N := 12) ?hd (xs := ([(l1.length : Int)] : List Int)) (inner := [.int .i64 (l1.length : Int)]) (ok := fun _ => True) (okp := fun _ => True) ?hr ?hp (fun _ hk => hk) trivial (Below.refl _ _) (Nat.le_refl _) (by simp) ?_; (case hd => rfl); (case hg => rfl); (case hr => first | (go_simp; done) | (go_simp; rfl)); (case hp => exact (zS.one (show Kd.M (Kd.int .i64) _ _ _ (l1.length : Int) [.int .i64 (l1.length : Int)] from rfl) (zS.none _ _))); intro v392 w5 ho6 hb hg_ hnew_; clear hg_ hnew_; (first | rw [← Ny391.out] at ho6 | (simp only [Int.reduceToNat] at ho6; rw [← Ny391.out] at ho6)); have n0_ := za.mk (Kd.R_below HO0.out hb); have n1_ := za.mk (Kd.R_lower (Kd.R_newM (M := (fun k_ => (P0_ k_ ∨ w.heap.size ≤ k_))) ho6 HK.out.1 (fun k_ h_ => .inr h_)) HB.out.size); have n2_ := za.mk (zi.below (S := (fun k_ => P0_ k_)) (by repeat (first | (with_reducible first | exact HK.out | apply zi.alloc | apply zi.drewN | apply zi.drew) | exact HK.out)) hb); have n3_ := za.mk (zp (by repeat (first | (with_reducible first | exact HB.out | apply zc | apply zb | apply zd) | exact HB.out)) hb); clear HO0; clear HK; clear HB; have HO0 := n0_; have HO393 := n1_; have HK := n2_; have HB := n3_; clear n0_ n1_ n2_ n3_; clear hb ho6; obtain ⟨Ao7, co7, eo7⟩ := Kd.R_slice HO0.out; subst eo7; obtain ⟨Ao8, co8, eo8⟩ := Kd.R_slice HO393.out; subst eo8) | ((with_reducible refine zy (f := 134) rfl ?_); refine zU (some 13) rfl rfl Tryz.func134 (by kernel_rfl) rfl #[.slice Ao7 l0.length co7, .slice Ao8 y391.length co8] rfl (by (try simp only [zdI, List.map_cons, List.map_nil]); first | done | rfl) ?_; (with_reducible refine (zu.calls k (fun k_ => some k_ = (.slice Ao7 l0.length co7 : Value).ownBlock) (.slice Ao7 l0.length co7) l0 _ _ y391 t0 w0 _ ?side1 ?side2 ?side3 ?side4 A4.out).mono ?_); (case side1 => exact HB.out); (case side2 => exact Kd.R_tight rfl HO0.out); (case side3 => exact Kd.C_kept_own ((Kd.R_apart' HO393.out (Kd.R_typed HO0.out) (by decide))) (fun k_ hk_ hs_ => (hk_.2) hs_)); (case side4 => exact (Kd.R_reads' HO393.out).2.1); rintro e w9 ⟨v395, rfl, ho0, hb, hkp⟩; refine ⟨_, rfl, ?_⟩; have n1_ := za.mk (Kd.R_mono (ok' := (fun k_ => (P0_ k_ ∨ w.heap.size ≤ k_))) ho0 (fun k_ hk_ => Or.elim hk_ (fun hs_ => (HO0.out.1 k_ (hs_).symm)) (fun hn_ => (.inr (Nat.le_trans HK.out.1 hn_))))); have n2_ := za.mk (zi.then_ (S := (fun k_ => P0_ k_)) HK.out hkp (fun k_ hs_ => (fun e_ => (HO0.out.1 k_ e_.symm)) hs_)); have n3_ := za.mk (hb); clear HO393; clear HK; clear HB; clear HO0; have HO396 := n1_; have HK := n2_; have HB := n3_; clear n1_ n2_ n3_; (try clear hb); (try clear hkp); (try clear ho0)))
 go_loopg [0, 16] l1.length (fun kq v0 v16 w' => ∃ (xs : List Int) (i : Nat), v16 = .int .i64 i ∧ za (i + kq = l1.length) ∧ za (xF (fun acc x => yb.f k acc x.f0 x.f1) (l1.drop i) xs = some r) ∧ za (Kd.R (Kd.int .u8) 5 w' w0.heap.size (fun k_ => (P0_ k_ ∨ w.heap.size ≤ k_)) v0 xs) ∧ za (zi w w' (fun k_ => P0_ k_)) ∧ za (Below w0.heap.size w0 w'))
 case atStart => exact ⟨t0, 0, rfl, ⟨by simp⟩, ⟨by rw [List.drop_zero]; exact H'.out⟩, HO396, HK, HB⟩
 case round =>
  clear H'
  obtain ⟨xs, i, rfl, HI, HA, HO_0, HK, HB⟩ := hrel
  by_cases hlt : i < l1.length
  ·have ho := HA.out
   rw [List.drop_eq_getElem_cons hlt, xF, zdJ] at ho
   obtain ⟨t1, ht1, ho⟩ := ho
   have A13 := za.mk ht1
   have H2 := za.mk ho
   clear ht1 ho HA
   have hq : (i : Int).toNat = i := Int.toNat_natCast i
   have hrd : yw l1 (i : Int) = l1[i] := by simp [yw, hlt]
   obtain ⟨ad, Ai, ci, ea, hx0, hx1, hl, hC⟩ := jO (HR1.out _ HK.out) (i : Int) (by omega) (by omega)
   rw [hrd, hq] at hx0 hx1
   rw [hrd] at hl
   obtain ⟨ad2, ea2, hblt, hnp⟩ := HBLK.out (by omega)
   cases ea.symm.trans ea2
   have HIN : za (∀ (g_ : Nat → Prop) (W_ : World), (∀ k_, g_ k_ → (P0_ k_ ∨ w.heap.size ≤ k_)) → zi wr W_ g_ → Kd.C (Kd.int .i64) W_ Ai l1[i].f1.length l1[i].f1) := ⟨fun g_ W_ hg hk => by
    obtain ⟨ad', Ai', ci', ea', hx0', hx1', hl', hC'⟩ := jO (HR1.out W_ (HK.out.then_ hk (fun k_ h_ => hg k_ h_))) (i : Int) (by omega) (by omega)
    rw [hrd, hq] at hx0' hx1'
    cases ea.symm.trans ea'
    have hne : ¬ g_ ad.block := fun h_ => Or.elim (hg _ h_) hnp (fun h2 => by omega)
    have hq2 := Q7 hx1 hk (by first | exact hne | (rw [jM]; exact hne) | (show ¬ g_ (Addr.add _ _).block; rw [jM]; exact hne))
    rw [hx1'] at hq2
    injection hq2 with hq2
    injection hq2 with hq2 _ _
    subst hq2
    rw [hrd] at hC'
    exact hC'⟩
   have HL := za.mk hl
   clear hl hC HBLK
   cases ea
   clear ea2
   obtain ⟨x, hx⟩ : ∃ x, x = l1[i] := ⟨_, rfl⟩
   rw [← hx] at A13 HL HIN hx0 hx1
   clear hx hrd hq
   go_wp2_with (first | ((with_reducible refine zJ (N := 8) rfl ?_); refine yg ?hg (N := 8) ?hd (cs := #[.int .i64 0, .slice none 0 0]) (t := 108) ?hr ?_; (case hd => rfl); (case hg => rfl); (case hr => first | (go_simp; done) | (go_simp; rfl)); intro gb hg w14 hbox hb; have n0_ := za.mk (Kd.R_below HO_0.out hb); have n1_ := za.mk (zi.below (S := (fun k_ => P0_ k_)) HK.out hb); have n2_ := za.mk (zp HB.out hb); have n3_ := za.mk hbox; have n4_ := za.mk (by rw [hg]; exact HK.out.1 : w.heap.size ≤ gb); have n5_ := za.mk (by rw [hg]; exact HB.out.size : w0.heap.size ≤ gb); have n6_ := za.mk (fun (g_ : Nat → Prop) (W_ : World) (hg_ : ∀ k_, g_ k_ → (P0_ k_ ∨ w.heap.size ≤ k_)) (hk_ : zi w14 W_ g_) => HIN.out g_ W_ hg_ ((zi.of_below hb g_).then_ hk_ (fun _ h_ => .inl h_))); clear HO_0; clear HK; clear HB; clear HIN; have HO_0 := n0_; have HK := n1_; have HB := n2_; have BK := n3_; have GW := n4_; have GE := n5_; have HIN := n6_; clear n0_ n1_ n2_ n3_ n4_ n5_ n6_; clear hb hbox hg; have hcz_0 : w14.cell? ⟨gb, 0, none⟩ = some (.int .i64 0) := (zk BK.out 0).trans rfl; have hfz_0 := zl BK.out 0; have hcz_1 : w14.cell? ⟨gb, 1, none⟩ = some (.slice none 0 0) := (zk BK.out 1).trans rfl; have hfz_1 := zl BK.out 1) | ((with_reducible refine jV (t := 108) (p := 8) rfl ?_); refine jv (t := 108) (p := 8) (v := ?vo_w16) (w1 := ((w14.setCell ⟨gb, 0, none⟩ (.int .i64 x.f0)).setCell ⟨gb, 1, none⟩ (.slice Ai x.f1.length ci))) ?hg ?ho ?hn ?hr ?_; (case ho => rfl); (case hg => rfl); (case hn => rfl); (case hr => first | (go_simp; done) | (go_simp; rfl)); intro w16 hw; have n0_ : za (Kd.R (Kd.int .u8) 5 w16 w0.heap.size (fun k_ => (P0_ k_ ∨ w.heap.size ≤ k_)) u0 xs) := ⟨(by rw [hw]; exact (Kd.R_mono (Kd.R_far (p := ⟨gb, 1, none⟩) (Kd.R_far (p := ⟨gb, 0, none⟩) (Kd.R_types HO_0.out BK.out (by decide)) (fun _ hk => hk.2) (.int .i64 x.f0)) (fun _ hk => hk.2) (.slice Ai x.f1.length ci)) (fun _ hk => hk.1)))⟩; have n1_ : za (w16.heap[gb]? = some (.cells #[.int .i64 x.f0, .slice Ai x.f1.length ci] 108 (0, 0))) := ⟨(by rw [hw]; exact (yH (cs' := #[.int .i64 x.f0, .slice Ai x.f1.length ci]) (yH (cs' := #[.int .i64 x.f0, .slice none 0 0]) (BK.out) 0 _ rfl) 1 _ rfl))⟩; have n2_ : za (zi w w16 (fun k_ => P0_ k_)) := ⟨(by rw [hw]; exact (zi.setCell (p := ⟨gb, 1, none⟩) (zi.setCell (p := ⟨gb, 0, none⟩) (HK.out) (.inr GW.out) _) (.inr GW.out) _))⟩; have n3_ : za (Below w0.heap.size w0 w16) := ⟨(by rw [hw]; exact (zq (g := gb) (j := 1) (zq (g := gb) (j := 0) (HB.out) GE.out) GE.out))⟩; have n4_ : za (zi w14 w16 (fun k_ => k_ = gb)) := ⟨(by rw [hw]; exact (zi.setCell (p := ⟨gb, 1, none⟩) (zi.setCell (p := ⟨gb, 0, none⟩) (zi.refl w14 (fun k_ => k_ = gb)) (.inl rfl) _) (.inl rfl) _))⟩; have n5_ := za.mk (fun (g_ : Nat → Prop) (W_ : World) (hg_ : ∀ k_, g_ k_ → (P0_ k_ ∨ w.heap.size ≤ k_)) (hk_ : zi w16 W_ g_) => HIN.out (fun k_ => k_ = gb ∨ g_ k_) W_ (fun k_ h_ => h_.elim (fun e_ => .inr (by rw [e_]; exact GW.out)) (hg_ k_)) ((n4_.out.mono (fun _ h_ => .inl h_)).then_ hk_ (fun _ h_ => .inl (.inr h_)))); clear hw; clear HO_0; clear BK; clear HK; clear HB; clear HIN; have HO_0 := n0_; have BK := n1_; have HK := n2_; have HB := n3_; have HIN := n5_; clear n0_ n1_ n2_ n3_ n4_ n5_; clear hcz_0 hfz_0; clear hcz_1 hfz_1; have hcz_0 : w16.cell? ⟨gb, 0, none⟩ = some (.int .i64 x.f0) := (zk BK.out 0).trans rfl; have hfz_0 := zl BK.out 0; have hcz_1 : w16.cell? ⟨gb, 1, none⟩ = some (.slice Ai x.f1.length ci) := (zk BK.out 1).trans rfl; have hfz_1 := zl BK.out 1; obtain ⟨Ao18, co18, eo18⟩ := Kd.R_slice HO_0.out; subst eo18) | ((with_reducible refine zJ (N := 23) rfl ?_); refine jT (some 23) rfl rfl Tryz.func139 (by kernel_rfl) rfl #[.slice Ao18 xs.length co18, .agg #[.int .i64 x.f0, .slice Ai x.f1.length ci]] rfl (by (try simp only [zdI, List.map_cons, List.map_nil]); first | done | rfl) ?_; (with_reducible refine (yb.calls k (fun k_ => some k_ = (.slice Ao18 xs.length co18 : Value).ownBlock) (.slice Ao18 xs.length co18) xs x.f0 Ai ci x.f1 t1 w0 _ ?side1 ?side2 ?side3 HL.out A13.out).mono ?_); (case side1 => exact HB.out); (case side2 => exact Kd.R_tight rfl HO_0.out); (case side3 => exact fun W_ hk_ => HIN.out _ W_ (fun k_ e_ => HO_0.out.1 k_ e_.symm) hk_); rintro e w19 ⟨v400, rfl, ho0, hb, hkp⟩; refine ⟨_, rfl, ?_⟩; have n1_ := za.mk (Kd.R_mono (ok' := (fun k_ => (P0_ k_ ∨ w.heap.size ≤ k_))) ho0 (fun k_ hk_ => Or.elim hk_ (fun hs_ => (HO_0.out.1 k_ (hs_).symm)) (fun hn_ => (.inr (Nat.le_trans HK.out.1 hn_))))); have n2_ := za.mk (zi.then_ (S := (fun k_ => P0_ k_)) HK.out hkp (fun k_ hs_ => (fun e_ => (HO_0.out.1 k_ e_.symm)) hs_)); have n3_ := za.mk (hb); clear BK; clear HK; clear HB; clear HO_0; have HO401 := n1_; have HK := n2_; have HB := n3_; clear n1_ n2_ n3_; (try clear hb); (try clear hkp); (try clear ho0)))
   go_roundg (l1.length - (i + 1))
   case measure => have := HI.out; omega
   case rel => exact ⟨t1, i + 1, (by have h_ : wrap64 ((i : Int) + 1) = ((i + 1 : Nat) : Int) := z9 (by omega) (by have := HLEN.out; omega); first | (rw [h_]) | (simp only [h_])), ⟨by omega⟩, H2, HO401, HK, HB⟩
  ·obtain rfl : i = l1.length := by have := HI.out; omega
   have ho := HA.out
   rw [List.drop_length, xF] at ho
   obtain rfl := Option.some.inj ho
   go_wp2
   go_ret
   exact ⟨_, rfl, HO_0.out, HB.out, HK.out⟩
def zR.l0 : Nat → List (S108) → List (S108) → Int → Int → Option (Bool)
 | 0, _, _, _, _ => none
 | k + 1, x0, x5, x6, x7 => if x7 < x6 then (if 0 ≤ x7 then (if x7 < (x5.length : Int) then ((yq.f k ((yw x5 x7).f0) ((yw x5 x7).f1)).bind fun t326 => (if t326 = true then (zR.l0 k x0 x5 x6 (wrap64 (x7 + 1))) else (some false))) else (none)) else (none)) else (some (decide ((x0.length : Int) ≤ 3)))
def zR.f (k : Nat) (l0 : List (S108)) : Option (Bool) := zR.l0 k l0 l0 (l0.length : Int) 0
theorem zR.mono_l : ∀ k, (∀ y0 y1 y2 y3, LeO (zR.l0 k y0 y1 y2 y3) (zR.l0 (k + 1) y0 y1 y2 y3))
 | 0 => fun _ _ _ _ r h => by simp [zR.l0] at h
 | k + 1 => by
  have ih0 := zR.mono_l k
  ·intro y0 y1 y2 y3
   unfold zR.l0
   repeat' first
   | (with_reducible exact ih0 _ _ _ _)
   | (with_reducible exact yq.mono _ _ _)
   | (with_reducible exact LeO.refl _)
   | (with_reducible exact LeO.none _)
   | (with_reducible refine LeO.ite ?_ ?_)
   | (with_reducible refine LeO.bind ?_ (fun _ => ?_))
   | exact ih0 _ _ _ _
   | exact yq.mono _ _ _
   | exact LeO.none _
   | refine LeO.ite ?_ ?_
   | refine LeO.bind ?_ (fun _ => ?_)
theorem zR.mono : ∀ a0 k, LeO (zR.f k a0) (zR.f (k + 1) a0) := by
 intro a0 k
 have ih0 := zR.mono_l k
 unfold zR.f
 repeat' first
   | (with_reducible exact ih0 _ _ _ _)
   | (with_reducible exact yq.mono _ _ _)
   | (with_reducible exact LeO.refl _)
   | (with_reducible exact LeO.none _)
   | (with_reducible refine LeO.ite ?_ ?_)
   | (with_reducible refine LeO.bind ?_ (fun _ => ?_))
   | exact ih0 _ _ _ _
   | exact yq.mono _ _ _
   | exact LeO.none _
   | refine LeO.ite ?_ ?_
   | refine LeO.bind ?_ (fun _ => ?_)
theorem zR.calls (k : Nat) (A0 : Option Addr) (c0 : Nat) (l0 : List (S108)) (r : Bool) (w : World) (hr0 : Kd.C k108 w A0 l0.length l0) (hc0 : l0.length ≤ c0) (h : zR.f k l0 = some r) :
  Calls Tryz.prog 137 #[.slice A0 l0.length c0] w fun e w' => e = .returned (.bool r) ∧ Below w.heap.size w w' := by
 have hu108 := Tryz.underlying108
 have HR0 := za.mk hr0
 have HC0 := za.mk hc0
 clear hr0 hc0
 have HB := za.mk (Below.refl w.heap.size w)
 have H : (zR.l0 k l0 l0 (l0.length : Int) 0) = some r := h
 clear h
 have H' := za.mk H
 clear H
 go_enter Tryz.func137, Tryz.ntmps137
 go_wp2
 go_loopg [7] k (fun kq v7 w' => ∃ (x7_1 : Int), v7 = .int .i64 x7_1 ∧ za (zR.l0 kq l0 l0 (l0.length : Int) x7_1 = some r) ∧ za (kq ≤ k) ∧ za (Below w.heap.size w w'))
 case atStart => exact ⟨(0), (by first | rfl | (simp; done) | (simp [*]; done)), H', ⟨Nat.le_refl _⟩, ⟨by repeat (first | (with_reducible first | exact HB.out | apply zc | apply zb | apply zd) | exact HB.out)⟩⟩
 case round =>
  clear H'
  try clear c1
  obtain ⟨x7_1, rfl, HA, HK1, HB⟩ := hrel
  cases gk with
  | zero => exact absurd HA.out (by simp [zR.l0])
  | succ k1 =>
   have H := HA.out
   clear HA
   simp only [zR.l0] at H
   by_cases c2 : x7_1 < (l0.length : Int)
   ·rw [if_pos c2] at H
    have c2b0 : decide (x7_1 < (l0.length : Int)) = true := decide_eq_true c2
    clear c2
    by_cases c3 : 0 ≤ x7_1
    ·rw [if_pos c3] at H
     have c3b0 : decide (0 ≤ x7_1) = true := decide_eq_true c3
     clear c3
     by_cases c4 : x7_1 < (l0.length : Int)
     ·rw [if_pos c4] at H
      have c4b0 : decide (x7_1 < (l0.length : Int)) = true := decide_eq_true c4
      clear c4
      replace H := zdJ.mp H
      obtain ⟨t326, A50, H⟩ := H
      replace H : (if t326 = true then (zR.l0 k1 l0 l0 (l0.length : Int) (wrap64 (x7_1 + 1))) else (some false)) = some r := H
      have A5 := za.mk A50
      clear A50
      by_cases c6 : t326 = true
      ·subst c6
       have H1 : (zR.l0 k1 l0 l0 (l0.length : Int) (wrap64 (x7_1 + 1))) = some r := by rw [if_pos rfl] at H; exact H
       clear H
       have H := H1
       clear H1
       have H' := za.mk H
       clear H
       have p324 : 0 ≤ (x7_1 : Int) := of_decide_eq_true (by first | (with_reducible assumption) | assumption)
       have q324 : x7_1 < (l0.length : Int) := of_decide_eq_true (by first | (with_reducible assumption) | assumption)
       obtain ⟨ad324, A324_1, c324_1, e324, hx324_0, hx324_1, hl324_1, hi324_1⟩ := jO HR0.out x7_1 p324 q324
       cases e324
       replace hx324_0 := (HB.out.cell (zdK w _ hx324_0)).trans hx324_0
       replace hx324_1 := (HB.out.cell (zdK w _ hx324_1)).trans hx324_1
       have HR324_1 := za.mk hi324_1
       have HC324_1 := za.mk hl324_1
       clear hi324_1 hl324_1
       replace p324 := eq_true p324
       replace q324 := eq_true q324
       go_wp2_with (first | ((with_reducible refine zJ (N := 4) rfl ?_); refine yg ?hg (N := 4) ?hd (cs := #[.int .i64 0, .slice none 0 0]) (t := 108) ?hr ?_; (case hd => rfl); (case hg => rfl); (case hr => first | (go_simp; done) | (go_simp; rfl)); intro gb325 hg w7 hbox hb; have n0_ := za.mk (zp (by repeat (first | (with_reducible first | exact HB.out | apply zc | apply zb | apply zd) | exact HB.out)) hb); have n1_ := za.mk (hbox); have n2_ := za.mk ((by rw [hg]; exact (zG (by repeat (first | (with_reducible first | exact HB.out | apply zc | apply zb | apply zd) | exact HB.out))) : w.heap.size ≤ gb325)); have n3_ := za.mk ((by rw [hg]; exact (zG (by repeat (first | (with_reducible first | exact HB.out | apply zc | apply zb | apply zd) | exact HB.out))) : w.heap.size ≤ gb325)); clear HB; have HB := n0_; have BK325 := n1_; have GW325 := n2_; have GE325 := n3_; clear n0_ n1_ n2_ n3_; clear hb hbox hg; have hcz8_0 : w7.cell? ⟨gb325, 0, none⟩ = some (.int .i64 0) := (zk BK325.out 0).trans rfl; have hcz8_1 : w7.cell? ⟨gb325, 1, none⟩ = some (.slice none 0 0) := (zk BK325.out 1).trans rfl; have hfz8_0 := zl BK325.out 0; have hfz8_1 := zl BK325.out 1) | ((with_reducible refine zy (f := 172) rfl ?_); refine zU (some 12) rfl rfl Tryz.func172 (by kernel_rfl) rfl #[.agg #[.int .i64 ((yw l0 x7_1).f0), .slice A324_1 ((yw l0 x7_1).f1).length c324_1]] rfl (by (try simp only [zdI, List.map_cons, List.map_nil]); first | done | rfl | (simp only [List.length_drop, List.length_take]; rfl)) ?_; (with_reducible refine (yq.calls k1 ((yw l0 x7_1).f0) _ _ ((yw l0 x7_1).f1) true _ ?side1 ?side2 A5.out).mono ?_); (case side1 => exact Kd.C_below HR324_1.out (by repeat (first | (with_reducible first | exact HB.out | apply zc | apply zb | apply zd | refine zq ?_ GE325.out) | exact HB.out))); (case side2 => exact HC324_1.out); rintro e w9 ⟨rfl, hb⟩; refine ⟨_, rfl, ?_⟩; have n0_ := za.mk (zP (g := gb325) (o := .cells #[.int .i64 ((yw l0 x7_1).f0), .slice A324_1 ((yw l0 x7_1).f1).length c324_1] 108 (0, 0)) (by (with_reducible repeat (first | refine zH ?_ _ | refine zM ?_ | refine zI ?_ _)); refine yH (cs := #[.int .i64 ((yw l0 x7_1).f0), .slice none 0 0]) ?_ 1 _ rfl; (with_reducible repeat (first | refine zH ?_ _ | refine zM ?_ | refine zI ?_ _)); refine yH (cs := #[.int .i64 0, .slice none 0 0]) ?_ 0 _ rfl; (with_reducible repeat (first | refine zH ?_ _ | refine zM ?_ | refine zI ?_ _)); exact BK325.out) hb); have n1_ := za.mk (zp (by repeat (first | (with_reducible first | exact HB.out | apply zc | apply zb | apply zd | refine zq ?_ GE325.out) | exact HB.out)) hb); clear BK325; clear HB; have BK325 := n0_; have HB := n1_; clear n0_ n1_; (try clear hb); (try clear hb2); (try clear hk); (try clear hi)))
       go_roundg k1
       case measure => have := HK1.out; omega
       case rel => exact ⟨(wrap64 (x7_1 + 1)), (by first | rfl | (simp; done) | (simp [*]; done)), H', ⟨by have := HK1.out; omega⟩, ⟨by repeat (first | (with_reducible first | exact HB.out | apply zc | apply zb | apply zd | refine zq ?_ GE325.out) | exact HB.out)⟩⟩
      ·replace c6 := zdL.mpr c6
       subst c6
       have H1 : (some false) = some r := by rw [if_neg (show ¬ (false = true) by decide)] at H; exact H
       clear H
       have H := H1
       clear H1
       obtain rfl := Option.some.inj H
       have p324 : 0 ≤ (x7_1 : Int) := of_decide_eq_true (by first | (with_reducible assumption) | assumption)
       have q324 : x7_1 < (l0.length : Int) := of_decide_eq_true (by first | (with_reducible assumption) | assumption)
       obtain ⟨ad324, A324_1, c324_1, e324, hx324_0, hx324_1, hl324_1, hi324_1⟩ := jO HR0.out x7_1 p324 q324
       cases e324
       replace hx324_0 := (HB.out.cell (zdK w _ hx324_0)).trans hx324_0
       replace hx324_1 := (HB.out.cell (zdK w _ hx324_1)).trans hx324_1
       have HR324_1 := za.mk hi324_1
       have HC324_1 := za.mk hl324_1
       clear hi324_1 hl324_1
       replace p324 := eq_true p324
       replace q324 := eq_true q324
       go_wp2_with (first | ((with_reducible refine zJ (N := 4) rfl ?_); refine yg ?hg (N := 4) ?hd (cs := #[.int .i64 0, .slice none 0 0]) (t := 108) ?hr ?_; (case hd => rfl); (case hg => rfl); (case hr => first | (go_simp; done) | (go_simp; rfl)); intro gb325 hg w10 hbox hb; have n0_ := za.mk (zp (by repeat (first | (with_reducible first | exact HB.out | apply zc | apply zb | apply zd) | exact HB.out)) hb); have n1_ := za.mk (hbox); have n2_ := za.mk ((by rw [hg]; exact (zG (by repeat (first | (with_reducible first | exact HB.out | apply zc | apply zb | apply zd) | exact HB.out))) : w.heap.size ≤ gb325)); have n3_ := za.mk ((by rw [hg]; exact (zG (by repeat (first | (with_reducible first | exact HB.out | apply zc | apply zb | apply zd) | exact HB.out))) : w.heap.size ≤ gb325)); clear HB; have HB := n0_; have BK325 := n1_; have GW325 := n2_; have GE325 := n3_; clear n0_ n1_ n2_ n3_; clear hb hbox hg; have hcz11_0 : w10.cell? ⟨gb325, 0, none⟩ = some (.int .i64 0) := (zk BK325.out 0).trans rfl; have hcz11_1 : w10.cell? ⟨gb325, 1, none⟩ = some (.slice none 0 0) := (zk BK325.out 1).trans rfl; have hfz11_0 := zl BK325.out 0; have hfz11_1 := zl BK325.out 1) | ((with_reducible refine zy (f := 172) rfl ?_); refine zU (some 12) rfl rfl Tryz.func172 (by kernel_rfl) rfl #[.agg #[.int .i64 ((yw l0 x7_1).f0), .slice A324_1 ((yw l0 x7_1).f1).length c324_1]] rfl (by (try simp only [zdI, List.map_cons, List.map_nil]); first | done | rfl | (simp only [List.length_drop, List.length_take]; rfl)) ?_; (with_reducible refine (yq.calls k1 ((yw l0 x7_1).f0) _ _ ((yw l0 x7_1).f1) false _ ?side1 ?side2 A5.out).mono ?_); (case side1 => exact Kd.C_below HR324_1.out (by repeat (first | (with_reducible first | exact HB.out | apply zc | apply zb | apply zd | refine zq ?_ GE325.out) | exact HB.out))); (case side2 => exact HC324_1.out); rintro e w12 ⟨rfl, hb⟩; refine ⟨_, rfl, ?_⟩; have n0_ := za.mk (zP (g := gb325) (o := .cells #[.int .i64 ((yw l0 x7_1).f0), .slice A324_1 ((yw l0 x7_1).f1).length c324_1] 108 (0, 0)) (by (with_reducible repeat (first | refine zH ?_ _ | refine zM ?_ | refine zI ?_ _)); refine yH (cs := #[.int .i64 ((yw l0 x7_1).f0), .slice none 0 0]) ?_ 1 _ rfl; (with_reducible repeat (first | refine zH ?_ _ | refine zM ?_ | refine zI ?_ _)); refine yH (cs := #[.int .i64 0, .slice none 0 0]) ?_ 0 _ rfl; (with_reducible repeat (first | refine zH ?_ _ | refine zM ?_ | refine zI ?_ _)); exact BK325.out) hb); have n1_ := za.mk (zp (by repeat (first | (with_reducible first | exact HB.out | apply zc | apply zb | apply zd | refine zq ?_ GE325.out) | exact HB.out)) hb); clear BK325; clear HB; have BK325 := n0_; have HB := n1_; clear n0_ n1_; (try clear hb); (try clear hb2); (try clear hk); (try clear hi)))
       go_ret
       exact ⟨by first | rfl | (simp [zn, zo] <;> rfl) | (simp [*, zn, zo] <;> rfl), by repeat (first | (with_reducible first | exact HB.out | apply zc | apply zb | apply zd | refine zq ?_ GE325.out) | exact HB.out)⟩
     ·rw [if_neg c4] at H
      exact absurd H (by simp)
    ·rw [if_neg c3] at H
     exact absurd H (by simp)
   ·rw [if_neg c2] at H
    have c2b0 : decide (x7_1 < (l0.length : Int)) = false := decide_eq_false c2
    clear c2
    obtain rfl := Option.some.inj H
    go_wp2
    go_ret
    exact ⟨by first | rfl | (simp [zn, zo] <;> rfl) | (simp [*, zn, zo] <;> rfl), by repeat (first | (with_reducible first | exact HB.out | apply zc | apply zb | apply zd) | exact HB.out)⟩
def yr.f (k : Nat) (l0 : List (S108)) : Option (ByteArray × Int) := (zR.f k l0).bind fun t337 => ((zL.f k ([] : List Int) l0).bind fun t338 => ((yl.f t337 t338).bind fun bt341 => (some (bt341.1, bt341.2))))
theorem yr.mono : ∀ a0 k, LeO (yr.f k a0) (yr.f (k + 1) a0) := by
 intro a0 k
 unfold yr.f
 repeat' first
   | (with_reducible exact zL.mono _ _ _)
   | (with_reducible exact zR.mono _ _)
   | (with_reducible exact LeO.refl _)
   | (with_reducible exact LeO.none _)
   | (with_reducible refine LeO.ite ?_ ?_)
   | (with_reducible refine LeO.bind ?_ (fun _ => ?_))
   | exact zL.mono _ _ _
   | exact zR.mono _ _
   | exact LeO.none _
   | refine LeO.ite ?_ ?_
   | refine LeO.bind ?_ (fun _ => ?_)
theorem yr.calls (k : Nat) (A0 : Option Addr) (c0 : Nat) (l0 : List (S108)) (r1 : ByteArray) (r2 : Int) (w : World) (hr0 : Kd.C k108 w A0 l0.length l0) (hc0 : l0.length ≤ c0) (h : yr.f k l0 = some (r1, r2)) :
  Calls Tryz.prog 104 #[.slice A0 l0.length c0] w fun e w' => e = .returned (.tuple #[.string r1, .int .i64 r2]) ∧ Below w.heap.size w w' := by
 have HR0 := za.mk hr0
 have HC0 := za.mk hc0
 clear hr0 hc0
 have HB := za.mk (Below.refl w.heap.size w)
 have H : ((zR.f k l0).bind fun t337 => ((zL.f k ([] : List Int) l0).bind fun t338 => ((yl.f t337 t338).bind fun bt341 => (some (bt341.1, bt341.2))))) = some (r1, r2) := h
 clear h
 replace H := zdJ.mp H
 obtain ⟨t337, A20, H⟩ := H
 replace H : ((zL.f k ([] : List Int) l0).bind fun t338 => ((yl.f t337 t338).bind fun bt341 => (some (bt341.1, bt341.2)))) = some (r1, r2) := H
 have A2 := za.mk A20
 clear A20
 replace H := zdJ.mp H
 obtain ⟨t338, A30, H⟩ := H
 replace H : ((yl.f t337 t338).bind fun bt341 => (some (bt341.1, bt341.2))) = some (r1, r2) := H
 have A3 := za.mk A30
 clear A30
 replace H := zdJ.mp H
 obtain ⟨⟨t341, t342⟩, A40, H⟩ := H
 replace H : (some (t341, t342)) = some (r1, r2) := H
 have A4 := za.mk A40
 clear A40
 simp only [Option.some.injEq, Prod.mk.injEq] at H
 obtain ⟨rfl, rfl⟩ := H
 go_enter Tryz.func104, Tryz.ntmps104
 go_wp2_with (first | ((with_reducible refine zy (f := 137) rfl ?_); refine zU (some 5) rfl rfl Tryz.func137 (by kernel_rfl) rfl #[.slice A0 l0.length c0] rfl (by (try simp only [zdI, List.map_cons, List.map_nil]); first | done | rfl | (simp only [List.length_drop, List.length_take]; rfl)) ?_; (with_reducible refine (zR.calls k _ _ l0 t337 _ ?side1 ?side2 A2.out).mono ?_); (case side1 => repeat (first | exact HR0.out | (with_reducible refine Kd.C_alloc ?_ _) | (with_reducible refine Kd.C_drewN ?_ _) | (with_reducible refine Kd.C_drew ?_))); (case side2 => exact HC0.out); rintro e w5 ⟨rfl, hb⟩; refine ⟨_, rfl, ?_⟩; have n0_ := za.mk (zp (by repeat (first | (with_reducible first | exact HB.out | apply zc | apply zb | apply zd) | exact HB.out)) hb); clear HB; have HB := n0_; clear n0_; (try clear hb); (try clear hb2); (try clear hk); (try clear hi)) | ((with_reducible refine zy (f := 138) rfl ?_); refine zU (some 7) rfl rfl Tryz.func138 (by kernel_rfl) rfl #[.slice none 0 0, .slice A0 l0.length c0, .func (Fn.func 139) #[] #[]] rfl (by (try simp only [zdI, List.map_cons, List.map_nil]); first | done | rfl | (simp only [List.length_drop, List.length_take]; rfl)) ?_; (refine (zL.calls k (fun k_ => some k_ = (.slice none 0 0 : Value).ownBlock) (.slice none 0 0) ([] : List Int) _ _ l0 t338 w _ ?side1 ?side2 ?side3 ?side4 A3.out).mono ?_); (case side1 => repeat (first | (with_reducible first | exact HB.out | apply zc | apply zb | apply zd) | exact HB.out)); (case side2 => exact Kd.R_nil _ _ _ _ _); (case side3 => exact Kd.C_kept_came zbo HR0.out (by repeat (first | (with_reducible first | exact HB.out | apply zc | apply zb | apply zd) | exact HB.out)) (fun k_ hs_ => (fun e_ => by simp [Value.ownBlock] at e_) hs_)); (case side4 => exact HC0.out); rintro e w6 ⟨v339, rfl, ho0, hb, hkp⟩; refine ⟨_, rfl, ?_⟩; have n0_ := za.mk (Kd.R_mono (ok' := fun k_ => True) ho0 (fun k_ hk_ => trivial)); have n1_ := za.mk (hb); clear HB; have HO340 := n0_; have HB := n1_; clear n0_ n1_; (try clear hb); (try clear hkp); (try clear ho0); obtain ⟨Ao7, co7, eo7⟩ := Kd.R_slice HO340.out; subst eo7) | ((with_reducible refine zy (f := 132) rfl ?_); refine zU (some 8) rfl rfl Tryz.func132 (by kernel_rfl) rfl #[.bool t337, .slice Ao7 t338.length co7] rfl (by (try simp only [zdI, List.map_cons, List.map_nil]); first | done | rfl | (simp only [List.length_drop, List.length_take]; rfl)) ?_; (with_reducible refine (yl.calls t337 _ _ t338 t341 t342 _ ?side1 ?side2 A4.out).mono ?_); (case side1 => repeat (first | exact (Kd.R_reads' HO340.out).2.2 | (with_reducible refine Kd.C_alloc ?_ _) | (with_reducible refine Kd.C_drewN ?_ _) | (with_reducible refine Kd.C_drew ?_))); (case side2 => exact (Kd.R_reads' HO340.out).2.1); rintro e w' ⟨rfl, ⟨nd, rfl⟩⟩; refine ⟨_, rfl, ?_⟩))
 go_ret2
 exact ⟨by first | rfl | (simp [zn, zo] <;> rfl) | (simp [*, zn, zo] <;> rfl), by repeat (first | (with_reducible first | exact HB.out | apply zc | apply zb | apply zd) | exact HB.out)⟩
def entV (e : Int) (s : ByteArray) (n : Nat) (q c : Int) : Bool := (e == 0) && ((decide (0 < n) == qH s) && ((decide (0 < n) || s.toList == ([] : List UInt8)) && (inB q 0 1099511627776 && (inB c 0 63 && (((c == 0) || (!decide (0 < n) && decide (0 < q))) && (decide (0 < n) || decide (0 < q)))))))
def xO.f (k : Nat) (_a0 : Int) (a1 : ByteArray) (l2 : List S108) (a3 a4 : Int) : Option Bool := (yr.f k l2).bind fun t => some (entV t.2 a1 l2.length a3 a4)
theorem xO.calls (k : Nat) (a0 : Int) (a1 : ByteArray) (A2 : Option Addr) (c2 : Nat) (l2 : List S108) (a3 a4 : Int) (r : Bool) (w : World) (hr : Kd.C k108 w A2 l2.length l2) (hl : l2.length ≤ c2) (h : xO.f k a0 a1 l2 a3 a4 = some r) :
  Calls Tryz.prog 129 #[.agg #[.int .i64 a0, .string a1, .slice A2 l2.length c2, .int .i64 a3, .int .i64 a4]] w fun e w' => e = .returned (.bool r) ∧ Below w.heap.size w w' := by
 unfold xO.f at h
 rw [zdJ] at h
 obtain ⟨⟨y, e⟩, hp, h⟩ := h
 obtain rfl := Option.some.inj h
 clear h
 have HS := Sat.nil w
 have HP := za.mk hp
 have HR := za.mk hr
 have HL := za.mk hl
 clear hp hr hl
 unfold entV
 generalize gp : (e == 0) = p
 have gp2 : (e != 0) = !p := by rw [← gp]; rfl
 generalize gz : (a1.toList == ([] : List UInt8)) = z
 have gz2 : (a1.toList != ([] : List UInt8)) = !z := by rw [← gz]; rfl
 generalize gm : (a4 == 0) = m
 generalize gq : (decide (0 < a3)) = q
 generalize gn : (decide (0 < l2.length)) = n
 generalize gt : (qH a1) = t
 generalize gu : (inB a3 0 1099511627776) = u
 generalize gv : (inB a4 0 63) = v
 have gn2 : decide ((0 : Int) < (l2.length : Int)) = n := by rw [← gn]; exact decide_eq_decide.mpr (by omega)
 replace gt := za.mk gt
 replace gu := za.mk gu
 replace gv := za.mk gv
 cases p
 case' true => cases n
 case' true.true => cases t
 case' true.true.true => cases u
 case' true.true.true.true => cases v
 case' true.true.true.true.true => cases m
 case' true.false => cases t
 case' true.false.false => cases z
 case' true.false.false.true => cases u
 case' true.false.false.true.true => cases v
 case' true.false.false.true.true.true => cases m <;> cases q
 all_goals
  go_enter Tryz.func129, Tryz.ntmps129
  go_wp2_with ((first | ((with_reducible refine gB rfl ?_); refine zC HS ?_) | ((with_reducible refine gA rfl ?_); refine zt HS ?_) | ((with_reducible refine gS rfl ?_); refine zr HS ?_) | (go_at_call 104; refine HS.go (yr.calls k A2 c2 l2 y e _ (Kd.C_below HR.out HS.below) HL.out HP.out) ?_) | (go_at_call 166; refine HS.go (JT gt.out) ?_) | (go_at_call 128; refine HS.go0 (Zp gu.out) ?_) | (go_at_call 38; refine HS.go0 (YE gv.out) ?_)); clear HS; (try clear hc); intros; rename_i HS; have hc := HS.lk; simp only [Lk, LkC, Value.cells, List.toList_toArray, Nat.reduceAdd, Nat.zero_add, and_true, zf, zg, ze, zh] at HS hc)
  go_ret
  exact ⟨by first | rfl | simp, HS.below⟩
def X9 (fr up : Int) : Option Int → List S46 → Bool → Prop
 | _, [], r => r = true
 | p, y :: l, r => ∃ k e, xO.f k y.f0 y.f1 y.f2 y.f3 y.f4 = some e ∧ (((e && (decide (fr ≤ y.f0) && (decide (y.f0 < up) && qp p y.f0))) = false ∧ r = false) ∨ ((e && (decide (fr ≤ y.f0) && (decide (y.f0 < up) && qp p y.f0))) = true ∧ X9 fr up (some y.f0) l r))
def Vl (x : Fm) (r : Bool) : Prop := ∃ b, X9 x.f3 x.f4 none x.f7 b ∧ r = (b && (inB x.f3 0 1099511627776 && (inB x.f4 0 1099511627776 && (decide (x.f3 ≤ x.f4) && decide ((x.f7.length : Int) ≤ 16)))))
theorem zap {x : Fm} {r : Bool} {w : World} {cs : List Value} (h : Vl x r) (hx : FmC w x cs) : Calls Tryz.prog 98 #[.agg #[], .agg cs.toArray] w fun e w' => e = .returned (.bool r) ∧ Below w.heap.size w w' := by
 obtain ⟨v5, v6, v7, v8, v9, rfl, h5, h6, h7, h8, h9⟩ := hx
 obtain ⟨g, hg, rfl⟩ := h
 obtain ⟨A, c, rfl, hl, hr⟩ := h7
 have HR := za.mk hr
 have HLEN := za.mk hr.2.1
 have HG := za.mk hg
 have HS := Sat.nil w
 clear hr hg hl h5 h6 h8 h9
 go_enter Tryz.func98, Tryz.ntmps98
 go_wp2_with ((first | ((with_reducible refine gB rfl ?_); refine zC HS ?_) | ((with_reducible refine gA rfl ?_); refine zt HS ?_) | ((with_reducible refine gS rfl ?_); refine zr HS ?_)); clear HS; (try clear hc); intros; rename_i HS; have hc := HS.lk; simp only [Lk, LkC, Value.cells, List.toList_toArray, Nat.reduceAdd, Nat.zero_add, and_true, zf, zg, ze, zh] at HS hc)
 rename_i gz _ gf _ _ _
 have HZ := za.mk HS
 clear HS hc
 go_loopg [10] x.f7.length (fun kq vi wr => ∃ i : Nat, vi = .int .i64 i ∧ za (i + kq = x.f7.length) ∧ za (X9 x.f3 x.f4 (if i = 0 then none else some (xH x.f7 ((i - 1 : Nat) : Int)).f0) (x.f7.drop i) g) ∧ za (Sat [] w wr [(gf, [.int .i64 x.f0, .int .i64 x.f1, .int .i64 x.f2, .int .i64 x.f3, .int .i64 x.f4, v5, v6, .slice A x.f7.length c, v8, v9], 28), (gz, [], 94)] []))
 case atStart => exact ⟨0, rfl, ⟨by simp⟩, ⟨by rw [if_pos rfl, List.drop_zero]; exact HG.out⟩, HZ⟩
 case round =>
  clear HZ HG
  obtain ⟨i, rfl, HK, HO, HT⟩ := hrel
  have HS := HT.out
  clear HT
  have hc := HS.lk; simp only [Lk, LkC, Value.cells, List.toList_toArray, Nat.reduceAdd, Nat.zero_add, and_true, zf, zg, ze, zh] at HS hc
  have hil : i ≤ x.f7.length := by have := HK.out; omega
  by_cases hlt : i < x.f7.length
  ·obtain ⟨ad, A4, c4, e0, x0, x1, x2, x3, x4, hll, hin⟩ := Zr HR.out (i : Int) (by omega) (by omega)
   subst e0
   have hd1 : xH x.f7 ((i : Nat) : Int) = x.f7[i] := by simp [xH, hlt]
   have ho := HO.out
   rw [List.drop_eq_getElem_cons hlt] at ho
   rw [Int.toNat_natCast] at x0 x1 x2 x3 x4
   rw [hd1] at x0 x1 x2 x3 x4 hll hin
   obtain ⟨y, hy⟩ : ∃ y, y = x.f7[i] := ⟨_, rfl⟩
   rw [← hy] at ho x0 x1 x2 x3 x4 hll hin
   obtain ⟨k, e, hp, ho⟩ := ho
   have HP := za.mk hp
   have HI := za.mk hin
   have HL := za.mk hll
   replace x0 := HS.at_ x0
   replace x1 := HS.at_ x1
   replace x2 := HS.at_ x2
   replace x3 := HS.at_ x3
   replace x4 := HS.at_ x4
   have HN : za ((some y.f0) = (if i + 1 = 0 then none else some (xH x.f7 ((i + 1 - 1 : Nat) : Int)).f0)) := ⟨by rw [if_neg (by omega), show i + 1 - 1 = i from rfl, hd1, ← hy]⟩
   have b0 : (0 : Int) ≤ (i : Int) := by omega
   have b1 : (i : Int) < (x.f7.length : Int) := by omega
   clear hp hin hll HO hy hd1
   generalize hq1 : decide (x.f3 ≤ y.f0) = q at ho
   have hq2 : decide (y.f0 < x.f3) = !q := by rw [← hq1, Bool.eq_iff_iff]; simp
   generalize hu1 : decide (y.f0 < x.f4) = u at ho
   have hu2 : decide (x.f4 ≤ y.f0) = !u := by rw [← hu1, Bool.eq_iff_iff]; simp
   have hu3 : decide (y.f0 ≥ x.f4) = !u := hu2
   go_upto_region 4 with ((first | ((with_reducible refine gB rfl ?_); refine zC HS ?_) | ((with_reducible refine gA rfl ?_); refine zt HS ?_) | ((with_reducible refine gS rfl ?_); refine zr HS ?_)); clear HS; (try clear hc); intros; rename_i HS; have hc := HS.lk; simp only [Lk, LkC, Value.cells, List.toList_toArray, Nat.reduceAdd, Nat.zero_add, and_true, zf, zg, ze, zh] at HS hc)
   clear x0 x1 x2 x3 x4
   obtain ⟨gx, rfl⟩ := HS.hd
   by_cases hi0 : i = 0
   ·rw [if_pos hi0] at ho
    have ht1 : qp none y.f0 = true := rfl
    rw [ht1] at ho
    have j4 : ¬ (0 : Int) < (i : Int) := by omega
    have j5 : decide (0 < i) = false := decide_eq_false (by omega)
    have j6 : decide ((0 : Int) < (i : Int)) = false := decide_eq_false (by omega)
    clear hi0
    cases e
    case' true => cases q
    case' true.true => cases u
    all_goals
     clear hc
     replace HS := HS.drewN 1
     refine qP (.op 0 0 15 (.op 1 2 16 (.op 2 1 17 (.op 3 1 18 (.op 4 1 19 (.op 5 0 20 (.op 6 1 21 (.op 7 0 22 (.op 8 1 23 (.op 9 1 24 (.op 10 1 25 (.op 11 1 26 (.op 12 0 27 (.op 13 1 28 (.op 14 0 29 (.op 15 1 30 (.op 16 1 31 (.op 17 1 32 (.op 18 1 33 (.op 19 1 34 (.op 20 1 35 (.op 21 1 36 (.op 22 0 37 (.op 23 1 38 (.op 24 0 39 (.op 25 1 40 (.op 26 1 41 (.op 27 1 42 (.op 28 1 43 (.op 29 0 44 (.op 30 1 45 (.op 31 1 46 (.op 32 1 47 .nil))))))))))))))))))))))))))))))))) [] (fun W => Lk W [(gx, [.int .i64 y.f0, .string y.f1, .slice A4 y.f2.length c4, .int .i64 y.f3, .int .i64 y.f4], 46), (gf, [.int .i64 x.f0, .int .i64 x.f1, .int .i64 x.f2, .int .i64 x.f3, .int .i64 x.f4, v5, v6, .slice (some ad) x.f7.length c, v8, v9], 28)]) ((fun w' H => (H.off (.cons_cons _ (.cons_cons _ (.cons _ .slnil)))).lk) _ HS) (fun hS => ?_)
     (repeat (first | refine RT.tk ?_ | refine RT.tn ?_ | refine RT.pu ?_ | refine RT.pn ?_ | (refine RT.o1 ?_; refine ju HS (fun w' H => (H.off (.cons_cons _ (.cons_cons _ (.cons _ .slnil)))).lk) (xO.calls k y.f0 y.f1 A4 c4 y.f2 y.f3 y.f4 _ _ (Kd.C_below HI.out HS.below) HL.out HP.out) ?_; clear HS hS; intro w_ hS HS; refine RT.nm ?_)))
     refine RT.nil ?_
     clear hS
     go_wp2
     first
     | (go_ret; exact ⟨by rcases ho with ⟨_, h_⟩ | ⟨h_, _⟩ <;> first | (rw [h_]; rfl) | (simp at h_; done), HS.below⟩)
     | (go_roundg (x.f7.length - (i + 1)); (case measure => have := HK.out; omega); (case rel => exact ⟨i + 1, by have h_ : wrap64 ((i : Int) + 1) = ((i + 1 : Nat) : Int) := z9 (by omega) (by have := HLEN.out; omega); first | (rw [h_]) | (simp only [h_]) | rfl, ⟨by have := HK.out; omega⟩, ⟨by rw [← HN.out]; rcases ho with ⟨h_, _⟩ | ⟨_, h_⟩ <;> first | exact h_ | (simp at h_; done)⟩, ⟨HS.off (.cons _ (List.Sublist.refl _))⟩⟩))
   ·rw [if_neg hi0] at ho
    obtain ⟨j, hij⟩ : ∃ j, i = j + 1 := ⟨i - 1, by omega⟩
    obtain ⟨ad2, _, _, e2, px, -⟩ := Zr HR.out (j : Int) (by omega) (by omega)
    obtain rfl : ad = ad2 := by injection e2
    rw [Int.toNat_natCast] at px
    rw [show i - 1 = j by omega] at ho
    generalize (xH x.f7 (j : Int)).f0 = sp at ho px
    have j0 : (0 : Int) ≤ (j : Int) := by omega
    have j1 : (j : Int) < (x.f7.length : Int) := by omega
    have j2 : wrap64 ((i : Int) - 1) = (j : Int) := by have := HLEN.out; rw [xL (by omega) (by omega)]; omega
    have j3 := (z6 _).trans j2
    have j4 : (0 : Int) < (i : Int) := by omega
    have j5 : decide (0 < i) = true := decide_eq_true (by omega)
    have j6 : decide ((0 : Int) < (i : Int)) = true := decide_eq_true (by omega)
    generalize ht1 : qp (some sp) y.f0 = t at ho
    have ht2 : decide (y.f0 ≤ sp) = !t := by rw [← ht1, qp, Bool.eq_iff_iff]; simp
    clear e2 hi0 hij
    cases e
    case' true => cases q
    case' true.true => cases u
    case' true.true.true => cases t
    all_goals
     clear hc
     replace HS := HS.drewN 1
     refine qP (.op 0 0 15 (.op 1 2 16 (.op 2 1 17 (.op 3 1 18 (.op 4 1 19 (.op 5 0 20 (.op 6 1 21 (.op 7 0 22 (.op 8 1 23 (.op 9 1 24 (.op 10 1 25 (.op 11 1 26 (.op 12 0 27 (.op 13 1 28 (.op 14 0 29 (.op 15 1 30 (.op 16 1 31 (.op 17 1 32 (.op 18 1 33 (.op 19 1 34 (.op 20 1 35 (.op 21 1 36 (.op 22 0 37 (.op 23 1 38 (.op 24 0 39 (.op 25 1 40 (.op 26 1 41 (.op 27 1 42 (.op 28 1 43 (.op 29 0 44 (.op 30 1 45 (.op 31 1 46 (.op 32 1 47 .nil))))))))))))))))))))))))))))))))) [] (fun W => Lk W [(gx, [.int .i64 y.f0, .string y.f1, .slice A4 y.f2.length c4, .int .i64 y.f3, .int .i64 y.f4], 46), (gf, [.int .i64 x.f0, .int .i64 x.f1, .int .i64 x.f2, .int .i64 x.f3, .int .i64 x.f4, v5, v6, .slice (some ad) x.f7.length c, v8, v9], 28)] ∧ W.cell? (ad.add (j * 5)) = some (.int .i64 sp)) ((fun w' H => ⟨(H.off (.cons_cons _ (.cons_cons _ (.cons _ .slnil)))).lk, H.at_ px⟩) _ HS) (fun hS => ?_)
     (repeat (first | refine RT.tk ?_ | refine RT.tn ?_ | refine RT.pu ?_ | refine RT.pn ?_ | (refine RT.o1 ?_; refine ju HS (fun w' H => ⟨(H.off (.cons_cons _ (.cons_cons _ (.cons _ .slnil)))).lk, H.at_ px⟩) (xO.calls k y.f0 y.f1 A4 c4 y.f2 y.f3 y.f4 _ _ (Kd.C_below HI.out HS.below) HL.out HP.out) ?_; clear HS hS; intro w_ hS HS; refine RT.nm ?_)))
     refine RT.nil ?_
     clear hS px
     go_wp2
     first
     | (go_ret; exact ⟨by rcases ho with ⟨_, h_⟩ | ⟨h_, _⟩ <;> first | (rw [h_]; rfl) | (simp at h_; done), HS.below⟩)
     | (go_roundg (x.f7.length - (i + 1)); (case measure => have := HK.out; omega); (case rel => exact ⟨i + 1, by have h_ : wrap64 ((i : Int) + 1) = ((i + 1 : Nat) : Int) := z9 (by omega) (by have := HLEN.out; omega); first | (rw [h_]) | (simp only [h_]) | rfl, ⟨by have := HK.out; omega⟩, ⟨by rw [← HN.out]; rcases ho with ⟨h_, _⟩ | ⟨_, h_⟩ <;> first | exact h_ | (simp at h_; done)⟩, ⟨HS.off (.cons _ (List.Sublist.refl _))⟩⟩))
  ·obtain rfl : i = x.f7.length := by omega
   have ho := HO.out
   rw [List.drop_length] at ho
   obtain rfl : g = true := ho
   clear HO
   generalize hp1 : inB x.f3 0 1099511627776 = p
   generalize hq1 : inB x.f4 0 1099511627776 = q
   generalize hu1 : decide (x.f3 ≤ x.f4) = u
   cases p
   case' true => cases q
   case' true.true => cases u
   all_goals
    go_wp2_with ((first | (go_at_call 128; refine HS.go0 (Zp hp1) ?_) | (go_at_call 128; refine HS.go0 (Zp hq1) ?_)); clear HS; (try clear hc); intros; rename_i HS; have hc := HS.lk; simp only [Lk, LkC, Value.cells, List.toList_toArray, Nat.reduceAdd, Nat.zero_add, and_true, zf, zg, ze, zh] at HS hc)
    go_ret
    exact ⟨by (try rw [hp1]); (try rw [hq1]); (try rw [hu1]); rfl, HS.below⟩
def Z9 (x : Fm) (r : Bool) : Prop := (x.f0 = 1 ∧ Vy x r) ∨ (x.f0 = 2 ∧ zaM x r) ∨ (x.f0 = 3 ∧ zcB x r) ∨ (x.f0 = 4 ∧ Vl x r) ∨ (x.f0 = 5 ∧ VB x r)
theorem Z9.calls {x : Fm} {r : Bool} {w : World} {cs : List Value} (h : Z9 x r) (hx : FmC w x cs) : Calls Tryz.prog 54 #[.agg cs.toArray] w fun e w' => e = .returned (.bool r) ∧ Below w.heap.size w w' := by
 have HX := hx
 obtain ⟨v5, v6, v7, v8, v9, rfl, h5, h6, h7, h8, h9⟩ := hx
 clear h5 h6 h7 h8 h9
 replace HX := za.mk HX
 have HS := Sat.nil w
 rcases h with ⟨c, h⟩ | ⟨c, h⟩ | ⟨c, h⟩ | ⟨c, h⟩ | ⟨c, h⟩
 ·replace h := za.mk h
  have c1 : (x.f0 == 1) = true := by rw [c]; rfl
  clear c
  go_enter Tryz.func54, Tryz.ntmps54
  go_wp2_with ((first | ((with_reducible refine gB rfl ?_); refine zC HS ?_) | ((with_reducible refine gA rfl ?_); refine zt HS ?_) | ((with_reducible refine gS rfl ?_); refine zr HS ?_) | (go_at_call 95; refine HS.go (zad h.out (HX.out.below HS.below)) ?_)); clear HS; (try clear hc); intros; rename_i HS; have hc := HS.lk; simp only [Lk, LkC, Value.cells, List.toList_toArray, Nat.reduceAdd, Nat.zero_add, and_true, zf, zg, ze, zh] at HS hc)
  go_ret
  exact ⟨rfl, HS.below⟩
 ·replace h := za.mk h
  have c1 : (x.f0 == 1) = false := by rw [c]; rfl
  have c2 : (x.f0 == 2) = true := by rw [c]; rfl
  clear c
  go_enter Tryz.func54, Tryz.ntmps54
  go_wp2_with ((first | ((with_reducible refine gB rfl ?_); refine zC HS ?_) | ((with_reducible refine gA rfl ?_); refine zt HS ?_) | ((with_reducible refine gS rfl ?_); refine zr HS ?_) | (go_at_call 96; refine HS.go (zaV h.out (HX.out.below HS.below)) ?_)); clear HS; (try clear hc); intros; rename_i HS; have hc := HS.lk; simp only [Lk, LkC, Value.cells, List.toList_toArray, Nat.reduceAdd, Nat.zero_add, and_true, zf, zg, ze, zh] at HS hc)
  go_ret
  exact ⟨rfl, HS.below⟩
 ·replace h := za.mk h
  have c1 : (x.f0 == 1) = false := by rw [c]; rfl
  have c2 : (x.f0 == 2) = false := by rw [c]; rfl
  have c3 : (x.f0 == 3) = true := by rw [c]; rfl
  clear c
  go_enter Tryz.func54, Tryz.ntmps54
  go_wp2_with ((first | ((with_reducible refine gB rfl ?_); refine zC HS ?_) | ((with_reducible refine gA rfl ?_); refine zt HS ?_) | ((with_reducible refine gS rfl ?_); refine zr HS ?_) | (go_at_call 97; refine HS.go (zbC h.out (HX.out.below HS.below)) ?_)); clear HS; (try clear hc); intros; rename_i HS; have hc := HS.lk; simp only [Lk, LkC, Value.cells, List.toList_toArray, Nat.reduceAdd, Nat.zero_add, and_true, zf, zg, ze, zh] at HS hc)
  go_ret
  exact ⟨rfl, HS.below⟩
 ·replace h := za.mk h
  have c1 : (x.f0 == 1) = false := by rw [c]; rfl
  have c2 : (x.f0 == 2) = false := by rw [c]; rfl
  have c3 : (x.f0 == 3) = false := by rw [c]; rfl
  have c4 : (x.f0 == 4) = true := by rw [c]; rfl
  clear c
  go_enter Tryz.func54, Tryz.ntmps54
  go_wp2_with ((first | ((with_reducible refine gB rfl ?_); refine zC HS ?_) | ((with_reducible refine gA rfl ?_); refine zt HS ?_) | ((with_reducible refine gS rfl ?_); refine zr HS ?_) | (go_at_call 98; refine HS.go (zap h.out (HX.out.below HS.below)) ?_)); clear HS; (try clear hc); intros; rename_i HS; have hc := HS.lk; simp only [Lk, LkC, Value.cells, List.toList_toArray, Nat.reduceAdd, Nat.zero_add, and_true, zf, zg, ze, zh] at HS hc)
  go_ret
  exact ⟨rfl, HS.below⟩
 ·replace h := za.mk h
  have c1 : (x.f0 == 1) = false := by rw [c]; rfl
  have c2 : (x.f0 == 2) = false := by rw [c]; rfl
  have c3 : (x.f0 == 3) = false := by rw [c]; rfl
  have c4 : (x.f0 == 4) = false := by rw [c]; rfl
  have c5 : (x.f0 == 5) = true := by rw [c]; rfl
  clear c
  go_enter Tryz.func54, Tryz.ntmps54
  go_wp2_with ((first | ((with_reducible refine gB rfl ?_); refine zC HS ?_) | ((with_reducible refine gA rfl ?_); refine zt HS ?_) | ((with_reducible refine gS rfl ?_); refine zr HS ?_) | (go_at_call 99; refine HS.go (VW h.out (HX.out.below HS.below)) ?_)); clear HS; (try clear hc); intros; rename_i HS; have hc := HS.lk; simp only [Lk, LkC, Value.cells, List.toList_toArray, Nat.reduceAdd, Nat.zero_add, and_true, zf, zg, ze, zh] at HS hc)
  go_ret
  exact ⟨rfl, HS.below⟩
theorem ZO {a b c : Int} (h : ¬ (b ≤ a ∧ a ≤ c)) : zT.f a b c = some false := by
 unfold zT.f
 by_cases h1 : a ≥ b
 ·rw [if_pos h1, decide_eq_false (fun h2 => h ⟨h1, h2⟩)]
 ·rw [if_neg h1]
theorem qS {a b c : Int} (h : b ≤ a ∧ a ≤ c) : zT.f a b c = some true := by
 unfold zT.f
 rw [if_pos h.1, decide_eq_true h.2]
def jy (x : Fm) : Bool := (x.f3 == (if (x.f0 == 1 || x.f0 == 4) then x.f3 else 0)) && ((x.f0 == 1 || x.f0 == 3 || x.f0 == 4 || x.f0 == 5 || x.f4 == 0) && ((x.f0 == 1 || x.f5.isEmpty) && ((x.f0 == 2 || x.f6.isEmpty) && ((x.f0 == 4 || x.f7.isEmpty) && ((x.f0 == 5 || x.f8.isEmpty) && (x.f0 == 5 || x.f9.isEmpty))))))
def jw (x : Fm) : Prop := (0 ≤ x.f1 ∧ x.f1 ≤ 5) ∧ (1 ≤ x.f2 ∧ x.f2 ≤ 1099511627776) ∧ (1 ≤ x.f0 ∧ x.f0 ≤ 5)
def vY (x : Fm) (r : Bool) : Prop := (¬ jw x ∧ r = false) ∨ (jw x ∧ jy x = false ∧ r = false) ∨ (jw x ∧ jy x = true ∧ Z9 x r)
theorem zck {x : Fm} {S : Sl} {w : World} (h : ¬ jw x) : Calls Tryz.prog 16 #[.agg (fmS x S).toArray] w fun e w' => e = .returned (.bool false) ∧ Below w.heap.size w w' := by
 have HS := Sat.nil w
 unfold jw at h
 go_enter Tryz.func16, Tryz.ntmps16
 go_upto_region 1 with ((first | ((with_reducible refine gB rfl ?_); refine zC HS ?_) | ((with_reducible refine gA rfl ?_); refine zt HS ?_) | ((with_reducible refine gS rfl ?_); refine zr HS ?_)); clear HS; (try clear hc); intros; rename_i HS; have hc := HS.lk; simp only [Lk, LkC, Value.cells, List.toList_toArray, Nat.reduceAdd, Nat.zero_add, and_true, zf, zg, ze, zh] at HS hc)
 by_cases c0 : 0 ≤ x.f1 ∧ x.f1 ≤ 5
 case neg =>
  have w0 := za.mk (ZO c0)
  clear h
  go_wp2_with ((first | (go_at_call 38; refine HS.go0 (zT.calls _ _ _ _ _ w0.out) ?_)); clear HS; (try clear hc); intros; rename_i HS; have hc := HS.lk; simp only [Lk, LkC, Value.cells, List.toList_toArray, Nat.reduceAdd, Nat.zero_add, and_true, zf, zg, ze, zh] at HS hc)
  go_ret
  exact ⟨rfl, HS.below⟩
 by_cases c1 : 1 ≤ x.f2 ∧ x.f2 ≤ 1099511627776
 case neg =>
  have w0 := za.mk (qS c0)
  have w1 := za.mk (ZO c1)
  clear h
  go_wp2_with ((first | (go_at_call 38; refine HS.go0 (zT.calls _ _ _ _ _ w0.out) ?_) | (go_at_call 38; refine HS.go0 (zT.calls _ _ _ _ _ w1.out) ?_)); clear HS; (try clear hc); intros; rename_i HS; have hc := HS.lk; simp only [Lk, LkC, Value.cells, List.toList_toArray, Nat.reduceAdd, Nat.zero_add, and_true, zf, zg, ze, zh] at HS hc)
  go_ret
  exact ⟨rfl, HS.below⟩
 by_cases c2 : 1 ≤ x.f0 ∧ x.f0 ≤ 5
 case neg =>
  have w0 := za.mk (qS c0)
  have w1 := za.mk (qS c1)
  have w2 := za.mk (ZO c2)
  clear h
  go_wp2_with ((first | (go_at_call 38; refine HS.go0 (zT.calls _ _ _ _ _ w0.out) ?_) | (go_at_call 38; refine HS.go0 (zT.calls _ _ _ _ _ w1.out) ?_) | (go_at_call 38; refine HS.go0 (zT.calls _ _ _ _ _ w2.out) ?_)); clear HS; (try clear hc); intros; rename_i HS; have hc := HS.lk; simp only [Lk, LkC, Value.cells, List.toList_toArray, Nat.reduceAdd, Nat.zero_add, and_true, zf, zg, ze, zh] at HS hc)
  go_ret
  exact ⟨rfl, HS.below⟩
 exact absurd ⟨c0, c1, c2⟩ h
theorem vN {x : Fm} {S : Sl} {k3 k4 : Int} {B5 B6 B7 B8 B9 : Option Addr} {n5 d5 n6 d6 n7 d7 n8 d8 n9 d9 : Nat} {b r : Bool} {w : World} (h : jw x) (ho : j9 x S = [.int .i64 0, .int .i64 0, .int .i64 0, .int .i64 k3, .int .i64 k4, .slice B5 n5 d5, .slice B6 n6 d6, .slice B7 n7 d7, .slice B8 n8 d8, .slice B9 n9 d9])
  (hs : ∀ w', Below w.heap.size w w' → Calls Tryz.prog 15 #[.agg #[.int .i64 x.f0, .int .i64 x.f1, .int .i64 x.f2, .int .i64 k3, .int .i64 k4, .slice B5 n5 d5, .slice B6 n6 d6, .slice B7 n7 d7, .slice B8 n8 d8, .slice B9 n9 d9], .agg (fmS x S).toArray] w' fun e w2 => e = .returned (.bool b) ∧ Below w'.heap.size w' w2) (hr : b = true → ∀ w', Below w.heap.size w w' → Calls Tryz.prog 54 #[.agg (fmS x S).toArray] w' fun e w2 => e = .returned (.bool r) ∧ Below w'.heap.size w' w2) :
  Calls Tryz.prog 16 #[.agg (fmS x S).toArray] w fun e w' => e = .returned (.bool (b && r)) ∧ Below w.heap.size w w' := by
 have HS := Sat.nil w
 have w0 := za.mk (qS h.1)
 have w1 := za.mk (qS h.2.1)
 have w2 := za.mk (qS h.2.2)
 clear h
 have HO := fun W => zaY x S W
 rw [ho] at HO
 clear ho
 replace HO := za.mk HO
 replace hs := za.mk hs
 replace hr := za.mk hr
 go_enter Tryz.func16, Tryz.ntmps16
 cases b
 all_goals
  go_wp2_with (first | ((first | ((with_reducible refine gB rfl ?_); refine zC HS ?_) | ((with_reducible refine gA rfl ?_); refine zt HS ?_) | ((with_reducible refine gS rfl ?_); refine zr HS ?_) | (go_at_call 38; refine HS.go0 (zT.calls _ _ _ _ _ w0.out) ?_) | (go_at_call 38; refine HS.go0 (zT.calls _ _ _ _ _ w1.out) ?_) | (go_at_call 38; refine HS.go0 (zT.calls _ _ _ _ _ w2.out) ?_) | (go_at_call 53; refine HS.go (HO.out _) ?_) | (go_at_call 15; refine HS.go (hs.out _ HS.below) ?_) | (go_at_call 54; refine HS.go (hr.out (by simp) _ HS.below) ?_)); clear HS; (try clear hc); intros; rename_i HS; have hc := HS.lk; simp only [Lk, LkC, Value.cells, List.toList_toArray, Nat.reduceAdd, Nat.zero_add, and_true, zf, zg, ze, zh] at HS hc) | (refine yt (.op 0 0 22 (.op 1 0 23 (.op 2 0 24 (.op 3 0 25 (.op 4 0 26 (.op 5 0 27 (.op 6 0 28 (.op 7 4 0 (.op 8 1 29 (.op 9 4 0 (.op 10 1 30 (.op 11 4 0 .nil)))))))))))) [] HS (.cons _ (List.Sublist.refl _)) ?_; clear HS hc; intro HS hS; (repeat (first | refine RT.tk ?_ | refine RT.pu ?_ | (refine RT.o4 ?_; intro K hK; refine xo HS ?_; clear HS hS; intro w_ HS; simp only [Lk, LkC, Value.cells, List.toList_toArray, Nat.reduceAdd, Nat.zero_add, and_true, zf, zg, ze, zh] at HS; refine hK _ _ (xb (.cons _ (List.Sublist.refl _)) HS.lk) (fun hS => ?_); clear hK))); clear hS; have hc := HS.lk; simp only [Lk, LkC, Value.cells, List.toList_toArray, Nat.reduceAdd, Nat.zero_add, and_true, zf, zg, ze, zh] at HS hc; refine RT.nil ?_))
  go_ret
  exact ⟨rfl, HS.below⟩
theorem vY.calls {x : Fm} {r : Bool} {w : World} {cs : List Value} (h : vY x r) (hx : FmC w x cs) : Calls Tryz.prog 16 #[.agg cs.toArray] w fun e w' => e = .returned (.bool r) ∧ Below w.heap.size w w' := by
 have hx0 := hx
 obtain ⟨v5, v6, v7, v8, v9, rfl, h5, h6, h7, h8, h9⟩ := hx
 obtain ⟨A5, c5, rfl, _⟩ := h5.id
 obtain ⟨A6, c6, rfl, _⟩ := h6.id
 obtain ⟨A7, c7, rfl, _⟩ := h7.id
 obtain ⟨A8, c8, rfl, _⟩ := h8.id
 obtain ⟨A9, c9, rfl, _⟩ := h9.id
 rcases h with ⟨hn, rfl⟩ | h
 ·exact zck (S := ⟨A5, c5, A6, c6, A7, c7, A8, c8, A9, c9⟩) hn
 have hk : jw x := by rcases h with h | h <;> exact h.1
 have core : ∀ b : Bool, jy x = b → (Calls Tryz.prog 16 #[.agg (fmS x ⟨A5, c5, A6, c6, A7, c7, A8, c8, A9, c9⟩).toArray] w fun e w' => e = .returned (.bool (b && r)) ∧ Below w.heap.size w w') := by
  intro b hb0
  have hr : b = true → ∀ w', Below w.heap.size w w' → Calls Tryz.prog 54 #[.agg (fmS x ⟨A5, c5, A6, c6, A7, c7, A8, c8, A9, c9⟩).toArray] w' fun e w2 => e = .returned (.bool r) ∧ Below w'.heap.size w' w2 := by
   rintro rfl w' hb
   rcases h with ⟨_, h1, _⟩ | ⟨_, _, h1⟩
   ·rw [hb0] at h1; cases h1
   ·exact Z9.calls h1 (hx0.below hb)
  have hsf : ∀ a b : Int, (a == b) = decide (a = b) := fun _ _ => rfl
  rcases (by have := hk.2.2; omega : x.f0 = 1 ∨ x.f0 = 2 ∨ x.f0 = 3 ∨ x.f0 = 4 ∨ x.f0 = 5) with c | c | c | c | c
  ·have ho : j9 x ⟨A5, c5, A6, c6, A7, c7, A8, c8, A9, c9⟩ = [.int .i64 0, .int .i64 0, .int .i64 0, .int .i64 x.f3, .int .i64 x.f4, .slice A5 x.f5.length c5, .slice none 0 0, .slice none 0 0, .slice none 0 0, .slice none 0 0] := by simp [j9, c]
   refine vN hk ho (fun w' hb => ?_) hr
   have hs := jD (w := w') (beq_self_eq_true x.f0) (beq_self_eq_true x.f1) (beq_self_eq_true x.f2) (a3 := x.f3) (e3 := x.f3) rfl (a4 := x.f4) (e4 := x.f4) rfl (zav (h5.below hb) (h5.below hb)) (vw (h6.below hb)) (vx (h7.below hb)) (vn (h8.below hb)) (vm (h9.below hb))
   refine hs.mono (fun e w2 he => ⟨he.1.trans ?_, he.2⟩)
   congr 2
   rw [← hb0, Bool.eq_iff_iff]
   simp only [jy, c, Bool.and_eq_true, Bool.or_eq_true, beq_iff_eq, decide_eq_true_eq, List.isEmpty_iff, List.length_eq_zero_iff]
   grind
  ·have ho : j9 x ⟨A5, c5, A6, c6, A7, c7, A8, c8, A9, c9⟩ = [.int .i64 0, .int .i64 0, .int .i64 0, .int .i64 0, .int .i64 0, .slice none 0 0, .slice A6 x.f6.length c6, .slice none 0 0, .slice none 0 0, .slice none 0 0] := by simp [j9, c]
   refine vN hk ho (fun w' hb => ?_) hr
   have hs := jD (w := w') (beq_self_eq_true x.f0) (beq_self_eq_true x.f1) (beq_self_eq_true x.f2) (a3 := 0) (e3 := x.f3) rfl (a4 := 0) (e4 := x.f4) rfl (vz (h5.below hb)) (zaE (h6.below hb) (h6.below hb)) (vx (h7.below hb)) (vn (h8.below hb)) (vm (h9.below hb))
   refine hs.mono (fun e w2 he => ⟨he.1.trans ?_, he.2⟩)
   congr 2
   rw [← hb0, Bool.eq_iff_iff]
   simp only [jy, c, Bool.and_eq_true, Bool.or_eq_true, beq_iff_eq, decide_eq_true_eq, List.isEmpty_iff, List.length_eq_zero_iff]
   grind
  ·have ho : j9 x ⟨A5, c5, A6, c6, A7, c7, A8, c8, A9, c9⟩ = [.int .i64 0, .int .i64 0, .int .i64 0, .int .i64 0, .int .i64 x.f4, .slice none 0 0, .slice none 0 0, .slice none 0 0, .slice none 0 0, .slice none 0 0] := by simp [j9, c]
   refine vN hk ho (fun w' hb => ?_) hr
   have hs := jD (w := w') (beq_self_eq_true x.f0) (beq_self_eq_true x.f1) (beq_self_eq_true x.f2) (a3 := 0) (e3 := x.f3) rfl (a4 := x.f4) (e4 := x.f4) rfl (vz (h5.below hb)) (vw (h6.below hb)) (vx (h7.below hb)) (vn (h8.below hb)) (vm (h9.below hb))
   refine hs.mono (fun e w2 he => ⟨he.1.trans ?_, he.2⟩)
   congr 2
   rw [← hb0, Bool.eq_iff_iff]
   simp only [jy, c, Bool.and_eq_true, Bool.or_eq_true, beq_iff_eq, decide_eq_true_eq, List.isEmpty_iff, List.length_eq_zero_iff]
   grind
  ·have ho : j9 x ⟨A5, c5, A6, c6, A7, c7, A8, c8, A9, c9⟩ = [.int .i64 0, .int .i64 0, .int .i64 0, .int .i64 x.f3, .int .i64 x.f4, .slice none 0 0, .slice none 0 0, .slice A7 x.f7.length c7, .slice none 0 0, .slice none 0 0] := by simp [j9, c]
   refine vN hk ho (fun w' hb => ?_) hr
   have hs := jD (w := w') (beq_self_eq_true x.f0) (beq_self_eq_true x.f1) (beq_self_eq_true x.f2) (a3 := x.f3) (e3 := x.f3) rfl (a4 := x.f4) (e4 := x.f4) rfl (vz (h5.below hb)) (vw (h6.below hb)) (zaP (h7.below hb) (h7.below hb)) (vn (h8.below hb)) (vm (h9.below hb))
   refine hs.mono (fun e w2 he => ⟨he.1.trans ?_, he.2⟩)
   congr 2
   rw [← hb0, Bool.eq_iff_iff]
   simp only [jy, c, Bool.and_eq_true, Bool.or_eq_true, beq_iff_eq, decide_eq_true_eq, List.isEmpty_iff, List.length_eq_zero_iff]
   grind
  ·have ho : j9 x ⟨A5, c5, A6, c6, A7, c7, A8, c8, A9, c9⟩ = [.int .i64 0, .int .i64 0, .int .i64 0, .int .i64 0, .int .i64 x.f4, .slice none 0 0, .slice none 0 0, .slice none 0 0, .slice A8 x.f8.length c8, .slice A9 x.f9.length c9] := by simp [j9, c]
   refine vN hk ho (fun w' hb => ?_) hr
   have hs := jD (w := w') (beq_self_eq_true x.f0) (beq_self_eq_true x.f1) (beq_self_eq_true x.f2) (a3 := 0) (e3 := x.f3) rfl (a4 := x.f4) (e4 := x.f4) rfl (vz (h5.below hb)) (vw (h6.below hb)) (vx (h7.below hb)) (za3 (h8.below hb) (h8.below hb)) (zbg (h9.below hb) (h9.below hb))
   refine hs.mono (fun e w2 he => ⟨he.1.trans ?_, he.2⟩)
   congr 2
   rw [← hb0, Bool.eq_iff_iff]
   simp only [jy, c, Bool.and_eq_true, Bool.or_eq_true, beq_iff_eq, decide_eq_true_eq, List.isEmpty_iff, List.length_eq_zero_iff]
   grind
 rcases h with ⟨_, h1, rfl⟩ | ⟨_, h1, _⟩
 ·exact core false h1
 ·exact core true h1
theorem zdj (w : World) (e : TypeId) (s : ByteArray) (hs : s.size ≤ maxLen) : Kd.C (Kd.int .u8) (Lib.bytesWorld w e s) (some ⟨w.heap.size, 0, none⟩) (bytesOf s).length (bytesOf s) := by
 have h := yv.of_bytes w 0 e s (Nat.zero_le _) hs
 refine ⟨rfl, by rw [yj]; simp only [maxLen] at hs; omega, fun _ => ⟨_, rfl, fun j p hj => ⟨[.int .u8 p], rfl, rfl, fun i u hu => ?_⟩⟩⟩
 have hi : i = 0 := by
  have := (List.getElem?_eq_some_iff.1 hu).1
  simp at this
  omega
 subst hi
 have hu2 : u = .int .u8 p := by simpa using hu.symm
 subst hu2
 refine h.cells (g := w.heap.size) rfl (j * 1 + 0) _ ?_
 rw [xQ]
 simp [yp, hj]
def xe.f (k : Nat) (l : List ByteArray) : Option (ByteArray × Int) := (yd.f k l).bind fun c => (qh.f l).bind fun t => if t.1.size ≤ 140737488351232 then yl.f (c.2 == 0) (bytesOf t.1) else none
theorem xe.calls (k : Nat) (A : Option Addr) (c : Nat) (l : List ByteArray) (r1 : ByteArray) (r2 : Int) (w : World) (hr : Kd.C Kd.string w A l.length l) (hc : l.length ≤ c) (h : xe.f k l = some (r1, r2)) :
  Calls Tryz.prog 101 #[.slice A l.length c] w fun e w' => e = .returned (.tuple #[.string r1, .int .i64 r2]) ∧ Below w.heap.size w w' := by
 unfold xe.f at h
 rw [zdJ] at h
 obtain ⟨⟨c1, c2⟩, h1, h⟩ := h
 rw [zdJ] at h
 obtain ⟨⟨t1, t2⟩, h2, h⟩ := h
 dsimp only at h
 by_cases hz : t1.size ≤ 140737488351232
 ·rw [if_pos hz] at h
  have HX1 := za.mk h1
  have HX2 := za.mk h2
  have HX3 := za.mk h
  have HZ := za.mk (show t1.size ≤ maxLen by simp only [maxLen]; omega)
  have HR := za.mk hr
  have HC := za.mk hc
  have hcv := fun W : World => Lib.run_convert_string_bytes (P := Tryz.prog) W 9 41 5 t1 Tryz.underlying9 Tryz.underlying41 Tryz.underlying5
  clear h h1 h2 hr hc hz
  go_enter Tryz.func101, Tryz.ntmps101
  go_wp2_with (first | (go_at_call 127; (with_reducible refine (yd.calls k A c l c1 c2 _ HR.out HC.out HX1.out).mono ?_); rintro e w1 ⟨rfl, hb⟩; have HB1 := za.mk hb; clear hb) | (go_at_call 131; (with_reducible refine (qh.calls A c l t1 t2 _ (Kd.C_below HR.out HB1.out) HC.out HX2.out).mono ?_); rintro e w2 ⟨rfl, hb⟩; have HB2 := za.mk (zp HB1.out hb); have HB3 := za.mk (xW HB2.out HB2.out.size 5 t1); clear hb) | (go_at_call 132; refine Jf (args' := #[.bool (c2 == 0), .slice (some ⟨w2.heap.size, 0, none⟩) (bytesOf t1).length (grownCap w2 t1.size 0 5)]) (by rw [yj]) ?_; (refine (yl.calls (c2 == 0) _ _ (bytesOf t1) r1 r2 _ (zdj w2 5 t1 HZ.out) (by rw [yj]; exact grownCap_ge w2 t1.size 0 5) HX3.out).mono ?_); rintro e w3 ⟨rfl, ⟨nd, rfl⟩⟩))
  go_ret2
  exact ⟨rfl, by first | exact HB3.out | exact zb HB3.out _⟩
 ·rw [if_neg hz] at h
  cases h
def zx.l0 : Nat → List Int → List Int → Int → Int → Option (ByteArray)
 | 0, _, _, _, _ => none
 | k + 1, x3, x6, x7, x8 => if x8 < x7 then (if 0 ≤ x8 then (if x8 < (x6.length : Int) then ((zX.f (rd x6 x8)).bind fun t397 => (if x3.length + t397.size < 140737488355328 then (zx.l0 k (x3 ++ bytesOf t397) x6 x7 (wrap64 (x8 + 1))) else (none))) else (none)) else (none)) else (some (strOfNums x3))
def zx.f (k : Nat) (l0 : List Int) : Option (ByteArray) := zx.l0 k ([] : List Int) l0 (l0.length : Int) 0
theorem zx.mono_l : ∀ k, (∀ y0 y1 y2 y3, LeO (zx.l0 k y0 y1 y2 y3) (zx.l0 (k + 1) y0 y1 y2 y3))
 | 0 => fun _ _ _ _ r h => by simp [zx.l0] at h
 | k + 1 => by
  have ih0 := zx.mono_l k
  ·intro y0 y1 y2 y3
   unfold zx.l0
   repeat' first
   | (with_reducible exact ih0 _ _ _ _)
   | (with_reducible exact LeO.refl _)
   | (with_reducible exact LeO.none _)
   | (with_reducible refine LeO.ite ?_ ?_)
   | (with_reducible refine LeO.bind ?_ (fun _ => ?_))
   | exact ih0 _ _ _ _
   | exact LeO.none _
   | refine LeO.ite ?_ ?_
   | refine LeO.bind ?_ (fun _ => ?_)
theorem zx.mono : ∀ a0 k, LeO (zx.f k a0) (zx.f (k + 1) a0) := by
 intro a0 k
 have ih0 := zx.mono_l k
 unfold zx.f
 repeat' first
   | (with_reducible exact ih0 _ _ _ _)
   | (with_reducible exact LeO.refl _)
   | (with_reducible exact LeO.none _)
   | (with_reducible refine LeO.ite ?_ ?_)
   | (with_reducible refine LeO.bind ?_ (fun _ => ?_))
   | exact ih0 _ _ _ _
   | exact LeO.none _
   | refine LeO.ite ?_ ?_
   | refine LeO.bind ?_ (fun _ => ?_)
theorem zx.calls (k : Nat) (A0 : Option Addr) (c0 : Nat) (l0 : List Int) (r : ByteArray) (w : World) (hr0 : Kd.C (Kd.int .i64) w A0 l0.length l0) (hc0 : l0.length ≤ c0) (h : zx.f k l0 = some r) :
  Calls Tryz.prog 18 #[.slice A0 l0.length c0] w fun e w' => e = .returned (.string r) ∧ Below w.heap.size w w' := by
 have HR0 := za.mk hr0
 have HC0 := za.mk hc0
 clear hr0 hc0
 have HB := za.mk (Below.refl w.heap.size w)
 have H : (zx.l0 k ([] : List Int) l0 (l0.length : Int) 0) = some r := h
 clear h
 have H' := za.mk H
 clear H
 go_enter Tryz.func18, Tryz.ntmps18
 go_wp2
 go_loopg [3, 8] k (fun kq v3 v8 w' => ∃ (x3_1 : List Int) (x8_1 : Int), v8 = .int .i64 x8_1 ∧ za (zx.l0 kq x3_1 l0 (l0.length : Int) x8_1 = some r) ∧ za (kq ≤ k) ∧ za (Kd.R (Kd.int .u8) 5 w' w.heap.size (fun _ => True) v3 x3_1) ∧ za (Below w.heap.size w w'))
 case atStart => exact ⟨(([] : List Int)), (0), (by first | rfl | (simp; done) | (simp [*]; done)), H', ⟨Nat.le_refl _⟩, ⟨by first | exact Kd.R_nil _ _ _ _ _ | exact Kd.N_nil _ _ _ _ _ | exact Kd.V_nil _ _ _ _ _ | exact Kd.Q_nil _ _ _ _ _ | exact Kd.S_nil _ _ _ _ _⟩, ⟨by repeat (first | (with_reducible first | exact HB.out | apply zc | apply zb | apply zd) | exact HB.out)⟩⟩
 case round =>
  clear H'
  try clear c1
  obtain ⟨x3_1, x8_1, rfl, HA, HK1, HO_3, HB⟩ := hrel
  cases gk with
  | zero => exact absurd HA.out (by simp [zx.l0])
  | succ k1 =>
   have H := HA.out
   clear HA
   simp only [zx.l0] at H
   by_cases c2 : x8_1 < (l0.length : Int)
   ·rw [if_pos c2] at H
    have c2b0 : decide (x8_1 < (l0.length : Int)) = true := decide_eq_true c2
    clear c2
    by_cases c3 : 0 ≤ x8_1
    ·rw [if_pos c3] at H
     have c3b0 : decide (0 ≤ x8_1) = true := decide_eq_true c3
     clear c3
     by_cases c4 : x8_1 < (l0.length : Int)
     ·rw [if_pos c4] at H
      have c4b0 : decide (x8_1 < (l0.length : Int)) = true := decide_eq_true c4
      clear c4
      replace H := zdJ.mp H
      obtain ⟨t397, A50, H⟩ := H
      replace H : (if x3_1.length + t397.size < 140737488355328 then (zx.l0 k1 (x3_1 ++ bytesOf t397) l0 (l0.length : Int) (wrap64 (x8_1 + 1))) else (none)) = some r := H
      have A5 := za.mk A50
      clear A50
      by_cases c6 : x3_1.length + t397.size < 140737488355328
      ·rw [if_pos c6] at H
       have LMc6 := za.mk c6
       clear c6
       obtain ⟨y398, hy398⟩ : ∃ y_ : List Int, y_ = (x3_1 ++ bytesOf t397) := ⟨_, rfl⟩
       replace H : (zx.l0 k1 y398 l0 (l0.length : Int) (wrap64 (x8_1 + 1))) = some r := by first | (rw [hy398]; with_reducible exact H) | (have H2_ := (Option.bind_some _ _).symm.trans H; rw [hy398]; with_reducible exact H2_) | (have H2_ := (Option.bind_some _ _).symm.trans H; with_reducible exact H2_) | with_reducible exact H | (rw [hy398]; exact H) | exact H
       have Ny398 := za.mk hy398
       clear hy398
       have H' := za.mk H
       clear H
       have p396 : 0 ≤ (x8_1 : Int) := of_decide_eq_true (by first | (with_reducible assumption) | assumption)
       have q396 : x8_1 < (l0.length : Int) := of_decide_eq_true (by first | (with_reducible assumption) | assumption)
       obtain ⟨ad396, e396, hx396_0⟩ := Kd.at_int HR0.out x8_1 p396 q396
       cases e396
       replace hx396_0 := (HB.out.cell (zdK w _ hx396_0)).trans hx396_0
       replace p396 := eq_true p396
       replace q396 := eq_true q396
       go_wp2_with (first | ((with_reducible refine zy (f := 57) rfl ?_); refine zU (some 14) rfl rfl Tryz.func57 (by kernel_rfl) rfl #[.int .i64 (rd l0 x8_1)] rfl (by (try simp only [zdI, List.map_cons, List.map_nil]); first | done | rfl | (simp only [List.length_drop, List.length_take]; rfl)) ?_; (with_reducible refine (zX.calls (rd l0 x8_1) t397 _ A5.out).mono ?_); rintro e w7 ⟨rfl, hb⟩; refine ⟨_, rfl, ?_⟩; have n0_ := za.mk (Kd.R_below (by (with_reducible repeat (first | apply Kd.R_alloc | apply Kd.R_drewN | apply Kd.R_drew)); exact HO_3.out) hb); have n1_ := za.mk (zp (by repeat (first | (with_reducible first | exact HB.out | apply zc | apply zb | apply zd) | exact HB.out)) hb); clear HO_3; clear HB; have HO_3 := n0_; have HB := n1_; clear n0_ n1_; (try clear hb); (try clear hb2); (try clear hk); (try clear hi)) | (at_builtin; refine jj (w0 := w) w.heap.size rfl (.tmp 12) _ 41 9 5 rfl Tryz.underlying41 Tryz.underlying9 XU u3 x3_1 t397 rfl rfl ?aO ?aB ?aS ?aL ?_; (case aB => exact (by repeat (first | (with_reducible first | exact HB.out | apply zc | apply zb | apply zd) | exact HB.out))); (case aO => exact (Kd.own_of_R (by (with_reducible repeat (first | apply Kd.R_alloc | apply Kd.R_drewN | apply Kd.R_drew)); exact HO_3.out))); (case aS => exact (zG (by repeat (first | (with_reducible first | exact HB.out | apply zc | apply zb | apply zd) | exact HB.out)))); (case aL => have := LMc6.out; omega); intro v399 w8 ho0 hb hg hat; have ho := Kd.R_of_own (h1 := fun _ => rfl) (ok := fun _ => True) ho0 (fun _ _ => trivial); clear ho0; rw [← Ny398.out] at ho; change Kd.R (Kd.int .u8) 5 w8 w.heap.size (fun _ => True) v399 y398 at ho; have n0_ := za.mk (hb); have n1_ := za.mk (ho); clear HB; clear HO_3; have HB := n0_; have HO400 := n1_; clear n0_ n1_; clear ho hb hg hat))
       go_roundg k1
       case measure => have := HK1.out; omega
       case rel => exact ⟨(y398), (wrap64 (x8_1 + 1)), (by first | rfl | (simp; done) | (simp [*]; done)), H', ⟨by have := HK1.out; omega⟩, ⟨by (with_reducible repeat (first | apply Kd.R_alloc | apply Kd.R_drewN | apply Kd.R_drew)); exact HO400.out⟩, ⟨by repeat (first | (with_reducible first | exact HB.out | apply zc | apply zb | apply zd) | exact HB.out)⟩⟩
      ·rw [if_neg c6] at H
       exact absurd H (by simp)
     ·rw [if_neg c4] at H
      exact absurd H (by simp)
    ·rw [if_neg c3] at H
     exact absurd H (by simp)
   ·rw [if_neg c2] at H
    have c2b0 : decide (x8_1 < (l0.length : Int)) = false := decide_eq_false c2
    clear c2
    obtain rfl := Option.some.inj H
    have hcv9 := X6 (P := Tryz.prog) Tryz.underlying41 Tryz.underlying5 Tryz.underlying9 (Kd.own_of_R HO_3.out)
    go_wp2
    go_ret
    exact ⟨by first | rfl | (simp [zn, zo] <;> rfl) | (simp [*, zn, zo] <;> rfl), by repeat (first | (with_reducible first | exact HB.out | apply zc | apply zb | apply zd) | exact HB.out)⟩
def xK.f (k : Nat)  (a1_0 : Int) (a1_1 : Int) (a1_2 : Int) (a1_3 : Int) (a1_4 : Int) (l1_5 : List ByteArray) (l1_6 : List (S52)) (l1_7 : List (S46)) (l1_8 : List (S86)) (l1_9 : List (S77)) : Option (ByteArray) := (xe.f k l1_5).bind fun bt403 => ((zx.f k (([a1_3, a1_4] : List Int))).bind fun t408 => (if t408.size + bt403.1.size ≤ 9223372036854775807 then (some (t408 ++ bt403.1)) else (none)))
theorem xK.calls (k : Nat)  (a1_0 : Int) (a1_1 : Int) (a1_2 : Int) (a1_3 : Int) (a1_4 : Int) (A1_5 : Option Addr) (c1_5 : Nat) (l1_5 : List ByteArray) (A1_6 : Option Addr) (c1_6 : Nat) (l1_6 : List (S52)) (A1_7 : Option Addr) (c1_7 : Nat) (l1_7 : List (S46)) (A1_8 : Option Addr) (c1_8 : Nat) (l1_8 : List (S86)) (A1_9 : Option Addr) (c1_9 : Nat) (l1_9 : List (S77)) (r : ByteArray) (w : World) (hr1_5 : Kd.C Kd.string w A1_5 l1_5.length l1_5) (hc1_5 : l1_5.length ≤ c1_5) (hr1_6 : Kd.C k52 w A1_6 l1_6.length l1_6) (hc1_6 : l1_6.length ≤ c1_6) (hr1_7 : Kd.C k46 w A1_7 l1_7.length l1_7) (hc1_7 : l1_7.length ≤ c1_7) (hr1_8 : Kd.C k86 w A1_8 l1_8.length l1_8) (hc1_8 : l1_8.length ≤ c1_8) (hr1_9 : Kd.C k77 w A1_9 l1_9.length l1_9) (hc1_9 : l1_9.length ≤ c1_9) (h : xK.f k a1_0 a1_1 a1_2 a1_3 a1_4 l1_5 l1_6 l1_7 l1_8 l1_9 = some r) :
  Calls Tryz.prog 58 #[.agg #[], .agg #[.int .i64 a1_0, .int .i64 a1_1, .int .i64 a1_2, .int .i64 a1_3, .int .i64 a1_4, .slice A1_5 l1_5.length c1_5, .slice A1_6 l1_6.length c1_6, .slice A1_7 l1_7.length c1_7, .slice A1_8 l1_8.length c1_8, .slice A1_9 l1_9.length c1_9]] w fun e w' => e = .returned (.string r) ∧ Below w.heap.size w w' := by
 have hu91 := Tryz.underlying91
 have hu28 := Tryz.underlying28
 have HR1_5 := za.mk hr1_5
 have HC1_5 := za.mk hc1_5
 clear hr1_5 hc1_5
 have HR1_6 := za.mk hr1_6
 have HC1_6 := za.mk hc1_6
 clear hr1_6 hc1_6
 have HR1_7 := za.mk hr1_7
 have HC1_7 := za.mk hc1_7
 clear hr1_7 hc1_7
 have HR1_8 := za.mk hr1_8
 have HC1_8 := za.mk hc1_8
 clear hr1_8 hc1_8
 have HR1_9 := za.mk hr1_9
 have HC1_9 := za.mk hc1_9
 clear hr1_9 hc1_9
 have HB := za.mk (Below.refl w.heap.size w)
 have H : ((xe.f k l1_5).bind fun bt403 => ((zx.f k (([a1_3, a1_4] : List Int))).bind fun t408 => (if t408.size + bt403.1.size ≤ 9223372036854775807 then (some (t408 ++ bt403.1)) else (none)))) = some r := h
 clear h
 replace H := zdJ.mp H
 obtain ⟨⟨t403, t404⟩, A30, H⟩ := H
 replace H : ((zx.f k (([a1_3, a1_4] : List Int))).bind fun t408 => (if t408.size + t403.size ≤ 9223372036854775807 then (some (t408 ++ t403)) else (none))) = some r := H
 have A3 := za.mk A30
 clear A30
 obtain ⟨y405, hy405⟩ : ∃ y_ : List Int, y_ = (([a1_3, a1_4] : List Int)) := ⟨_, rfl⟩
 replace H : ((zx.f k y405).bind fun t408 => (if t408.size + t403.size ≤ 9223372036854775807 then (some (t408 ++ t403)) else (none))) = some r := by first | (rw [hy405]; with_reducible exact H) | (have H2_ := (Option.bind_some _ _).symm.trans H; rw [hy405]; with_reducible exact H2_) | (have H2_ := (Option.bind_some _ _).symm.trans H; with_reducible exact H2_) | with_reducible exact H | (rw [hy405]; exact H) | exact H
 have Ny405 := za.mk hy405
 clear hy405
 replace H := zdJ.mp H
 obtain ⟨t408, A40, H⟩ := H
 replace H : (if t408.size + t403.size ≤ 9223372036854775807 then (some (t408 ++ t403)) else (none)) = some r := H
 have A4 := za.mk A40
 clear A40
 by_cases c5 : t408.size + t403.size ≤ 9223372036854775807
 ·rw [if_pos c5] at H
  have c5b0 := eq_true c5
  have c5b1 : decide (t408.size + t403.size ≤ 9223372036854775807) = true := decide_eq_true c5
  try have c5b2 : (9223372036854775807 < t408.size + t403.size) = False := eq_false (Nat.not_lt.2 c5)
  obtain rfl := Option.some.inj H
  go_enter Tryz.func58, Tryz.ntmps58
  go_wp2_with (first | ((with_reducible refine zJ (N := 2) rfl ?_); refine yg ?hg (N := 2) ?hd (cs := #[]) (t := 91) ?hr ?_; (case hd => rfl); (case hg => rfl); (case hr => first | (go_simp; done) | (go_simp; rfl)); intro gb401 hg w6 hbox hb; have n0_ := za.mk (zp (by repeat (first | (with_reducible first | exact HB.out | apply zc | apply zb | apply zd) | exact HB.out)) hb); have n1_ := za.mk (hbox); have n2_ := za.mk ((by rw [hg]; exact (zG (by repeat (first | (with_reducible first | exact HB.out | apply zc | apply zb | apply zd) | exact HB.out))) : w.heap.size ≤ gb401)); have n3_ := za.mk ((by rw [hg]; exact (zG (by repeat (first | (with_reducible first | exact HB.out | apply zc | apply zb | apply zd) | exact HB.out))) : w.heap.size ≤ gb401)); clear HB; have HB := n0_; have BK401 := n1_; have GW401 := n2_; have GE401 := n3_; clear n0_ n1_ n2_ n3_; clear hb hbox hg) | ((with_reducible refine zJ (N := 3) rfl ?_); refine yg ?hg (N := 3) ?hd (cs := #[.int .i64 a1_0, .int .i64 a1_1, .int .i64 a1_2, .int .i64 a1_3, .int .i64 a1_4, .slice A1_5 l1_5.length c1_5, .slice A1_6 l1_6.length c1_6, .slice A1_7 l1_7.length c1_7, .slice A1_8 l1_8.length c1_8, .slice A1_9 l1_9.length c1_9]) (t := 28) ?hr ?_; (case hd => rfl); (case hg => rfl); (case hr => first | (go_simp; done) | (go_simp; rfl)); intro gb402 hg w7 hbox hb; have n0_ := za.mk (zP (g := gb401) (o := .cells #[] 91 (0, 0)) (by (with_reducible repeat (first | refine zH ?_ _ | refine zM ?_ | refine zI ?_ _)); exact BK401.out) hb); have n1_ := za.mk (zp (by repeat (first | (with_reducible first | exact HB.out | apply zc | apply zb | apply zd | refine zq ?_ GE401.out) | exact HB.out)) hb); have n2_ := za.mk (hbox); have n3_ := za.mk ((by rw [hg]; exact (zG (by repeat (first | (with_reducible first | exact HB.out | apply zc | apply zb | apply zd | refine zq ?_ GE401.out) | exact HB.out))) : w.heap.size ≤ gb402)); have n4_ := za.mk ((by rw [hg]; exact (zG (by repeat (first | (with_reducible first | exact HB.out | apply zc | apply zb | apply zd | refine zq ?_ GE401.out) | exact HB.out))) : w.heap.size ≤ gb402)); have n5_ := za.mk ((by rw [hg]; exact Nat.ne_of_lt (xG (g := gb401) (o := .cells #[] 91 (0, 0)) (by (with_reducible repeat (first | refine zH ?_ _ | refine zM ?_ | refine zI ?_ _)); exact BK401.out)) : gb401 ≠ gb402)); have n6_ := za.mk ((by rw [hg]; exact Nat.ne_of_gt (xG (g := gb401) (o := .cells #[] 91 (0, 0)) (by (with_reducible repeat (first | refine zH ?_ _ | refine zM ?_ | refine zI ?_ _)); exact BK401.out)) : gb402 ≠ gb401)); clear BK401; clear HB; have BK401 := n0_; have HB := n1_; have BK402 := n2_; have GW402 := n3_; have GE402 := n4_; have NB401_402 := n5_; have NB402_401 := n6_; clear n0_ n1_ n2_ n3_ n4_ n5_ n6_; clear hb hbox hg; have hnb8 := NB402_401.out; have hnc8 := NB401_402.out; have hcz9_0 : w7.cell? ⟨gb402, 0, none⟩ = some (.int .i64 a1_0) := (zk BK402.out 0).trans rfl; have hcz9_1 : w7.cell? ⟨gb402, 1, none⟩ = some (.int .i64 a1_1) := (zk BK402.out 1).trans rfl; have hcz9_2 : w7.cell? ⟨gb402, 2, none⟩ = some (.int .i64 a1_2) := (zk BK402.out 2).trans rfl; have hcz9_3 : w7.cell? ⟨gb402, 3, none⟩ = some (.int .i64 a1_3) := (zk BK402.out 3).trans rfl; have hcz9_4 : w7.cell? ⟨gb402, 4, none⟩ = some (.int .i64 a1_4) := (zk BK402.out 4).trans rfl; have hcz9_5 : w7.cell? ⟨gb402, 5, none⟩ = some (.slice A1_5 l1_5.length c1_5) := (zk BK402.out 5).trans rfl; have hcz9_6 : w7.cell? ⟨gb402, 6, none⟩ = some (.slice A1_6 l1_6.length c1_6) := (zk BK402.out 6).trans rfl; have hcz9_7 : w7.cell? ⟨gb402, 7, none⟩ = some (.slice A1_7 l1_7.length c1_7) := (zk BK402.out 7).trans rfl; have hcz9_8 : w7.cell? ⟨gb402, 8, none⟩ = some (.slice A1_8 l1_8.length c1_8) := (zk BK402.out 8).trans rfl; have hcz9_9 : w7.cell? ⟨gb402, 9, none⟩ = some (.slice A1_9 l1_9.length c1_9) := (zk BK402.out 9).trans rfl; have hfz9_0 := zl BK402.out 0; have hfz9_1 := zl BK402.out 1; have hfz9_2 := zl BK402.out 2; have hfz9_3 := zl BK402.out 3; have hfz9_4 := zl BK402.out 4; have hfz9_5 := zl BK402.out 5; have hfz9_6 := zl BK402.out 6; have hfz9_7 := zl BK402.out 7; have hfz9_8 := zl BK402.out 8; have hfz9_9 := zl BK402.out 9) | ((with_reducible refine zy (f := 101) rfl ?_); refine zU (some 10) rfl rfl Tryz.func101 (by kernel_rfl) rfl #[.slice A1_5 l1_5.length c1_5] rfl (by (try simp only [zdI, List.map_cons, List.map_nil]); first | done | rfl | (simp only [List.length_drop, List.length_take]; rfl)) ?_; (with_reducible refine (xe.calls k _ _ l1_5 t403 t404 _ ?side1 ?side2 A3.out).mono ?_); (case side1 => repeat (first | exact (Kd.C_below HR1_5.out HB.out) | (with_reducible refine Kd.C_alloc ?_ _) | (with_reducible refine Kd.C_drewN ?_ _) | (with_reducible refine Kd.C_drew ?_))); (case side2 => exact HC1_5.out); rintro e w10 ⟨rfl, hb⟩; refine ⟨_, rfl, ?_⟩; have n0_ := za.mk (zP (g := gb401) (o := .cells #[] 91 (0, 0)) (by (with_reducible repeat (first | refine zH ?_ _ | refine zM ?_ | refine zI ?_ _)); exact BK401.out) hb); have n1_ := za.mk (zP (g := gb402) (o := .cells #[.int .i64 a1_0, .int .i64 a1_1, .int .i64 a1_2, .int .i64 a1_3, .int .i64 a1_4, .slice A1_5 l1_5.length c1_5, .slice A1_6 l1_6.length c1_6, .slice A1_7 l1_7.length c1_7, .slice A1_8 l1_8.length c1_8, .slice A1_9 l1_9.length c1_9] 28 (0, 0)) (by (with_reducible repeat (first | refine zH ?_ _ | refine zM ?_ | refine zI ?_ _)); exact BK402.out) hb); have n2_ := za.mk (zp (by repeat (first | (with_reducible first | exact HB.out | apply zc | apply zb | apply zd | refine zq ?_ GE401.out | refine zq ?_ GE402.out) | exact HB.out)) hb); clear BK401; clear BK402; clear HB; have BK401 := n0_; have BK402 := n1_; have HB := n2_; clear n0_ n1_ n2_; (try clear hb); (try clear hb2); (try clear hk); (try clear hi); have hcz11_0 : w10.cell? ⟨gb402, 0, none⟩ = some (.int .i64 a1_0) := (zk BK402.out 0).trans rfl; have hcz11_1 : w10.cell? ⟨gb402, 1, none⟩ = some (.int .i64 a1_1) := (zk BK402.out 1).trans rfl; have hcz11_2 : w10.cell? ⟨gb402, 2, none⟩ = some (.int .i64 a1_2) := (zk BK402.out 2).trans rfl; have hcz11_3 : w10.cell? ⟨gb402, 3, none⟩ = some (.int .i64 a1_3) := (zk BK402.out 3).trans rfl; have hcz11_4 : w10.cell? ⟨gb402, 4, none⟩ = some (.int .i64 a1_4) := (zk BK402.out 4).trans rfl; have hcz11_5 : w10.cell? ⟨gb402, 5, none⟩ = some (.slice A1_5 l1_5.length c1_5) := (zk BK402.out 5).trans rfl; have hcz11_6 : w10.cell? ⟨gb402, 6, none⟩ = some (.slice A1_6 l1_6.length c1_6) := (zk BK402.out 6).trans rfl; have hcz11_7 : w10.cell? ⟨gb402, 7, none⟩ = some (.slice A1_7 l1_7.length c1_7) := (zk BK402.out 7).trans rfl; have hcz11_8 : w10.cell? ⟨gb402, 8, none⟩ = some (.slice A1_8 l1_8.length c1_8) := (zk BK402.out 8).trans rfl; have hcz11_9 : w10.cell? ⟨gb402, 9, none⟩ = some (.slice A1_9 l1_9.length c1_9) := (zk BK402.out 9).trans rfl; have hfz11_0 := zl BK402.out 0; have hfz11_1 := zl BK402.out 1; have hfz11_2 := zl BK402.out 2; have hfz11_3 := zl BK402.out 3; have hfz11_4 := zl BK402.out 4; have hfz11_5 := zl BK402.out 5; have hfz11_6 := zl BK402.out 6; have hfz11_7 := zl BK402.out 7; have hfz11_8 := zl BK402.out 8; have hfz11_9 := zl BK402.out 9) | ((with_reducible refine zJ (N := 17) rfl ?_); refine Kd.R_lit (Kd.int .i64) _ 3 ?hg (N := 17) ?hd (xs := ([a1_3, a1_4] : List Int)) (inner := [.int .i64 a1_3, .int .i64 a1_4]) (ok := fun _ => True) (okp := fun _ => True) ?hr ?hp (fun _ hk => hk) trivial (Below.refl _ _) (Nat.le_refl _) (by simp) ?_; (case hd => rfl); (case hg => rfl); (case hr => first | (go_simp; done) | (go_simp; rfl)); (case hp => exact (zS.one (show Kd.M (Kd.int .i64) _ _ _ a1_3 [.int .i64 a1_3] from rfl) (zS.one (show Kd.M (Kd.int .i64) _ _ _ a1_4 [.int .i64 a1_4] from rfl) (zS.none _ _)))); intro v406 w12 ho13 hb hg_ hnew_; clear hg_ hnew_; (first | rw [← Ny405.out] at ho13 | (simp only [Int.reduceToNat] at ho13; rw [← Ny405.out] at ho13)); have n0_ := za.mk (Kd.R_lower ho13 (zG (by repeat (first | (with_reducible first | exact HB.out | apply zc | apply zb | apply zd | refine zq ?_ GE401.out | refine zq ?_ GE402.out) | exact HB.out)))); have n1_ := za.mk (zP (g := gb401) (o := .cells #[] 91 (0, 0)) (by (with_reducible repeat (first | refine zH ?_ _ | refine zM ?_ | refine zI ?_ _)); exact BK401.out) hb); have n2_ := za.mk (zP (g := gb402) (o := .cells #[.int .i64 a1_0, .int .i64 a1_1, .int .i64 a1_2, .int .i64 a1_3, .int .i64 a1_4, .slice A1_5 l1_5.length c1_5, .slice A1_6 l1_6.length c1_6, .slice A1_7 l1_7.length c1_7, .slice A1_8 l1_8.length c1_8, .slice A1_9 l1_9.length c1_9] 28 (0, 0)) (by (with_reducible repeat (first | refine zH ?_ _ | refine zM ?_ | refine zI ?_ _)); exact BK402.out) hb); have n3_ := za.mk (zp (by repeat (first | (with_reducible first | exact HB.out | apply zc | apply zb | apply zd | refine zq ?_ GE401.out | refine zq ?_ GE402.out) | exact HB.out)) hb); clear BK401; clear BK402; clear HB; have HO407 := n0_; have BK401 := n1_; have BK402 := n2_; have HB := n3_; clear n0_ n1_ n2_ n3_; clear hb ho13; obtain ⟨Ao14, co14, eo14⟩ := Kd.R_slice HO407.out; subst eo14) | ((with_reducible refine zy (f := 18) rfl ?_); refine zU (some 18) rfl rfl Tryz.func18 (by kernel_rfl) rfl #[.slice Ao14 y405.length co14] rfl (by (try simp only [zdI, List.map_cons, List.map_nil]); first | done | rfl | (simp only [List.length_drop, List.length_take]; rfl)) ?_; (with_reducible refine (zx.calls k _ _ y405 t408 _ ?side1 ?side2 A4.out).mono ?_); (case side1 => repeat (first | exact (Kd.R_reads' HO407.out).2.2 | (with_reducible refine Kd.C_alloc ?_ _) | (with_reducible refine Kd.C_drewN ?_ _) | (with_reducible refine Kd.C_drew ?_))); (case side2 => exact (Kd.R_reads' HO407.out).2.1); rintro e w15 ⟨rfl, hb⟩; refine ⟨_, rfl, ?_⟩; have n0_ := za.mk (Kd.R_below (by (with_reducible repeat (first | apply Kd.R_alloc | apply Kd.R_drewN | apply Kd.R_drew)); exact HO407.out) hb); have n1_ := za.mk (zP (g := gb401) (o := .cells #[] 91 (0, 0)) (by (with_reducible repeat (first | refine zH ?_ _ | refine zM ?_ | refine zI ?_ _)); exact BK401.out) hb); have n2_ := za.mk (zP (g := gb402) (o := .cells #[.int .i64 a1_0, .int .i64 a1_1, .int .i64 a1_2, .int .i64 a1_3, .int .i64 a1_4, .slice A1_5 l1_5.length c1_5, .slice A1_6 l1_6.length c1_6, .slice A1_7 l1_7.length c1_7, .slice A1_8 l1_8.length c1_8, .slice A1_9 l1_9.length c1_9] 28 (0, 0)) (by (with_reducible repeat (first | refine zH ?_ _ | refine zM ?_ | refine zI ?_ _)); exact BK402.out) hb); have n3_ := za.mk (zp (by repeat (first | (with_reducible first | exact HB.out | apply zc | apply zb | apply zd | refine zq ?_ GE401.out | refine zq ?_ GE402.out) | exact HB.out)) hb); clear HO407; clear BK401; clear BK402; clear HB; have HO407 := n0_; have BK401 := n1_; have BK402 := n2_; have HB := n3_; clear n0_ n1_ n2_ n3_; (try clear hb); (try clear hb2); (try clear hk); (try clear hi)))
  go_ret
  exact ⟨by first | rfl | (simp [zn, zo] <;> rfl) | (simp [*, zn, zo] <;> rfl), by repeat (first | (with_reducible first | exact HB.out | apply zc | apply zb | apply zd | refine zq ?_ GE401.out | refine zq ?_ GE402.out) | exact HB.out)⟩
 ·rw [if_neg c5] at H
  exact absurd H (by simp)
theorem Zc {w : World} {g t : Nat} {a0 a1 a2 a3 a4 : Value} (h : w.heap[g]? = some (.cells #[a0, a1, a2, a3, a4] t (0, 0))) : w.cell? ⟨g, 0, none⟩ = some a0 ∧ w.cell? ⟨g, 1, none⟩ = some a1 ∧ w.cell? ⟨g, 2, none⟩ = some a2 ∧ w.cell? ⟨g, 3, none⟩ = some a3 ∧ w.cell? ⟨g, 4, none⟩ = some a4 ∧ w.frozen? ⟨g, 0, none⟩ = false ∧ w.frozen? ⟨g, 1, none⟩ = false ∧ w.frozen? ⟨g, 2, none⟩ = false ∧ w.frozen? ⟨g, 3, none⟩ = false ∧ w.frozen? ⟨g, 4, none⟩ = false := ⟨(zk h 0).trans rfl, (zk h 1).trans rfl, (zk h 2).trans rfl, (zk h 3).trans rfl, (zk h 4).trans rfl, zl h 0, zl h 1, zl h 2, zl h 3, zl h 4⟩
theorem box6 {w : World} {g t : Nat} {a0 a1 a2 a3 a4 a5 : Value} (h : w.heap[g]? = some (.cells #[a0, a1, a2, a3, a4, a5] t (0, 0))) : w.cell? ⟨g, 0, none⟩ = some a0 ∧ w.cell? ⟨g, 1, none⟩ = some a1 ∧ w.cell? ⟨g, 2, none⟩ = some a2 ∧ w.cell? ⟨g, 3, none⟩ = some a3 ∧ w.cell? ⟨g, 4, none⟩ = some a4 ∧ w.cell? ⟨g, 5, none⟩ = some a5 ∧ w.frozen? ⟨g, 0, none⟩ = false ∧ w.frozen? ⟨g, 1, none⟩ = false ∧ w.frozen? ⟨g, 2, none⟩ = false ∧ w.frozen? ⟨g, 3, none⟩ = false ∧ w.frozen? ⟨g, 4, none⟩ = false ∧ w.frozen? ⟨g, 5, none⟩ = false := ⟨(zk h 0).trans rfl, (zk h 1).trans rfl, (zk h 2).trans rfl, (zk h 3).trans rfl, (zk h 4).trans rfl, (zk h 5).trans rfl, zl h 0, zl h 1, zl h 2, zl h 3, zl h 4, zl h 5⟩
theorem qD {w : World} {g t : Nat} {b0 b1 b2 b3 b4 b5 b6 b7 b8 b9 : Value} (h : w.heap[g]? = some (.cells #[b0, b1, b2, b3, b4, b5, b6, b7, b8, b9] t (0, 0))) : w.cell? ⟨g, 0, none⟩ = some b0 ∧ w.cell? ⟨g, 1, none⟩ = some b1 ∧ w.cell? ⟨g, 2, none⟩ = some b2 ∧ w.cell? ⟨g, 3, none⟩ = some b3 ∧ w.cell? ⟨g, 4, none⟩ = some b4 ∧ w.cell? ⟨g, 5, none⟩ = some b5 ∧ w.cell? ⟨g, 6, none⟩ = some b6 ∧ w.cell? ⟨g, 7, none⟩ = some b7 ∧ w.cell? ⟨g, 8, none⟩ = some b8 ∧ w.cell? ⟨g, 9, none⟩ = some b9 ∧ w.frozen? ⟨g, 0, none⟩ = false ∧ w.frozen? ⟨g, 1, none⟩ = false ∧ w.frozen? ⟨g, 2, none⟩ = false ∧ w.frozen? ⟨g, 3, none⟩ = false ∧ w.frozen? ⟨g, 4, none⟩ = false ∧ w.frozen? ⟨g, 5, none⟩ = false ∧ w.frozen? ⟨g, 6, none⟩ = false ∧ w.frozen? ⟨g, 7, none⟩ = false ∧ w.frozen? ⟨g, 8, none⟩ = false ∧ w.frozen? ⟨g, 9, none⟩ = false := ⟨(zk h 0).trans rfl, (zk h 1).trans rfl, (zk h 2).trans rfl, (zk h 3).trans rfl, (zk h 4).trans rfl, (zk h 5).trans rfl, (zk h 6).trans rfl, (zk h 7).trans rfl, (zk h 8).trans rfl, (zk h 9).trans rfl, zl h 0, zl h 1, zl h 2, zl h 3, zl h 4, zl h 5, zl h 6, zl h 7, zl h 8, zl h 9⟩
def qx (k : Nat) (acc : List Int) (x : S52) : Option (List Int) := (yD.f k x.f0 x.f1 x.f2 x.f3 x.f4 x.f5).bind fun q => if acc.length + q.1.size ≤ 140737488355328 then some (acc ++ bytesOf q.1) else none
theorem qx.mono (k : Nat) (acc : List Int) (x : S52) : LeO (qx k acc x) (qx (k + 1) acc x) := by
 unfold qx
 exact LeO.bind (yD.mono _ _ _ _ _ _ _) (fun _ => LeO.refl _)
def xC.f (k : Nat) (a0 a1 a2 a3 a4 : Int) (l5 : List ByteArray) (l6 : List S52) (l7 : List S46) (l8 : List S86) (l9 : List S77) : Option ByteArray := (zx.f k ([(l6.length : Int)] : List Int)).bind fun t => if t.size ≤ 140737488351232 then (xF (qx k) l6 (bytesOf t)).bind fun b => some (strOfNums b) else none
theorem xC.calls (k : Nat) (a0 a1 a2 a3 a4 : Int) (A5 : Option Addr) (c5 : Nat) (l5 : List ByteArray) (A6 : Option Addr) (c6 : Nat) (l6 : List S52) (A7 : Option Addr) (c7 : Nat) (l7 : List S46) (A8 : Option Addr) (c8 : Nat) (l8 : List S86) (A9 : Option Addr) (c9 : Nat) (l9 : List S77) (r : ByteArray) (w : World) (hr5 : Kd.C Kd.string w A5 l5.length l5) (hc5 : l5.length ≤ c5) (hr6 : Kd.C k52 w A6 l6.length l6) (hc6 : l6.length ≤ c6) (hr7 : Kd.C k46 w A7 l7.length l7) (hc7 : l7.length ≤ c7) (hr8 : Kd.C k86 w A8 l8.length l8) (hc8 : l8.length ≤ c8) (hr9 : Kd.C k77 w A9 l9.length l9) (hc9 : l9.length ≤ c9) (h : xC.f k a0 a1 a2 a3 a4 l5 l6 l7 l8 l9 = some r) :
  Calls Tryz.prog 59 #[.agg #[], .agg #[.int .i64 a0, .int .i64 a1, .int .i64 a2, .int .i64 a3, .int .i64 a4, .slice A5 l5.length c5, .slice A6 l6.length c6, .slice A7 l7.length c7, .slice A8 l8.length c8, .slice A9 l9.length c9]] w fun e w' => e = .returned (.string r) ∧ Below w.heap.size w w' := by
 unfold xC.f at h
 rw [zdJ] at h
 obtain ⟨t, ht, h⟩ := h
 by_cases hz : t.size ≤ 140737488351232
 case neg =>
  rw [if_neg hz] at h
  cases h
 rw [if_pos hz, zdJ] at h
 obtain ⟨b, hf, h⟩ := h
 obtain rfl := Option.some.inj h
 obtain ⟨y, hy⟩ : ∃ y, ([(l6.length : Int)] : List Int) = y := ⟨_, rfl⟩
 rw [hy] at ht
 have Hy := za.mk hy
 have HT := za.mk ht
 have HF := za.mk hf
 have HZ := za.mk (show t.size ≤ maxLen by simp only [maxLen]; omega)
 have HR := za.mk hr6
 have HC := za.mk hc6
 have HLEN := za.mk hr6.2.1
 have HB := za.mk (Below.refl w.heap.size w)
 have hcv := fun W : World => Lib.run_convert_string_bytes (P := Tryz.prog) W 9 41 5 t Tryz.underlying9 Tryz.underlying41 Tryz.underlying5
 clear h hy ht hf hz hr5 hc5 hr6 hc6 hr7 hc7 hr8 hc8 hr9 hc9
 obtain ⟨i0, hi, hz0, hz1, hz2⟩ := info_parts Jp
 go_enter Tryz.func59, Tryz.ntmps59
 go_wp2_with (first | ((with_reducible refine zJ (N := 2) rfl ?_); refine yg ?hg (N := 2) ?hd (cs := #[]) (t := 92) ?hr ?_; (case hd => rfl); (case hg => rfl); (case hr => first | (go_simp; done) | (go_simp; rfl)); intro g_z hg_ w1_ hbox_ hb_; have n0_ := za.mk (zp HB.out hb_); have n1_ := za.mk ((by rw [hg_]; exact HB.out.size : w.heap.size ≤ g_z)); have n2_ := za.mk (hbox_); (try clear HB); (try clear GE_z); (try clear BK_z); have HB := n0_; have GE_z := n1_; have BK_z := n2_; clear n0_ n1_ n2_; clear hbox_ hb_ hg_) | ((with_reducible refine zJ (N := 3) rfl ?_); refine yg ?hg (N := 3) ?hd (cs := #[.int .i64 a0, .int .i64 a1, .int .i64 a2, .int .i64 a3, .int .i64 a4, .slice A5 l5.length c5, .slice A6 l6.length c6, .slice A7 l7.length c7, .slice A8 l8.length c8, .slice A9 l9.length c9]) (t := 28) ?hr ?_; (case hd => rfl); (case hg => rfl); (case hr => first | (go_simp; done) | (go_simp; rfl)); intro g_f hg_ w2_ hbox_ hb_; have n0_ := za.mk (zp HB.out hb_); have n1_ := za.mk ((by rw [hg_]; exact HB.out.size : w.heap.size ≤ g_f)); have n2_ := za.mk (hbox_); (try clear HB); (try clear GE_f); (try clear BK_f); have HB := n0_; have GE_f := n1_; have BK_f := n2_; clear n0_ n1_ n2_; clear hbox_ hb_ hg_; obtain ⟨hc_f_0, hc_f_1, hc_f_2, hc_f_3, hc_f_4, hc_f_5, hc_f_6, hc_f_7, hc_f_8, hc_f_9, hf_f_0, hf_f_1, hf_f_2, hf_f_3, hf_f_4, hf_f_5, hf_f_6, hf_f_7, hf_f_8, hf_f_9⟩ := qD BK_f.out) | ((with_reducible refine zJ (N := 13) rfl ?_); refine Kd.R_lit (Kd.int .i64) _ 3 ?hg (N := 13) ?hd (xs := ([(l6.length : Int)] : List Int)) (inner := [.int .i64 (l6.length : Int)]) (ok := fun _ => True) (okp := fun _ => True) ?hr ?hp (fun _ hk => hk) trivial (Below.refl _ _) (Nat.le_refl _) (by simp) ?_; (case hd => rfl); (case hg => rfl); (case hr => first | (go_simp; done) | (go_simp; rfl)); (case hp => exact (zS.one (show Kd.M (Kd.int .i64) _ _ _ (l6.length : Int) [.int .i64 (l6.length : Int)] from rfl) (zS.none _ _))); intro v_ w3_ hr_ hb_ hg_ hn_; clear hg_ hn_; (first | rw [Hy.out] at hr_ | (simp only [Int.reduceToNat] at hr_; rw [Hy.out] at hr_)); obtain ⟨A_y, c_y, ev_⟩ := Kd.R_slice hr_; subst ev_; have n0_ := za.mk (zP BK_f.out hb_); have n1_ := za.mk (zp HB.out hb_); have n2_ := za.mk (Kd.R_lower hr_ HB.out.size); (try clear BK_f); (try clear HB); (try clear HR_y); have BK_f := n0_; have HB := n1_; have HR_y := n2_; clear n0_ n1_ n2_; (try clear hc_f_0 hc_f_1 hc_f_2 hc_f_3 hc_f_4 hc_f_5 hc_f_6 hc_f_7 hc_f_8 hc_f_9 hf_f_0 hf_f_1 hf_f_2 hf_f_3 hf_f_4 hf_f_5 hf_f_6 hf_f_7 hf_f_8 hf_f_9); (try clear hb_ hr_); obtain ⟨hc_f_0, hc_f_1, hc_f_2, hc_f_3, hc_f_4, hc_f_5, hc_f_6, hc_f_7, hc_f_8, hc_f_9, hf_f_0, hf_f_1, hf_f_2, hf_f_3, hf_f_4, hf_f_5, hf_f_6, hf_f_7, hf_f_8, hf_f_9⟩ := qD BK_f.out) | (go_at_call 18; (with_reducible refine (zx.calls k _ _ y t _ ?side1 ?side2 HT.out).mono ?_); (case side1 => exact (Kd.R_reads' HR_y.out).2.2); (case side2 => exact (Kd.R_reads' HR_y.out).2.1); rintro e_ w4_ ⟨rfl, hb_⟩; have n0_ := za.mk (zP BK_f.out hb_); have n1_ := za.mk (Kd.R_below HR_y.out hb_); have n2_ := za.mk (zp HB.out hb_); (try clear BK_f); (try clear HR_y); (try clear HB); have BK_f := n0_; have HR_y := n1_; have HB := n2_; clear n0_ n1_ n2_; (try clear hc_f_0 hc_f_1 hc_f_2 hc_f_3 hc_f_4 hc_f_5 hc_f_6 hc_f_7 hc_f_8 hc_f_9 hf_f_0 hf_f_1 hf_f_2 hf_f_3 hf_f_4 hf_f_5 hf_f_6 hf_f_7 hf_f_8 hf_f_9); (try clear hb_); obtain ⟨hc_f_0, hc_f_1, hc_f_2, hc_f_3, hc_f_4, hc_f_5, hc_f_6, hc_f_7, hc_f_8, hc_f_9, hf_f_0, hf_f_1, hf_f_2, hf_f_3, hf_f_4, hf_f_5, hf_f_6, hf_f_7, hf_f_8, hf_f_9⟩ := qD BK_f.out; have HM1 := za.mk (yv.of_bytes w4_ w.heap.size 5 t HB.out.size HZ.out); have HB2 := za.mk (xW HB.out HB.out.size 5 t); have hcw := ((xW (Below.refl w4_.heap.size w4_) (Nat.le_refl _) 5 t).cell (zdK _ _ hc_f_6)).trans hc_f_6))
 have hcv0 := za.mk hcv
 clear hcv
 (try clear hc_f_0 hc_f_1 hc_f_2 hc_f_3 hc_f_4 hc_f_5 hc_f_6 hc_f_7 hc_f_8 hc_f_9 hf_f_0 hf_f_1 hf_f_2 hf_f_3 hf_f_4 hf_f_5 hf_f_6 hf_f_7 hf_f_8 hf_f_9)
 go_loopg [5, 19] l6.length (fun kq vb vi wr => ∃ (i : Nat) (xs : List Int), vi = .int .i64 i ∧ za (i + kq = l6.length) ∧ za (xF (qx k) (l6.drop i) xs = some b) ∧ za (yv wr w.heap.size 5 vb (yp .u8 xs)) ∧ za (Below w.heap.size w wr))
 case atStart => exact ⟨0, bytesOf t, rfl, ⟨by simp⟩, ⟨by rw [List.drop_zero]; exact HF.out⟩, ⟨by rw [← xQ]; exact HM1.out⟩, HB2⟩
 case round =>
  clear HB2 HM1 HB BK_f HR_y hcw
  obtain ⟨i, xs, rfl, HK, HO, HM, HB0⟩ := hrel
  have hil : i ≤ l6.length := by have := HK.out; omega
  by_cases hlt : i < l6.length
  ·have HRR := za.mk (Kd.C_below HR.out HB0.out)
   obtain ⟨ad, A4, c4, rfl, x0, x1, x2, x3, x4, x5, hll, hin⟩ := ZA HRR.out (i : Int) (by omega) (by omega)
   rw [Int.toNat_natCast] at x0 x1 x2 x3 x4 x5
   have ho := HO.out
   rw [List.drop_eq_getElem_cons hlt, xF, zdJ] at ho
   obtain ⟨t1, ht1, ho⟩ := ho
   have HO2 := za.mk ho
   have hq : xB l6 (i : Int) = l6[i] := by simp [xB, hlt]
   rw [hq] at x0 x1 x2 x3 x4 x5 hll hin
   obtain ⟨x, hx⟩ : ∃ x, x = l6[i] := ⟨_, rfl⟩
   rw [← hx] at ht1 x0 x1 x2 x3 x4 x5 hll hin
   unfold qx at ht1
   rw [zdJ] at ht1
   obtain ⟨⟨z, ez⟩, hp, ht1⟩ := ht1
   dsimp only at ht1
   by_cases hfit : xs.length + z.size ≤ 140737488355328
   case neg =>
    rw [if_neg hfit] at ht1
    cases ht1
   rw [if_pos hfit] at ht1
   obtain rfl := Option.some.inj ht1
   have HP := za.mk hp
   have HFIT := za.mk hfit
   clear hp ht1 hfit
   have HI := za.mk hin
   have HL := za.mk hll
   have HB := za.mk (Below.refl wr.heap.size wr)
   have HBW := za.mk (Below.trans HB0.out (HB.out.mono HB0.out.size))
   clear ho hin hll hq hx HO HRR
   go_wp2_with (first
    | ((with_reducible refine zJ (N := 7) rfl ?_); refine yg ?hg (N := 7) ?hd (cs := #[.int .i64 0, .int .i64 0, .string ⟨#[]⟩, .int .i64 0, .slice none 0 0, .int .i64 0]) (t := 52) ?hr ?_; (case hd => rfl); (case hg => rfl); (case hr => first | (go_simp; done) | (go_simp; rfl)); intro g_x hg_ w1_ hbox_ hb_; have n0_ := za.mk (zp HB.out hb_); have n1_ := za.mk ((by rw [hg_]; exact HB.out.size : wr.heap.size ≤ g_x)); have n2_ := za.mk (hbox_); (try clear HB); (try clear GE_x); (try clear BK_x); have HB := n0_; have GE_x := n1_; have BK_x := n2_; clear n0_ n1_ n2_; clear hbox_ hb_ hg_; obtain ⟨hc_x_0, hc_x_1, hc_x_2, hc_x_3, hc_x_4, hc_x_5, hf_x_0, hf_x_1, hf_x_2, hf_x_3, hf_x_4, hf_x_5⟩ := box6 BK_x.out)
    | ((with_reducible refine jV (t := 52) (p := 7) rfl ?_); refine jv (t := 52) (p := 7) (v := ?vo_w2_) (w1 := ((((((w1_.setCell ⟨g_x, 0, none⟩ (.int .i64 x.f0)).setCell ⟨g_x, 1, none⟩ (.int .i64 x.f1)).setCell ⟨g_x, 2, none⟩ (.string x.f2)).setCell ⟨g_x, 3, none⟩ (.int .i64 x.f3)).setCell ⟨g_x, 4, none⟩ (.slice A4 x.f4.length c4)).setCell ⟨g_x, 5, none⟩ (.int .i64 x.f5))) ?hg ?ho ?hn ?hr ?_; (case ho => rfl); (case hg => rfl); (case hn => rfl); (case hr => first | (go_simp; done) | (go_simp; rfl)); intro w2_ hw_; have n0_ : za (w2_.heap[g_x]? = some (.cells #[.int .i64 x.f0, .int .i64 x.f1, .string x.f2, .int .i64 x.f3, .slice A4 x.f4.length c4, .int .i64 x.f5] 52 (0, 0))) := ⟨(by rw [hw_]; exact (yH (cs' := #[.int .i64 x.f0, .int .i64 x.f1, .string x.f2, .int .i64 x.f3, .slice A4 x.f4.length c4, .int .i64 x.f5]) (yH (cs' := #[.int .i64 x.f0, .int .i64 x.f1, .string x.f2, .int .i64 x.f3, .slice A4 x.f4.length c4, .int .i64 0]) (yH (cs' := #[.int .i64 x.f0, .int .i64 x.f1, .string x.f2, .int .i64 x.f3, .slice none 0 0, .int .i64 0]) (yH (cs' := #[.int .i64 x.f0, .int .i64 x.f1, .string x.f2, .int .i64 0, .slice none 0 0, .int .i64 0]) (yH (cs' := #[.int .i64 x.f0, .int .i64 x.f1, .string ⟨#[]⟩, .int .i64 0, .slice none 0 0, .int .i64 0]) (yH (cs' := #[.int .i64 x.f0, .int .i64 0, .string ⟨#[]⟩, .int .i64 0, .slice none 0 0, .int .i64 0]) (BK_x.out) 0 _ rfl) 1 _ rfl) 2 _ rfl) 3 _ rfl) 4 _ rfl) 5 _ rfl))⟩; have n1_ : za (Below wr.heap.size wr w2_) := ⟨(by rw [hw_]; exact (zq (g := g_x) (j := 5) (zq (g := g_x) (j := 4) (zq (g := g_x) (j := 3) (zq (g := g_x) (j := 2) (zq (g := g_x) (j := 1) (zq (g := g_x) (j := 0) (HB.out) GE_x.out) GE_x.out) GE_x.out) GE_x.out) GE_x.out) GE_x.out))⟩; (try clear BK_x); (try clear HB); have BK_x := n0_; have HB := n1_; clear n0_ n1_; (try clear hc_x_0 hc_x_1 hc_x_2 hc_x_3 hc_x_4 hc_x_5 hf_x_0 hf_x_1 hf_x_2 hf_x_3 hf_x_4 hf_x_5); clear hw_; obtain ⟨hc_x_0, hc_x_1, hc_x_2, hc_x_3, hc_x_4, hc_x_5, hf_x_0, hf_x_1, hf_x_2, hf_x_3, hf_x_4, hf_x_5⟩ := box6 BK_x.out)
    | (go_at_call 102; (with_reducible refine (yD.calls k x.f0 x.f1 x.f2 x.f3 A4 c4 x.f4 x.f5 z ez _ ?side1 HL.out HP.out).mono ?_); (case side1 => exact Kd.C_below HI.out HB.out); rintro e_ w3_ ⟨rfl, hb_⟩; have n0_ := za.mk (zP BK_x.out hb_); have n1_ := za.mk (zp HB.out hb_); (try clear BK_x); (try clear HB); have BK_x := n0_; have HB := n1_; clear n0_ n1_; (try clear hc_x_0 hc_x_1 hc_x_2 hc_x_3 hc_x_4 hc_x_5 hf_x_0 hf_x_1 hf_x_2 hf_x_3 hf_x_4 hf_x_5); (try clear hb_); obtain ⟨hc_x_0, hc_x_1, hc_x_2, hc_x_3, hc_x_4, hc_x_5, hf_x_0, hf_x_1, hf_x_2, hf_x_3, hf_x_4, hf_x_5⟩ := box6 BK_x.out; clear HBW; have HBW := za.mk (Below.trans HB0.out (HB.out.mono HB0.out.size)))
    | ((with_reducible refine zJ (N := 30) rfl ?_); refine yG _ rfl (.tmp 28) (.tmp 29) 41 9 rfl w.heap.size 5 i0 Tryz.underlying41 Tryz.underlying9 hi hz0 hz1 hz2 _ (yp .u8 xs) rfl (HM.out.below HB.out) z rfl (by rw [xw]; exact HFIT.out) HBW.out.size ?_; intro v_n w4_ hm_ hg_; rw [qO] at hm_; have HM4 := za.mk hm_; have HB4 := za.mk (HBW.out.grown hg_ HBW.out.size (fun k hk => (HM.out.below HB.out).base_le k hk)); clear hm_ hg_; (try clear hc_x_0 hc_x_1 hc_x_2 hc_x_3 hc_x_4 hc_x_5 hf_x_0 hf_x_1 hf_x_2 hf_x_3 hf_x_4 hf_x_5)))
   go_roundg (l6.length - (i + 1))
   case measure => have := HK.out; omega
   case rel => exact ⟨i + 1, _, by have h_ : wrap64 ((i : Int) + 1) = ((i + 1 : Nat) : Int) := z9 (by omega) (by have := HLEN.out; omega); first | (rw [h_]) | (simp only [h_]), ⟨by have := HK.out; omega⟩, HO2, HM4, HB4⟩
  ·obtain rfl : i = l6.length := by omega
   have ho := HO.out
   rw [List.drop_length, xF] at ho
   obtain rfl := Option.some.inj ho
   have hcs := yv.to_string (P := Tryz.prog) Tryz.underlying41 Tryz.underlying5 Tryz.underlying9 HM.out
   go_wp2
   go_ret
   exact ⟨rfl, HB0.out⟩
def qd.f (k : Nat)  (a1_0 : Int) (a1_1 : Int) (a1_2 : Int) (a1_3 : Int) (a1_4 : Int) (l1_5 : List ByteArray) (l1_6 : List (S52)) (l1_7 : List (S46)) (l1_8 : List (S86)) (l1_9 : List (S77)) : Option (ByteArray) := (zx.f k (([a1_4] : List Int))).bind fun t414 => (some t414)
theorem qd.calls (k : Nat)  (a1_0 : Int) (a1_1 : Int) (a1_2 : Int) (a1_3 : Int) (a1_4 : Int) (A1_5 : Option Addr) (c1_5 : Nat) (l1_5 : List ByteArray) (A1_6 : Option Addr) (c1_6 : Nat) (l1_6 : List (S52)) (A1_7 : Option Addr) (c1_7 : Nat) (l1_7 : List (S46)) (A1_8 : Option Addr) (c1_8 : Nat) (l1_8 : List (S86)) (A1_9 : Option Addr) (c1_9 : Nat) (l1_9 : List (S77)) (r : ByteArray) (w : World) (hr1_5 : Kd.C Kd.string w A1_5 l1_5.length l1_5) (hc1_5 : l1_5.length ≤ c1_5) (hr1_6 : Kd.C k52 w A1_6 l1_6.length l1_6) (hc1_6 : l1_6.length ≤ c1_6) (hr1_7 : Kd.C k46 w A1_7 l1_7.length l1_7) (hc1_7 : l1_7.length ≤ c1_7) (hr1_8 : Kd.C k86 w A1_8 l1_8.length l1_8) (hc1_8 : l1_8.length ≤ c1_8) (hr1_9 : Kd.C k77 w A1_9 l1_9.length l1_9) (hc1_9 : l1_9.length ≤ c1_9) (h : qd.f k a1_0 a1_1 a1_2 a1_3 a1_4 l1_5 l1_6 l1_7 l1_8 l1_9 = some r) :
  Calls Tryz.prog 60 #[.agg #[], .agg #[.int .i64 a1_0, .int .i64 a1_1, .int .i64 a1_2, .int .i64 a1_3, .int .i64 a1_4, .slice A1_5 l1_5.length c1_5, .slice A1_6 l1_6.length c1_6, .slice A1_7 l1_7.length c1_7, .slice A1_8 l1_8.length c1_8, .slice A1_9 l1_9.length c1_9]] w fun e w' => e = .returned (.string r) ∧ Below w.heap.size w w' := by
 have hu93 := Tryz.underlying93
 have hu28 := Tryz.underlying28
 have HR1_5 := za.mk hr1_5
 have HC1_5 := za.mk hc1_5
 clear hr1_5 hc1_5
 have HR1_6 := za.mk hr1_6
 have HC1_6 := za.mk hc1_6
 clear hr1_6 hc1_6
 have HR1_7 := za.mk hr1_7
 have HC1_7 := za.mk hc1_7
 clear hr1_7 hc1_7
 have HR1_8 := za.mk hr1_8
 have HC1_8 := za.mk hc1_8
 clear hr1_8 hc1_8
 have HR1_9 := za.mk hr1_9
 have HC1_9 := za.mk hc1_9
 clear hr1_9 hc1_9
 have HB := za.mk (Below.refl w.heap.size w)
 have H : ((zx.f k (([a1_4] : List Int))).bind fun t414 => (some t414)) = some r := h
 clear h
 obtain ⟨y411, hy411⟩ : ∃ y_ : List Int, y_ = (([a1_4] : List Int)) := ⟨_, rfl⟩
 replace H : ((zx.f k y411).bind fun t414 => (some t414)) = some r := by first | (rw [hy411]; with_reducible exact H) | (have H2_ := (Option.bind_some _ _).symm.trans H; rw [hy411]; with_reducible exact H2_) | (have H2_ := (Option.bind_some _ _).symm.trans H; with_reducible exact H2_) | with_reducible exact H | (rw [hy411]; exact H) | exact H
 have Ny411 := za.mk hy411
 clear hy411
 replace H := zdJ.mp H
 obtain ⟨t414, A30, H⟩ := H
 replace H : (some t414) = some r := H
 have A3 := za.mk A30
 clear A30
 obtain rfl := Option.some.inj H
 go_enter Tryz.func60, Tryz.ntmps60
 go_wp2_with (first | ((with_reducible refine zJ (N := 2) rfl ?_); refine yg ?hg (N := 2) ?hd (cs := #[]) (t := 93) ?hr ?_; (case hd => rfl); (case hg => rfl); (case hr => first | (go_simp; done) | (go_simp; rfl)); intro gb409 hg w4 hbox hb; have n0_ := za.mk (zp (by repeat (first | (with_reducible first | exact HB.out | apply zc | apply zb | apply zd) | exact HB.out)) hb); have n1_ := za.mk (hbox); have n2_ := za.mk ((by rw [hg]; exact (zG (by repeat (first | (with_reducible first | exact HB.out | apply zc | apply zb | apply zd) | exact HB.out))) : w.heap.size ≤ gb409)); have n3_ := za.mk ((by rw [hg]; exact (zG (by repeat (first | (with_reducible first | exact HB.out | apply zc | apply zb | apply zd) | exact HB.out))) : w.heap.size ≤ gb409)); clear HB; have HB := n0_; have BK409 := n1_; have GW409 := n2_; have GE409 := n3_; clear n0_ n1_ n2_ n3_; clear hb hbox hg) | ((with_reducible refine zJ (N := 3) rfl ?_); refine yg ?hg (N := 3) ?hd (cs := #[.int .i64 a1_0, .int .i64 a1_1, .int .i64 a1_2, .int .i64 a1_3, .int .i64 a1_4, .slice A1_5 l1_5.length c1_5, .slice A1_6 l1_6.length c1_6, .slice A1_7 l1_7.length c1_7, .slice A1_8 l1_8.length c1_8, .slice A1_9 l1_9.length c1_9]) (t := 28) ?hr ?_; (case hd => rfl); (case hg => rfl); (case hr => first | (go_simp; done) | (go_simp; rfl)); intro gb410 hg w5 hbox hb; have n0_ := za.mk (zP (g := gb409) (o := .cells #[] 93 (0, 0)) (by (with_reducible repeat (first | refine zH ?_ _ | refine zM ?_ | refine zI ?_ _)); exact BK409.out) hb); have n1_ := za.mk (zp (by repeat (first | (with_reducible first | exact HB.out | apply zc | apply zb | apply zd | refine zq ?_ GE409.out) | exact HB.out)) hb); have n2_ := za.mk (hbox); have n3_ := za.mk ((by rw [hg]; exact (zG (by repeat (first | (with_reducible first | exact HB.out | apply zc | apply zb | apply zd | refine zq ?_ GE409.out) | exact HB.out))) : w.heap.size ≤ gb410)); have n4_ := za.mk ((by rw [hg]; exact (zG (by repeat (first | (with_reducible first | exact HB.out | apply zc | apply zb | apply zd | refine zq ?_ GE409.out) | exact HB.out))) : w.heap.size ≤ gb410)); have n5_ := za.mk ((by rw [hg]; exact Nat.ne_of_lt (xG (g := gb409) (o := .cells #[] 93 (0, 0)) (by (with_reducible repeat (first | refine zH ?_ _ | refine zM ?_ | refine zI ?_ _)); exact BK409.out)) : gb409 ≠ gb410)); have n6_ := za.mk ((by rw [hg]; exact Nat.ne_of_gt (xG (g := gb409) (o := .cells #[] 93 (0, 0)) (by (with_reducible repeat (first | refine zH ?_ _ | refine zM ?_ | refine zI ?_ _)); exact BK409.out)) : gb410 ≠ gb409)); clear BK409; clear HB; have BK409 := n0_; have HB := n1_; have BK410 := n2_; have GW410 := n3_; have GE410 := n4_; have NB409_410 := n5_; have NB410_409 := n6_; clear n0_ n1_ n2_ n3_ n4_ n5_ n6_; clear hb hbox hg; have hnb6 := NB410_409.out; have hnc6 := NB409_410.out; have hcz7_0 : w5.cell? ⟨gb410, 0, none⟩ = some (.int .i64 a1_0) := (zk BK410.out 0).trans rfl; have hcz7_1 : w5.cell? ⟨gb410, 1, none⟩ = some (.int .i64 a1_1) := (zk BK410.out 1).trans rfl; have hcz7_2 : w5.cell? ⟨gb410, 2, none⟩ = some (.int .i64 a1_2) := (zk BK410.out 2).trans rfl; have hcz7_3 : w5.cell? ⟨gb410, 3, none⟩ = some (.int .i64 a1_3) := (zk BK410.out 3).trans rfl; have hcz7_4 : w5.cell? ⟨gb410, 4, none⟩ = some (.int .i64 a1_4) := (zk BK410.out 4).trans rfl; have hcz7_5 : w5.cell? ⟨gb410, 5, none⟩ = some (.slice A1_5 l1_5.length c1_5) := (zk BK410.out 5).trans rfl; have hcz7_6 : w5.cell? ⟨gb410, 6, none⟩ = some (.slice A1_6 l1_6.length c1_6) := (zk BK410.out 6).trans rfl; have hcz7_7 : w5.cell? ⟨gb410, 7, none⟩ = some (.slice A1_7 l1_7.length c1_7) := (zk BK410.out 7).trans rfl; have hcz7_8 : w5.cell? ⟨gb410, 8, none⟩ = some (.slice A1_8 l1_8.length c1_8) := (zk BK410.out 8).trans rfl; have hcz7_9 : w5.cell? ⟨gb410, 9, none⟩ = some (.slice A1_9 l1_9.length c1_9) := (zk BK410.out 9).trans rfl; have hfz7_0 := zl BK410.out 0; have hfz7_1 := zl BK410.out 1; have hfz7_2 := zl BK410.out 2; have hfz7_3 := zl BK410.out 3; have hfz7_4 := zl BK410.out 4; have hfz7_5 := zl BK410.out 5; have hfz7_6 := zl BK410.out 6; have hfz7_7 := zl BK410.out 7; have hfz7_8 := zl BK410.out 8; have hfz7_9 := zl BK410.out 9) | ((with_reducible refine zJ (N := 7) rfl ?_); refine Kd.R_lit (Kd.int .i64) _ 3 ?hg (N := 7) ?hd (xs := ([a1_4] : List Int)) (inner := [.int .i64 a1_4]) (ok := fun _ => True) (okp := fun _ => True) ?hr ?hp (fun _ hk => hk) trivial (Below.refl _ _) (Nat.le_refl _) (by simp) ?_; (case hd => rfl); (case hg => rfl); (case hr => first | (go_simp; done) | (go_simp; rfl)); (case hp => exact (zS.one (show Kd.M (Kd.int .i64) _ _ _ a1_4 [.int .i64 a1_4] from rfl) (zS.none _ _))); intro v412 w8 ho9 hb hg_ hnew_; clear hg_ hnew_; (first | rw [← Ny411.out] at ho9 | (simp only [Int.reduceToNat] at ho9; rw [← Ny411.out] at ho9)); have n0_ := za.mk (Kd.R_lower ho9 (zG (by repeat (first | (with_reducible first | exact HB.out | apply zc | apply zb | apply zd | refine zq ?_ GE409.out | refine zq ?_ GE410.out) | exact HB.out)))); have n1_ := za.mk (zP (g := gb409) (o := .cells #[] 93 (0, 0)) (by (with_reducible repeat (first | refine zH ?_ _ | refine zM ?_ | refine zI ?_ _)); exact BK409.out) hb); have n2_ := za.mk (zP (g := gb410) (o := .cells #[.int .i64 a1_0, .int .i64 a1_1, .int .i64 a1_2, .int .i64 a1_3, .int .i64 a1_4, .slice A1_5 l1_5.length c1_5, .slice A1_6 l1_6.length c1_6, .slice A1_7 l1_7.length c1_7, .slice A1_8 l1_8.length c1_8, .slice A1_9 l1_9.length c1_9] 28 (0, 0)) (by (with_reducible repeat (first | refine zH ?_ _ | refine zM ?_ | refine zI ?_ _)); exact BK410.out) hb); have n3_ := za.mk (zp (by repeat (first | (with_reducible first | exact HB.out | apply zc | apply zb | apply zd | refine zq ?_ GE409.out | refine zq ?_ GE410.out) | exact HB.out)) hb); clear BK409; clear BK410; clear HB; have HO413 := n0_; have BK409 := n1_; have BK410 := n2_; have HB := n3_; clear n0_ n1_ n2_ n3_; clear hb ho9; obtain ⟨Ao10, co10, eo10⟩ := Kd.R_slice HO413.out; subst eo10) | ((with_reducible refine zy (f := 18) rfl ?_); refine zU (some 8) rfl rfl Tryz.func18 (by kernel_rfl) rfl #[.slice Ao10 y411.length co10] rfl (by (try simp only [zdI, List.map_cons, List.map_nil]); first | done | rfl | (simp only [List.length_drop, List.length_take]; rfl)) ?_; (with_reducible refine (zx.calls k _ _ y411 t414 _ ?side1 ?side2 A3.out).mono ?_); (case side1 => repeat (first | exact (Kd.R_reads' HO413.out).2.2 | (with_reducible refine Kd.C_alloc ?_ _) | (with_reducible refine Kd.C_drewN ?_ _) | (with_reducible refine Kd.C_drew ?_))); (case side2 => exact (Kd.R_reads' HO413.out).2.1); rintro e w11 ⟨rfl, hb⟩; refine ⟨_, rfl, ?_⟩; have n0_ := za.mk (Kd.R_below (by (with_reducible repeat (first | apply Kd.R_alloc | apply Kd.R_drewN | apply Kd.R_drew)); exact HO413.out) hb); have n1_ := za.mk (zP (g := gb409) (o := .cells #[] 93 (0, 0)) (by (with_reducible repeat (first | refine zH ?_ _ | refine zM ?_ | refine zI ?_ _)); exact BK409.out) hb); have n2_ := za.mk (zP (g := gb410) (o := .cells #[.int .i64 a1_0, .int .i64 a1_1, .int .i64 a1_2, .int .i64 a1_3, .int .i64 a1_4, .slice A1_5 l1_5.length c1_5, .slice A1_6 l1_6.length c1_6, .slice A1_7 l1_7.length c1_7, .slice A1_8 l1_8.length c1_8, .slice A1_9 l1_9.length c1_9] 28 (0, 0)) (by (with_reducible repeat (first | refine zH ?_ _ | refine zM ?_ | refine zI ?_ _)); exact BK410.out) hb); have n3_ := za.mk (zp (by repeat (first | (with_reducible first | exact HB.out | apply zc | apply zb | apply zd | refine zq ?_ GE409.out | refine zq ?_ GE410.out) | exact HB.out)) hb); clear HO413; clear BK409; clear BK410; clear HB; have HO413 := n0_; have BK409 := n1_; have BK410 := n2_; have HB := n3_; clear n0_ n1_ n2_ n3_; (try clear hb); (try clear hb2); (try clear hk); (try clear hi)))
 go_ret
 exact ⟨by first | rfl | (simp [zn, zo] <;> rfl) | (simp [*, zn, zo] <;> rfl), by repeat (first | (with_reducible first | exact HB.out | apply zc | apply zb | apply zd | refine zq ?_ GE409.out | refine zq ?_ GE410.out) | exact HB.out)⟩
theorem yv.ne_blk {w : World} {base : Nat} {e : TypeId} {v : Value} {xs : List Value} (h : yv w base e v xs) {g : Nat} {t : TypeId} {cs : Array Value} (hb : w.heap[g]? = some (.cells cs t (0, 0))) (hne : t ≠ e) : some g ≠ v.ownBlock := by
 rcases h with ⟨rfl, _⟩ | ⟨g', cap, cur, fr, rfl, _, hg, _⟩
 ·simp [Value.ownBlock]
 ·intro he
  have e2 : g = g' := by simpa [Value.ownBlock] using he
  subst e2
  rw [hb] at hg
  injection hg with hg
  injection hg with h1 h2 h3
  exact hne h2
def xY (k : Nat) (acc : List Int) (x : S46) : Option (List Int) := (yQ.f x.f1).bind fun t => (yr.f k x.f2).bind fun v => (zx.f k ([x.f0] : List Int)).bind fun n => if acc.length + n.size ≤ 140737488355328 then (if (acc ++ bytesOf n).length + t.1.size ≤ 140737488355328 then (if ((acc ++ bytesOf n) ++ bytesOf t.1).length + v.1.size ≤ 140737488355328 then ((zx.f k ([x.f3, x.f4] : List Int)).bind fun m => if (((acc ++ bytesOf n) ++ bytesOf t.1) ++ bytesOf v.1).length + m.size ≤ 140737488355328 then some ((((acc ++ bytesOf n) ++ bytesOf t.1) ++ bytesOf v.1) ++ bytesOf m) else none) else none) else none) else none
theorem xY.mono (k : Nat) (acc : List Int) (x : S46) : LeO (xY k acc x) (xY (k + 1) acc x) := by
 unfold xY
 exact LeO.bind (LeO.refl _) (fun _ => LeO.bind (yr.mono _ _) (fun _ => LeO.bind (zx.mono _ _) (fun _ => LeO.ite (LeO.ite (LeO.ite (LeO.bind (zx.mono _ _) (fun _ => LeO.refl _)) (LeO.refl _)) (LeO.refl _)) (LeO.refl _))))
def xm.f (k : Nat) (a0 a1 a2 a3 a4 : Int) (l5 : List ByteArray) (l6 : List S52) (l7 : List S46) (l8 : List S86) (l9 : List S77) : Option ByteArray := (zx.f k ([a3, a4, (l7.length : Int)] : List Int)).bind fun t => if t.size ≤ 140737488351232 then (xF (xY k) l7 (bytesOf t)).bind fun b => some (strOfNums b) else none
theorem xm.calls (k : Nat) (a0 a1 a2 a3 a4 : Int) (A5 : Option Addr) (c5 : Nat) (l5 : List ByteArray) (A6 : Option Addr) (c6 : Nat) (l6 : List S52) (A7 : Option Addr) (c7 : Nat) (l7 : List S46) (A8 : Option Addr) (c8 : Nat) (l8 : List S86) (A9 : Option Addr) (c9 : Nat) (l9 : List S77) (r : ByteArray) (w : World) (hr5 : Kd.C Kd.string w A5 l5.length l5) (hc5 : l5.length ≤ c5) (hr6 : Kd.C k52 w A6 l6.length l6) (hc6 : l6.length ≤ c6) (hr7 : Kd.C k46 w A7 l7.length l7) (hc7 : l7.length ≤ c7) (hr8 : Kd.C k86 w A8 l8.length l8) (hc8 : l8.length ≤ c8) (hr9 : Kd.C k77 w A9 l9.length l9) (hc9 : l9.length ≤ c9) (h : xm.f k a0 a1 a2 a3 a4 l5 l6 l7 l8 l9 = some r) :
  Calls Tryz.prog 61 #[.agg #[], .agg #[.int .i64 a0, .int .i64 a1, .int .i64 a2, .int .i64 a3, .int .i64 a4, .slice A5 l5.length c5, .slice A6 l6.length c6, .slice A7 l7.length c7, .slice A8 l8.length c8, .slice A9 l9.length c9]] w fun e w' => e = .returned (.string r) ∧ Below w.heap.size w w' := by
 unfold xm.f at h
 rw [zdJ] at h
 obtain ⟨t, ht, h⟩ := h
 by_cases hz : t.size ≤ 140737488351232
 case neg =>
  rw [if_neg hz] at h
  cases h
 rw [if_pos hz, zdJ] at h
 obtain ⟨b, hf, h⟩ := h
 obtain rfl := Option.some.inj h
 obtain ⟨y, hy⟩ : ∃ y, ([a3, a4, (l7.length : Int)] : List Int) = y := ⟨_, rfl⟩
 rw [hy] at ht
 have Hy := za.mk hy
 have HT := za.mk ht
 have HF := za.mk hf
 have HZ := za.mk (show t.size ≤ maxLen by simp only [maxLen]; omega)
 have HR := za.mk hr7
 have HC := za.mk hc7
 have HLEN := za.mk hr7.2.1
 have HB := za.mk (Below.refl w.heap.size w)
 have hcv := fun W : World => Lib.run_convert_string_bytes (P := Tryz.prog) W 9 41 5 t Tryz.underlying9 Tryz.underlying41 Tryz.underlying5
 clear h hy ht hf hz hr5 hc5 hr6 hc6 hr7 hc7 hr8 hc8 hr9 hc9
 obtain ⟨i0, hi, hz0, hz1, hz2⟩ := info_parts Jp
 go_enter Tryz.func61, Tryz.ntmps61
 go_wp2_with (first | ((with_reducible refine zJ (N := 2) rfl ?_); refine yg ?hg (N := 2) ?hd (cs := #[]) (t := 94) ?hr ?_; (case hd => rfl); (case hg => rfl); (case hr => first | (go_simp; done) | (go_simp; rfl)); intro g_z hg_ w1_ hbox_ hb_; have n0_ := za.mk (zp HB.out hb_); have n1_ := za.mk ((by rw [hg_]; exact HB.out.size : w.heap.size ≤ g_z)); have n2_ := za.mk (hbox_); (try clear HB); (try clear GE_z); (try clear BK_z); have HB := n0_; have GE_z := n1_; have BK_z := n2_; clear n0_ n1_ n2_; clear hbox_ hb_ hg_) | ((with_reducible refine zJ (N := 3) rfl ?_); refine yg ?hg (N := 3) ?hd (cs := #[.int .i64 a0, .int .i64 a1, .int .i64 a2, .int .i64 a3, .int .i64 a4, .slice A5 l5.length c5, .slice A6 l6.length c6, .slice A7 l7.length c7, .slice A8 l8.length c8, .slice A9 l9.length c9]) (t := 28) ?hr ?_; (case hd => rfl); (case hg => rfl); (case hr => first | (go_simp; done) | (go_simp; rfl)); intro g_f hg_ w2_ hbox_ hb_; have n0_ := za.mk (zp HB.out hb_); have n1_ := za.mk ((by rw [hg_]; exact HB.out.size : w.heap.size ≤ g_f)); have n2_ := za.mk (hbox_); (try clear HB); (try clear GE_f); (try clear BK_f); have HB := n0_; have GE_f := n1_; have BK_f := n2_; clear n0_ n1_ n2_; clear hbox_ hb_ hg_; obtain ⟨hc_f_0, hc_f_1, hc_f_2, hc_f_3, hc_f_4, hc_f_5, hc_f_6, hc_f_7, hc_f_8, hc_f_9, hf_f_0, hf_f_1, hf_f_2, hf_f_3, hf_f_4, hf_f_5, hf_f_6, hf_f_7, hf_f_8, hf_f_9⟩ := qD BK_f.out) | ((with_reducible refine zJ (N := 19) rfl ?_); refine Kd.R_lit (Kd.int .i64) _ 3 ?hg (N := 19) ?hd (xs := ([a3, a4, (l7.length : Int)] : List Int)) (inner := [.int .i64 a3, .int .i64 a4, .int .i64 (l7.length : Int)]) (ok := fun _ => True) (okp := fun _ => True) ?hr ?hp (fun _ hk => hk) trivial (Below.refl _ _) (Nat.le_refl _) (by simp) ?_; (case hd => rfl); (case hg => rfl); (case hr => first | (go_simp; done) | (go_simp; rfl)); (case hp => exact (zS.one (show Kd.M (Kd.int .i64) _ _ _ a3 [.int .i64 a3] from rfl) (zS.one (show Kd.M (Kd.int .i64) _ _ _ a4 [.int .i64 a4] from rfl) (zS.one (show Kd.M (Kd.int .i64) _ _ _ (l7.length : Int) [.int .i64 (l7.length : Int)] from rfl) (zS.none _ _))))); intro v_ w3_ hr_ hb_ hg_ hn_; clear hg_ hn_; (first | rw [Hy.out] at hr_ | (simp only [Int.reduceToNat] at hr_; rw [Hy.out] at hr_)); obtain ⟨A_y, c_y, ev_⟩ := Kd.R_slice hr_; subst ev_; have n0_ := za.mk (zP BK_f.out hb_); have n1_ := za.mk (zp HB.out hb_); have n2_ := za.mk (Kd.R_lower hr_ HB.out.size); (try clear BK_f); (try clear HB); (try clear HR_y); have BK_f := n0_; have HB := n1_; have HR_y := n2_; clear n0_ n1_ n2_; (try clear hc_f_0 hc_f_1 hc_f_2 hc_f_3 hc_f_4 hc_f_5 hc_f_6 hc_f_7 hc_f_8 hc_f_9 hf_f_0 hf_f_1 hf_f_2 hf_f_3 hf_f_4 hf_f_5 hf_f_6 hf_f_7 hf_f_8 hf_f_9); (try clear hb_ hr_); obtain ⟨hc_f_0, hc_f_1, hc_f_2, hc_f_3, hc_f_4, hc_f_5, hc_f_6, hc_f_7, hc_f_8, hc_f_9, hf_f_0, hf_f_1, hf_f_2, hf_f_3, hf_f_4, hf_f_5, hf_f_6, hf_f_7, hf_f_8, hf_f_9⟩ := qD BK_f.out) | (go_at_call 18; (with_reducible refine (zx.calls k _ _ y t _ ?side1 ?side2 HT.out).mono ?_); (case side1 => exact (Kd.R_reads' HR_y.out).2.2); (case side2 => exact (Kd.R_reads' HR_y.out).2.1); rintro e_ w4_ ⟨rfl, hb_⟩; have n0_ := za.mk (zP BK_f.out hb_); have n1_ := za.mk (Kd.R_below HR_y.out hb_); have n2_ := za.mk (zp HB.out hb_); (try clear BK_f); (try clear HR_y); (try clear HB); have BK_f := n0_; have HR_y := n1_; have HB := n2_; clear n0_ n1_ n2_; (try clear hc_f_0 hc_f_1 hc_f_2 hc_f_3 hc_f_4 hc_f_5 hc_f_6 hc_f_7 hc_f_8 hc_f_9 hf_f_0 hf_f_1 hf_f_2 hf_f_3 hf_f_4 hf_f_5 hf_f_6 hf_f_7 hf_f_8 hf_f_9); (try clear hb_); obtain ⟨hc_f_0, hc_f_1, hc_f_2, hc_f_3, hc_f_4, hc_f_5, hc_f_6, hc_f_7, hc_f_8, hc_f_9, hf_f_0, hf_f_1, hf_f_2, hf_f_3, hf_f_4, hf_f_5, hf_f_6, hf_f_7, hf_f_8, hf_f_9⟩ := qD BK_f.out; have HM1 := za.mk (yv.of_bytes w4_ w.heap.size 5 t HB.out.size HZ.out); have HB2 := za.mk (xW HB.out HB.out.size 5 t); have hcw := ((xW (Below.refl w4_.heap.size w4_) (Nat.le_refl _) 5 t).cell (zdK _ _ hc_f_7)).trans hc_f_7))
 have hcv0 := za.mk hcv
 clear hcv
 (try clear hc_f_0 hc_f_1 hc_f_2 hc_f_3 hc_f_4 hc_f_5 hc_f_6 hc_f_7 hc_f_8 hc_f_9 hf_f_0 hf_f_1 hf_f_2 hf_f_3 hf_f_4 hf_f_5 hf_f_6 hf_f_7 hf_f_8 hf_f_9)
 go_loopg [5, 25] l7.length (fun kq vb vi wr => ∃ (i : Nat) (xs : List Int), vi = .int .i64 i ∧ za (i + kq = l7.length) ∧ za (xF (xY k) (l7.drop i) xs = some b) ∧ za (yv wr w.heap.size 5 vb (yp .u8 xs)) ∧ za (Below w.heap.size w wr))
 case atStart => exact ⟨0, bytesOf t, rfl, ⟨by simp⟩, ⟨by rw [List.drop_zero]; exact HF.out⟩, ⟨by rw [← xQ]; exact HM1.out⟩, HB2⟩
 case round =>
  clear HB2 HM1 HB BK_f HR_y hcw
  obtain ⟨i, xs, rfl, HK, HO, HM, HB0⟩ := hrel
  have hil : i ≤ l7.length := by have := HK.out; omega
  by_cases hlt : i < l7.length
  ·have HRR := za.mk (Kd.C_below HR.out HB0.out)
   obtain ⟨ad, A2, c2, rfl, x0, x1, x2, x3, x4, hll, hin⟩ := Zr HRR.out (i : Int) (by omega) (by omega)
   rw [Int.toNat_natCast] at x0 x1 x2 x3 x4
   have ho := HO.out
   rw [List.drop_eq_getElem_cons hlt, xF, zdJ] at ho
   obtain ⟨t1, ht1, ho⟩ := ho
   have HO2 := za.mk ho
   have hq : xH l7 (i : Int) = l7[i] := by simp [xH, hlt]
   rw [hq] at x0 x1 x2 x3 x4 hll hin
   obtain ⟨x, hx⟩ : ∃ x, x = l7[i] := ⟨_, rfl⟩
   rw [← hx] at ht1 x0 x1 x2 x3 x4 hll hin
   unfold xY at ht1
   rw [zdJ] at ht1
   obtain ⟨⟨t_, te⟩, hp1, ht1⟩ := ht1
   rw [zdJ] at ht1
   obtain ⟨⟨v_, ve⟩, hp2, ht1⟩ := ht1
   rw [zdJ] at ht1
   obtain ⟨n_, hp3, ht1⟩ := ht1
   dsimp only at ht1
   by_cases f1 : xs.length + n_.size ≤ 140737488355328
   case neg =>
    rw [if_neg f1] at ht1
    cases ht1
   rw [if_pos f1] at ht1
   by_cases f2 : (xs ++ bytesOf n_).length + t_.size ≤ 140737488355328
   case neg =>
    rw [if_neg f2] at ht1
    cases ht1
   rw [if_pos f2] at ht1
   by_cases f3 : ((xs ++ bytesOf n_) ++ bytesOf t_).length + v_.size ≤ 140737488355328
   case neg =>
    rw [if_neg f3] at ht1
    cases ht1
   rw [if_pos f3] at ht1
   rw [zdJ] at ht1
   obtain ⟨m_, hp4, ht1⟩ := ht1
   by_cases f4 : (((xs ++ bytesOf n_) ++ bytesOf t_) ++ bytesOf v_).length + m_.size ≤ 140737488355328
   case neg =>
    rw [if_neg f4] at ht1
    cases ht1
   rw [if_pos f4] at ht1
   obtain rfl := Option.some.inj ht1
   obtain ⟨y1, hy1⟩ : ∃ y1, ([x.f0] : List Int) = y1 := ⟨_, rfl⟩
   obtain ⟨y2, hy2⟩ : ∃ y2, ([x.f3, x.f4] : List Int) = y2 := ⟨_, rfl⟩
   rw [hy1] at hp3
   rw [hy2] at hp4
   have Hy1 := za.mk hy1
   have Hy2 := za.mk hy2
   have HP1 := za.mk hp1
   have HF1 := za.mk f1
   have HP2 := za.mk hp2
   have HF2 := za.mk f2
   have HP3 := za.mk hp3
   have HF3 := za.mk f3
   have HP4 := za.mk hp4
   have HF4 := za.mk f4
   clear ht1 hy1 hy2 hp1 hp2 hp3 hp4 f1 f2 f3 f4
   have HI := za.mk hin
   have HL := za.mk hll
   have HB := za.mk (Below.refl wr.heap.size wr)
   have HBW := za.mk (Below.trans HB0.out (HB.out.mono HB0.out.size))
   clear ho hin hll hq hx HO HRR
   go_wp2_with (first
    | ((with_reducible refine zJ (N := 7) rfl ?_); refine yg ?hg (N := 7) ?hd (cs := #[.int .i64 0, .string ⟨#[]⟩, .slice none 0 0, .int .i64 0, .int .i64 0]) (t := 46) ?hr ?_; (case hd => rfl); (case hg => rfl); (case hr => first | (go_simp; done) | (go_simp; rfl)); intro g_x hg_ w1_ hbox_ hb_; have n0_ := za.mk (zp HB.out hb_); have n1_ := za.mk ((by rw [hg_]; exact HB.out.size : wr.heap.size ≤ g_x)); have n2_ := za.mk (hbox_); (try clear HB); (try clear GE_x); (try clear BK_x); have HB := n0_; have GE_x := n1_; have BK_x := n2_; clear n0_ n1_ n2_; clear hbox_ hb_ hg_; obtain ⟨hc_x_0, hc_x_1, hc_x_2, hc_x_3, hc_x_4, hf_x_0, hf_x_1, hf_x_2, hf_x_3, hf_x_4⟩ := Zc BK_x.out)
    | ((with_reducible refine jV (t := 46) (p := 7) rfl ?_); refine jv (t := 46) (p := 7) (v := ?vo_w2_) (w1 := (((((w1_.setCell ⟨g_x, 0, none⟩ (.int .i64 x.f0)).setCell ⟨g_x, 1, none⟩ (.string x.f1)).setCell ⟨g_x, 2, none⟩ (.slice A2 x.f2.length c2)).setCell ⟨g_x, 3, none⟩ (.int .i64 x.f3)).setCell ⟨g_x, 4, none⟩ (.int .i64 x.f4))) ?hg ?ho ?hn ?hr ?_; (case ho => rfl); (case hg => rfl); (case hn => rfl); (case hr => first | (go_simp; done) | (go_simp; rfl)); intro w2_ hw_; have n0_ : za (w2_.heap[g_x]? = some (.cells #[.int .i64 x.f0, .string x.f1, .slice A2 x.f2.length c2, .int .i64 x.f3, .int .i64 x.f4] 46 (0, 0))) := ⟨(by rw [hw_]; exact (yH (cs' := #[.int .i64 x.f0, .string x.f1, .slice A2 x.f2.length c2, .int .i64 x.f3, .int .i64 x.f4]) (yH (cs' := #[.int .i64 x.f0, .string x.f1, .slice A2 x.f2.length c2, .int .i64 x.f3, .int .i64 0]) (yH (cs' := #[.int .i64 x.f0, .string x.f1, .slice A2 x.f2.length c2, .int .i64 0, .int .i64 0]) (yH (cs' := #[.int .i64 x.f0, .string x.f1, .slice none 0 0, .int .i64 0, .int .i64 0]) (yH (cs' := #[.int .i64 x.f0, .string ⟨#[]⟩, .slice none 0 0, .int .i64 0, .int .i64 0]) (BK_x.out) 0 _ rfl) 1 _ rfl) 2 _ rfl) 3 _ rfl) 4 _ rfl))⟩; have n1_ : za (Below wr.heap.size wr w2_) := ⟨(by rw [hw_]; exact (zq (g := g_x) (j := 4) (zq (g := g_x) (j := 3) (zq (g := g_x) (j := 2) (zq (g := g_x) (j := 1) (zq (g := g_x) (j := 0) (HB.out) GE_x.out) GE_x.out) GE_x.out) GE_x.out) GE_x.out))⟩; (try clear BK_x); (try clear HB); have BK_x := n0_; have HB := n1_; clear n0_ n1_; (try clear hc_x_0 hc_x_1 hc_x_2 hc_x_3 hc_x_4 hf_x_0 hf_x_1 hf_x_2 hf_x_3 hf_x_4); clear hw_; obtain ⟨hc_x_0, hc_x_1, hc_x_2, hc_x_3, hc_x_4, hf_x_0, hf_x_1, hf_x_2, hf_x_3, hf_x_4⟩ := Zc BK_x.out)
    | (go_at_call 103; (with_reducible refine (yQ.calls x.f1 t_ te _ HP1.out).mono ?_); rintro e_ w3_ ⟨rfl, hb_⟩; have n0_ := za.mk (zP BK_x.out hb_); have n1_ := za.mk (zp HB.out hb_); (try clear BK_x); (try clear HB); have BK_x := n0_; have HB := n1_; clear n0_ n1_; (try clear hc_x_0 hc_x_1 hc_x_2 hc_x_3 hc_x_4 hf_x_0 hf_x_1 hf_x_2 hf_x_3 hf_x_4); (try clear hb_); obtain ⟨hc_x_0, hc_x_1, hc_x_2, hc_x_3, hc_x_4, hf_x_0, hf_x_1, hf_x_2, hf_x_3, hf_x_4⟩ := Zc BK_x.out)
    | (go_at_call 104; (with_reducible refine (yr.calls k A2 c2 x.f2 v_ ve _ ?side1 HL.out HP2.out).mono ?_); (case side1 => exact Kd.C_below HI.out HB.out); rintro e_ w4_ ⟨rfl, hb_⟩; have n0_ := za.mk (zP BK_x.out hb_); have n1_ := za.mk (zp HB.out hb_); (try clear BK_x); (try clear HB); have BK_x := n0_; have HB := n1_; clear n0_ n1_; (try clear hc_x_0 hc_x_1 hc_x_2 hc_x_3 hc_x_4 hf_x_0 hf_x_1 hf_x_2 hf_x_3 hf_x_4); (try clear hb_); obtain ⟨hc_x_0, hc_x_1, hc_x_2, hc_x_3, hc_x_4, hf_x_0, hf_x_1, hf_x_2, hf_x_3, hf_x_4⟩ := Zc BK_x.out)
    | ((with_reducible refine zJ (N := 44) rfl ?_); refine Kd.R_lit (Kd.int .i64) _ 3 ?hg (N := 44) ?hd (xs := ([x.f0] : List Int)) (inner := [.int .i64 x.f0]) (ok := fun _ => True) (okp := fun _ => True) ?hr ?hp (fun _ hk => hk) trivial (Below.refl _ _) (Nat.le_refl _) (by simp) ?_; (case hd => rfl); (case hg => rfl); (case hr => first | (go_simp; done) | (go_simp; rfl)); (case hp => exact (zS.one (show Kd.M (Kd.int .i64) _ _ _ x.f0 [.int .i64 x.f0] from rfl) (zS.none _ _))); intro v_ w5_ hr_ hb_ hg_ hn_; clear hg_ hn_; (first | rw [Hy1.out] at hr_ | (simp only [Int.reduceToNat] at hr_; rw [Hy1.out] at hr_)); obtain ⟨A_y1, c_y1, ev_⟩ := Kd.R_slice hr_; subst ev_; have n0_ := za.mk (zP BK_x.out hb_); have n1_ := za.mk (zp HB.out hb_); have n2_ := za.mk (Kd.R_lower hr_ HB.out.size); (try clear BK_x); (try clear HB); (try clear HR_y1); have BK_x := n0_; have HB := n1_; have HR_y1 := n2_; clear n0_ n1_ n2_; (try clear hc_x_0 hc_x_1 hc_x_2 hc_x_3 hc_x_4 hf_x_0 hf_x_1 hf_x_2 hf_x_3 hf_x_4); (try clear hb_ hr_); obtain ⟨hc_x_0, hc_x_1, hc_x_2, hc_x_3, hc_x_4, hf_x_0, hf_x_1, hf_x_2, hf_x_3, hf_x_4⟩ := Zc BK_x.out)
    | (go_at_call 18; (with_reducible refine (zx.calls k _ _ y1 n_ _ ?side1 ?side2 HP3.out).mono ?_); (case side1 => exact (Kd.R_reads' HR_y1.out).2.2); (case side2 => exact (Kd.R_reads' HR_y1.out).2.1); rintro e_ w6_ ⟨rfl, hb_⟩; have n0_ := za.mk (zP BK_x.out hb_); have n1_ := za.mk (Kd.R_below HR_y1.out hb_); have n2_ := za.mk (zp HB.out hb_); (try clear BK_x); (try clear HR_y1); (try clear HB); have BK_x := n0_; have HR_y1 := n1_; have HB := n2_; clear n0_ n1_ n2_; (try clear hc_x_0 hc_x_1 hc_x_2 hc_x_3 hc_x_4 hf_x_0 hf_x_1 hf_x_2 hf_x_3 hf_x_4); (try clear hb_); obtain ⟨hc_x_0, hc_x_1, hc_x_2, hc_x_3, hc_x_4, hf_x_0, hf_x_1, hf_x_2, hf_x_3, hf_x_4⟩ := Zc BK_x.out; clear HBW; have HBW := za.mk (Below.trans HB0.out (HB.out.mono HB0.out.size)); have HMc := za.mk (HM.out.below HB.out); clear HB HR_y1; have HB := HBW; clear HBW)
    | ((with_reducible refine zJ (N := 46) rfl ?_); refine yG _ rfl (.tmp 41) (.tmp 45) 41 9 rfl w.heap.size 5 i0 Tryz.underlying41 Tryz.underlying9 hi hz0 hz1 hz2 _ (yp .u8 xs) rfl (HMc.out) n_ rfl (by rw [xw]; exact HF1.out) HB.out.size ?_; intro v_n46 w7_ hm_ hg_; rw [qO] at hm_; have n0_ := za.mk (ZI BK_x.out hg_ (HMc.out.ne_blk BK_x.out (by decide))); have n1_ := za.mk (HB.out.grown hg_ HB.out.size (fun k hk => HMc.out.base_le k hk)); have n2_ := za.mk (hm_); (try clear BK_x); (try clear HB); (try clear HMc); have BK_x := n0_; have HB := n1_; have HMc := n2_; clear n0_ n1_ n2_; (try clear hc_x_0 hc_x_1 hc_x_2 hc_x_3 hc_x_4 hf_x_0 hf_x_1 hf_x_2 hf_x_3 hf_x_4); clear hm_ hg_; obtain ⟨hc_x_0, hc_x_1, hc_x_2, hc_x_3, hc_x_4, hf_x_0, hf_x_1, hf_x_2, hf_x_3, hf_x_4⟩ := Zc BK_x.out)
    | ((with_reducible refine zJ (N := 48) rfl ?_); refine yG _ rfl (.tmp 46) (.tmp 47) 41 9 rfl w.heap.size 5 i0 Tryz.underlying41 Tryz.underlying9 hi hz0 hz1 hz2 _ (yp .u8 (xs ++ bytesOf n_)) rfl (HMc.out) t_ rfl (by rw [xw]; exact HF2.out) HB.out.size ?_; intro v_n48 w8_ hm_ hg_; rw [qO] at hm_; have n0_ := za.mk (ZI BK_x.out hg_ (HMc.out.ne_blk BK_x.out (by decide))); have n1_ := za.mk (HB.out.grown hg_ HB.out.size (fun k hk => HMc.out.base_le k hk)); have n2_ := za.mk (hm_); (try clear BK_x); (try clear HB); (try clear HMc); have BK_x := n0_; have HB := n1_; have HMc := n2_; clear n0_ n1_ n2_; (try clear hc_x_0 hc_x_1 hc_x_2 hc_x_3 hc_x_4 hf_x_0 hf_x_1 hf_x_2 hf_x_3 hf_x_4); clear hm_ hg_; obtain ⟨hc_x_0, hc_x_1, hc_x_2, hc_x_3, hc_x_4, hf_x_0, hf_x_1, hf_x_2, hf_x_3, hf_x_4⟩ := Zc BK_x.out)
    | ((with_reducible refine zJ (N := 50) rfl ?_); refine yG _ rfl (.tmp 48) (.tmp 49) 41 9 rfl w.heap.size 5 i0 Tryz.underlying41 Tryz.underlying9 hi hz0 hz1 hz2 _ (yp .u8 ((xs ++ bytesOf n_) ++ bytesOf t_)) rfl (HMc.out) v_ rfl (by rw [xw]; exact HF3.out) HB.out.size ?_; intro v_n50 w9_ hm_ hg_; rw [qO] at hm_; have n0_ := za.mk (ZI BK_x.out hg_ (HMc.out.ne_blk BK_x.out (by decide))); have n1_ := za.mk (HB.out.grown hg_ HB.out.size (fun k hk => HMc.out.base_le k hk)); have n2_ := za.mk (hm_); (try clear BK_x); (try clear HB); (try clear HMc); have BK_x := n0_; have HB := n1_; have HMc := n2_; clear n0_ n1_ n2_; (try clear hc_x_0 hc_x_1 hc_x_2 hc_x_3 hc_x_4 hf_x_0 hf_x_1 hf_x_2 hf_x_3 hf_x_4); clear hm_ hg_; obtain ⟨hc_x_0, hc_x_1, hc_x_2, hc_x_3, hc_x_4, hf_x_0, hf_x_1, hf_x_2, hf_x_3, hf_x_4⟩ := Zc BK_x.out)
    | ((with_reducible refine zJ (N := 56) rfl ?_); refine Kd.R_lit (Kd.int .i64) _ 3 ?hg (N := 56) ?hd (xs := ([x.f3, x.f4] : List Int)) (inner := [.int .i64 x.f3, .int .i64 x.f4]) (ok := fun _ => True) (okp := fun _ => True) ?hr ?hp (fun _ hk => hk) trivial (Below.refl _ _) (Nat.le_refl _) (by simp) ?_; (case hd => rfl); (case hg => rfl); (case hr => first | (go_simp; done) | (go_simp; rfl)); (case hp => exact (zS.one (show Kd.M (Kd.int .i64) _ _ _ x.f3 [.int .i64 x.f3] from rfl) (zS.one (show Kd.M (Kd.int .i64) _ _ _ x.f4 [.int .i64 x.f4] from rfl) (zS.none _ _)))); intro v_ w10_ hr_ hb_ hg_ hn_; clear hg_ hn_; (first | rw [Hy2.out] at hr_ | (simp only [Int.reduceToNat] at hr_; rw [Hy2.out] at hr_)); obtain ⟨A_y2, c_y2, ev_⟩ := Kd.R_slice hr_; subst ev_; have n0_ := za.mk (zP BK_x.out hb_); have n1_ := za.mk (zp HB.out hb_); have n2_ := za.mk (HMc.out.below hb_); have n3_ := za.mk (Kd.R_lower hr_ HB.out.size); (try clear BK_x); (try clear HB); (try clear HMc); (try clear HR_y2); have BK_x := n0_; have HB := n1_; have HMc := n2_; have HR_y2 := n3_; clear n0_ n1_ n2_ n3_; (try clear hc_x_0 hc_x_1 hc_x_2 hc_x_3 hc_x_4 hf_x_0 hf_x_1 hf_x_2 hf_x_3 hf_x_4); (try clear hb_ hr_); obtain ⟨hc_x_0, hc_x_1, hc_x_2, hc_x_3, hc_x_4, hf_x_0, hf_x_1, hf_x_2, hf_x_3, hf_x_4⟩ := Zc BK_x.out)
    | (go_at_call 18; (with_reducible refine (zx.calls k _ _ y2 m_ _ ?side1 ?side2 HP4.out).mono ?_); (case side1 => exact (Kd.R_reads' HR_y2.out).2.2); (case side2 => exact (Kd.R_reads' HR_y2.out).2.1); rintro e_ w11_ ⟨rfl, hb_⟩; have n0_ := za.mk (zP BK_x.out hb_); have n1_ := za.mk (Kd.R_below HR_y2.out hb_); have n2_ := za.mk (zp HB.out hb_); have n3_ := za.mk (HMc.out.below hb_); (try clear BK_x); (try clear HR_y2); (try clear HB); (try clear HMc); have BK_x := n0_; have HR_y2 := n1_; have HB := n2_; have HMc := n3_; clear n0_ n1_ n2_ n3_; (try clear hc_x_0 hc_x_1 hc_x_2 hc_x_3 hc_x_4 hf_x_0 hf_x_1 hf_x_2 hf_x_3 hf_x_4); (try clear hb_); obtain ⟨hc_x_0, hc_x_1, hc_x_2, hc_x_3, hc_x_4, hf_x_0, hf_x_1, hf_x_2, hf_x_3, hf_x_4⟩ := Zc BK_x.out)
    | ((with_reducible refine zJ (N := 58) rfl ?_); refine yG _ rfl (.tmp 51) (.tmp 57) 41 9 rfl w.heap.size 5 i0 Tryz.underlying41 Tryz.underlying9 hi hz0 hz1 hz2 _ (yp .u8 (((xs ++ bytesOf n_) ++ bytesOf t_) ++ bytesOf v_)) rfl (HMc.out) m_ rfl (by rw [xw]; exact HF4.out) HB.out.size ?_; intro v_n58 w12_ hm_ hg_; rw [qO] at hm_; have n0_ := za.mk (ZI BK_x.out hg_ (HMc.out.ne_blk BK_x.out (by decide))); have n1_ := za.mk (HB.out.grown hg_ HB.out.size (fun k hk => HMc.out.base_le k hk)); have n2_ := za.mk (hm_); (try clear BK_x); (try clear HB); (try clear HMc); have BK_x := n0_; have HB := n1_; have HMc := n2_; clear n0_ n1_ n2_; (try clear hc_x_0 hc_x_1 hc_x_2 hc_x_3 hc_x_4 hf_x_0 hf_x_1 hf_x_2 hf_x_3 hf_x_4); clear hm_ hg_; obtain ⟨hc_x_0, hc_x_1, hc_x_2, hc_x_3, hc_x_4, hf_x_0, hf_x_1, hf_x_2, hf_x_3, hf_x_4⟩ := Zc BK_x.out))
   go_roundg (l7.length - (i + 1))
   case measure => have := HK.out; omega
   case rel => exact ⟨i + 1, _, by have h_ : wrap64 ((i : Int) + 1) = ((i + 1 : Nat) : Int) := z9 (by omega) (by have := HLEN.out; omega); first | (rw [h_]) | (simp only [h_]), ⟨by have := HK.out; omega⟩, HO2, HMc, HB⟩
  ·obtain rfl : i = l7.length := by omega
   have ho := HO.out
   rw [List.drop_length, xF] at ho
   obtain rfl := Option.some.inj ho
   have hcs := yv.to_string (P := Tryz.prog) Tryz.underlying41 Tryz.underlying5 Tryz.underlying9 HM.out
   go_wp2
   go_ret
   exact ⟨rfl, HB0.out⟩
end Go.Proofs.YtepipnpfggnadaaGreat.Q
