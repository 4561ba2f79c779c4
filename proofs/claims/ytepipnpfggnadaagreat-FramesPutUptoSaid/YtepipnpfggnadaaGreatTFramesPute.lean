/- Texts of this session laid together (shrink.py): what the claim's law rests on. -/
import Derived.Below
import Derived.Deep.Draws
import Derived.Deep.AppendLies
import Derived.Maps.AppendAt
import Derived.OwnWalk
import Derived.Laws.BytesArg
import Derived.Laws.MakeOwn
import Derived.Laws.OwnMore
import Derived.Deep.OwnRows
import Derived.Tactics
import Derived.Lib.ConvBytes
import Derived.Laws.Slices
import Derived.WalkKit
import Derived.KernelRfl
import Derived.RowKit3
import Derived.Deep.LoopGhost
import Derived.Deep.QuietTactic
import Derived.BigQuiet
import Derived.WideLaws
import Derived.Deep.DeepCutAuto
import Derived.Deep.CutBlock
import Derived.Deep.RegionHeld3
import Derived.Laws.Rows
import Derived.Lib.AppendStr
import Derived.ArgAppend
import Derived.Laws.IdiomCopy
import Derived.RowKit
import Derived.OrdersHeld
import Derived.Laws.BitsLemmas
import Derived.Laws.StructEq
import Derived.Test.YtepipnpfggnadaaGreatProg
import Derived.WalkMore
import Derived.Lib.Strings
import Derived.Test.YtepipnpfggnadaaGreatTFramesPutd
set_option linter.unusedVariables false
set_option linter.unusedSimpArgs false
set_option maxRecDepth 100000
set_option maxHeartbeats 8000000
open List renaming setIfInBounds_toArray → zdG
open List renaming set_cons_zero → zdH
open List renaming set_cons_succ → zdI
open List renaming map_toArray → zdJ
open Option renaming bind_eq_some_iff → zdK
open Go.World renaming block_lt_of_cell? → zdL
open Bool renaming eq_false_iff → zdM
open List renaming length_append → zdN
namespace Go.Proofs.YtepipnpfggnadaaGreat.Q
open Go.RowKit Go.Proofs.YtepipnpfggnadaaGreatW.PrintWords Go.Proofs.YtepipnpfggnadaaGreatW.PrintLast Go.Proofs.YtepipnpfggnadaaGreatW.PrintMore
def Vb (e : Int) (s : ByteArray) (n : Nat) (q c : Int) : Bool := (e == 0) && ((decide (0 < n) == xq s) && ((decide (0 < n) || s.toList == ([] : List UInt8)) && (inB q 0 1099511627776 && (inB c 0 63 && (((c == 0) || (!decide (0 < n) && decide (0 < q))) && (decide (0 < n) || decide (0 < q)))))))
def ql.f (k : Nat) (_a0 : Int) (a1 : ByteArray) (l2 : List S108) (a3 a4 : Int) : Option Bool := (yJ.f k l2).bind fun t => some (Vb t.2 a1 l2.length a3 a4)
theorem ql.calls (k : Nat) (a0 : Int) (a1 : ByteArray) (A2 : Option Addr) (c2 : Nat) (l2 : List S108) (a3 a4 : Int) (r : Bool) (w : World) (hr : Kd.C k108 w A2 l2.length l2) (hl : l2.length ≤ c2) (h : ql.f k a0 a1 l2 a3 a4 = some r) :
  Calls Tryz.prog 129 #[.agg #[.int .i64 a0, .string a1, .slice A2 l2.length c2, .int .i64 a3, .int .i64 a4]] w fun e w' => e = .returned (.bool r) ∧ Below w.heap.size w w' := by
 unfold ql.f at h
 rw [zdK] at h
 obtain ⟨⟨y, e⟩, hp, h⟩ := h
 obtain rfl := Option.some.inj h
 clear h
 have HS := Sat.nil w
 have HP := za.mk hp
 have HR := za.mk hr
 have HL := za.mk hl
 clear hp hr hl
 unfold Vb
 generalize gp : (e == 0) = p
 have gp2 : (e != 0) = !p := by rw [← gp]; rfl
 generalize gz : (a1.toList == ([] : List UInt8)) = z
 have gz2 : (a1.toList != ([] : List UInt8)) = !z := by rw [← gz]; rfl
 generalize gm : (a4 == 0) = m
 generalize gq : (decide (0 < a3)) = q
 generalize gn : (decide (0 < l2.length)) = n
 generalize gt : (xq a1) = t
 generalize gu : (inB a3 0 1099511627776) = u
 generalize gv : (inB a4 0 63) = v
 have gn2 : decide ((0 : Int) < (l2.length : Int)) = n := by rw [← gn]; exact decide_eq_decide.mpr (by omega)
 replace gt := za.mk gt
 replace gu := za.mk gu
 replace gv := za.mk gv
 cases p
 case' true => cases n
 case' true.true => cases t
 case' true.true.true => cases u
 case' true.true.true.true => cases v
 case' true.true.true.true.true => cases m
 case' true.false => cases t
 case' true.false.false => cases z
 case' true.false.false.true => cases u
 case' true.false.false.true.true => cases v
 case' true.false.false.true.true.true => cases m <;> cases q
 all_goals
  go_enter Tryz.func129, Tryz.ntmps129
  go_wp2_with ((first | ((with_reducible refine gB rfl ?_); refine zz HS ?_) | ((with_reducible refine gA rfl ?_); refine zt HS ?_) | ((with_reducible refine gS rfl ?_); refine zu HS ?_) | (go_at_call 104; refine HS.go (yJ.calls k A2 c2 l2 y e _ (Kd.C_below HR.out HS.below) HL.out HP.out) ?_) | (go_at_call 166; refine HS.go (Ve gt.out) ?_) | (go_at_call 128; refine HS.go0 (ZZ gu.out) ?_) | (go_at_call 38; refine HS.go0 (YT gv.out) ?_)); clear HS; (try clear hc); intros; rename_i HS; have hc := HS.lk; simp only [Lk, LkC, Value.cells, List.toList_toArray, Nat.reduceAdd, Nat.zero_add, and_true, zf, zg, ze, zh] at HS hc)
  go_ret
  exact ⟨by first | rfl | simp, HS.below⟩
def Qg (fr up : Int) : Option Int → List S46 → Bool → Prop
 | _, [], r => r = true
 | p, y :: l, r => ∃ k e, ql.f k y.f0 y.f1 y.f2 y.f3 y.f4 = some e ∧ (((e && (decide (fr ≤ y.f0) && (decide (y.f0 < up) && qx p y.f0))) = false ∧ r = false) ∨ ((e && (decide (fr ≤ y.f0) && (decide (y.f0 < up) && qx p y.f0))) = true ∧ Qg fr up (some y.f0) l r))
def VP (x : Fm) (r : Bool) : Prop := ∃ b, Qg x.f3 x.f4 none x.f7 b ∧ r = (b && (inB x.f3 0 1099511627776 && (inB x.f4 0 1099511627776 && (decide (x.f3 ≤ x.f4) && decide ((x.f7.length : Int) ≤ 16)))))
theorem zaf {x : Fm} {r : Bool} {w : World} {cs : List Value} (h : VP x r) (hx : FmC w x cs) : Calls Tryz.prog 98 #[.agg #[], .agg cs.toArray] w fun e w' => e = .returned (.bool r) ∧ Below w.heap.size w w' := by
 obtain ⟨v5, v6, v7, v8, v9, rfl, h5, h6, h7, h8, h9⟩ := hx
 obtain ⟨g, hg, rfl⟩ := h
 obtain ⟨A, c, rfl, hl, hr⟩ := h7
 have HR := za.mk hr
 have HLEN := za.mk hr.2.1
 have HG := za.mk hg
 have HS := Sat.nil w
 clear hr hg hl h5 h6 h8 h9
 go_enter Tryz.func98, Tryz.ntmps98
 go_wp2_with ((first | ((with_reducible refine gB rfl ?_); refine zz HS ?_) | ((with_reducible refine gA rfl ?_); refine zt HS ?_) | ((with_reducible refine gS rfl ?_); refine zu HS ?_)); clear HS; (try clear hc); intros; rename_i HS; have hc := HS.lk; simp only [Lk, LkC, Value.cells, List.toList_toArray, Nat.reduceAdd, Nat.zero_add, and_true, zf, zg, ze, zh] at HS hc)
 rename_i gz _ gf _ _ _
 have HZ := za.mk HS
 clear HS hc
 go_loopg [10] x.f7.length (fun kq vi wr => ∃ i : Nat, vi = .int .i64 i ∧ za (i + kq = x.f7.length) ∧ za (Qg x.f3 x.f4 (if i = 0 then none else some (xb x.f7 ((i - 1 : Nat) : Int)).f0) (x.f7.drop i) g) ∧ za (Sat [] w wr [(gf, [.int .i64 x.f0, .int .i64 x.f1, .int .i64 x.f2, .int .i64 x.f3, .int .i64 x.f4, v5, v6, .slice A x.f7.length c, v8, v9], 28), (gz, [], 94)] []))
 case atStart => exact ⟨0, rfl, ⟨by simp⟩, ⟨by rw [if_pos rfl, List.drop_zero]; exact HG.out⟩, HZ⟩
 case round =>
  clear HZ HG
  obtain ⟨i, rfl, HK, HO, HT⟩ := hrel
  have HS := HT.out
  clear HT
  have hc := HS.lk; simp only [Lk, LkC, Value.cells, List.toList_toArray, Nat.reduceAdd, Nat.zero_add, and_true, zf, zg, ze, zh] at HS hc
  have hil : i ≤ x.f7.length := by have := HK.out; omega
  by_cases hlt : i < x.f7.length
  ·obtain ⟨ad, A4, c4, e0, x0, x1, x2, x3, x4, hll, hin⟩ := vV HR.out (i : Int) (by omega) (by omega)
   subst e0
   have hd1 : xb x.f7 ((i : Nat) : Int) = x.f7[i] := by simp [xb, hlt]
   have ho := HO.out
   rw [List.drop_eq_getElem_cons hlt] at ho
   rw [Int.toNat_natCast] at x0 x1 x2 x3 x4
   rw [hd1] at x0 x1 x2 x3 x4 hll hin
   obtain ⟨y, hy⟩ : ∃ y, y = x.f7[i] := ⟨_, rfl⟩
   rw [← hy] at ho x0 x1 x2 x3 x4 hll hin
   obtain ⟨k, e, hp, ho⟩ := ho
   have HP := za.mk hp
   have HI := za.mk hin
   have HL := za.mk hll
   replace x0 := HS.at_ x0
   replace x1 := HS.at_ x1
   replace x2 := HS.at_ x2
   replace x3 := HS.at_ x3
   replace x4 := HS.at_ x4
   have HN : za ((some y.f0) = (if i + 1 = 0 then none else some (xb x.f7 ((i + 1 - 1 : Nat) : Int)).f0)) := ⟨by rw [if_neg (by omega), show i + 1 - 1 = i from rfl, hd1, ← hy]⟩
   have b0 : (0 : Int) ≤ (i : Int) := by omega
   have b1 : (i : Int) < (x.f7.length : Int) := by omega
   clear hp hin hll HO hy hd1
   generalize hq1 : decide (x.f3 ≤ y.f0) = q at ho
   have hq2 : decide (y.f0 < x.f3) = !q := by rw [← hq1, Bool.eq_iff_iff]; simp
   generalize hu1 : decide (y.f0 < x.f4) = u at ho
   have hu2 : decide (x.f4 ≤ y.f0) = !u := by rw [← hu1, Bool.eq_iff_iff]; simp
   have hu3 : decide (y.f0 ≥ x.f4) = !u := hu2
   go_upto_region 4 with ((first | ((with_reducible refine gB rfl ?_); refine zz HS ?_) | ((with_reducible refine gA rfl ?_); refine zt HS ?_) | ((with_reducible refine gS rfl ?_); refine zu HS ?_)); clear HS; (try clear hc); intros; rename_i HS; have hc := HS.lk; simp only [Lk, LkC, Value.cells, List.toList_toArray, Nat.reduceAdd, Nat.zero_add, and_true, zf, zg, ze, zh] at HS hc)
   clear x0 x1 x2 x3 x4
   obtain ⟨gx, rfl⟩ := HS.hd
   by_cases hi0 : i = 0
   ·rw [if_pos hi0] at ho
    have ht1 : qx none y.f0 = true := rfl
    rw [ht1] at ho
    have j4 : ¬ (0 : Int) < (i : Int) := by omega
    have j5 : decide (0 < i) = false := decide_eq_false (by omega)
    have j6 : decide ((0 : Int) < (i : Int)) = false := decide_eq_false (by omega)
    clear hi0
    cases e
    case' true => cases q
    case' true.true => cases u
    all_goals
     clear hc
     replace HS := HS.drewN 1
     refine jx (.op 0 0 15 (.op 1 2 16 (.op 2 1 17 (.op 3 1 18 (.op 4 1 19 (.op 5 0 20 (.op 6 1 21 (.op 7 0 22 (.op 8 1 23 (.op 9 1 24 (.op 10 1 25 (.op 11 1 26 (.op 12 0 27 (.op 13 1 28 (.op 14 0 29 (.op 15 1 30 (.op 16 1 31 (.op 17 1 32 (.op 18 1 33 (.op 19 1 34 (.op 20 1 35 (.op 21 1 36 (.op 22 0 37 (.op 23 1 38 (.op 24 0 39 (.op 25 1 40 (.op 26 1 41 (.op 27 1 42 (.op 28 1 43 (.op 29 0 44 (.op 30 1 45 (.op 31 1 46 (.op 32 1 47 .nil))))))))))))))))))))))))))))))))) [] (fun W => Lk W [(gx, [.int .i64 y.f0, .string y.f1, .slice A4 y.f2.length c4, .int .i64 y.f3, .int .i64 y.f4], 46), (gf, [.int .i64 x.f0, .int .i64 x.f1, .int .i64 x.f2, .int .i64 x.f3, .int .i64 x.f4, v5, v6, .slice (some ad) x.f7.length c, v8, v9], 28)]) ((fun w' H => (H.off (.cons_cons _ (.cons_cons _ (.cons _ .slnil)))).lk) _ HS) (fun hS => ?_)
     (repeat (first | refine RT.tk ?_ | refine RT.tn ?_ | refine RT.pu ?_ | refine RT.pn ?_ | (refine RT.o1 ?_; refine xU HS (fun w' H => (H.off (.cons_cons _ (.cons_cons _ (.cons _ .slnil)))).lk) (ql.calls k y.f0 y.f1 A4 c4 y.f2 y.f3 y.f4 _ _ (Kd.C_below HI.out HS.below) HL.out HP.out) ?_; clear HS hS; intro w_ hS HS; refine RT.nm ?_)))
     refine RT.nil ?_
     clear hS
     go_wp2
     first
     | (go_ret; exact ⟨by rcases ho with ⟨_, h_⟩ | ⟨h_, _⟩ <;> first | (rw [h_]; rfl) | (simp at h_; done), HS.below⟩)
     | (go_roundg (x.f7.length - (i + 1)); (case measure => have := HK.out; omega); (case rel => exact ⟨i + 1, by have h_ : wrap64 ((i : Int) + 1) = ((i + 1 : Nat) : Int) := z4 (by omega) (by have := HLEN.out; omega); first | (rw [h_]) | (simp only [h_]) | rfl, ⟨by have := HK.out; omega⟩, ⟨by rw [← HN.out]; rcases ho with ⟨h_, _⟩ | ⟨_, h_⟩ <;> first | exact h_ | (simp at h_; done)⟩, ⟨HS.off (.cons _ (List.Sublist.refl _))⟩⟩))
   ·rw [if_neg hi0] at ho
    obtain ⟨j, hij⟩ : ∃ j, i = j + 1 := ⟨i - 1, by omega⟩
    obtain ⟨ad2, _, _, e2, px, -⟩ := vV HR.out (j : Int) (by omega) (by omega)
    obtain rfl : ad = ad2 := by injection e2
    rw [Int.toNat_natCast] at px
    rw [show i - 1 = j by omega] at ho
    generalize (xb x.f7 (j : Int)).f0 = sp at ho px
    have j0 : (0 : Int) ≤ (j : Int) := by omega
    have j1 : (j : Int) < (x.f7.length : Int) := by omega
    have j2 : wrap64 ((i : Int) - 1) = (j : Int) := by have := HLEN.out; rw [xo (by omega) (by omega)]; omega
    have j3 := (zT _).trans j2
    have j4 : (0 : Int) < (i : Int) := by omega
    have j5 : decide (0 < i) = true := decide_eq_true (by omega)
    have j6 : decide ((0 : Int) < (i : Int)) = true := decide_eq_true (by omega)
    generalize ht1 : qx (some sp) y.f0 = t at ho
    have ht2 : decide (y.f0 ≤ sp) = !t := by rw [← ht1, qx, Bool.eq_iff_iff]; simp
    clear e2 hi0 hij
    cases e
    case' true => cases q
    case' true.true => cases u
    case' true.true.true => cases t
    all_goals
     clear hc
     replace HS := HS.drewN 1
     refine jx (.op 0 0 15 (.op 1 2 16 (.op 2 1 17 (.op 3 1 18 (.op 4 1 19 (.op 5 0 20 (.op 6 1 21 (.op 7 0 22 (.op 8 1 23 (.op 9 1 24 (.op 10 1 25 (.op 11 1 26 (.op 12 0 27 (.op 13 1 28 (.op 14 0 29 (.op 15 1 30 (.op 16 1 31 (.op 17 1 32 (.op 18 1 33 (.op 19 1 34 (.op 20 1 35 (.op 21 1 36 (.op 22 0 37 (.op 23 1 38 (.op 24 0 39 (.op 25 1 40 (.op 26 1 41 (.op 27 1 42 (.op 28 1 43 (.op 29 0 44 (.op 30 1 45 (.op 31 1 46 (.op 32 1 47 .nil))))))))))))))))))))))))))))))))) [] (fun W => Lk W [(gx, [.int .i64 y.f0, .string y.f1, .slice A4 y.f2.length c4, .int .i64 y.f3, .int .i64 y.f4], 46), (gf, [.int .i64 x.f0, .int .i64 x.f1, .int .i64 x.f2, .int .i64 x.f3, .int .i64 x.f4, v5, v6, .slice (some ad) x.f7.length c, v8, v9], 28)] ∧ W.cell? (ad.add (j * 5)) = some (.int .i64 sp)) ((fun w' H => ⟨(H.off (.cons_cons _ (.cons_cons _ (.cons _ .slnil)))).lk, H.at_ px⟩) _ HS) (fun hS => ?_)
     (repeat (first | refine RT.tk ?_ | refine RT.tn ?_ | refine RT.pu ?_ | refine RT.pn ?_ | (refine RT.o1 ?_; refine xU HS (fun w' H => ⟨(H.off (.cons_cons _ (.cons_cons _ (.cons _ .slnil)))).lk, H.at_ px⟩) (ql.calls k y.f0 y.f1 A4 c4 y.f2 y.f3 y.f4 _ _ (Kd.C_below HI.out HS.below) HL.out HP.out) ?_; clear HS hS; intro w_ hS HS; refine RT.nm ?_)))
     refine RT.nil ?_
     clear hS px
     go_wp2
     first
     | (go_ret; exact ⟨by rcases ho with ⟨_, h_⟩ | ⟨h_, _⟩ <;> first | (rw [h_]; rfl) | (simp at h_; done), HS.below⟩)
     | (go_roundg (x.f7.length - (i + 1)); (case measure => have := HK.out; omega); (case rel => exact ⟨i + 1, by have h_ : wrap64 ((i : Int) + 1) = ((i + 1 : Nat) : Int) := z4 (by omega) (by have := HLEN.out; omega); first | (rw [h_]) | (simp only [h_]) | rfl, ⟨by have := HK.out; omega⟩, ⟨by rw [← HN.out]; rcases ho with ⟨h_, _⟩ | ⟨_, h_⟩ <;> first | exact h_ | (simp at h_; done)⟩, ⟨HS.off (.cons _ (List.Sublist.refl _))⟩⟩))
  ·obtain rfl : i = x.f7.length := by omega
   have ho := HO.out
   rw [List.drop_length] at ho
   obtain rfl : g = true := ho
   clear HO
   generalize hp1 : inB x.f3 0 1099511627776 = p
   generalize hq1 : inB x.f4 0 1099511627776 = q
   generalize hu1 : decide (x.f3 ≤ x.f4) = u
   cases p
   case' true => cases q
   case' true.true => cases u
   all_goals
    go_wp2_with ((first | (go_at_call 128; refine HS.go0 (ZZ hp1) ?_) | (go_at_call 128; refine HS.go0 (ZZ hq1) ?_)); clear HS; (try clear hc); intros; rename_i HS; have hc := HS.lk; simp only [Lk, LkC, Value.cells, List.toList_toArray, Nat.reduceAdd, Nat.zero_add, and_true, zf, zg, ze, zh] at HS hc)
    go_ret
    exact ⟨by (try rw [hp1]); (try rw [hq1]); (try rw [hu1]); rfl, HS.below⟩
def Ys (x : Fm) (r : Bool) : Prop := (x.f0 = 1 ∧ VB x r) ∨ (x.f0 = 2 ∧ zaE x r) ∨ (x.f0 = 3 ∧ zcP x r) ∨ (x.f0 = 4 ∧ VP x r) ∨ (x.f0 = 5 ∧ VD x r)
theorem Ys.calls {x : Fm} {r : Bool} {w : World} {cs : List Value} (h : Ys x r) (hx : FmC w x cs) : Calls Tryz.prog 54 #[.agg cs.toArray] w fun e w' => e = .returned (.bool r) ∧ Below w.heap.size w w' := by
 have HX := hx
 obtain ⟨v5, v6, v7, v8, v9, rfl, h5, h6, h7, h8, h9⟩ := hx
 clear h5 h6 h7 h8 h9
 replace HX := za.mk HX
 have HS := Sat.nil w
 rcases h with ⟨c, h⟩ | ⟨c, h⟩ | ⟨c, h⟩ | ⟨c, h⟩ | ⟨c, h⟩
 ·replace h := za.mk h
  have c1 : (x.f0 == 1) = true := by rw [c]; rfl
  clear c
  go_enter Tryz.func54, Tryz.ntmps54
  go_wp2_with ((first | ((with_reducible refine gB rfl ?_); refine zz HS ?_) | ((with_reducible refine gA rfl ?_); refine zt HS ?_) | ((with_reducible refine gS rfl ?_); refine zu HS ?_) | (go_at_call 95; refine HS.go (zas h.out (HX.out.below HS.below)) ?_)); clear HS; (try clear hc); intros; rename_i HS; have hc := HS.lk; simp only [Lk, LkC, Value.cells, List.toList_toArray, Nat.reduceAdd, Nat.zero_add, and_true, zf, zg, ze, zh] at HS hc)
  go_ret
  exact ⟨rfl, HS.below⟩
 ·replace h := za.mk h
  have c1 : (x.f0 == 1) = false := by rw [c]; rfl
  have c2 : (x.f0 == 2) = true := by rw [c]; rfl
  clear c
  go_enter Tryz.func54, Tryz.ntmps54
  go_wp2_with ((first | ((with_reducible refine gB rfl ?_); refine zz HS ?_) | ((with_reducible refine gA rfl ?_); refine zt HS ?_) | ((with_reducible refine gS rfl ?_); refine zu HS ?_) | (go_at_call 96; refine HS.go (zaX h.out (HX.out.below HS.below)) ?_)); clear HS; (try clear hc); intros; rename_i HS; have hc := HS.lk; simp only [Lk, LkC, Value.cells, List.toList_toArray, Nat.reduceAdd, Nat.zero_add, and_true, zf, zg, ze, zh] at HS hc)
  go_ret
  exact ⟨rfl, HS.below⟩
 ·replace h := za.mk h
  have c1 : (x.f0 == 1) = false := by rw [c]; rfl
  have c2 : (x.f0 == 2) = false := by rw [c]; rfl
  have c3 : (x.f0 == 3) = true := by rw [c]; rfl
  clear c
  go_enter Tryz.func54, Tryz.ntmps54
  go_wp2_with ((first | ((with_reducible refine gB rfl ?_); refine zz HS ?_) | ((with_reducible refine gA rfl ?_); refine zt HS ?_) | ((with_reducible refine gS rfl ?_); refine zu HS ?_) | (go_at_call 97; refine HS.go (zcB h.out (HX.out.below HS.below)) ?_)); clear HS; (try clear hc); intros; rename_i HS; have hc := HS.lk; simp only [Lk, LkC, Value.cells, List.toList_toArray, Nat.reduceAdd, Nat.zero_add, and_true, zf, zg, ze, zh] at HS hc)
  go_ret
  exact ⟨rfl, HS.below⟩
 ·replace h := za.mk h
  have c1 : (x.f0 == 1) = false := by rw [c]; rfl
  have c2 : (x.f0 == 2) = false := by rw [c]; rfl
  have c3 : (x.f0 == 3) = false := by rw [c]; rfl
  have c4 : (x.f0 == 4) = true := by rw [c]; rfl
  clear c
  go_enter Tryz.func54, Tryz.ntmps54
  go_wp2_with ((first | ((with_reducible refine gB rfl ?_); refine zz HS ?_) | ((with_reducible refine gA rfl ?_); refine zt HS ?_) | ((with_reducible refine gS rfl ?_); refine zu HS ?_) | (go_at_call 98; refine HS.go (zaf h.out (HX.out.below HS.below)) ?_)); clear HS; (try clear hc); intros; rename_i HS; have hc := HS.lk; simp only [Lk, LkC, Value.cells, List.toList_toArray, Nat.reduceAdd, Nat.zero_add, and_true, zf, zg, ze, zh] at HS hc)
  go_ret
  exact ⟨rfl, HS.below⟩
 ·replace h := za.mk h
  have c1 : (x.f0 == 1) = false := by rw [c]; rfl
  have c2 : (x.f0 == 2) = false := by rw [c]; rfl
  have c3 : (x.f0 == 3) = false := by rw [c]; rfl
  have c4 : (x.f0 == 4) = false := by rw [c]; rfl
  have c5 : (x.f0 == 5) = true := by rw [c]; rfl
  clear c
  go_enter Tryz.func54, Tryz.ntmps54
  go_wp2_with ((first | ((with_reducible refine gB rfl ?_); refine zz HS ?_) | ((with_reducible refine gA rfl ?_); refine zt HS ?_) | ((with_reducible refine gS rfl ?_); refine zu HS ?_) | (go_at_call 99; refine HS.go (zau h.out (HX.out.below HS.below)) ?_)); clear HS; (try clear hc); intros; rename_i HS; have hc := HS.lk; simp only [Lk, LkC, Value.cells, List.toList_toArray, Nat.reduceAdd, Nat.zero_add, and_true, zf, zg, ze, zh] at HS hc)
  go_ret
  exact ⟨rfl, HS.below⟩
theorem Yi {a b c : Int} (h : ¬ (b ≤ a ∧ a ≤ c)) : yb.f a b c = some false := by
 unfold yb.f
 by_cases h1 : a ≥ b
 ·rw [if_pos h1, decide_eq_false (fun h2 => h ⟨h1, h2⟩)]
 ·rw [if_neg h1]
theorem jw {a b c : Int} (h : b ≤ a ∧ a ≤ c) : yb.f a b c = some true := by
 unfold yb.f
 rw [if_pos h.1, decide_eq_true h.2]
def qT (x : Fm) : Bool := (x.f3 == (if (x.f0 == 1 || x.f0 == 4) then x.f3 else 0)) && ((x.f0 == 1 || x.f0 == 3 || x.f0 == 4 || x.f0 == 5 || x.f4 == 0) && ((x.f0 == 1 || x.f5.isEmpty) && ((x.f0 == 2 || x.f6.isEmpty) && ((x.f0 == 4 || x.f7.isEmpty) && ((x.f0 == 5 || x.f8.isEmpty) && (x.f0 == 5 || x.f9.isEmpty))))))
def qz (x : Fm) : Prop := (0 ≤ x.f1 ∧ x.f1 ≤ 5) ∧ (1 ≤ x.f2 ∧ x.f2 ≤ 1099511627776) ∧ (1 ≤ x.f0 ∧ x.f0 ≤ 5)
def ZB (x : Fm) (r : Bool) : Prop := (¬ qz x ∧ r = false) ∨ (qz x ∧ qT x = false ∧ r = false) ∨ (qz x ∧ qT x = true ∧ Ys x r)
theorem zcH {x : Fm} {S : Sl} {w : World} (h : ¬ qz x) : Calls Tryz.prog 16 #[.agg (fmS x S).toArray] w fun e w' => e = .returned (.bool false) ∧ Below w.heap.size w w' := by
 have HS := Sat.nil w
 unfold qz at h
 go_enter Tryz.func16, Tryz.ntmps16
 go_upto_region 1 with ((first | ((with_reducible refine gB rfl ?_); refine zz HS ?_) | ((with_reducible refine gA rfl ?_); refine zt HS ?_) | ((with_reducible refine gS rfl ?_); refine zu HS ?_)); clear HS; (try clear hc); intros; rename_i HS; have hc := HS.lk; simp only [Lk, LkC, Value.cells, List.toList_toArray, Nat.reduceAdd, Nat.zero_add, and_true, zf, zg, ze, zh] at HS hc)
 by_cases c0 : 0 ≤ x.f1 ∧ x.f1 ≤ 5
 case neg =>
  have w0 := za.mk (Yi c0)
  clear h
  go_wp2_with ((first | (go_at_call 38; refine HS.go0 (yb.calls _ _ _ _ _ w0.out) ?_)); clear HS; (try clear hc); intros; rename_i HS; have hc := HS.lk; simp only [Lk, LkC, Value.cells, List.toList_toArray, Nat.reduceAdd, Nat.zero_add, and_true, zf, zg, ze, zh] at HS hc)
  go_ret
  exact ⟨rfl, HS.below⟩
 by_cases c1 : 1 ≤ x.f2 ∧ x.f2 ≤ 1099511627776
 case neg =>
  have w0 := za.mk (jw c0)
  have w1 := za.mk (Yi c1)
  clear h
  go_wp2_with ((first | (go_at_call 38; refine HS.go0 (yb.calls _ _ _ _ _ w0.out) ?_) | (go_at_call 38; refine HS.go0 (yb.calls _ _ _ _ _ w1.out) ?_)); clear HS; (try clear hc); intros; rename_i HS; have hc := HS.lk; simp only [Lk, LkC, Value.cells, List.toList_toArray, Nat.reduceAdd, Nat.zero_add, and_true, zf, zg, ze, zh] at HS hc)
  go_ret
  exact ⟨rfl, HS.below⟩
 by_cases c2 : 1 ≤ x.f0 ∧ x.f0 ≤ 5
 case neg =>
  have w0 := za.mk (jw c0)
  have w1 := za.mk (jw c1)
  have w2 := za.mk (Yi c2)
  clear h
  go_wp2_with ((first | (go_at_call 38; refine HS.go0 (yb.calls _ _ _ _ _ w0.out) ?_) | (go_at_call 38; refine HS.go0 (yb.calls _ _ _ _ _ w1.out) ?_) | (go_at_call 38; refine HS.go0 (yb.calls _ _ _ _ _ w2.out) ?_)); clear HS; (try clear hc); intros; rename_i HS; have hc := HS.lk; simp only [Lk, LkC, Value.cells, List.toList_toArray, Nat.reduceAdd, Nat.zero_add, and_true, zf, zg, ze, zh] at HS hc)
  go_ret
  exact ⟨rfl, HS.below⟩
 exact absurd ⟨c0, c1, c2⟩ h
theorem ZC {x : Fm} {S : Sl} {k3 k4 : Int} {B5 B6 B7 B8 B9 : Option Addr} {n5 d5 n6 d6 n7 d7 n8 d8 n9 d9 : Nat} {b r : Bool} {w : World} (h : qz x) (ho : Zb x S = [.int .i64 0, .int .i64 0, .int .i64 0, .int .i64 k3, .int .i64 k4, .slice B5 n5 d5, .slice B6 n6 d6, .slice B7 n7 d7, .slice B8 n8 d8, .slice B9 n9 d9])
  (hs : ∀ w', Below w.heap.size w w' → Calls Tryz.prog 15 #[.agg #[.int .i64 x.f0, .int .i64 x.f1, .int .i64 x.f2, .int .i64 k3, .int .i64 k4, .slice B5 n5 d5, .slice B6 n6 d6, .slice B7 n7 d7, .slice B8 n8 d8, .slice B9 n9 d9], .agg (fmS x S).toArray] w' fun e w2 => e = .returned (.bool b) ∧ Below w'.heap.size w' w2) (hr : b = true → ∀ w', Below w.heap.size w w' → Calls Tryz.prog 54 #[.agg (fmS x S).toArray] w' fun e w2 => e = .returned (.bool r) ∧ Below w'.heap.size w' w2) :
  Calls Tryz.prog 16 #[.agg (fmS x S).toArray] w fun e w' => e = .returned (.bool (b && r)) ∧ Below w.heap.size w w' := by
 have HS := Sat.nil w
 have w0 := za.mk (jw h.1)
 have w1 := za.mk (jw h.2.1)
 have w2 := za.mk (jw h.2.2)
 clear h
 have HO := fun W => zaS x S W
 rw [ho] at HO
 clear ho
 replace HO := za.mk HO
 replace hs := za.mk hs
 replace hr := za.mk hr
 go_enter Tryz.func16, Tryz.ntmps16
 cases b
 all_goals
  go_wp2_with (first | ((first | ((with_reducible refine gB rfl ?_); refine zz HS ?_) | ((with_reducible refine gA rfl ?_); refine zt HS ?_) | ((with_reducible refine gS rfl ?_); refine zu HS ?_) | (go_at_call 38; refine HS.go0 (yb.calls _ _ _ _ _ w0.out) ?_) | (go_at_call 38; refine HS.go0 (yb.calls _ _ _ _ _ w1.out) ?_) | (go_at_call 38; refine HS.go0 (yb.calls _ _ _ _ _ w2.out) ?_) | (go_at_call 53; refine HS.go (HO.out _) ?_) | (go_at_call 15; refine HS.go (hs.out _ HS.below) ?_) | (go_at_call 54; refine HS.go (hr.out (by simp) _ HS.below) ?_)); clear HS; (try clear hc); intros; rename_i HS; have hc := HS.lk; simp only [Lk, LkC, Value.cells, List.toList_toArray, Nat.reduceAdd, Nat.zero_add, and_true, zf, zg, ze, zh] at HS hc) | (refine yE (.op 0 0 22 (.op 1 0 23 (.op 2 0 24 (.op 3 0 25 (.op 4 0 26 (.op 5 0 27 (.op 6 0 28 (.op 7 4 0 (.op 8 1 29 (.op 9 4 0 (.op 10 1 30 (.op 11 4 0 .nil)))))))))))) [] HS (.cons _ (List.Sublist.refl _)) ?_; clear HS hc; intro HS hS; (repeat (first | refine RT.tk ?_ | refine RT.pu ?_ | (refine RT.o4 ?_; intro K hK; refine xG HS ?_; clear HS hS; intro w_ HS; simp only [Lk, LkC, Value.cells, List.toList_toArray, Nat.reduceAdd, Nat.zero_add, and_true, zf, zg, ze, zh] at HS; refine hK _ _ (xv (.cons _ (List.Sublist.refl _)) HS.lk) (fun hS => ?_); clear hK))); clear hS; have hc := HS.lk; simp only [Lk, LkC, Value.cells, List.toList_toArray, Nat.reduceAdd, Nat.zero_add, and_true, zf, zg, ze, zh] at HS hc; refine RT.nil ?_))
  go_ret
  exact ⟨rfl, HS.below⟩
theorem ZB.calls {x : Fm} {r : Bool} {w : World} {cs : List Value} (h : ZB x r) (hx : FmC w x cs) : Calls Tryz.prog 16 #[.agg cs.toArray] w fun e w' => e = .returned (.bool r) ∧ Below w.heap.size w w' := by
 have hx0 := hx
 obtain ⟨v5, v6, v7, v8, v9, rfl, h5, h6, h7, h8, h9⟩ := hx
 obtain ⟨A5, c5, rfl, _⟩ := h5.id
 obtain ⟨A6, c6, rfl, _⟩ := h6.id
 obtain ⟨A7, c7, rfl, _⟩ := h7.id
 obtain ⟨A8, c8, rfl, _⟩ := h8.id
 obtain ⟨A9, c9, rfl, _⟩ := h9.id
 rcases h with ⟨hn, rfl⟩ | h
 ·exact zcH (S := ⟨A5, c5, A6, c6, A7, c7, A8, c8, A9, c9⟩) hn
 have hk : qz x := by rcases h with h | h <;> exact h.1
 have core : ∀ b : Bool, qT x = b → (Calls Tryz.prog 16 #[.agg (fmS x ⟨A5, c5, A6, c6, A7, c7, A8, c8, A9, c9⟩).toArray] w fun e w' => e = .returned (.bool (b && r)) ∧ Below w.heap.size w w') := by
  intro b hb0
  have hr : b = true → ∀ w', Below w.heap.size w w' → Calls Tryz.prog 54 #[.agg (fmS x ⟨A5, c5, A6, c6, A7, c7, A8, c8, A9, c9⟩).toArray] w' fun e w2 => e = .returned (.bool r) ∧ Below w'.heap.size w' w2 := by
   rintro rfl w' hb
   rcases h with ⟨_, h1, _⟩ | ⟨_, _, h1⟩
   ·rw [hb0] at h1; cases h1
   ·exact Ys.calls h1 (hx0.below hb)
  have hsf : ∀ a b : Int, (a == b) = decide (a = b) := fun _ _ => rfl
  rcases (by have := hk.2.2; omega : x.f0 = 1 ∨ x.f0 = 2 ∨ x.f0 = 3 ∨ x.f0 = 4 ∨ x.f0 = 5) with c | c | c | c | c
  ·have ho : Zb x ⟨A5, c5, A6, c6, A7, c7, A8, c8, A9, c9⟩ = [.int .i64 0, .int .i64 0, .int .i64 0, .int .i64 x.f3, .int .i64 x.f4, .slice A5 x.f5.length c5, .slice none 0 0, .slice none 0 0, .slice none 0 0, .slice none 0 0] := by simp [Zb, c]
   refine ZC hk ho (fun w' hb => ?_) hr
   have hs := vy (w := w') (beq_self_eq_true x.f0) (beq_self_eq_true x.f1) (beq_self_eq_true x.f2) (a3 := x.f3) (e3 := x.f3) rfl (a4 := x.f4) (e4 := x.f4) rfl (za5 (h5.below hb) (h5.below hb)) (Zl (h6.below hb)) (vY (h7.below hb)) (Zj (h8.below hb)) (Zh (h9.below hb))
   refine hs.mono (fun e w2 he => ⟨he.1.trans ?_, he.2⟩)
   congr 2
   rw [← hb0, Bool.eq_iff_iff]
   simp only [qT, c, Bool.and_eq_true, Bool.or_eq_true, beq_iff_eq, decide_eq_true_eq, List.isEmpty_iff, List.length_eq_zero_iff]
   grind
  ·have ho : Zb x ⟨A5, c5, A6, c6, A7, c7, A8, c8, A9, c9⟩ = [.int .i64 0, .int .i64 0, .int .i64 0, .int .i64 0, .int .i64 0, .slice none 0 0, .slice A6 x.f6.length c6, .slice none 0 0, .slice none 0 0, .slice none 0 0] := by simp [Zb, c]
   refine ZC hk ho (fun w' hb => ?_) hr
   have hs := vy (w := w') (beq_self_eq_true x.f0) (beq_self_eq_true x.f1) (beq_self_eq_true x.f2) (a3 := 0) (e3 := x.f3) rfl (a4 := 0) (e4 := x.f4) rfl (Zf (h5.below hb)) (za9 (h6.below hb) (h6.below hb)) (vY (h7.below hb)) (Zj (h8.below hb)) (Zh (h9.below hb))
   refine hs.mono (fun e w2 he => ⟨he.1.trans ?_, he.2⟩)
   congr 2
   rw [← hb0, Bool.eq_iff_iff]
   simp only [qT, c, Bool.and_eq_true, Bool.or_eq_true, beq_iff_eq, decide_eq_true_eq, List.isEmpty_iff, List.length_eq_zero_iff]
   grind
  ·have ho : Zb x ⟨A5, c5, A6, c6, A7, c7, A8, c8, A9, c9⟩ = [.int .i64 0, .int .i64 0, .int .i64 0, .int .i64 0, .int .i64 x.f4, .slice none 0 0, .slice none 0 0, .slice none 0 0, .slice none 0 0, .slice none 0 0] := by simp [Zb, c]
   refine ZC hk ho (fun w' hb => ?_) hr
   have hs := vy (w := w') (beq_self_eq_true x.f0) (beq_self_eq_true x.f1) (beq_self_eq_true x.f2) (a3 := 0) (e3 := x.f3) rfl (a4 := x.f4) (e4 := x.f4) rfl (Zf (h5.below hb)) (Zl (h6.below hb)) (vY (h7.below hb)) (Zj (h8.below hb)) (Zh (h9.below hb))
   refine hs.mono (fun e w2 he => ⟨he.1.trans ?_, he.2⟩)
   congr 2
   rw [← hb0, Bool.eq_iff_iff]
   simp only [qT, c, Bool.and_eq_true, Bool.or_eq_true, beq_iff_eq, decide_eq_true_eq, List.isEmpty_iff, List.length_eq_zero_iff]
   grind
  ·have ho : Zb x ⟨A5, c5, A6, c6, A7, c7, A8, c8, A9, c9⟩ = [.int .i64 0, .int .i64 0, .int .i64 0, .int .i64 x.f3, .int .i64 x.f4, .slice none 0 0, .slice none 0 0, .slice A7 x.f7.length c7, .slice none 0 0, .slice none 0 0] := by simp [Zb, c]
   refine ZC hk ho (fun w' hb => ?_) hr
   have hs := vy (w := w') (beq_self_eq_true x.f0) (beq_self_eq_true x.f1) (beq_self_eq_true x.f2) (a3 := x.f3) (e3 := x.f3) rfl (a4 := x.f4) (e4 := x.f4) rfl (Zf (h5.below hb)) (Zl (h6.below hb)) (zbe (h7.below hb) (h7.below hb)) (Zj (h8.below hb)) (Zh (h9.below hb))
   refine hs.mono (fun e w2 he => ⟨he.1.trans ?_, he.2⟩)
   congr 2
   rw [← hb0, Bool.eq_iff_iff]
   simp only [qT, c, Bool.and_eq_true, Bool.or_eq_true, beq_iff_eq, decide_eq_true_eq, List.isEmpty_iff, List.length_eq_zero_iff]
   grind
  ·have ho : Zb x ⟨A5, c5, A6, c6, A7, c7, A8, c8, A9, c9⟩ = [.int .i64 0, .int .i64 0, .int .i64 0, .int .i64 0, .int .i64 x.f4, .slice none 0 0, .slice none 0 0, .slice none 0 0, .slice A8 x.f8.length c8, .slice A9 x.f9.length c9] := by simp [Zb, c]
   refine ZC hk ho (fun w' hb => ?_) hr
   have hs := vy (w := w') (beq_self_eq_true x.f0) (beq_self_eq_true x.f1) (beq_self_eq_true x.f2) (a3 := 0) (e3 := x.f3) rfl (a4 := x.f4) (e4 := x.f4) rfl (Zf (h5.below hb)) (Zl (h6.below hb)) (vY (h7.below hb)) (zbl (h8.below hb) (h8.below hb)) (zbI (h9.below hb) (h9.below hb))
   refine hs.mono (fun e w2 he => ⟨he.1.trans ?_, he.2⟩)
   congr 2
   rw [← hb0, Bool.eq_iff_iff]
   simp only [qT, c, Bool.and_eq_true, Bool.or_eq_true, beq_iff_eq, decide_eq_true_eq, List.isEmpty_iff, List.length_eq_zero_iff]
   grind
 rcases h with ⟨_, h1, rfl⟩ | ⟨_, h1, _⟩
 ·exact core false h1
 ·exact core true h1
theorem zdi (w : World) (e : TypeId) (s : ByteArray) (hs : s.size ≤ maxLen) : Kd.C (Kd.int .u8) (Lib.bytesWorld w e s) (some ⟨w.heap.size, 0, none⟩) (bytesOf s).length (bytesOf s) := by
 have h := yL.of_bytes w 0 e s (Nat.zero_le _) hs
 refine ⟨rfl, by rw [yy]; simp only [maxLen] at hs; omega, fun _ => ⟨_, rfl, fun j p hj => ⟨[.int .u8 p], rfl, rfl, fun i u hu => ?_⟩⟩⟩
 have hi : i = 0 := by
  have := (List.getElem?_eq_some_iff.1 hu).1
  simp at this
  omega
 subst hi
 have hu2 : u = .int .u8 p := by simpa using hu.symm
 subst hu2
 refine h.cells (g := w.heap.size) rfl (j * 1 + 0) _ ?_
 rw [qo]
 simp [yH, hj]
def xz.f (k : Nat) (l : List ByteArray) : Option (ByteArray × Int) := (yu.f k l).bind fun c => (qK.f l).bind fun t => if t.1.size ≤ 140737488351232 then yC.f (c.2 == 0) (bytesOf t.1) else none
theorem xz.calls (k : Nat) (A : Option Addr) (c : Nat) (l : List ByteArray) (r1 : ByteArray) (r2 : Int) (w : World) (hr : Kd.C Kd.string w A l.length l) (hc : l.length ≤ c) (h : xz.f k l = some (r1, r2)) :
  Calls Tryz.prog 101 #[.slice A l.length c] w fun e w' => e = .returned (.tuple #[.string r1, .int .i64 r2]) ∧ Below w.heap.size w w' := by
 unfold xz.f at h
 rw [zdK] at h
 obtain ⟨⟨c1, c2⟩, h1, h⟩ := h
 rw [zdK] at h
 obtain ⟨⟨t1, t2⟩, h2, h⟩ := h
 dsimp only at h
 by_cases hz : t1.size ≤ 140737488351232
 ·rw [if_pos hz] at h
  have HX1 := za.mk h1
  have HX2 := za.mk h2
  have HX3 := za.mk h
  have HZ := za.mk (show t1.size ≤ maxLen by simp only [maxLen]; omega)
  have HR := za.mk hr
  have HC := za.mk hc
  have hcv := fun W : World => Lib.run_convert_string_bytes (P := Tryz.prog) W 9 41 5 t1 Tryz.underlying9 Tryz.underlying41 Tryz.underlying5
  clear h h1 h2 hr hc hz
  go_enter Tryz.func101, Tryz.ntmps101
  go_wp2_with (first | (go_at_call 127; (with_reducible refine (yu.calls k A c l c1 c2 _ HR.out HC.out HX1.out).mono ?_); rintro e w1 ⟨rfl, hb⟩; have HB1 := za.mk hb; clear hb) | (go_at_call 131; (with_reducible refine (qK.calls A c l t1 t2 _ (Kd.C_below HR.out HB1.out) HC.out HX2.out).mono ?_); rintro e w2 ⟨rfl, hb⟩; have HB2 := za.mk (zp HB1.out hb); have HB3 := za.mk (qE HB2.out HB2.out.size 5 t1); clear hb) | (go_at_call 132; refine Jb (args' := #[.bool (c2 == 0), .slice (some ⟨w2.heap.size, 0, none⟩) (bytesOf t1).length (grownCap w2 t1.size 0 5)]) (by rw [yy]) ?_; (refine (yC.calls (c2 == 0) _ _ (bytesOf t1) r1 r2 _ (zdi w2 5 t1 HZ.out) (by rw [yy]; exact grownCap_ge w2 t1.size 0 5) HX3.out).mono ?_); rintro e w3 ⟨rfl, ⟨nd, rfl⟩⟩))
  go_ret2
  exact ⟨rfl, by first | exact HB3.out | exact zb HB3.out _⟩
 ·rw [if_neg hz] at h
  cases h
attribute [local go_sem] jM jJ vE vD jm jl jL jO
def zy.l0 : Nat → List Int → List Int → Int → Int → Option (ByteArray)
 | 0, _, _, _, _ => none
 | k + 1, x3, x6, x7, x8 => if x8 < x7 then (if 0 ≤ x8 then (if x8 < (x6.length : Int) then ((yf.f (rd x6 x8)).bind fun t397 => (if x3.length + t397.size < 140737488355328 then (zy.l0 k (x3 ++ bytesOf t397) x6 x7 (wrap64 (x8 + 1))) else (none))) else (none)) else (none)) else (some (strOfNums x3))
def zy.f (k : Nat) (l0 : List Int) : Option (ByteArray) := zy.l0 k ([] : List Int) l0 (l0.length : Int) 0
theorem zy.mono_l : ∀ k, (∀ y0 y1 y2 y3, LeO (zy.l0 k y0 y1 y2 y3) (zy.l0 (k + 1) y0 y1 y2 y3))
 | 0 => fun _ _ _ _ r h => by simp [zy.l0] at h
 | k + 1 => by
  have ih0 := zy.mono_l k
  ·intro y0 y1 y2 y3
   unfold zy.l0
   repeat' first
   | (with_reducible exact ih0 _ _ _ _)
   | (with_reducible exact LeO.refl _)
   | (with_reducible exact LeO.none _)
   | (with_reducible refine LeO.ite ?_ ?_)
   | (with_reducible refine LeO.bind ?_ (fun _ => ?_))
   | exact ih0 _ _ _ _
   | exact LeO.none _
   | refine LeO.ite ?_ ?_
   | refine LeO.bind ?_ (fun _ => ?_)
theorem zy.mono : ∀ a0 k, LeO (zy.f k a0) (zy.f (k + 1) a0) := by
 intro a0 k
 have ih0 := zy.mono_l k
 unfold zy.f
 repeat' first
   | (with_reducible exact ih0 _ _ _ _)
   | (with_reducible exact LeO.refl _)
   | (with_reducible exact LeO.none _)
   | (with_reducible refine LeO.ite ?_ ?_)
   | (with_reducible refine LeO.bind ?_ (fun _ => ?_))
   | exact ih0 _ _ _ _
   | exact LeO.none _
   | refine LeO.ite ?_ ?_
   | refine LeO.bind ?_ (fun _ => ?_)
theorem zy.calls (k : Nat) (A0 : Option Addr) (c0 : Nat) (l0 : List Int) (r : ByteArray) (w : World) (hr0 : Kd.C (Kd.int .i64) w A0 l0.length l0) (hc0 : l0.length ≤ c0) (h : zy.f k l0 = some r) :
  Calls Tryz.prog 18 #[.slice A0 l0.length c0] w fun e w' => e = .returned (.string r) ∧ Below w.heap.size w w' := by
 have HR0 := za.mk hr0
 have HC0 := za.mk hc0
 clear hr0 hc0
 have HB := za.mk (Below.refl w.heap.size w)
 have H : (zy.l0 k ([] : List Int) l0 (l0.length : Int) 0) = some r := h
 clear h
 have H' := za.mk H
 clear H
 go_enter Tryz.func18, Tryz.ntmps18
 go_wp2
 go_loopg [3, 8] k (fun kq v3 v8 w' => ∃ (x3_1 : List Int) (x8_1 : Int), v8 = .int .i64 x8_1 ∧ za (zy.l0 kq x3_1 l0 (l0.length : Int) x8_1 = some r) ∧ za (kq ≤ k) ∧ za (Kd.R (Kd.int .u8) 5 w' w.heap.size (fun _ => True) v3 x3_1) ∧ za (Below w.heap.size w w'))
 case atStart => exact ⟨(([] : List Int)), (0), (by first | rfl | (simp; done) | (simp [*]; done)), H', ⟨Nat.le_refl _⟩, ⟨by first | exact Kd.R_nil _ _ _ _ _ | exact Kd.N_nil _ _ _ _ _ | exact Kd.V_nil _ _ _ _ _ | exact Kd.Q_nil _ _ _ _ _ | exact Kd.S_nil _ _ _ _ _⟩, ⟨by repeat (first | (with_reducible first | exact HB.out | apply zc | apply zb | apply zd) | exact HB.out)⟩⟩
 case round =>
  clear H'
  try clear c1
  obtain ⟨x3_1, x8_1, rfl, HA, HK1, HO_3, HB⟩ := hrel
  cases gk with
  | zero => exact absurd HA.out (by simp [zy.l0])
  | succ k1 =>
   have H := HA.out
   clear HA
   simp only [zy.l0] at H
   by_cases c2 : x8_1 < (l0.length : Int)
   ·rw [if_pos c2] at H
    have c2b0 : decide (x8_1 < (l0.length : Int)) = true := decide_eq_true c2
    clear c2
    by_cases c3 : 0 ≤ x8_1
    ·rw [if_pos c3] at H
     have c3b0 : decide (0 ≤ x8_1) = true := decide_eq_true c3
     clear c3
     by_cases c4 : x8_1 < (l0.length : Int)
     ·rw [if_pos c4] at H
      have c4b0 : decide (x8_1 < (l0.length : Int)) = true := decide_eq_true c4
      clear c4
      replace H := zdK.mp H
      obtain ⟨t397, A50, H⟩ := H
      replace H : (if x3_1.length + t397.size < 140737488355328 then (zy.l0 k1 (x3_1 ++ bytesOf t397) l0 (l0.length : Int) (wrap64 (x8_1 + 1))) else (none)) = some r := H
      have A5 := za.mk A50
      clear A50
      by_cases c6 : x3_1.length + t397.size < 140737488355328
      ·rw [if_pos c6] at H
       have LMc6 := za.mk c6
       clear c6
       obtain ⟨y398, hy398⟩ : ∃ y_ : List Int, y_ = (x3_1 ++ bytesOf t397) := ⟨_, rfl⟩
       replace H : (zy.l0 k1 y398 l0 (l0.length : Int) (wrap64 (x8_1 + 1))) = some r := by first | (rw [hy398]; with_reducible exact H) | (have H2_ := (Option.bind_some _ _).symm.trans H; rw [hy398]; with_reducible exact H2_) | (have H2_ := (Option.bind_some _ _).symm.trans H; with_reducible exact H2_) | with_reducible exact H | (rw [hy398]; exact H) | exact H
       have Ny398 := za.mk hy398
       clear hy398
       have H' := za.mk H
       clear H
       have p396 : 0 ≤ (x8_1 : Int) := of_decide_eq_true (by first | (with_reducible assumption) | assumption)
       have q396 : x8_1 < (l0.length : Int) := of_decide_eq_true (by first | (with_reducible assumption) | assumption)
       obtain ⟨ad396, e396, hx396_0⟩ := Kd.at_int HR0.out x8_1 p396 q396
       cases e396
       replace hx396_0 := (HB.out.cell (zdL w _ hx396_0)).trans hx396_0
       replace p396 := eq_true p396
       replace q396 := eq_true q396
       go_wp2_with (first | ((with_reducible refine zr (f := 57) rfl ?_); refine zL (some 14) rfl rfl Tryz.func57 (by kernel_rfl) rfl #[.int .i64 (rd l0 x8_1)] rfl (by (try simp only [zdJ, List.map_cons, List.map_nil]); first | done | rfl | (simp only [List.length_drop, List.length_take]; rfl)) ?_; (with_reducible refine (yf.calls (rd l0 x8_1) t397 _ A5.out).mono ?_); rintro e w7 ⟨rfl, hb⟩; refine ⟨_, rfl, ?_⟩; have n0_ := za.mk (Kd.R_below (by (with_reducible repeat (first | apply Kd.R_alloc | apply Kd.R_drewN | apply Kd.R_drew)); exact HO_3.out) hb); have n1_ := za.mk (zp (by repeat (first | (with_reducible first | exact HB.out | apply zc | apply zb | apply zd) | exact HB.out)) hb); clear HO_3; clear HB; have HO_3 := n0_; have HB := n1_; clear n0_ n1_; (try clear hb); (try clear hb2); (try clear hk); (try clear hi)) | (at_builtin; refine jT (w0 := w) w.heap.size rfl (.tmp 12) _ 41 9 5 rfl Tryz.underlying41 Tryz.underlying9 XT u3 x3_1 t397 rfl rfl ?aO ?aB ?aS ?aL ?_; (case aB => exact (by repeat (first | (with_reducible first | exact HB.out | apply zc | apply zb | apply zd) | exact HB.out))); (case aO => exact (Kd.own_of_R (by (with_reducible repeat (first | apply Kd.R_alloc | apply Kd.R_drewN | apply Kd.R_drew)); exact HO_3.out))); (case aS => exact (zF (by repeat (first | (with_reducible first | exact HB.out | apply zc | apply zb | apply zd) | exact HB.out)))); (case aL => have := LMc6.out; omega); intro v399 w8 ho0 hb hg hat; have ho := Kd.R_of_own (h1 := fun _ => rfl) (ok := fun _ => True) ho0 (fun _ _ => trivial); clear ho0; rw [← Ny398.out] at ho; change Kd.R (Kd.int .u8) 5 w8 w.heap.size (fun _ => True) v399 y398 at ho; have n0_ := za.mk (hb); have n1_ := za.mk (ho); clear HB; clear HO_3; have HB := n0_; have HO400 := n1_; clear n0_ n1_; clear ho hb hg hat))
       go_roundg k1
       case measure => have := HK1.out; omega
       case rel => exact ⟨(y398), (wrap64 (x8_1 + 1)), (by first | rfl | (simp; done) | (simp [*]; done)), H', ⟨by have := HK1.out; omega⟩, ⟨by (with_reducible repeat (first | apply Kd.R_alloc | apply Kd.R_drewN | apply Kd.R_drew)); exact HO400.out⟩, ⟨by repeat (first | (with_reducible first | exact HB.out | apply zc | apply zb | apply zd) | exact HB.out)⟩⟩
      ·rw [if_neg c6] at H
       exact absurd H (by simp)
     ·rw [if_neg c4] at H
      exact absurd H (by simp)
    ·rw [if_neg c3] at H
     exact absurd H (by simp)
   ·rw [if_neg c2] at H
    have c2b0 : decide (x8_1 < (l0.length : Int)) = false := decide_eq_false c2
    clear c2
    obtain rfl := Option.some.inj H
    have hcv9 := jQ (P := Tryz.prog) Tryz.underlying41 Tryz.underlying5 Tryz.underlying9 (Kd.own_of_R HO_3.out)
    go_wp2
    go_ret
    exact ⟨by first | rfl | (simp [zl, zk] <;> rfl) | (simp [*, zl, zk] <;> rfl), by repeat (first | (with_reducible first | exact HB.out | apply zc | apply zb | apply zd) | exact HB.out)⟩
def qc.f (k : Nat)  (a1_0 : Int) (a1_1 : Int) (a1_2 : Int) (a1_3 : Int) (a1_4 : Int) (l1_5 : List ByteArray) (l1_6 : List (S52)) (l1_7 : List (S46)) (l1_8 : List (S86)) (l1_9 : List (S77)) : Option (ByteArray) := (xz.f k l1_5).bind fun bt403 => ((zy.f k (([a1_3, a1_4] : List Int))).bind fun t408 => (if t408.size + bt403.1.size ≤ 9223372036854775807 then (some (t408 ++ bt403.1)) else (none)))
theorem qc.calls (k : Nat)  (a1_0 : Int) (a1_1 : Int) (a1_2 : Int) (a1_3 : Int) (a1_4 : Int) (A1_5 : Option Addr) (c1_5 : Nat) (l1_5 : List ByteArray) (A1_6 : Option Addr) (c1_6 : Nat) (l1_6 : List (S52)) (A1_7 : Option Addr) (c1_7 : Nat) (l1_7 : List (S46)) (A1_8 : Option Addr) (c1_8 : Nat) (l1_8 : List (S86)) (A1_9 : Option Addr) (c1_9 : Nat) (l1_9 : List (S77)) (r : ByteArray) (w : World) (hr1_5 : Kd.C Kd.string w A1_5 l1_5.length l1_5) (hc1_5 : l1_5.length ≤ c1_5) (hr1_6 : Kd.C k52 w A1_6 l1_6.length l1_6) (hc1_6 : l1_6.length ≤ c1_6) (hr1_7 : Kd.C k46 w A1_7 l1_7.length l1_7) (hc1_7 : l1_7.length ≤ c1_7) (hr1_8 : Kd.C k86 w A1_8 l1_8.length l1_8) (hc1_8 : l1_8.length ≤ c1_8) (hr1_9 : Kd.C k77 w A1_9 l1_9.length l1_9) (hc1_9 : l1_9.length ≤ c1_9) (h : qc.f k a1_0 a1_1 a1_2 a1_3 a1_4 l1_5 l1_6 l1_7 l1_8 l1_9 = some r) :
  Calls Tryz.prog 58 #[.agg #[], .agg #[.int .i64 a1_0, .int .i64 a1_1, .int .i64 a1_2, .int .i64 a1_3, .int .i64 a1_4, .slice A1_5 l1_5.length c1_5, .slice A1_6 l1_6.length c1_6, .slice A1_7 l1_7.length c1_7, .slice A1_8 l1_8.length c1_8, .slice A1_9 l1_9.length c1_9]] w fun e w' => e = .returned (.string r) ∧ Below w.heap.size w w' := by
 have hu91 := Tryz.underlying91
 have hu28 := Tryz.underlying28
 have HR1_5 := za.mk hr1_5
 have HC1_5 := za.mk hc1_5
 clear hr1_5 hc1_5
 have HR1_6 := za.mk hr1_6
 have HC1_6 := za.mk hc1_6
 clear hr1_6 hc1_6
 have HR1_7 := za.mk hr1_7
 have HC1_7 := za.mk hc1_7
 clear hr1_7 hc1_7
 have HR1_8 := za.mk hr1_8
 have HC1_8 := za.mk hc1_8
 clear hr1_8 hc1_8
 have HR1_9 := za.mk hr1_9
 have HC1_9 := za.mk hc1_9
 clear hr1_9 hc1_9
 have HB := za.mk (Below.refl w.heap.size w)
 have H : ((xz.f k l1_5).bind fun bt403 => ((zy.f k (([a1_3, a1_4] : List Int))).bind fun t408 => (if t408.size + bt403.1.size ≤ 9223372036854775807 then (some (t408 ++ bt403.1)) else (none)))) = some r := h
 clear h
 replace H := zdK.mp H
 obtain ⟨⟨t403, t404⟩, A30, H⟩ := H
 replace H : ((zy.f k (([a1_3, a1_4] : List Int))).bind fun t408 => (if t408.size + t403.size ≤ 9223372036854775807 then (some (t408 ++ t403)) else (none))) = some r := H
 have A3 := za.mk A30
 clear A30
 obtain ⟨y405, hy405⟩ : ∃ y_ : List Int, y_ = (([a1_3, a1_4] : List Int)) := ⟨_, rfl⟩
 replace H : ((zy.f k y405).bind fun t408 => (if t408.size + t403.size ≤ 9223372036854775807 then (some (t408 ++ t403)) else (none))) = some r := by first | (rw [hy405]; with_reducible exact H) | (have H2_ := (Option.bind_some _ _).symm.trans H; rw [hy405]; with_reducible exact H2_) | (have H2_ := (Option.bind_some _ _).symm.trans H; with_reducible exact H2_) | with_reducible exact H | (rw [hy405]; exact H) | exact H
 have Ny405 := za.mk hy405
 clear hy405
 replace H := zdK.mp H
 obtain ⟨t408, A40, H⟩ := H
 replace H : (if t408.size + t403.size ≤ 9223372036854775807 then (some (t408 ++ t403)) else (none)) = some r := H
 have A4 := za.mk A40
 clear A40
 by_cases c5 : t408.size + t403.size ≤ 9223372036854775807
 ·rw [if_pos c5] at H
  have c5b0 := eq_true c5
  have c5b1 : decide (t408.size + t403.size ≤ 9223372036854775807) = true := decide_eq_true c5
  try have c5b2 : (9223372036854775807 < t408.size + t403.size) = False := eq_false (Nat.not_lt.2 c5)
  obtain rfl := Option.some.inj H
  go_enter Tryz.func58, Tryz.ntmps58
  go_wp2_with (first | ((with_reducible refine zN (N := 2) rfl ?_); refine yp ?hg (N := 2) ?hd (cs := #[]) (t := 91) ?hr ?_; (case hd => rfl); (case hg => rfl); (case hr => first | (go_simp; done) | (go_simp; rfl)); intro gb401 hg w6 hbox hb; have n0_ := za.mk (zp (by repeat (first | (with_reducible first | exact HB.out | apply zc | apply zb | apply zd) | exact HB.out)) hb); have n1_ := za.mk (hbox); have n2_ := za.mk ((by rw [hg]; exact (zF (by repeat (first | (with_reducible first | exact HB.out | apply zc | apply zb | apply zd) | exact HB.out))) : w.heap.size ≤ gb401)); have n3_ := za.mk ((by rw [hg]; exact (zF (by repeat (first | (with_reducible first | exact HB.out | apply zc | apply zb | apply zd) | exact HB.out))) : w.heap.size ≤ gb401)); clear HB; have HB := n0_; have BK401 := n1_; have GW401 := n2_; have GE401 := n3_; clear n0_ n1_ n2_ n3_; clear hb hbox hg) | ((with_reducible refine zN (N := 3) rfl ?_); refine yp ?hg (N := 3) ?hd (cs := #[.int .i64 a1_0, .int .i64 a1_1, .int .i64 a1_2, .int .i64 a1_3, .int .i64 a1_4, .slice A1_5 l1_5.length c1_5, .slice A1_6 l1_6.length c1_6, .slice A1_7 l1_7.length c1_7, .slice A1_8 l1_8.length c1_8, .slice A1_9 l1_9.length c1_9]) (t := 28) ?hr ?_; (case hd => rfl); (case hg => rfl); (case hr => first | (go_simp; done) | (go_simp; rfl)); intro gb402 hg w7 hbox hb; have n0_ := za.mk (zZ (g := gb401) (o := .cells #[] 91 (0, 0)) (by (with_reducible repeat (first | refine zS ?_ _ | refine zV ?_ | refine zR ?_ _)); exact BK401.out) hb); have n1_ := za.mk (zp (by repeat (first | (with_reducible first | exact HB.out | apply zc | apply zb | apply zd | refine zv ?_ GE401.out) | exact HB.out)) hb); have n2_ := za.mk (hbox); have n3_ := za.mk ((by rw [hg]; exact (zF (by repeat (first | (with_reducible first | exact HB.out | apply zc | apply zb | apply zd | refine zv ?_ GE401.out) | exact HB.out))) : w.heap.size ≤ gb402)); have n4_ := za.mk ((by rw [hg]; exact (zF (by repeat (first | (with_reducible first | exact HB.out | apply zc | apply zb | apply zd | refine zv ?_ GE401.out) | exact HB.out))) : w.heap.size ≤ gb402)); have n5_ := za.mk ((by rw [hg]; exact Nat.ne_of_lt (xY (g := gb401) (o := .cells #[] 91 (0, 0)) (by (with_reducible repeat (first | refine zS ?_ _ | refine zV ?_ | refine zR ?_ _)); exact BK401.out)) : gb401 ≠ gb402)); have n6_ := za.mk ((by rw [hg]; exact Nat.ne_of_gt (xY (g := gb401) (o := .cells #[] 91 (0, 0)) (by (with_reducible repeat (first | refine zS ?_ _ | refine zV ?_ | refine zR ?_ _)); exact BK401.out)) : gb402 ≠ gb401)); clear BK401; clear HB; have BK401 := n0_; have HB := n1_; have BK402 := n2_; have GW402 := n3_; have GE402 := n4_; have NB401_402 := n5_; have NB402_401 := n6_; clear n0_ n1_ n2_ n3_ n4_ n5_ n6_; clear hb hbox hg; have hnb8 := NB402_401.out; have hnc8 := NB401_402.out; have hcz9_0 : w7.cell? ⟨gb402, 0, none⟩ = some (.int .i64 a1_0) := (zm BK402.out 0).trans rfl; have hcz9_1 : w7.cell? ⟨gb402, 1, none⟩ = some (.int .i64 a1_1) := (zm BK402.out 1).trans rfl; have hcz9_2 : w7.cell? ⟨gb402, 2, none⟩ = some (.int .i64 a1_2) := (zm BK402.out 2).trans rfl; have hcz9_3 : w7.cell? ⟨gb402, 3, none⟩ = some (.int .i64 a1_3) := (zm BK402.out 3).trans rfl; have hcz9_4 : w7.cell? ⟨gb402, 4, none⟩ = some (.int .i64 a1_4) := (zm BK402.out 4).trans rfl; have hcz9_5 : w7.cell? ⟨gb402, 5, none⟩ = some (.slice A1_5 l1_5.length c1_5) := (zm BK402.out 5).trans rfl; have hcz9_6 : w7.cell? ⟨gb402, 6, none⟩ = some (.slice A1_6 l1_6.length c1_6) := (zm BK402.out 6).trans rfl; have hcz9_7 : w7.cell? ⟨gb402, 7, none⟩ = some (.slice A1_7 l1_7.length c1_7) := (zm BK402.out 7).trans rfl; have hcz9_8 : w7.cell? ⟨gb402, 8, none⟩ = some (.slice A1_8 l1_8.length c1_8) := (zm BK402.out 8).trans rfl; have hcz9_9 : w7.cell? ⟨gb402, 9, none⟩ = some (.slice A1_9 l1_9.length c1_9) := (zm BK402.out 9).trans rfl; have hfz9_0 := zn BK402.out 0; have hfz9_1 := zn BK402.out 1; have hfz9_2 := zn BK402.out 2; have hfz9_3 := zn BK402.out 3; have hfz9_4 := zn BK402.out 4; have hfz9_5 := zn BK402.out 5; have hfz9_6 := zn BK402.out 6; have hfz9_7 := zn BK402.out 7; have hfz9_8 := zn BK402.out 8; have hfz9_9 := zn BK402.out 9) | ((with_reducible refine zr (f := 101) rfl ?_); refine zL (some 10) rfl rfl Tryz.func101 (by kernel_rfl) rfl #[.slice A1_5 l1_5.length c1_5] rfl (by (try simp only [zdJ, List.map_cons, List.map_nil]); first | done | rfl | (simp only [List.length_drop, List.length_take]; rfl)) ?_; (with_reducible refine (xz.calls k _ _ l1_5 t403 t404 _ ?side1 ?side2 A3.out).mono ?_); (case side1 => repeat (first | exact (Kd.C_below HR1_5.out HB.out) | (with_reducible refine Kd.C_alloc ?_ _) | (with_reducible refine Kd.C_drewN ?_ _) | (with_reducible refine Kd.C_drew ?_))); (case side2 => exact HC1_5.out); rintro e w10 ⟨rfl, hb⟩; refine ⟨_, rfl, ?_⟩; have n0_ := za.mk (zZ (g := gb401) (o := .cells #[] 91 (0, 0)) (by (with_reducible repeat (first | refine zS ?_ _ | refine zV ?_ | refine zR ?_ _)); exact BK401.out) hb); have n1_ := za.mk (zZ (g := gb402) (o := .cells #[.int .i64 a1_0, .int .i64 a1_1, .int .i64 a1_2, .int .i64 a1_3, .int .i64 a1_4, .slice A1_5 l1_5.length c1_5, .slice A1_6 l1_6.length c1_6, .slice A1_7 l1_7.length c1_7, .slice A1_8 l1_8.length c1_8, .slice A1_9 l1_9.length c1_9] 28 (0, 0)) (by (with_reducible repeat (first | refine zS ?_ _ | refine zV ?_ | refine zR ?_ _)); exact BK402.out) hb); have n2_ := za.mk (zp (by repeat (first | (with_reducible first | exact HB.out | apply zc | apply zb | apply zd | refine zv ?_ GE401.out | refine zv ?_ GE402.out) | exact HB.out)) hb); clear BK401; clear BK402; clear HB; have BK401 := n0_; have BK402 := n1_; have HB := n2_; clear n0_ n1_ n2_; (try clear hb); (try clear hb2); (try clear hk); (try clear hi); have hcz11_0 : w10.cell? ⟨gb402, 0, none⟩ = some (.int .i64 a1_0) := (zm BK402.out 0).trans rfl; have hcz11_1 : w10.cell? ⟨gb402, 1, none⟩ = some (.int .i64 a1_1) := (zm BK402.out 1).trans rfl; have hcz11_2 : w10.cell? ⟨gb402, 2, none⟩ = some (.int .i64 a1_2) := (zm BK402.out 2).trans rfl; have hcz11_3 : w10.cell? ⟨gb402, 3, none⟩ = some (.int .i64 a1_3) := (zm BK402.out 3).trans rfl; have hcz11_4 : w10.cell? ⟨gb402, 4, none⟩ = some (.int .i64 a1_4) := (zm BK402.out 4).trans rfl; have hcz11_5 : w10.cell? ⟨gb402, 5, none⟩ = some (.slice A1_5 l1_5.length c1_5) := (zm BK402.out 5).trans rfl; have hcz11_6 : w10.cell? ⟨gb402, 6, none⟩ = some (.slice A1_6 l1_6.length c1_6) := (zm BK402.out 6).trans rfl; have hcz11_7 : w10.cell? ⟨gb402, 7, none⟩ = some (.slice A1_7 l1_7.length c1_7) := (zm BK402.out 7).trans rfl; have hcz11_8 : w10.cell? ⟨gb402, 8, none⟩ = some (.slice A1_8 l1_8.length c1_8) := (zm BK402.out 8).trans rfl; have hcz11_9 : w10.cell? ⟨gb402, 9, none⟩ = some (.slice A1_9 l1_9.length c1_9) := (zm BK402.out 9).trans rfl; have hfz11_0 := zn BK402.out 0; have hfz11_1 := zn BK402.out 1; have hfz11_2 := zn BK402.out 2; have hfz11_3 := zn BK402.out 3; have hfz11_4 := zn BK402.out 4; have hfz11_5 := zn BK402.out 5; have hfz11_6 := zn BK402.out 6; have hfz11_7 := zn BK402.out 7; have hfz11_8 := zn BK402.out 8; have hfz11_9 := zn BK402.out 9) | ((with_reducible refine zN (N := 17) rfl ?_); refine Kd.R_lit (Kd.int .i64) _ 3 ?hg (N := 17) ?hd (xs := ([a1_3, a1_4] : List Int)) (inner := [.int .i64 a1_3, .int .i64 a1_4]) (ok := fun _ => True) (okp := fun _ => True) ?hr ?hp (fun _ hk => hk) trivial (Below.refl _ _) (Nat.le_refl _) (by simp) ?_; (case hd => rfl); (case hg => rfl); (case hr => first | (go_simp; done) | (go_simp; rfl)); (case hp => exact (zX.one (show Kd.M (Kd.int .i64) _ _ _ a1_3 [.int .i64 a1_3] from rfl) (zX.one (show Kd.M (Kd.int .i64) _ _ _ a1_4 [.int .i64 a1_4] from rfl) (zX.none _ _)))); intro v406 w12 ho13 hb hg_ hnew_; clear hg_ hnew_; (first | rw [← Ny405.out] at ho13 | (simp only [Int.reduceToNat] at ho13; rw [← Ny405.out] at ho13)); have n0_ := za.mk (Kd.R_lower ho13 (zF (by repeat (first | (with_reducible first | exact HB.out | apply zc | apply zb | apply zd | refine zv ?_ GE401.out | refine zv ?_ GE402.out) | exact HB.out)))); have n1_ := za.mk (zZ (g := gb401) (o := .cells #[] 91 (0, 0)) (by (with_reducible repeat (first | refine zS ?_ _ | refine zV ?_ | refine zR ?_ _)); exact BK401.out) hb); have n2_ := za.mk (zZ (g := gb402) (o := .cells #[.int .i64 a1_0, .int .i64 a1_1, .int .i64 a1_2, .int .i64 a1_3, .int .i64 a1_4, .slice A1_5 l1_5.length c1_5, .slice A1_6 l1_6.length c1_6, .slice A1_7 l1_7.length c1_7, .slice A1_8 l1_8.length c1_8, .slice A1_9 l1_9.length c1_9] 28 (0, 0)) (by (with_reducible repeat (first | refine zS ?_ _ | refine zV ?_ | refine zR ?_ _)); exact BK402.out) hb); have n3_ := za.mk (zp (by repeat (first | (with_reducible first | exact HB.out | apply zc | apply zb | apply zd | refine zv ?_ GE401.out | refine zv ?_ GE402.out) | exact HB.out)) hb); clear BK401; clear BK402; clear HB; have HO407 := n0_; have BK401 := n1_; have BK402 := n2_; have HB := n3_; clear n0_ n1_ n2_ n3_; clear hb ho13; obtain ⟨Ao14, co14, eo14⟩ := Kd.R_slice HO407.out; subst eo14) | ((with_reducible refine zr (f := 18) rfl ?_); refine zL (some 18) rfl rfl Tryz.func18 (by kernel_rfl) rfl #[.slice Ao14 y405.length co14] rfl (by (try simp only [zdJ, List.map_cons, List.map_nil]); first | done | rfl | (simp only [List.length_drop, List.length_take]; rfl)) ?_; (with_reducible refine (zy.calls k _ _ y405 t408 _ ?side1 ?side2 A4.out).mono ?_); (case side1 => repeat (first | exact (Kd.R_reads' HO407.out).2.2 | (with_reducible refine Kd.C_alloc ?_ _) | (with_reducible refine Kd.C_drewN ?_ _) | (with_reducible refine Kd.C_drew ?_))); (case side2 => exact (Kd.R_reads' HO407.out).2.1); rintro e w15 ⟨rfl, hb⟩; refine ⟨_, rfl, ?_⟩; have n0_ := za.mk (Kd.R_below (by (with_reducible repeat (first | apply Kd.R_alloc | apply Kd.R_drewN | apply Kd.R_drew)); exact HO407.out) hb); have n1_ := za.mk (zZ (g := gb401) (o := .cells #[] 91 (0, 0)) (by (with_reducible repeat (first | refine zS ?_ _ | refine zV ?_ | refine zR ?_ _)); exact BK401.out) hb); have n2_ := za.mk (zZ (g := gb402) (o := .cells #[.int .i64 a1_0, .int .i64 a1_1, .int .i64 a1_2, .int .i64 a1_3, .int .i64 a1_4, .slice A1_5 l1_5.length c1_5, .slice A1_6 l1_6.length c1_6, .slice A1_7 l1_7.length c1_7, .slice A1_8 l1_8.length c1_8, .slice A1_9 l1_9.length c1_9] 28 (0, 0)) (by (with_reducible repeat (first | refine zS ?_ _ | refine zV ?_ | refine zR ?_ _)); exact BK402.out) hb); have n3_ := za.mk (zp (by repeat (first | (with_reducible first | exact HB.out | apply zc | apply zb | apply zd | refine zv ?_ GE401.out | refine zv ?_ GE402.out) | exact HB.out)) hb); clear HO407; clear BK401; clear BK402; clear HB; have HO407 := n0_; have BK401 := n1_; have BK402 := n2_; have HB := n3_; clear n0_ n1_ n2_ n3_; (try clear hb); (try clear hb2); (try clear hk); (try clear hi)))
  go_ret
  exact ⟨by first | rfl | (simp [zl, zk] <;> rfl) | (simp [*, zl, zk] <;> rfl), by repeat (first | (with_reducible first | exact HB.out | apply zc | apply zb | apply zd | refine zv ?_ GE401.out | refine zv ?_ GE402.out) | exact HB.out)⟩
 ·rw [if_neg c5] at H
  exact absurd H (by simp)
theorem ZN {w : World} {g t : Nat} {a0 a1 a2 a3 a4 : Value} (h : w.heap[g]? = some (.cells #[a0, a1, a2, a3, a4] t (0, 0))) : w.cell? ⟨g, 0, none⟩ = some a0 ∧ w.cell? ⟨g, 1, none⟩ = some a1 ∧ w.cell? ⟨g, 2, none⟩ = some a2 ∧ w.cell? ⟨g, 3, none⟩ = some a3 ∧ w.cell? ⟨g, 4, none⟩ = some a4 ∧ w.frozen? ⟨g, 0, none⟩ = false ∧ w.frozen? ⟨g, 1, none⟩ = false ∧ w.frozen? ⟨g, 2, none⟩ = false ∧ w.frozen? ⟨g, 3, none⟩ = false ∧ w.frozen? ⟨g, 4, none⟩ = false := ⟨(zm h 0).trans rfl, (zm h 1).trans rfl, (zm h 2).trans rfl, (zm h 3).trans rfl, (zm h 4).trans rfl, zn h 0, zn h 1, zn h 2, zn h 3, zn h 4⟩
theorem box6 {w : World} {g t : Nat} {a0 a1 a2 a3 a4 a5 : Value} (h : w.heap[g]? = some (.cells #[a0, a1, a2, a3, a4, a5] t (0, 0))) : w.cell? ⟨g, 0, none⟩ = some a0 ∧ w.cell? ⟨g, 1, none⟩ = some a1 ∧ w.cell? ⟨g, 2, none⟩ = some a2 ∧ w.cell? ⟨g, 3, none⟩ = some a3 ∧ w.cell? ⟨g, 4, none⟩ = some a4 ∧ w.cell? ⟨g, 5, none⟩ = some a5 ∧ w.frozen? ⟨g, 0, none⟩ = false ∧ w.frozen? ⟨g, 1, none⟩ = false ∧ w.frozen? ⟨g, 2, none⟩ = false ∧ w.frozen? ⟨g, 3, none⟩ = false ∧ w.frozen? ⟨g, 4, none⟩ = false ∧ w.frozen? ⟨g, 5, none⟩ = false := ⟨(zm h 0).trans rfl, (zm h 1).trans rfl, (zm h 2).trans rfl, (zm h 3).trans rfl, (zm h 4).trans rfl, (zm h 5).trans rfl, zn h 0, zn h 1, zn h 2, zn h 3, zn h 4, zn h 5⟩
theorem je {w : World} {g t : Nat} {b0 b1 b2 b3 b4 b5 b6 b7 b8 b9 : Value} (h : w.heap[g]? = some (.cells #[b0, b1, b2, b3, b4, b5, b6, b7, b8, b9] t (0, 0))) : w.cell? ⟨g, 0, none⟩ = some b0 ∧ w.cell? ⟨g, 1, none⟩ = some b1 ∧ w.cell? ⟨g, 2, none⟩ = some b2 ∧ w.cell? ⟨g, 3, none⟩ = some b3 ∧ w.cell? ⟨g, 4, none⟩ = some b4 ∧ w.cell? ⟨g, 5, none⟩ = some b5 ∧ w.cell? ⟨g, 6, none⟩ = some b6 ∧ w.cell? ⟨g, 7, none⟩ = some b7 ∧ w.cell? ⟨g, 8, none⟩ = some b8 ∧ w.cell? ⟨g, 9, none⟩ = some b9 ∧ w.frozen? ⟨g, 0, none⟩ = false ∧ w.frozen? ⟨g, 1, none⟩ = false ∧ w.frozen? ⟨g, 2, none⟩ = false ∧ w.frozen? ⟨g, 3, none⟩ = false ∧ w.frozen? ⟨g, 4, none⟩ = false ∧ w.frozen? ⟨g, 5, none⟩ = false ∧ w.frozen? ⟨g, 6, none⟩ = false ∧ w.frozen? ⟨g, 7, none⟩ = false ∧ w.frozen? ⟨g, 8, none⟩ = false ∧ w.frozen? ⟨g, 9, none⟩ = false := ⟨(zm h 0).trans rfl, (zm h 1).trans rfl, (zm h 2).trans rfl, (zm h 3).trans rfl, (zm h 4).trans rfl, (zm h 5).trans rfl, (zm h 6).trans rfl, (zm h 7).trans rfl, (zm h 8).trans rfl, (zm h 9).trans rfl, zn h 0, zn h 1, zn h 2, zn h 3, zn h 4, zn h 5, zn h 6, zn h 7, zn h 8, zn h 9⟩
def jb (k : Nat) (acc : List Int) (x : S52) : Option (List Int) := (yT.f k x.f0 x.f1 x.f2 x.f3 x.f4 x.f5).bind fun q => if acc.length + q.1.size ≤ 140737488355328 then some (acc ++ bytesOf q.1) else none
theorem jb.mono (k : Nat) (acc : List Int) (x : S52) : LeO (jb k acc x) (jb (k + 1) acc x) := by
 unfold jb
 exact LeO.bind (yT.mono _ _ _ _ _ _ _) (fun _ => LeO.refl _)
def xT.f (k : Nat) (a0 a1 a2 a3 a4 : Int) (l5 : List ByteArray) (l6 : List S52) (l7 : List S46) (l8 : List S86) (l9 : List S77) : Option ByteArray := (zy.f k ([(l6.length : Int)] : List Int)).bind fun t => if t.size ≤ 140737488351232 then (xX (jb k) l6 (bytesOf t)).bind fun b => some (strOfNums b) else none
theorem xT.calls (k : Nat) (a0 a1 a2 a3 a4 : Int) (A5 : Option Addr) (c5 : Nat) (l5 : List ByteArray) (A6 : Option Addr) (c6 : Nat) (l6 : List S52) (A7 : Option Addr) (c7 : Nat) (l7 : List S46) (A8 : Option Addr) (c8 : Nat) (l8 : List S86) (A9 : Option Addr) (c9 : Nat) (l9 : List S77) (r : ByteArray) (w : World) (hr5 : Kd.C Kd.string w A5 l5.length l5) (hc5 : l5.length ≤ c5) (hr6 : Kd.C k52 w A6 l6.length l6) (hc6 : l6.length ≤ c6) (hr7 : Kd.C k46 w A7 l7.length l7) (hc7 : l7.length ≤ c7) (hr8 : Kd.C k86 w A8 l8.length l8) (hc8 : l8.length ≤ c8) (hr9 : Kd.C k77 w A9 l9.length l9) (hc9 : l9.length ≤ c9) (h : xT.f k a0 a1 a2 a3 a4 l5 l6 l7 l8 l9 = some r) :
  Calls Tryz.prog 59 #[.agg #[], .agg #[.int .i64 a0, .int .i64 a1, .int .i64 a2, .int .i64 a3, .int .i64 a4, .slice A5 l5.length c5, .slice A6 l6.length c6, .slice A7 l7.length c7, .slice A8 l8.length c8, .slice A9 l9.length c9]] w fun e w' => e = .returned (.string r) ∧ Below w.heap.size w w' := by
 unfold xT.f at h
 rw [zdK] at h
 obtain ⟨t, ht, h⟩ := h
 by_cases hz : t.size ≤ 140737488351232
 case neg =>
  rw [if_neg hz] at h
  cases h
 rw [if_pos hz, zdK] at h
 obtain ⟨b, hf, h⟩ := h
 obtain rfl := Option.some.inj h
 obtain ⟨y, hy⟩ : ∃ y, ([(l6.length : Int)] : List Int) = y := ⟨_, rfl⟩
 rw [hy] at ht
 have Hy := za.mk hy
 have HT := za.mk ht
 have HF := za.mk hf
 have HZ := za.mk (show t.size ≤ maxLen by simp only [maxLen]; omega)
 have HR := za.mk hr6
 have HC := za.mk hc6
 have HLEN := za.mk hr6.2.1
 have HB := za.mk (Below.refl w.heap.size w)
 have hcv := fun W : World => Lib.run_convert_string_bytes (P := Tryz.prog) W 9 41 5 t Tryz.underlying9 Tryz.underlying41 Tryz.underlying5
 clear h hy ht hf hz hr5 hc5 hr6 hc6 hr7 hc7 hr8 hc8 hr9 hc9
 obtain ⟨i0, hi, hz0, hz1, hz2⟩ := info_parts Jw
 go_enter Tryz.func59, Tryz.ntmps59
 go_wp2_with (first | ((with_reducible refine zN (N := 2) rfl ?_); refine yp ?hg (N := 2) ?hd (cs := #[]) (t := 92) ?hr ?_; (case hd => rfl); (case hg => rfl); (case hr => first | (go_simp; done) | (go_simp; rfl)); intro g_z hg_ w1_ hbox_ hb_; have n0_ := za.mk (zp HB.out hb_); have n1_ := za.mk ((by rw [hg_]; exact HB.out.size : w.heap.size ≤ g_z)); have n2_ := za.mk (hbox_); (try clear HB); (try clear GE_z); (try clear BK_z); have HB := n0_; have GE_z := n1_; have BK_z := n2_; clear n0_ n1_ n2_; clear hbox_ hb_ hg_) | ((with_reducible refine zN (N := 3) rfl ?_); refine yp ?hg (N := 3) ?hd (cs := #[.int .i64 a0, .int .i64 a1, .int .i64 a2, .int .i64 a3, .int .i64 a4, .slice A5 l5.length c5, .slice A6 l6.length c6, .slice A7 l7.length c7, .slice A8 l8.length c8, .slice A9 l9.length c9]) (t := 28) ?hr ?_; (case hd => rfl); (case hg => rfl); (case hr => first | (go_simp; done) | (go_simp; rfl)); intro g_f hg_ w2_ hbox_ hb_; have n0_ := za.mk (zp HB.out hb_); have n1_ := za.mk ((by rw [hg_]; exact HB.out.size : w.heap.size ≤ g_f)); have n2_ := za.mk (hbox_); (try clear HB); (try clear GE_f); (try clear BK_f); have HB := n0_; have GE_f := n1_; have BK_f := n2_; clear n0_ n1_ n2_; clear hbox_ hb_ hg_; obtain ⟨hc_f_0, hc_f_1, hc_f_2, hc_f_3, hc_f_4, hc_f_5, hc_f_6, hc_f_7, hc_f_8, hc_f_9, hf_f_0, hf_f_1, hf_f_2, hf_f_3, hf_f_4, hf_f_5, hf_f_6, hf_f_7, hf_f_8, hf_f_9⟩ := je BK_f.out) | ((with_reducible refine zN (N := 13) rfl ?_); refine Kd.R_lit (Kd.int .i64) _ 3 ?hg (N := 13) ?hd (xs := ([(l6.length : Int)] : List Int)) (inner := [.int .i64 (l6.length : Int)]) (ok := fun _ => True) (okp := fun _ => True) ?hr ?hp (fun _ hk => hk) trivial (Below.refl _ _) (Nat.le_refl _) (by simp) ?_; (case hd => rfl); (case hg => rfl); (case hr => first | (go_simp; done) | (go_simp; rfl)); (case hp => exact (zX.one (show Kd.M (Kd.int .i64) _ _ _ (l6.length : Int) [.int .i64 (l6.length : Int)] from rfl) (zX.none _ _))); intro v_ w3_ hr_ hb_ hg_ hn_; clear hg_ hn_; (first | rw [Hy.out] at hr_ | (simp only [Int.reduceToNat] at hr_; rw [Hy.out] at hr_)); obtain ⟨A_y, c_y, ev_⟩ := Kd.R_slice hr_; subst ev_; have n0_ := za.mk (zZ BK_f.out hb_); have n1_ := za.mk (zp HB.out hb_); have n2_ := za.mk (Kd.R_lower hr_ HB.out.size); (try clear BK_f); (try clear HB); (try clear HR_y); have BK_f := n0_; have HB := n1_; have HR_y := n2_; clear n0_ n1_ n2_; (try clear hc_f_0 hc_f_1 hc_f_2 hc_f_3 hc_f_4 hc_f_5 hc_f_6 hc_f_7 hc_f_8 hc_f_9 hf_f_0 hf_f_1 hf_f_2 hf_f_3 hf_f_4 hf_f_5 hf_f_6 hf_f_7 hf_f_8 hf_f_9); (try clear hb_ hr_); obtain ⟨hc_f_0, hc_f_1, hc_f_2, hc_f_3, hc_f_4, hc_f_5, hc_f_6, hc_f_7, hc_f_8, hc_f_9, hf_f_0, hf_f_1, hf_f_2, hf_f_3, hf_f_4, hf_f_5, hf_f_6, hf_f_7, hf_f_8, hf_f_9⟩ := je BK_f.out) | (go_at_call 18; (with_reducible refine (zy.calls k _ _ y t _ ?side1 ?side2 HT.out).mono ?_); (case side1 => exact (Kd.R_reads' HR_y.out).2.2); (case side2 => exact (Kd.R_reads' HR_y.out).2.1); rintro e_ w4_ ⟨rfl, hb_⟩; have n0_ := za.mk (zZ BK_f.out hb_); have n1_ := za.mk (Kd.R_below HR_y.out hb_); have n2_ := za.mk (zp HB.out hb_); (try clear BK_f); (try clear HR_y); (try clear HB); have BK_f := n0_; have HR_y := n1_; have HB := n2_; clear n0_ n1_ n2_; (try clear hc_f_0 hc_f_1 hc_f_2 hc_f_3 hc_f_4 hc_f_5 hc_f_6 hc_f_7 hc_f_8 hc_f_9 hf_f_0 hf_f_1 hf_f_2 hf_f_3 hf_f_4 hf_f_5 hf_f_6 hf_f_7 hf_f_8 hf_f_9); (try clear hb_); obtain ⟨hc_f_0, hc_f_1, hc_f_2, hc_f_3, hc_f_4, hc_f_5, hc_f_6, hc_f_7, hc_f_8, hc_f_9, hf_f_0, hf_f_1, hf_f_2, hf_f_3, hf_f_4, hf_f_5, hf_f_6, hf_f_7, hf_f_8, hf_f_9⟩ := je BK_f.out; have HM1 := za.mk (yL.of_bytes w4_ w.heap.size 5 t HB.out.size HZ.out); have HB2 := za.mk (qE HB.out HB.out.size 5 t); have hcw := ((qE (Below.refl w4_.heap.size w4_) (Nat.le_refl _) 5 t).cell (zdL _ _ hc_f_6)).trans hc_f_6))
 have hcv0 := za.mk hcv
 clear hcv
 (try clear hc_f_0 hc_f_1 hc_f_2 hc_f_3 hc_f_4 hc_f_5 hc_f_6 hc_f_7 hc_f_8 hc_f_9 hf_f_0 hf_f_1 hf_f_2 hf_f_3 hf_f_4 hf_f_5 hf_f_6 hf_f_7 hf_f_8 hf_f_9)
 go_loopg [5, 19] l6.length (fun kq vb vi wr => ∃ (i : Nat) (xs : List Int), vi = .int .i64 i ∧ za (i + kq = l6.length) ∧ za (xX (jb k) (l6.drop i) xs = some b) ∧ za (yL wr w.heap.size 5 vb (yH .u8 xs)) ∧ za (Below w.heap.size w wr))
 case atStart => exact ⟨0, bytesOf t, rfl, ⟨by simp⟩, ⟨by rw [List.drop_zero]; exact HF.out⟩, ⟨by rw [← qo]; exact HM1.out⟩, HB2⟩
 case round =>
  clear HB2 HM1 HB BK_f HR_y hcw
  obtain ⟨i, xs, rfl, HK, HO, HM, HB0⟩ := hrel
  have hil : i ≤ l6.length := by have := HK.out; omega
  by_cases hlt : i < l6.length
  ·have HRR := za.mk (Kd.C_below HR.out HB0.out)
   obtain ⟨ad, A4, c4, rfl, x0, x1, x2, x3, x4, x5, hll, hin⟩ := ZE HRR.out (i : Int) (by omega) (by omega)
   rw [Int.toNat_natCast] at x0 x1 x2 x3 x4 x5
   have ho := HO.out
   rw [List.drop_eq_getElem_cons hlt, xX, zdK] at ho
   obtain ⟨t1, ht1, ho⟩ := ho
   have HO2 := za.mk ho
   have hq : xf l6 (i : Int) = l6[i] := by simp [xf, hlt]
   rw [hq] at x0 x1 x2 x3 x4 x5 hll hin
   obtain ⟨x, hx⟩ : ∃ x, x = l6[i] := ⟨_, rfl⟩
   rw [← hx] at ht1 x0 x1 x2 x3 x4 x5 hll hin
   unfold jb at ht1
   rw [zdK] at ht1
   obtain ⟨⟨z, ez⟩, hp, ht1⟩ := ht1
   dsimp only at ht1
   by_cases hfit : xs.length + z.size ≤ 140737488355328
   case neg =>
    rw [if_neg hfit] at ht1
    cases ht1
   rw [if_pos hfit] at ht1
   obtain rfl := Option.some.inj ht1
   have HP := za.mk hp
   have HFIT := za.mk hfit
   clear hp ht1 hfit
   have HI := za.mk hin
   have HL := za.mk hll
   have HB := za.mk (Below.refl wr.heap.size wr)
   have HBW := za.mk (Below.trans HB0.out (HB.out.mono HB0.out.size))
   clear ho hin hll hq hx HO HRR
   go_wp2_with (first
    | ((with_reducible refine zN (N := 7) rfl ?_); refine yp ?hg (N := 7) ?hd (cs := #[.int .i64 0, .int .i64 0, .string ⟨#[]⟩, .int .i64 0, .slice none 0 0, .int .i64 0]) (t := 52) ?hr ?_; (case hd => rfl); (case hg => rfl); (case hr => first | (go_simp; done) | (go_simp; rfl)); intro g_x hg_ w1_ hbox_ hb_; have n0_ := za.mk (zp HB.out hb_); have n1_ := za.mk ((by rw [hg_]; exact HB.out.size : wr.heap.size ≤ g_x)); have n2_ := za.mk (hbox_); (try clear HB); (try clear GE_x); (try clear BK_x); have HB := n0_; have GE_x := n1_; have BK_x := n2_; clear n0_ n1_ n2_; clear hbox_ hb_ hg_; obtain ⟨hc_x_0, hc_x_1, hc_x_2, hc_x_3, hc_x_4, hc_x_5, hf_x_0, hf_x_1, hf_x_2, hf_x_3, hf_x_4, hf_x_5⟩ := box6 BK_x.out)
    | ((with_reducible refine vK (t := 52) (p := 7) rfl ?_); refine vm (t := 52) (p := 7) (v := ?vo_w2_) (w1 := ((((((w1_.setCell ⟨g_x, 0, none⟩ (.int .i64 x.f0)).setCell ⟨g_x, 1, none⟩ (.int .i64 x.f1)).setCell ⟨g_x, 2, none⟩ (.string x.f2)).setCell ⟨g_x, 3, none⟩ (.int .i64 x.f3)).setCell ⟨g_x, 4, none⟩ (.slice A4 x.f4.length c4)).setCell ⟨g_x, 5, none⟩ (.int .i64 x.f5))) ?hg ?ho ?hn ?hr ?_; (case ho => rfl); (case hg => rfl); (case hn => rfl); (case hr => first | (go_simp; done) | (go_simp; rfl)); intro w2_ hw_; have n0_ : za (w2_.heap[g_x]? = some (.cells #[.int .i64 x.f0, .int .i64 x.f1, .string x.f2, .int .i64 x.f3, .slice A4 x.f4.length c4, .int .i64 x.f5] 52 (0, 0))) := ⟨(by rw [hw_]; exact (yW (cs' := #[.int .i64 x.f0, .int .i64 x.f1, .string x.f2, .int .i64 x.f3, .slice A4 x.f4.length c4, .int .i64 x.f5]) (yW (cs' := #[.int .i64 x.f0, .int .i64 x.f1, .string x.f2, .int .i64 x.f3, .slice A4 x.f4.length c4, .int .i64 0]) (yW (cs' := #[.int .i64 x.f0, .int .i64 x.f1, .string x.f2, .int .i64 x.f3, .slice none 0 0, .int .i64 0]) (yW (cs' := #[.int .i64 x.f0, .int .i64 x.f1, .string x.f2, .int .i64 0, .slice none 0 0, .int .i64 0]) (yW (cs' := #[.int .i64 x.f0, .int .i64 x.f1, .string ⟨#[]⟩, .int .i64 0, .slice none 0 0, .int .i64 0]) (yW (cs' := #[.int .i64 x.f0, .int .i64 0, .string ⟨#[]⟩, .int .i64 0, .slice none 0 0, .int .i64 0]) (BK_x.out) 0 _ rfl) 1 _ rfl) 2 _ rfl) 3 _ rfl) 4 _ rfl) 5 _ rfl))⟩; have n1_ : za (Below wr.heap.size wr w2_) := ⟨(by rw [hw_]; exact (zv (g := g_x) (j := 5) (zv (g := g_x) (j := 4) (zv (g := g_x) (j := 3) (zv (g := g_x) (j := 2) (zv (g := g_x) (j := 1) (zv (g := g_x) (j := 0) (HB.out) GE_x.out) GE_x.out) GE_x.out) GE_x.out) GE_x.out) GE_x.out))⟩; (try clear BK_x); (try clear HB); have BK_x := n0_; have HB := n1_; clear n0_ n1_; (try clear hc_x_0 hc_x_1 hc_x_2 hc_x_3 hc_x_4 hc_x_5 hf_x_0 hf_x_1 hf_x_2 hf_x_3 hf_x_4 hf_x_5); clear hw_; obtain ⟨hc_x_0, hc_x_1, hc_x_2, hc_x_3, hc_x_4, hc_x_5, hf_x_0, hf_x_1, hf_x_2, hf_x_3, hf_x_4, hf_x_5⟩ := box6 BK_x.out)
    | (go_at_call 102; (with_reducible refine (yT.calls k x.f0 x.f1 x.f2 x.f3 A4 c4 x.f4 x.f5 z ez _ ?side1 HL.out HP.out).mono ?_); (case side1 => exact Kd.C_below HI.out HB.out); rintro e_ w3_ ⟨rfl, hb_⟩; have n0_ := za.mk (zZ BK_x.out hb_); have n1_ := za.mk (zp HB.out hb_); (try clear BK_x); (try clear HB); have BK_x := n0_; have HB := n1_; clear n0_ n1_; (try clear hc_x_0 hc_x_1 hc_x_2 hc_x_3 hc_x_4 hc_x_5 hf_x_0 hf_x_1 hf_x_2 hf_x_3 hf_x_4 hf_x_5); (try clear hb_); obtain ⟨hc_x_0, hc_x_1, hc_x_2, hc_x_3, hc_x_4, hc_x_5, hf_x_0, hf_x_1, hf_x_2, hf_x_3, hf_x_4, hf_x_5⟩ := box6 BK_x.out; clear HBW; have HBW := za.mk (Below.trans HB0.out (HB.out.mono HB0.out.size)))
    | ((with_reducible refine zN (N := 30) rfl ?_); refine yU _ rfl (.tmp 28) (.tmp 29) 41 9 rfl w.heap.size 5 i0 Tryz.underlying41 Tryz.underlying9 hi hz0 hz1 hz2 _ (yH .u8 xs) rfl (HM.out.below HB.out) z rfl (by rw [xL]; exact HFIT.out) HBW.out.size ?_; intro v_n w4_ hm_ hg_; rw [jv] at hm_; have HM4 := za.mk hm_; have HB4 := za.mk (HBW.out.grown hg_ HBW.out.size (fun k hk => (HM.out.below HB.out).base_le k hk)); clear hm_ hg_; (try clear hc_x_0 hc_x_1 hc_x_2 hc_x_3 hc_x_4 hc_x_5 hf_x_0 hf_x_1 hf_x_2 hf_x_3 hf_x_4 hf_x_5)))
   go_roundg (l6.length - (i + 1))
   case measure => have := HK.out; omega
   case rel => exact ⟨i + 1, _, by have h_ : wrap64 ((i : Int) + 1) = ((i + 1 : Nat) : Int) := z4 (by omega) (by have := HLEN.out; omega); first | (rw [h_]) | (simp only [h_]), ⟨by have := HK.out; omega⟩, HO2, HM4, HB4⟩
  ·obtain rfl : i = l6.length := by omega
   have ho := HO.out
   rw [List.drop_length, xX] at ho
   obtain rfl := Option.some.inj ho
   have hcs := yL.to_string (P := Tryz.prog) Tryz.underlying41 Tryz.underlying5 Tryz.underlying9 HM.out
   go_wp2
   go_ret
   exact ⟨rfl, HB0.out⟩
def qG.f (k : Nat)  (a1_0 : Int) (a1_1 : Int) (a1_2 : Int) (a1_3 : Int) (a1_4 : Int) (l1_5 : List ByteArray) (l1_6 : List (S52)) (l1_7 : List (S46)) (l1_8 : List (S86)) (l1_9 : List (S77)) : Option (ByteArray) := (zy.f k (([a1_4] : List Int))).bind fun t414 => (some t414)
theorem qG.calls (k : Nat)  (a1_0 : Int) (a1_1 : Int) (a1_2 : Int) (a1_3 : Int) (a1_4 : Int) (A1_5 : Option Addr) (c1_5 : Nat) (l1_5 : List ByteArray) (A1_6 : Option Addr) (c1_6 : Nat) (l1_6 : List (S52)) (A1_7 : Option Addr) (c1_7 : Nat) (l1_7 : List (S46)) (A1_8 : Option Addr) (c1_8 : Nat) (l1_8 : List (S86)) (A1_9 : Option Addr) (c1_9 : Nat) (l1_9 : List (S77)) (r : ByteArray) (w : World) (hr1_5 : Kd.C Kd.string w A1_5 l1_5.length l1_5) (hc1_5 : l1_5.length ≤ c1_5) (hr1_6 : Kd.C k52 w A1_6 l1_6.length l1_6) (hc1_6 : l1_6.length ≤ c1_6) (hr1_7 : Kd.C k46 w A1_7 l1_7.length l1_7) (hc1_7 : l1_7.length ≤ c1_7) (hr1_8 : Kd.C k86 w A1_8 l1_8.length l1_8) (hc1_8 : l1_8.length ≤ c1_8) (hr1_9 : Kd.C k77 w A1_9 l1_9.length l1_9) (hc1_9 : l1_9.length ≤ c1_9) (h : qG.f k a1_0 a1_1 a1_2 a1_3 a1_4 l1_5 l1_6 l1_7 l1_8 l1_9 = some r) :
  Calls Tryz.prog 60 #[.agg #[], .agg #[.int .i64 a1_0, .int .i64 a1_1, .int .i64 a1_2, .int .i64 a1_3, .int .i64 a1_4, .slice A1_5 l1_5.length c1_5, .slice A1_6 l1_6.length c1_6, .slice A1_7 l1_7.length c1_7, .slice A1_8 l1_8.length c1_8, .slice A1_9 l1_9.length c1_9]] w fun e w' => e = .returned (.string r) ∧ Below w.heap.size w w' := by
 have hu93 := Tryz.underlying93
 have hu28 := Tryz.underlying28
 have HR1_5 := za.mk hr1_5
 have HC1_5 := za.mk hc1_5
 clear hr1_5 hc1_5
 have HR1_6 := za.mk hr1_6
 have HC1_6 := za.mk hc1_6
 clear hr1_6 hc1_6
 have HR1_7 := za.mk hr1_7
 have HC1_7 := za.mk hc1_7
 clear hr1_7 hc1_7
 have HR1_8 := za.mk hr1_8
 have HC1_8 := za.mk hc1_8
 clear hr1_8 hc1_8
 have HR1_9 := za.mk hr1_9
 have HC1_9 := za.mk hc1_9
 clear hr1_9 hc1_9
 have HB := za.mk (Below.refl w.heap.size w)
 have H : ((zy.f k (([a1_4] : List Int))).bind fun t414 => (some t414)) = some r := h
 clear h
 obtain ⟨y411, hy411⟩ : ∃ y_ : List Int, y_ = (([a1_4] : List Int)) := ⟨_, rfl⟩
 replace H : ((zy.f k y411).bind fun t414 => (some t414)) = some r := by first | (rw [hy411]; with_reducible exact H) | (have H2_ := (Option.bind_some _ _).symm.trans H; rw [hy411]; with_reducible exact H2_) | (have H2_ := (Option.bind_some _ _).symm.trans H; with_reducible exact H2_) | with_reducible exact H | (rw [hy411]; exact H) | exact H
 have Ny411 := za.mk hy411
 clear hy411
 replace H := zdK.mp H
 obtain ⟨t414, A30, H⟩ := H
 replace H : (some t414) = some r := H
 have A3 := za.mk A30
 clear A30
 obtain rfl := Option.some.inj H
 go_enter Tryz.func60, Tryz.ntmps60
 go_wp2_with (first | ((with_reducible refine zN (N := 2) rfl ?_); refine yp ?hg (N := 2) ?hd (cs := #[]) (t := 93) ?hr ?_; (case hd => rfl); (case hg => rfl); (case hr => first | (go_simp; done) | (go_simp; rfl)); intro gb409 hg w4 hbox hb; have n0_ := za.mk (zp (by repeat (first | (with_reducible first | exact HB.out | apply zc | apply zb | apply zd) | exact HB.out)) hb); have n1_ := za.mk (hbox); have n2_ := za.mk ((by rw [hg]; exact (zF (by repeat (first | (with_reducible first | exact HB.out | apply zc | apply zb | apply zd) | exact HB.out))) : w.heap.size ≤ gb409)); have n3_ := za.mk ((by rw [hg]; exact (zF (by repeat (first | (with_reducible first | exact HB.out | apply zc | apply zb | apply zd) | exact HB.out))) : w.heap.size ≤ gb409)); clear HB; have HB := n0_; have BK409 := n1_; have GW409 := n2_; have GE409 := n3_; clear n0_ n1_ n2_ n3_; clear hb hbox hg) | ((with_reducible refine zN (N := 3) rfl ?_); refine yp ?hg (N := 3) ?hd (cs := #[.int .i64 a1_0, .int .i64 a1_1, .int .i64 a1_2, .int .i64 a1_3, .int .i64 a1_4, .slice A1_5 l1_5.length c1_5, .slice A1_6 l1_6.length c1_6, .slice A1_7 l1_7.length c1_7, .slice A1_8 l1_8.length c1_8, .slice A1_9 l1_9.length c1_9]) (t := 28) ?hr ?_; (case hd => rfl); (case hg => rfl); (case hr => first | (go_simp; done) | (go_simp; rfl)); intro gb410 hg w5 hbox hb; have n0_ := za.mk (zZ (g := gb409) (o := .cells #[] 93 (0, 0)) (by (with_reducible repeat (first | refine zS ?_ _ | refine zV ?_ | refine zR ?_ _)); exact BK409.out) hb); have n1_ := za.mk (zp (by repeat (first | (with_reducible first | exact HB.out | apply zc | apply zb | apply zd | refine zv ?_ GE409.out) | exact HB.out)) hb); have n2_ := za.mk (hbox); have n3_ := za.mk ((by rw [hg]; exact (zF (by repeat (first | (with_reducible first | exact HB.out | apply zc | apply zb | apply zd | refine zv ?_ GE409.out) | exact HB.out))) : w.heap.size ≤ gb410)); have n4_ := za.mk ((by rw [hg]; exact (zF (by repeat (first | (with_reducible first | exact HB.out | apply zc | apply zb | apply zd | refine zv ?_ GE409.out) | exact HB.out))) : w.heap.size ≤ gb410)); have n5_ := za.mk ((by rw [hg]; exact Nat.ne_of_lt (xY (g := gb409) (o := .cells #[] 93 (0, 0)) (by (with_reducible repeat (first | refine zS ?_ _ | refine zV ?_ | refine zR ?_ _)); exact BK409.out)) : gb409 ≠ gb410)); have n6_ := za.mk ((by rw [hg]; exact Nat.ne_of_gt (xY (g := gb409) (o := .cells #[] 93 (0, 0)) (by (with_reducible repeat (first | refine zS ?_ _ | refine zV ?_ | refine zR ?_ _)); exact BK409.out)) : gb410 ≠ gb409)); clear BK409; clear HB; have BK409 := n0_; have HB := n1_; have BK410 := n2_; have GW410 := n3_; have GE410 := n4_; have NB409_410 := n5_; have NB410_409 := n6_; clear n0_ n1_ n2_ n3_ n4_ n5_ n6_; clear hb hbox hg; have hnb6 := NB410_409.out; have hnc6 := NB409_410.out; have hcz7_0 : w5.cell? ⟨gb410, 0, none⟩ = some (.int .i64 a1_0) := (zm BK410.out 0).trans rfl; have hcz7_1 : w5.cell? ⟨gb410, 1, none⟩ = some (.int .i64 a1_1) := (zm BK410.out 1).trans rfl; have hcz7_2 : w5.cell? ⟨gb410, 2, none⟩ = some (.int .i64 a1_2) := (zm BK410.out 2).trans rfl; have hcz7_3 : w5.cell? ⟨gb410, 3, none⟩ = some (.int .i64 a1_3) := (zm BK410.out 3).trans rfl; have hcz7_4 : w5.cell? ⟨gb410, 4, none⟩ = some (.int .i64 a1_4) := (zm BK410.out 4).trans rfl; have hcz7_5 : w5.cell? ⟨gb410, 5, none⟩ = some (.slice A1_5 l1_5.length c1_5) := (zm BK410.out 5).trans rfl; have hcz7_6 : w5.cell? ⟨gb410, 6, none⟩ = some (.slice A1_6 l1_6.length c1_6) := (zm BK410.out 6).trans rfl; have hcz7_7 : w5.cell? ⟨gb410, 7, none⟩ = some (.slice A1_7 l1_7.length c1_7) := (zm BK410.out 7).trans rfl; have hcz7_8 : w5.cell? ⟨gb410, 8, none⟩ = some (.slice A1_8 l1_8.length c1_8) := (zm BK410.out 8).trans rfl; have hcz7_9 : w5.cell? ⟨gb410, 9, none⟩ = some (.slice A1_9 l1_9.length c1_9) := (zm BK410.out 9).trans rfl; have hfz7_0 := zn BK410.out 0; have hfz7_1 := zn BK410.out 1; have hfz7_2 := zn BK410.out 2; have hfz7_3 := zn BK410.out 3; have hfz7_4 := zn BK410.out 4; have hfz7_5 := zn BK410.out 5; have hfz7_6 := zn BK410.out 6; have hfz7_7 := zn BK410.out 7; have hfz7_8 := zn BK410.out 8; have hfz7_9 := zn BK410.out 9) | ((with_reducible refine zN (N := 7) rfl ?_); refine Kd.R_lit (Kd.int .i64) _ 3 ?hg (N := 7) ?hd (xs := ([a1_4] : List Int)) (inner := [.int .i64 a1_4]) (ok := fun _ => True) (okp := fun _ => True) ?hr ?hp (fun _ hk => hk) trivial (Below.refl _ _) (Nat.le_refl _) (by simp) ?_; (case hd => rfl); (case hg => rfl); (case hr => first | (go_simp; done) | (go_simp; rfl)); (case hp => exact (zX.one (show Kd.M (Kd.int .i64) _ _ _ a1_4 [.int .i64 a1_4] from rfl) (zX.none _ _))); intro v412 w8 ho9 hb hg_ hnew_; clear hg_ hnew_; (first | rw [← Ny411.out] at ho9 | (simp only [Int.reduceToNat] at ho9; rw [← Ny411.out] at ho9)); have n0_ := za.mk (Kd.R_lower ho9 (zF (by repeat (first | (with_reducible first | exact HB.out | apply zc | apply zb | apply zd | refine zv ?_ GE409.out | refine zv ?_ GE410.out) | exact HB.out)))); have n1_ := za.mk (zZ (g := gb409) (o := .cells #[] 93 (0, 0)) (by (with_reducible repeat (first | refine zS ?_ _ | refine zV ?_ | refine zR ?_ _)); exact BK409.out) hb); have n2_ := za.mk (zZ (g := gb410) (o := .cells #[.int .i64 a1_0, .int .i64 a1_1, .int .i64 a1_2, .int .i64 a1_3, .int .i64 a1_4, .slice A1_5 l1_5.length c1_5, .slice A1_6 l1_6.length c1_6, .slice A1_7 l1_7.length c1_7, .slice A1_8 l1_8.length c1_8, .slice A1_9 l1_9.length c1_9] 28 (0, 0)) (by (with_reducible repeat (first | refine zS ?_ _ | refine zV ?_ | refine zR ?_ _)); exact BK410.out) hb); have n3_ := za.mk (zp (by repeat (first | (with_reducible first | exact HB.out | apply zc | apply zb | apply zd | refine zv ?_ GE409.out | refine zv ?_ GE410.out) | exact HB.out)) hb); clear BK409; clear BK410; clear HB; have HO413 := n0_; have BK409 := n1_; have BK410 := n2_; have HB := n3_; clear n0_ n1_ n2_ n3_; clear hb ho9; obtain ⟨Ao10, co10, eo10⟩ := Kd.R_slice HO413.out; subst eo10) | ((with_reducible refine zr (f := 18) rfl ?_); refine zL (some 8) rfl rfl Tryz.func18 (by kernel_rfl) rfl #[.slice Ao10 y411.length co10] rfl (by (try simp only [zdJ, List.map_cons, List.map_nil]); first | done | rfl | (simp only [List.length_drop, List.length_take]; rfl)) ?_; (with_reducible refine (zy.calls k _ _ y411 t414 _ ?side1 ?side2 A3.out).mono ?_); (case side1 => repeat (first | exact (Kd.R_reads' HO413.out).2.2 | (with_reducible refine Kd.C_alloc ?_ _) | (with_reducible refine Kd.C_drewN ?_ _) | (with_reducible refine Kd.C_drew ?_))); (case side2 => exact (Kd.R_reads' HO413.out).2.1); rintro e w11 ⟨rfl, hb⟩; refine ⟨_, rfl, ?_⟩; have n0_ := za.mk (Kd.R_below (by (with_reducible repeat (first | apply Kd.R_alloc | apply Kd.R_drewN | apply Kd.R_drew)); exact HO413.out) hb); have n1_ := za.mk (zZ (g := gb409) (o := .cells #[] 93 (0, 0)) (by (with_reducible repeat (first | refine zS ?_ _ | refine zV ?_ | refine zR ?_ _)); exact BK409.out) hb); have n2_ := za.mk (zZ (g := gb410) (o := .cells #[.int .i64 a1_0, .int .i64 a1_1, .int .i64 a1_2, .int .i64 a1_3, .int .i64 a1_4, .slice A1_5 l1_5.length c1_5, .slice A1_6 l1_6.length c1_6, .slice A1_7 l1_7.length c1_7, .slice A1_8 l1_8.length c1_8, .slice A1_9 l1_9.length c1_9] 28 (0, 0)) (by (with_reducible repeat (first | refine zS ?_ _ | refine zV ?_ | refine zR ?_ _)); exact BK410.out) hb); have n3_ := za.mk (zp (by repeat (first | (with_reducible first | exact HB.out | apply zc | apply zb | apply zd | refine zv ?_ GE409.out | refine zv ?_ GE410.out) | exact HB.out)) hb); clear HO413; clear BK409; clear BK410; clear HB; have HO413 := n0_; have BK409 := n1_; have BK410 := n2_; have HB := n3_; clear n0_ n1_ n2_ n3_; (try clear hb); (try clear hb2); (try clear hk); (try clear hi)))
 go_ret
 exact ⟨by first | rfl | (simp [zl, zk] <;> rfl) | (simp [*, zl, zk] <;> rfl), by repeat (first | (with_reducible first | exact HB.out | apply zc | apply zb | apply zd | refine zv ?_ GE409.out | refine zv ?_ GE410.out) | exact HB.out)⟩
theorem yL.ne_blk {w : World} {base : Nat} {e : TypeId} {v : Value} {xs : List Value} (h : yL w base e v xs) {g : Nat} {t : TypeId} {cs : Array Value} (hb : w.heap[g]? = some (.cells cs t (0, 0))) (hne : t ≠ e) : some g ≠ v.ownBlock := by
 rcases h with ⟨rfl, _⟩ | ⟨g', cap, cur, fr, rfl, _, hg, _⟩
 ·simp [Value.ownBlock]
 ·intro he
  have e2 : g = g' := by simpa [Value.ownBlock] using he
  subst e2
  rw [hb] at hg
  injection hg with hg
  injection hg with h1 h2 h3
  exact hne h2
def qF (k : Nat) (acc : List Int) (x : S46) : Option (List Int) := (y9.f x.f1).bind fun t => (yJ.f k x.f2).bind fun v => (zy.f k ([x.f0] : List Int)).bind fun n => if acc.length + n.size ≤ 140737488355328 then (if (acc ++ bytesOf n).length + t.1.size ≤ 140737488355328 then (if ((acc ++ bytesOf n) ++ bytesOf t.1).length + v.1.size ≤ 140737488355328 then ((zy.f k ([x.f3, x.f4] : List Int)).bind fun m => if (((acc ++ bytesOf n) ++ bytesOf t.1) ++ bytesOf v.1).length + m.size ≤ 140737488355328 then some ((((acc ++ bytesOf n) ++ bytesOf t.1) ++ bytesOf v.1) ++ bytesOf m) else none) else none) else none) else none
theorem qF.mono (k : Nat) (acc : List Int) (x : S46) : LeO (qF k acc x) (qF (k + 1) acc x) := by
 unfold qF
 exact LeO.bind (LeO.refl _) (fun _ => LeO.bind (yJ.mono _ _) (fun _ => LeO.bind (zy.mono _ _) (fun _ => LeO.ite (LeO.ite (LeO.ite (LeO.bind (zy.mono _ _) (fun _ => LeO.refl _)) (LeO.refl _)) (LeO.refl _)) (LeO.refl _))))
def xI.f (k : Nat) (a0 a1 a2 a3 a4 : Int) (l5 : List ByteArray) (l6 : List S52) (l7 : List S46) (l8 : List S86) (l9 : List S77) : Option ByteArray := (zy.f k ([a3, a4, (l7.length : Int)] : List Int)).bind fun t => if t.size ≤ 140737488351232 then (xX (qF k) l7 (bytesOf t)).bind fun b => some (strOfNums b) else none
theorem xI.calls (k : Nat) (a0 a1 a2 a3 a4 : Int) (A5 : Option Addr) (c5 : Nat) (l5 : List ByteArray) (A6 : Option Addr) (c6 : Nat) (l6 : List S52) (A7 : Option Addr) (c7 : Nat) (l7 : List S46) (A8 : Option Addr) (c8 : Nat) (l8 : List S86) (A9 : Option Addr) (c9 : Nat) (l9 : List S77) (r : ByteArray) (w : World) (hr5 : Kd.C Kd.string w A5 l5.length l5) (hc5 : l5.length ≤ c5) (hr6 : Kd.C k52 w A6 l6.length l6) (hc6 : l6.length ≤ c6) (hr7 : Kd.C k46 w A7 l7.length l7) (hc7 : l7.length ≤ c7) (hr8 : Kd.C k86 w A8 l8.length l8) (hc8 : l8.length ≤ c8) (hr9 : Kd.C k77 w A9 l9.length l9) (hc9 : l9.length ≤ c9) (h : xI.f k a0 a1 a2 a3 a4 l5 l6 l7 l8 l9 = some r) :
  Calls Tryz.prog 61 #[.agg #[], .agg #[.int .i64 a0, .int .i64 a1, .int .i64 a2, .int .i64 a3, .int .i64 a4, .slice A5 l5.length c5, .slice A6 l6.length c6, .slice A7 l7.length c7, .slice A8 l8.length c8, .slice A9 l9.length c9]] w fun e w' => e = .returned (.string r) ∧ Below w.heap.size w w' := by
 unfold xI.f at h
 rw [zdK] at h
 obtain ⟨t, ht, h⟩ := h
 by_cases hz : t.size ≤ 140737488351232
 case neg =>
  rw [if_neg hz] at h
  cases h
 rw [if_pos hz, zdK] at h
 obtain ⟨b, hf, h⟩ := h
 obtain rfl := Option.some.inj h
 obtain ⟨y, hy⟩ : ∃ y, ([a3, a4, (l7.length : Int)] : List Int) = y := ⟨_, rfl⟩
 rw [hy] at ht
 have Hy := za.mk hy
 have HT := za.mk ht
 have HF := za.mk hf
 have HZ := za.mk (show t.size ≤ maxLen by simp only [maxLen]; omega)
 have HR := za.mk hr7
 have HC := za.mk hc7
 have HLEN := za.mk hr7.2.1
 have HB := za.mk (Below.refl w.heap.size w)
 have hcv := fun W : World => Lib.run_convert_string_bytes (P := Tryz.prog) W 9 41 5 t Tryz.underlying9 Tryz.underlying41 Tryz.underlying5
 clear h hy ht hf hz hr5 hc5 hr6 hc6 hr7 hc7 hr8 hc8 hr9 hc9
 obtain ⟨i0, hi, hz0, hz1, hz2⟩ := info_parts Jw
 go_enter Tryz.func61, Tryz.ntmps61
 go_wp2_with (first | ((with_reducible refine zN (N := 2) rfl ?_); refine yp ?hg (N := 2) ?hd (cs := #[]) (t := 94) ?hr ?_; (case hd => rfl); (case hg => rfl); (case hr => first | (go_simp; done) | (go_simp; rfl)); intro g_z hg_ w1_ hbox_ hb_; have n0_ := za.mk (zp HB.out hb_); have n1_ := za.mk ((by rw [hg_]; exact HB.out.size : w.heap.size ≤ g_z)); have n2_ := za.mk (hbox_); (try clear HB); (try clear GE_z); (try clear BK_z); have HB := n0_; have GE_z := n1_; have BK_z := n2_; clear n0_ n1_ n2_; clear hbox_ hb_ hg_) | ((with_reducible refine zN (N := 3) rfl ?_); refine yp ?hg (N := 3) ?hd (cs := #[.int .i64 a0, .int .i64 a1, .int .i64 a2, .int .i64 a3, .int .i64 a4, .slice A5 l5.length c5, .slice A6 l6.length c6, .slice A7 l7.length c7, .slice A8 l8.length c8, .slice A9 l9.length c9]) (t := 28) ?hr ?_; (case hd => rfl); (case hg => rfl); (case hr => first | (go_simp; done) | (go_simp; rfl)); intro g_f hg_ w2_ hbox_ hb_; have n0_ := za.mk (zp HB.out hb_); have n1_ := za.mk ((by rw [hg_]; exact HB.out.size : w.heap.size ≤ g_f)); have n2_ := za.mk (hbox_); (try clear HB); (try clear GE_f); (try clear BK_f); have HB := n0_; have GE_f := n1_; have BK_f := n2_; clear n0_ n1_ n2_; clear hbox_ hb_ hg_; obtain ⟨hc_f_0, hc_f_1, hc_f_2, hc_f_3, hc_f_4, hc_f_5, hc_f_6, hc_f_7, hc_f_8, hc_f_9, hf_f_0, hf_f_1, hf_f_2, hf_f_3, hf_f_4, hf_f_5, hf_f_6, hf_f_7, hf_f_8, hf_f_9⟩ := je BK_f.out) | ((with_reducible refine zN (N := 19) rfl ?_); refine Kd.R_lit (Kd.int .i64) _ 3 ?hg (N := 19) ?hd (xs := ([a3, a4, (l7.length : Int)] : List Int)) (inner := [.int .i64 a3, .int .i64 a4, .int .i64 (l7.length : Int)]) (ok := fun _ => True) (okp := fun _ => True) ?hr ?hp (fun _ hk => hk) trivial (Below.refl _ _) (Nat.le_refl _) (by simp) ?_; (case hd => rfl); (case hg => rfl); (case hr => first | (go_simp; done) | (go_simp; rfl)); (case hp => exact (zX.one (show Kd.M (Kd.int .i64) _ _ _ a3 [.int .i64 a3] from rfl) (zX.one (show Kd.M (Kd.int .i64) _ _ _ a4 [.int .i64 a4] from rfl) (zX.one (show Kd.M (Kd.int .i64) _ _ _ (l7.length : Int) [.int .i64 (l7.length : Int)] from rfl) (zX.none _ _))))); intro v_ w3_ hr_ hb_ hg_ hn_; clear hg_ hn_; (first | rw [Hy.out] at hr_ | (simp only [Int.reduceToNat] at hr_; rw [Hy.out] at hr_)); obtain ⟨A_y, c_y, ev_⟩ := Kd.R_slice hr_; subst ev_; have n0_ := za.mk (zZ BK_f.out hb_); have n1_ := za.mk (zp HB.out hb_); have n2_ := za.mk (Kd.R_lower hr_ HB.out.size); (try clear BK_f); (try clear HB); (try clear HR_y); have BK_f := n0_; have HB := n1_; have HR_y := n2_; clear n0_ n1_ n2_; (try clear hc_f_0 hc_f_1 hc_f_2 hc_f_3 hc_f_4 hc_f_5 hc_f_6 hc_f_7 hc_f_8 hc_f_9 hf_f_0 hf_f_1 hf_f_2 hf_f_3 hf_f_4 hf_f_5 hf_f_6 hf_f_7 hf_f_8 hf_f_9); (try clear hb_ hr_); obtain ⟨hc_f_0, hc_f_1, hc_f_2, hc_f_3, hc_f_4, hc_f_5, hc_f_6, hc_f_7, hc_f_8, hc_f_9, hf_f_0, hf_f_1, hf_f_2, hf_f_3, hf_f_4, hf_f_5, hf_f_6, hf_f_7, hf_f_8, hf_f_9⟩ := je BK_f.out) | (go_at_call 18; (with_reducible refine (zy.calls k _ _ y t _ ?side1 ?side2 HT.out).mono ?_); (case side1 => exact (Kd.R_reads' HR_y.out).2.2); (case side2 => exact (Kd.R_reads' HR_y.out).2.1); rintro e_ w4_ ⟨rfl, hb_⟩; have n0_ := za.mk (zZ BK_f.out hb_); have n1_ := za.mk (Kd.R_below HR_y.out hb_); have n2_ := za.mk (zp HB.out hb_); (try clear BK_f); (try clear HR_y); (try clear HB); have BK_f := n0_; have HR_y := n1_; have HB := n2_; clear n0_ n1_ n2_; (try clear hc_f_0 hc_f_1 hc_f_2 hc_f_3 hc_f_4 hc_f_5 hc_f_6 hc_f_7 hc_f_8 hc_f_9 hf_f_0 hf_f_1 hf_f_2 hf_f_3 hf_f_4 hf_f_5 hf_f_6 hf_f_7 hf_f_8 hf_f_9); (try clear hb_); obtain ⟨hc_f_0, hc_f_1, hc_f_2, hc_f_3, hc_f_4, hc_f_5, hc_f_6, hc_f_7, hc_f_8, hc_f_9, hf_f_0, hf_f_1, hf_f_2, hf_f_3, hf_f_4, hf_f_5, hf_f_6, hf_f_7, hf_f_8, hf_f_9⟩ := je BK_f.out; have HM1 := za.mk (yL.of_bytes w4_ w.heap.size 5 t HB.out.size HZ.out); have HB2 := za.mk (qE HB.out HB.out.size 5 t); have hcw := ((qE (Below.refl w4_.heap.size w4_) (Nat.le_refl _) 5 t).cell (zdL _ _ hc_f_7)).trans hc_f_7))
 have hcv0 := za.mk hcv
 clear hcv
 (try clear hc_f_0 hc_f_1 hc_f_2 hc_f_3 hc_f_4 hc_f_5 hc_f_6 hc_f_7 hc_f_8 hc_f_9 hf_f_0 hf_f_1 hf_f_2 hf_f_3 hf_f_4 hf_f_5 hf_f_6 hf_f_7 hf_f_8 hf_f_9)
 go_loopg [5, 25] l7.length (fun kq vb vi wr => ∃ (i : Nat) (xs : List Int), vi = .int .i64 i ∧ za (i + kq = l7.length) ∧ za (xX (qF k) (l7.drop i) xs = some b) ∧ za (yL wr w.heap.size 5 vb (yH .u8 xs)) ∧ za (Below w.heap.size w wr))
 case atStart => exact ⟨0, bytesOf t, rfl, ⟨by simp⟩, ⟨by rw [List.drop_zero]; exact HF.out⟩, ⟨by rw [← qo]; exact HM1.out⟩, HB2⟩
 case round =>
  clear HB2 HM1 HB BK_f HR_y hcw
  obtain ⟨i, xs, rfl, HK, HO, HM, HB0⟩ := hrel
  have hil : i ≤ l7.length := by have := HK.out; omega
  by_cases hlt : i < l7.length
  ·have HRR := za.mk (Kd.C_below HR.out HB0.out)
   obtain ⟨ad, A2, c2, rfl, x0, x1, x2, x3, x4, hll, hin⟩ := vV HRR.out (i : Int) (by omega) (by omega)
   rw [Int.toNat_natCast] at x0 x1 x2 x3 x4
   have ho := HO.out
   rw [List.drop_eq_getElem_cons hlt, xX, zdK] at ho
   obtain ⟨t1, ht1, ho⟩ := ho
   have HO2 := za.mk ho
   have hq : xb l7 (i : Int) = l7[i] := by simp [xb, hlt]
   rw [hq] at x0 x1 x2 x3 x4 hll hin
   obtain ⟨x, hx⟩ : ∃ x, x = l7[i] := ⟨_, rfl⟩
   rw [← hx] at ht1 x0 x1 x2 x3 x4 hll hin
   unfold qF at ht1
   rw [zdK] at ht1
   obtain ⟨⟨t_, te⟩, hp1, ht1⟩ := ht1
   rw [zdK] at ht1
   obtain ⟨⟨v_, ve⟩, hp2, ht1⟩ := ht1
   rw [zdK] at ht1
   obtain ⟨n_, hp3, ht1⟩ := ht1
   dsimp only at ht1
   by_cases f1 : xs.length + n_.size ≤ 140737488355328
   case neg =>
    rw [if_neg f1] at ht1
    cases ht1
   rw [if_pos f1] at ht1
   by_cases f2 : (xs ++ bytesOf n_).length + t_.size ≤ 140737488355328
   case neg =>
    rw [if_neg f2] at ht1
    cases ht1
   rw [if_pos f2] at ht1
   by_cases f3 : ((xs ++ bytesOf n_) ++ bytesOf t_).length + v_.size ≤ 140737488355328
   case neg =>
    rw [if_neg f3] at ht1
    cases ht1
   rw [if_pos f3] at ht1
   rw [zdK] at ht1
   obtain ⟨m_, hp4, ht1⟩ := ht1
   by_cases f4 : (((xs ++ bytesOf n_) ++ bytesOf t_) ++ bytesOf v_).length + m_.size ≤ 140737488355328
   case neg =>
    rw [if_neg f4] at ht1
    cases ht1
   rw [if_pos f4] at ht1
   obtain rfl := Option.some.inj ht1
   obtain ⟨y1, hy1⟩ : ∃ y1, ([x.f0] : List Int) = y1 := ⟨_, rfl⟩
   obtain ⟨y2, hy2⟩ : ∃ y2, ([x.f3, x.f4] : List Int) = y2 := ⟨_, rfl⟩
   rw [hy1] at hp3
   rw [hy2] at hp4
   have Hy1 := za.mk hy1
   have Hy2 := za.mk hy2
   have HP1 := za.mk hp1
   have HF1 := za.mk f1
   have HP2 := za.mk hp2
   have HF2 := za.mk f2
   have HP3 := za.mk hp3
   have HF3 := za.mk f3
   have HP4 := za.mk hp4
   have HF4 := za.mk f4
   clear ht1 hy1 hy2 hp1 hp2 hp3 hp4 f1 f2 f3 f4
   have HI := za.mk hin
   have HL := za.mk hll
   have HB := za.mk (Below.refl wr.heap.size wr)
   have HBW := za.mk (Below.trans HB0.out (HB.out.mono HB0.out.size))
   clear ho hin hll hq hx HO HRR
   go_wp2_with (first
    | ((with_reducible refine zN (N := 7) rfl ?_); refine yp ?hg (N := 7) ?hd (cs := #[.int .i64 0, .string ⟨#[]⟩, .slice none 0 0, .int .i64 0, .int .i64 0]) (t := 46) ?hr ?_; (case hd => rfl); (case hg => rfl); (case hr => first | (go_simp; done) | (go_simp; rfl)); intro g_x hg_ w1_ hbox_ hb_; have n0_ := za.mk (zp HB.out hb_); have n1_ := za.mk ((by rw [hg_]; exact HB.out.size : wr.heap.size ≤ g_x)); have n2_ := za.mk (hbox_); (try clear HB); (try clear GE_x); (try clear BK_x); have HB := n0_; have GE_x := n1_; have BK_x := n2_; clear n0_ n1_ n2_; clear hbox_ hb_ hg_; obtain ⟨hc_x_0, hc_x_1, hc_x_2, hc_x_3, hc_x_4, hf_x_0, hf_x_1, hf_x_2, hf_x_3, hf_x_4⟩ := ZN BK_x.out)
    | ((with_reducible refine vK (t := 46) (p := 7) rfl ?_); refine vm (t := 46) (p := 7) (v := ?vo_w2_) (w1 := (((((w1_.setCell ⟨g_x, 0, none⟩ (.int .i64 x.f0)).setCell ⟨g_x, 1, none⟩ (.string x.f1)).setCell ⟨g_x, 2, none⟩ (.slice A2 x.f2.length c2)).setCell ⟨g_x, 3, none⟩ (.int .i64 x.f3)).setCell ⟨g_x, 4, none⟩ (.int .i64 x.f4))) ?hg ?ho ?hn ?hr ?_; (case ho => rfl); (case hg => rfl); (case hn => rfl); (case hr => first | (go_simp; done) | (go_simp; rfl)); intro w2_ hw_; have n0_ : za (w2_.heap[g_x]? = some (.cells #[.int .i64 x.f0, .string x.f1, .slice A2 x.f2.length c2, .int .i64 x.f3, .int .i64 x.f4] 46 (0, 0))) := ⟨(by rw [hw_]; exact (yW (cs' := #[.int .i64 x.f0, .string x.f1, .slice A2 x.f2.length c2, .int .i64 x.f3, .int .i64 x.f4]) (yW (cs' := #[.int .i64 x.f0, .string x.f1, .slice A2 x.f2.length c2, .int .i64 x.f3, .int .i64 0]) (yW (cs' := #[.int .i64 x.f0, .string x.f1, .slice A2 x.f2.length c2, .int .i64 0, .int .i64 0]) (yW (cs' := #[.int .i64 x.f0, .string x.f1, .slice none 0 0, .int .i64 0, .int .i64 0]) (yW (cs' := #[.int .i64 x.f0, .string ⟨#[]⟩, .slice none 0 0, .int .i64 0, .int .i64 0]) (BK_x.out) 0 _ rfl) 1 _ rfl) 2 _ rfl) 3 _ rfl) 4 _ rfl))⟩; have n1_ : za (Below wr.heap.size wr w2_) := ⟨(by rw [hw_]; exact (zv (g := g_x) (j := 4) (zv (g := g_x) (j := 3) (zv (g := g_x) (j := 2) (zv (g := g_x) (j := 1) (zv (g := g_x) (j := 0) (HB.out) GE_x.out) GE_x.out) GE_x.out) GE_x.out) GE_x.out))⟩; (try clear BK_x); (try clear HB); have BK_x := n0_; have HB := n1_; clear n0_ n1_; (try clear hc_x_0 hc_x_1 hc_x_2 hc_x_3 hc_x_4 hf_x_0 hf_x_1 hf_x_2 hf_x_3 hf_x_4); clear hw_; obtain ⟨hc_x_0, hc_x_1, hc_x_2, hc_x_3, hc_x_4, hf_x_0, hf_x_1, hf_x_2, hf_x_3, hf_x_4⟩ := ZN BK_x.out)
    | (go_at_call 103; (with_reducible refine (y9.calls x.f1 t_ te _ HP1.out).mono ?_); rintro e_ w3_ ⟨rfl, hb_⟩; have n0_ := za.mk (zZ BK_x.out hb_); have n1_ := za.mk (zp HB.out hb_); (try clear BK_x); (try clear HB); have BK_x := n0_; have HB := n1_; clear n0_ n1_; (try clear hc_x_0 hc_x_1 hc_x_2 hc_x_3 hc_x_4 hf_x_0 hf_x_1 hf_x_2 hf_x_3 hf_x_4); (try clear hb_); obtain ⟨hc_x_0, hc_x_1, hc_x_2, hc_x_3, hc_x_4, hf_x_0, hf_x_1, hf_x_2, hf_x_3, hf_x_4⟩ := ZN BK_x.out)
    | (go_at_call 104; (with_reducible refine (yJ.calls k A2 c2 x.f2 v_ ve _ ?side1 HL.out HP2.out).mono ?_); (case side1 => exact Kd.C_below HI.out HB.out); rintro e_ w4_ ⟨rfl, hb_⟩; have n0_ := za.mk (zZ BK_x.out hb_); have n1_ := za.mk (zp HB.out hb_); (try clear BK_x); (try clear HB); have BK_x := n0_; have HB := n1_; clear n0_ n1_; (try clear hc_x_0 hc_x_1 hc_x_2 hc_x_3 hc_x_4 hf_x_0 hf_x_1 hf_x_2 hf_x_3 hf_x_4); (try clear hb_); obtain ⟨hc_x_0, hc_x_1, hc_x_2, hc_x_3, hc_x_4, hf_x_0, hf_x_1, hf_x_2, hf_x_3, hf_x_4⟩ := ZN BK_x.out)
    | ((with_reducible refine zN (N := 44) rfl ?_); refine Kd.R_lit (Kd.int .i64) _ 3 ?hg (N := 44) ?hd (xs := ([x.f0] : List Int)) (inner := [.int .i64 x.f0]) (ok := fun _ => True) (okp := fun _ => True) ?hr ?hp (fun _ hk => hk) trivial (Below.refl _ _) (Nat.le_refl _) (by simp) ?_; (case hd => rfl); (case hg => rfl); (case hr => first | (go_simp; done) | (go_simp; rfl)); (case hp => exact (zX.one (show Kd.M (Kd.int .i64) _ _ _ x.f0 [.int .i64 x.f0] from rfl) (zX.none _ _))); intro v_ w5_ hr_ hb_ hg_ hn_; clear hg_ hn_; (first | rw [Hy1.out] at hr_ | (simp only [Int.reduceToNat] at hr_; rw [Hy1.out] at hr_)); obtain ⟨A_y1, c_y1, ev_⟩ := Kd.R_slice hr_; subst ev_; have n0_ := za.mk (zZ BK_x.out hb_); have n1_ := za.mk (zp HB.out hb_); have n2_ := za.mk (Kd.R_lower hr_ HB.out.size); (try clear BK_x); (try clear HB); (try clear HR_y1); have BK_x := n0_; have HB := n1_; have HR_y1 := n2_; clear n0_ n1_ n2_; (try clear hc_x_0 hc_x_1 hc_x_2 hc_x_3 hc_x_4 hf_x_0 hf_x_1 hf_x_2 hf_x_3 hf_x_4); (try clear hb_ hr_); obtain ⟨hc_x_0, hc_x_1, hc_x_2, hc_x_3, hc_x_4, hf_x_0, hf_x_1, hf_x_2, hf_x_3, hf_x_4⟩ := ZN BK_x.out)
    | (go_at_call 18; (with_reducible refine (zy.calls k _ _ y1 n_ _ ?side1 ?side2 HP3.out).mono ?_); (case side1 => exact (Kd.R_reads' HR_y1.out).2.2); (case side2 => exact (Kd.R_reads' HR_y1.out).2.1); rintro e_ w6_ ⟨rfl, hb_⟩; have n0_ := za.mk (zZ BK_x.out hb_); have n1_ := za.mk (Kd.R_below HR_y1.out hb_); have n2_ := za.mk (zp HB.out hb_); (try clear BK_x); (try clear HR_y1); (try clear HB); have BK_x := n0_; have HR_y1 := n1_; have HB := n2_; clear n0_ n1_ n2_; (try clear hc_x_0 hc_x_1 hc_x_2 hc_x_3 hc_x_4 hf_x_0 hf_x_1 hf_x_2 hf_x_3 hf_x_4); (try clear hb_); obtain ⟨hc_x_0, hc_x_1, hc_x_2, hc_x_3, hc_x_4, hf_x_0, hf_x_1, hf_x_2, hf_x_3, hf_x_4⟩ := ZN BK_x.out; clear HBW; have HBW := za.mk (Below.trans HB0.out (HB.out.mono HB0.out.size)); have HMc := za.mk (HM.out.below HB.out); clear HB HR_y1; have HB := HBW; clear HBW)
    | ((with_reducible refine zN (N := 46) rfl ?_); refine yU _ rfl (.tmp 41) (.tmp 45) 41 9 rfl w.heap.size 5 i0 Tryz.underlying41 Tryz.underlying9 hi hz0 hz1 hz2 _ (yH .u8 xs) rfl (HMc.out) n_ rfl (by rw [xL]; exact HF1.out) HB.out.size ?_; intro v_n46 w7_ hm_ hg_; rw [jv] at hm_; have n0_ := za.mk (Yn BK_x.out hg_ (HMc.out.ne_blk BK_x.out (by decide))); have n1_ := za.mk (HB.out.grown hg_ HB.out.size (fun k hk => HMc.out.base_le k hk)); have n2_ := za.mk (hm_); (try clear BK_x); (try clear HB); (try clear HMc); have BK_x := n0_; have HB := n1_; have HMc := n2_; clear n0_ n1_ n2_; (try clear hc_x_0 hc_x_1 hc_x_2 hc_x_3 hc_x_4 hf_x_0 hf_x_1 hf_x_2 hf_x_3 hf_x_4); clear hm_ hg_; obtain ⟨hc_x_0, hc_x_1, hc_x_2, hc_x_3, hc_x_4, hf_x_0, hf_x_1, hf_x_2, hf_x_3, hf_x_4⟩ := ZN BK_x.out)
    | ((with_reducible refine zN (N := 48) rfl ?_); refine yU _ rfl (.tmp 46) (.tmp 47) 41 9 rfl w.heap.size 5 i0 Tryz.underlying41 Tryz.underlying9 hi hz0 hz1 hz2 _ (yH .u8 (xs ++ bytesOf n_)) rfl (HMc.out) t_ rfl (by rw [xL]; exact HF2.out) HB.out.size ?_; intro v_n48 w8_ hm_ hg_; rw [jv] at hm_; have n0_ := za.mk (Yn BK_x.out hg_ (HMc.out.ne_blk BK_x.out (by decide))); have n1_ := za.mk (HB.out.grown hg_ HB.out.size (fun k hk => HMc.out.base_le k hk)); have n2_ := za.mk (hm_); (try clear BK_x); (try clear HB); (try clear HMc); have BK_x := n0_; have HB := n1_; have HMc := n2_; clear n0_ n1_ n2_; (try clear hc_x_0 hc_x_1 hc_x_2 hc_x_3 hc_x_4 hf_x_0 hf_x_1 hf_x_2 hf_x_3 hf_x_4); clear hm_ hg_; obtain ⟨hc_x_0, hc_x_1, hc_x_2, hc_x_3, hc_x_4, hf_x_0, hf_x_1, hf_x_2, hf_x_3, hf_x_4⟩ := ZN BK_x.out)
    | ((with_reducible refine zN (N := 50) rfl ?_); refine yU _ rfl (.tmp 48) (.tmp 49) 41 9 rfl w.heap.size 5 i0 Tryz.underlying41 Tryz.underlying9 hi hz0 hz1 hz2 _ (yH .u8 ((xs ++ bytesOf n_) ++ bytesOf t_)) rfl (HMc.out) v_ rfl (by rw [xL]; exact HF3.out) HB.out.size ?_; intro v_n50 w9_ hm_ hg_; rw [jv] at hm_; have n0_ := za.mk (Yn BK_x.out hg_ (HMc.out.ne_blk BK_x.out (by decide))); have n1_ := za.mk (HB.out.grown hg_ HB.out.size (fun k hk => HMc.out.base_le k hk)); have n2_ := za.mk (hm_); (try clear BK_x); (try clear HB); (try clear HMc); have BK_x := n0_; have HB := n1_; have HMc := n2_; clear n0_ n1_ n2_; (try clear hc_x_0 hc_x_1 hc_x_2 hc_x_3 hc_x_4 hf_x_0 hf_x_1 hf_x_2 hf_x_3 hf_x_4); clear hm_ hg_; obtain ⟨hc_x_0, hc_x_1, hc_x_2, hc_x_3, hc_x_4, hf_x_0, hf_x_1, hf_x_2, hf_x_3, hf_x_4⟩ := ZN BK_x.out)
    | ((with_reducible refine zN (N := 56) rfl ?_); refine Kd.R_lit (Kd.int .i64) _ 3 ?hg (N := 56) ?hd (xs := ([x.f3, x.f4] : List Int)) (inner := [.int .i64 x.f3, .int .i64 x.f4]) (ok := fun _ => True) (okp := fun _ => True) ?hr ?hp (fun _ hk => hk) trivial (Below.refl _ _) (Nat.le_refl _) (by simp) ?_; (case hd => rfl); (case hg => rfl); (case hr => first | (go_simp; done) | (go_simp; rfl)); (case hp => exact (zX.one (show Kd.M (Kd.int .i64) _ _ _ x.f3 [.int .i64 x.f3] from rfl) (zX.one (show Kd.M (Kd.int .i64) _ _ _ x.f4 [.int .i64 x.f4] from rfl) (zX.none _ _)))); intro v_ w10_ hr_ hb_ hg_ hn_; clear hg_ hn_; (first | rw [Hy2.out] at hr_ | (simp only [Int.reduceToNat] at hr_; rw [Hy2.out] at hr_)); obtain ⟨A_y2, c_y2, ev_⟩ := Kd.R_slice hr_; subst ev_; have n0_ := za.mk (zZ BK_x.out hb_); have n1_ := za.mk (zp HB.out hb_); have n2_ := za.mk (HMc.out.below hb_); have n3_ := za.mk (Kd.R_lower hr_ HB.out.size); (try clear BK_x); (try clear HB); (try clear HMc); (try clear HR_y2); have BK_x := n0_; have HB := n1_; have HMc := n2_; have HR_y2 := n3_; clear n0_ n1_ n2_ n3_; (try clear hc_x_0 hc_x_1 hc_x_2 hc_x_3 hc_x_4 hf_x_0 hf_x_1 hf_x_2 hf_x_3 hf_x_4); (try clear hb_ hr_); obtain ⟨hc_x_0, hc_x_1, hc_x_2, hc_x_3, hc_x_4, hf_x_0, hf_x_1, hf_x_2, hf_x_3, hf_x_4⟩ := ZN BK_x.out)
    | (go_at_call 18; (with_reducible refine (zy.calls k _ _ y2 m_ _ ?side1 ?side2 HP4.out).mono ?_); (case side1 => exact (Kd.R_reads' HR_y2.out).2.2); (case side2 => exact (Kd.R_reads' HR_y2.out).2.1); rintro e_ w11_ ⟨rfl, hb_⟩; have n0_ := za.mk (zZ BK_x.out hb_); have n1_ := za.mk (Kd.R_below HR_y2.out hb_); have n2_ := za.mk (zp HB.out hb_); have n3_ := za.mk (HMc.out.below hb_); (try clear BK_x); (try clear HR_y2); (try clear HB); (try clear HMc); have BK_x := n0_; have HR_y2 := n1_; have HB := n2_; have HMc := n3_; clear n0_ n1_ n2_ n3_; (try clear hc_x_0 hc_x_1 hc_x_2 hc_x_3 hc_x_4 hf_x_0 hf_x_1 hf_x_2 hf_x_3 hf_x_4); (try clear hb_); obtain ⟨hc_x_0, hc_x_1, hc_x_2, hc_x_3, hc_x_4, hf_x_0, hf_x_1, hf_x_2, hf_x_3, hf_x_4⟩ := ZN BK_x.out)
    | ((with_reducible refine zN (N := 58) rfl ?_); refine yU _ rfl (.tmp 51) (.tmp 57) 41 9 rfl w.heap.size 5 i0 Tryz.underlying41 Tryz.underlying9 hi hz0 hz1 hz2 _ (yH .u8 (((xs ++ bytesOf n_) ++ bytesOf t_) ++ bytesOf v_)) rfl (HMc.out) m_ rfl (by rw [xL]; exact HF4.out) HB.out.size ?_; intro v_n58 w12_ hm_ hg_; rw [jv] at hm_; have n0_ := za.mk (Yn BK_x.out hg_ (HMc.out.ne_blk BK_x.out (by decide))); have n1_ := za.mk (HB.out.grown hg_ HB.out.size (fun k hk => HMc.out.base_le k hk)); have n2_ := za.mk (hm_); (try clear BK_x); (try clear HB); (try clear HMc); have BK_x := n0_; have HB := n1_; have HMc := n2_; clear n0_ n1_ n2_; (try clear hc_x_0 hc_x_1 hc_x_2 hc_x_3 hc_x_4 hf_x_0 hf_x_1 hf_x_2 hf_x_3 hf_x_4); clear hm_ hg_; obtain ⟨hc_x_0, hc_x_1, hc_x_2, hc_x_3, hc_x_4, hf_x_0, hf_x_1, hf_x_2, hf_x_3, hf_x_4⟩ := ZN BK_x.out))
   go_roundg (l7.length - (i + 1))
   case measure => have := HK.out; omega
   case rel => exact ⟨i + 1, _, by have h_ : wrap64 ((i : Int) + 1) = ((i + 1 : Nat) : Int) := z4 (by omega) (by have := HLEN.out; omega); first | (rw [h_]) | (simp only [h_]), ⟨by have := HK.out; omega⟩, HO2, HMc, HB⟩
  ·obtain rfl : i = l7.length := by omega
   have ho := HO.out
   rw [List.drop_length, xX] at ho
   obtain rfl := Option.some.inj ho
   have hcs := yL.to_string (P := Tryz.prog) Tryz.underlying41 Tryz.underlying5 Tryz.underlying9 HM.out
   go_wp2
   go_ret
   exact ⟨rfl, HB0.out⟩
def qJ.f (k : Nat)  (a1_0 : Int) (a1_1 : Int) (a1_2 : Int) (a1_3 : Int) (a1_4 : Int) (l1_5 : List ByteArray) (l1_6 : List (S52)) (l1_7 : List (S46)) (l1_8 : List (S86)) (l1_9 : List (S77)) : Option (ByteArray) := (xp.f k l1_8).bind fun bt417 => ((yQ.f k l1_9).bind fun bt419 => ((zy.f k (([a1_4] : List Int))).bind fun t424 => (if t424.size + bt417.1.size ≤ 9223372036854775807 then (if (t424 ++ bt417.1).size + bt419.1.size ≤ 9223372036854775807 then (some ((t424 ++ bt417.1) ++ bt419.1)) else (none)) else (none))))
theorem qJ.calls (k : Nat)  (a1_0 : Int) (a1_1 : Int) (a1_2 : Int) (a1_3 : Int) (a1_4 : Int) (A1_5 : Option Addr) (c1_5 : Nat) (l1_5 : List ByteArray) (A1_6 : Option Addr) (c1_6 : Nat) (l1_6 : List (S52)) (A1_7 : Option Addr) (c1_7 : Nat) (l1_7 : List (S46)) (A1_8 : Option Addr) (c1_8 : Nat) (l1_8 : List (S86)) (A1_9 : Option Addr) (c1_9 : Nat) (l1_9 : List (S77)) (r : ByteArray) (w : World) (hr1_5 : Kd.C Kd.string w A1_5 l1_5.length l1_5) (hc1_5 : l1_5.length ≤ c1_5) (hr1_6 : Kd.C k52 w A1_6 l1_6.length l1_6) (hc1_6 : l1_6.length ≤ c1_6) (hr1_7 : Kd.C k46 w A1_7 l1_7.length l1_7) (hc1_7 : l1_7.length ≤ c1_7) (hr1_8 : Kd.C k86 w A1_8 l1_8.length l1_8) (hc1_8 : l1_8.length ≤ c1_8) (hr1_9 : Kd.C k77 w A1_9 l1_9.length l1_9) (hc1_9 : l1_9.length ≤ c1_9) (h : qJ.f k a1_0 a1_1 a1_2 a1_3 a1_4 l1_5 l1_6 l1_7 l1_8 l1_9 = some r) :
  Calls Tryz.prog 62 #[.agg #[], .agg #[.int .i64 a1_0, .int .i64 a1_1, .int .i64 a1_2, .int .i64 a1_3, .int .i64 a1_4, .slice A1_5 l1_5.length c1_5, .slice A1_6 l1_6.length c1_6, .slice A1_7 l1_7.length c1_7, .slice A1_8 l1_8.length c1_8, .slice A1_9 l1_9.length c1_9]] w fun e w' => e = .returned (.string r) ∧ Below w.heap.size w w' := by
 have hu95 := Tryz.underlying95
 have hu28 := Tryz.underlying28
 have HR1_5 := za.mk hr1_5
 have HC1_5 := za.mk hc1_5
 clear hr1_5 hc1_5
 have HR1_6 := za.mk hr1_6
 have HC1_6 := za.mk hc1_6
 clear hr1_6 hc1_6
 have HR1_7 := za.mk hr1_7
 have HC1_7 := za.mk hc1_7
 clear hr1_7 hc1_7
 have HR1_8 := za.mk hr1_8
 have HC1_8 := za.mk hc1_8
 clear hr1_8 hc1_8
 have HR1_9 := za.mk hr1_9
 have HC1_9 := za.mk hc1_9
 clear hr1_9 hc1_9
 have HB := za.mk (Below.refl w.heap.size w)
 have H : ((xp.f k l1_8).bind fun bt417 => ((yQ.f k l1_9).bind fun bt419 => ((zy.f k (([a1_4] : List Int))).bind fun t424 => (if t424.size + bt417.1.size ≤ 9223372036854775807 then (if (t424 ++ bt417.1).size + bt419.1.size ≤ 9223372036854775807 then (some ((t424 ++ bt417.1) ++ bt419.1)) else (none)) else (none))))) = some r := h
 clear h
 replace H := zdK.mp H
 obtain ⟨⟨t417, t418⟩, A30, H⟩ := H
 replace H : ((yQ.f k l1_9).bind fun bt419 => ((zy.f k (([a1_4] : List Int))).bind fun t424 => (if t424.size + t417.size ≤ 9223372036854775807 then (if (t424 ++ t417).size + bt419.1.size ≤ 9223372036854775807 then (some ((t424 ++ t417) ++ bt419.1)) else (none)) else (none)))) = some r := H
 have A3 := za.mk A30
 clear A30
 replace H := zdK.mp H
 obtain ⟨⟨t419, t420⟩, A40, H⟩ := H
 replace H : ((zy.f k (([a1_4] : List Int))).bind fun t424 => (if t424.size + t417.size ≤ 9223372036854775807 then (if (t424 ++ t417).size + t419.size ≤ 9223372036854775807 then (some ((t424 ++ t417) ++ t419)) else (none)) else (none))) = some r := H
 have A4 := za.mk A40
 clear A40
 obtain ⟨y421, hy421⟩ : ∃ y_ : List Int, y_ = (([a1_4] : List Int)) := ⟨_, rfl⟩
 replace H : ((zy.f k y421).bind fun t424 => (if t424.size + t417.size ≤ 9223372036854775807 then (if (t424 ++ t417).size + t419.size ≤ 9223372036854775807 then (some ((t424 ++ t417) ++ t419)) else (none)) else (none))) = some r := by first | (rw [hy421]; with_reducible exact H) | (have H2_ := (Option.bind_some _ _).symm.trans H; rw [hy421]; with_reducible exact H2_) | (have H2_ := (Option.bind_some _ _).symm.trans H; with_reducible exact H2_) | with_reducible exact H | (rw [hy421]; exact H) | exact H
 have Ny421 := za.mk hy421
 clear hy421
 replace H := zdK.mp H
 obtain ⟨t424, A50, H⟩ := H
 replace H : (if t424.size + t417.size ≤ 9223372036854775807 then (if (t424 ++ t417).size + t419.size ≤ 9223372036854775807 then (some ((t424 ++ t417) ++ t419)) else (none)) else (none)) = some r := H
 have A5 := za.mk A50
 clear A50
 by_cases c6 : t424.size + t417.size ≤ 9223372036854775807
 ·rw [if_pos c6] at H
  have c6b0 := eq_true c6
  have c6b1 : decide (t424.size + t417.size ≤ 9223372036854775807) = true := decide_eq_true c6
  try have c6b2 : (9223372036854775807 < t424.size + t417.size) = False := eq_false (Nat.not_lt.2 c6)
  by_cases c7 : (t424 ++ t417).size + t419.size ≤ 9223372036854775807
  ·rw [if_pos c7] at H
   have c7b0 := eq_true c7
   have c7b1 : decide ((t424 ++ t417).size + t419.size ≤ 9223372036854775807) = true := decide_eq_true c7
   try have c7b2 : (9223372036854775807 < (t424 ++ t417).size + t419.size) = False := eq_false (Nat.not_lt.2 c7)
   try (have c7b3 := c7b2; simp only [ByteArray.size_append] at c7b3)
   obtain rfl := Option.some.inj H
   go_enter Tryz.func62, Tryz.ntmps62
   go_wp2_with (first | ((with_reducible refine zN (N := 2) rfl ?_); refine yp ?hg (N := 2) ?hd (cs := #[]) (t := 95) ?hr ?_; (case hd => rfl); (case hg => rfl); (case hr => first | (go_simp; done) | (go_simp; rfl)); intro gb415 hg w8 hbox hb; have n0_ := za.mk (zp (by repeat (first | (with_reducible first | exact HB.out | apply zc | apply zb | apply zd) | exact HB.out)) hb); have n1_ := za.mk (hbox); have n2_ := za.mk ((by rw [hg]; exact (zF (by repeat (first | (with_reducible first | exact HB.out | apply zc | apply zb | apply zd) | exact HB.out))) : w.heap.size ≤ gb415)); have n3_ := za.mk ((by rw [hg]; exact (zF (by repeat (first | (with_reducible first | exact HB.out | apply zc | apply zb | apply zd) | exact HB.out))) : w.heap.size ≤ gb415)); clear HB; have HB := n0_; have BK415 := n1_; have GW415 := n2_; have GE415 := n3_; clear n0_ n1_ n2_ n3_; clear hb hbox hg) | ((with_reducible refine zN (N := 3) rfl ?_); refine yp ?hg (N := 3) ?hd (cs := #[.int .i64 a1_0, .int .i64 a1_1, .int .i64 a1_2, .int .i64 a1_3, .int .i64 a1_4, .slice A1_5 l1_5.length c1_5, .slice A1_6 l1_6.length c1_6, .slice A1_7 l1_7.length c1_7, .slice A1_8 l1_8.length c1_8, .slice A1_9 l1_9.length c1_9]) (t := 28) ?hr ?_; (case hd => rfl); (case hg => rfl); (case hr => first | (go_simp; done) | (go_simp; rfl)); intro gb416 hg w9 hbox hb; have n0_ := za.mk (zZ (g := gb415) (o := .cells #[] 95 (0, 0)) (by (with_reducible repeat (first | refine zS ?_ _ | refine zV ?_ | refine zR ?_ _)); exact BK415.out) hb); have n1_ := za.mk (zp (by repeat (first | (with_reducible first | exact HB.out | apply zc | apply zb | apply zd | refine zv ?_ GE415.out) | exact HB.out)) hb); have n2_ := za.mk (hbox); have n3_ := za.mk ((by rw [hg]; exact (zF (by repeat (first | (with_reducible first | exact HB.out | apply zc | apply zb | apply zd | refine zv ?_ GE415.out) | exact HB.out))) : w.heap.size ≤ gb416)); have n4_ := za.mk ((by rw [hg]; exact (zF (by repeat (first | (with_reducible first | exact HB.out | apply zc | apply zb | apply zd | refine zv ?_ GE415.out) | exact HB.out))) : w.heap.size ≤ gb416)); have n5_ := za.mk ((by rw [hg]; exact Nat.ne_of_lt (xY (g := gb415) (o := .cells #[] 95 (0, 0)) (by (with_reducible repeat (first | refine zS ?_ _ | refine zV ?_ | refine zR ?_ _)); exact BK415.out)) : gb415 ≠ gb416)); have n6_ := za.mk ((by rw [hg]; exact Nat.ne_of_gt (xY (g := gb415) (o := .cells #[] 95 (0, 0)) (by (with_reducible repeat (first | refine zS ?_ _ | refine zV ?_ | refine zR ?_ _)); exact BK415.out)) : gb416 ≠ gb415)); clear BK415; clear HB; have BK415 := n0_; have HB := n1_; have BK416 := n2_; have GW416 := n3_; have GE416 := n4_; have NB415_416 := n5_; have NB416_415 := n6_; clear n0_ n1_ n2_ n3_ n4_ n5_ n6_; clear hb hbox hg; have hnb10 := NB416_415.out; have hnc10 := NB415_416.out; have hcz11_0 : w9.cell? ⟨gb416, 0, none⟩ = some (.int .i64 a1_0) := (zm BK416.out 0).trans rfl; have hcz11_1 : w9.cell? ⟨gb416, 1, none⟩ = some (.int .i64 a1_1) := (zm BK416.out 1).trans rfl; have hcz11_2 : w9.cell? ⟨gb416, 2, none⟩ = some (.int .i64 a1_2) := (zm BK416.out 2).trans rfl; have hcz11_3 : w9.cell? ⟨gb416, 3, none⟩ = some (.int .i64 a1_3) := (zm BK416.out 3).trans rfl; have hcz11_4 : w9.cell? ⟨gb416, 4, none⟩ = some (.int .i64 a1_4) := (zm BK416.out 4).trans rfl; have hcz11_5 : w9.cell? ⟨gb416, 5, none⟩ = some (.slice A1_5 l1_5.length c1_5) := (zm BK416.out 5).trans rfl; have hcz11_6 : w9.cell? ⟨gb416, 6, none⟩ = some (.slice A1_6 l1_6.length c1_6) := (zm BK416.out 6).trans rfl; have hcz11_7 : w9.cell? ⟨gb416, 7, none⟩ = some (.slice A1_7 l1_7.length c1_7) := (zm BK416.out 7).trans rfl; have hcz11_8 : w9.cell? ⟨gb416, 8, none⟩ = some (.slice A1_8 l1_8.length c1_8) := (zm BK416.out 8).trans rfl; have hcz11_9 : w9.cell? ⟨gb416, 9, none⟩ = some (.slice A1_9 l1_9.length c1_9) := (zm BK416.out 9).trans rfl; have hfz11_0 := zn BK416.out 0; have hfz11_1 := zn BK416.out 1; have hfz11_2 := zn BK416.out 2; have hfz11_3 := zn BK416.out 3; have hfz11_4 := zn BK416.out 4; have hfz11_5 := zn BK416.out 5; have hfz11_6 := zn BK416.out 6; have hfz11_7 := zn BK416.out 7; have hfz11_8 := zn BK416.out 8; have hfz11_9 := zn BK416.out 9) | ((with_reducible refine zr (f := 105) rfl ?_); refine zL (some 12) rfl rfl Tryz.func105 (by kernel_rfl) rfl #[.slice A1_8 l1_8.length c1_8] rfl (by (try simp only [zdJ, List.map_cons, List.map_nil]); first | done | rfl | (simp only [List.length_drop, List.length_take]; rfl)) ?_; (with_reducible refine (xp.calls k _ _ l1_8 t417 t418 _ ?side1 ?side2 A3.out).mono ?_); (case side1 => repeat (first | exact (Kd.C_below HR1_8.out HB.out) | (with_reducible refine Kd.C_alloc ?_ _) | (with_reducible refine Kd.C_drewN ?_ _) | (with_reducible refine Kd.C_drew ?_))); (case side2 => exact HC1_8.out); rintro e w12 ⟨rfl, hb⟩; refine ⟨_, rfl, ?_⟩; have n0_ := za.mk (zZ (g := gb415) (o := .cells #[] 95 (0, 0)) (by (with_reducible repeat (first | refine zS ?_ _ | refine zV ?_ | refine zR ?_ _)); exact BK415.out) hb); have n1_ := za.mk (zZ (g := gb416) (o := .cells #[.int .i64 a1_0, .int .i64 a1_1, .int .i64 a1_2, .int .i64 a1_3, .int .i64 a1_4, .slice A1_5 l1_5.length c1_5, .slice A1_6 l1_6.length c1_6, .slice A1_7 l1_7.length c1_7, .slice A1_8 l1_8.length c1_8, .slice A1_9 l1_9.length c1_9] 28 (0, 0)) (by (with_reducible repeat (first | refine zS ?_ _ | refine zV ?_ | refine zR ?_ _)); exact BK416.out) hb); have n2_ := za.mk (zp (by repeat (first | (with_reducible first | exact HB.out | apply zc | apply zb | apply zd | refine zv ?_ GE415.out | refine zv ?_ GE416.out) | exact HB.out)) hb); clear BK415; clear BK416; clear HB; have BK415 := n0_; have BK416 := n1_; have HB := n2_; clear n0_ n1_ n2_; (try clear hb); (try clear hb2); (try clear hk); (try clear hi); have hcz13_0 : w12.cell? ⟨gb416, 0, none⟩ = some (.int .i64 a1_0) := (zm BK416.out 0).trans rfl; have hcz13_1 : w12.cell? ⟨gb416, 1, none⟩ = some (.int .i64 a1_1) := (zm BK416.out 1).trans rfl; have hcz13_2 : w12.cell? ⟨gb416, 2, none⟩ = some (.int .i64 a1_2) := (zm BK416.out 2).trans rfl; have hcz13_3 : w12.cell? ⟨gb416, 3, none⟩ = some (.int .i64 a1_3) := (zm BK416.out 3).trans rfl; have hcz13_4 : w12.cell? ⟨gb416, 4, none⟩ = some (.int .i64 a1_4) := (zm BK416.out 4).trans rfl; have hcz13_5 : w12.cell? ⟨gb416, 5, none⟩ = some (.slice A1_5 l1_5.length c1_5) := (zm BK416.out 5).trans rfl; have hcz13_6 : w12.cell? ⟨gb416, 6, none⟩ = some (.slice A1_6 l1_6.length c1_6) := (zm BK416.out 6).trans rfl; have hcz13_7 : w12.cell? ⟨gb416, 7, none⟩ = some (.slice A1_7 l1_7.length c1_7) := (zm BK416.out 7).trans rfl; have hcz13_8 : w12.cell? ⟨gb416, 8, none⟩ = some (.slice A1_8 l1_8.length c1_8) := (zm BK416.out 8).trans rfl; have hcz13_9 : w12.cell? ⟨gb416, 9, none⟩ = some (.slice A1_9 l1_9.length c1_9) := (zm BK416.out 9).trans rfl; have hfz13_0 := zn BK416.out 0; have hfz13_1 := zn BK416.out 1; have hfz13_2 := zn BK416.out 2; have hfz13_3 := zn BK416.out 3; have hfz13_4 := zn BK416.out 4; have hfz13_5 := zn BK416.out 5; have hfz13_6 := zn BK416.out 6; have hfz13_7 := zn BK416.out 7; have hfz13_8 := zn BK416.out 8; have hfz13_9 := zn BK416.out 9) | ((with_reducible refine zr (f := 106) rfl ?_); refine zL (some 18) rfl rfl Tryz.func106 (by kernel_rfl) rfl #[.slice A1_9 l1_9.length c1_9] rfl (by (try simp only [zdJ, List.map_cons, List.map_nil]); first | done | rfl | (simp only [List.length_drop, List.length_take]; rfl)) ?_; (with_reducible refine (yQ.calls k _ _ l1_9 t419 t420 _ ?side1 ?side2 A4.out).mono ?_); (case side1 => repeat (first | exact (Kd.C_below HR1_9.out HB.out) | (with_reducible refine Kd.C_alloc ?_ _) | (with_reducible refine Kd.C_drewN ?_ _) | (with_reducible refine Kd.C_drew ?_))); (case side2 => exact HC1_9.out); rintro e w14 ⟨rfl, hb⟩; refine ⟨_, rfl, ?_⟩; have n0_ := za.mk (zZ (g := gb415) (o := .cells #[] 95 (0, 0)) (by (with_reducible repeat (first | refine zS ?_ _ | refine zV ?_ | refine zR ?_ _)); exact BK415.out) hb); have n1_ := za.mk (zZ (g := gb416) (o := .cells #[.int .i64 a1_0, .int .i64 a1_1, .int .i64 a1_2, .int .i64 a1_3, .int .i64 a1_4, .slice A1_5 l1_5.length c1_5, .slice A1_6 l1_6.length c1_6, .slice A1_7 l1_7.length c1_7, .slice A1_8 l1_8.length c1_8, .slice A1_9 l1_9.length c1_9] 28 (0, 0)) (by (with_reducible repeat (first | refine zS ?_ _ | refine zV ?_ | refine zR ?_ _)); exact BK416.out) hb); have n2_ := za.mk (zp (by repeat (first | (with_reducible first | exact HB.out | apply zc | apply zb | apply zd | refine zv ?_ GE415.out | refine zv ?_ GE416.out) | exact HB.out)) hb); clear BK415; clear BK416; clear HB; have BK415 := n0_; have BK416 := n1_; have HB := n2_; clear n0_ n1_ n2_; (try clear hb); (try clear hb2); (try clear hk); (try clear hi); have hcz15_0 : w14.cell? ⟨gb416, 0, none⟩ = some (.int .i64 a1_0) := (zm BK416.out 0).trans rfl; have hcz15_1 : w14.cell? ⟨gb416, 1, none⟩ = some (.int .i64 a1_1) := (zm BK416.out 1).trans rfl; have hcz15_2 : w14.cell? ⟨gb416, 2, none⟩ = some (.int .i64 a1_2) := (zm BK416.out 2).trans rfl; have hcz15_3 : w14.cell? ⟨gb416, 3, none⟩ = some (.int .i64 a1_3) := (zm BK416.out 3).trans rfl; have hcz15_4 : w14.cell? ⟨gb416, 4, none⟩ = some (.int .i64 a1_4) := (zm BK416.out 4).trans rfl; have hcz15_5 : w14.cell? ⟨gb416, 5, none⟩ = some (.slice A1_5 l1_5.length c1_5) := (zm BK416.out 5).trans rfl; have hcz15_6 : w14.cell? ⟨gb416, 6, none⟩ = some (.slice A1_6 l1_6.length c1_6) := (zm BK416.out 6).trans rfl; have hcz15_7 : w14.cell? ⟨gb416, 7, none⟩ = some (.slice A1_7 l1_7.length c1_7) := (zm BK416.out 7).trans rfl; have hcz15_8 : w14.cell? ⟨gb416, 8, none⟩ = some (.slice A1_8 l1_8.length c1_8) := (zm BK416.out 8).trans rfl; have hcz15_9 : w14.cell? ⟨gb416, 9, none⟩ = some (.slice A1_9 l1_9.length c1_9) := (zm BK416.out 9).trans rfl; have hfz15_0 := zn BK416.out 0; have hfz15_1 := zn BK416.out 1; have hfz15_2 := zn BK416.out 2; have hfz15_3 := zn BK416.out 3; have hfz15_4 := zn BK416.out 4; have hfz15_5 := zn BK416.out 5; have hfz15_6 := zn BK416.out 6; have hfz15_7 := zn BK416.out 7; have hfz15_8 := zn BK416.out 8; have hfz15_9 := zn BK416.out 9) | ((with_reducible refine zN (N := 23) rfl ?_); refine Kd.R_lit (Kd.int .i64) _ 3 ?hg (N := 23) ?hd (xs := ([a1_4] : List Int)) (inner := [.int .i64 a1_4]) (ok := fun _ => True) (okp := fun _ => True) ?hr ?hp (fun _ hk => hk) trivial (Below.refl _ _) (Nat.le_refl _) (by simp) ?_; (case hd => rfl); (case hg => rfl); (case hr => first | (go_simp; done) | (go_simp; rfl)); (case hp => exact (zX.one (show Kd.M (Kd.int .i64) _ _ _ a1_4 [.int .i64 a1_4] from rfl) (zX.none _ _))); intro v422 w16 ho17 hb hg_ hnew_; clear hg_ hnew_; (first | rw [← Ny421.out] at ho17 | (simp only [Int.reduceToNat] at ho17; rw [← Ny421.out] at ho17)); have n0_ := za.mk (Kd.R_lower ho17 (zF (by repeat (first | (with_reducible first | exact HB.out | apply zc | apply zb | apply zd | refine zv ?_ GE415.out | refine zv ?_ GE416.out) | exact HB.out)))); have n1_ := za.mk (zZ (g := gb415) (o := .cells #[] 95 (0, 0)) (by (with_reducible repeat (first | refine zS ?_ _ | refine zV ?_ | refine zR ?_ _)); exact BK415.out) hb); have n2_ := za.mk (zZ (g := gb416) (o := .cells #[.int .i64 a1_0, .int .i64 a1_1, .int .i64 a1_2, .int .i64 a1_3, .int .i64 a1_4, .slice A1_5 l1_5.length c1_5, .slice A1_6 l1_6.length c1_6, .slice A1_7 l1_7.length c1_7, .slice A1_8 l1_8.length c1_8, .slice A1_9 l1_9.length c1_9] 28 (0, 0)) (by (with_reducible repeat (first | refine zS ?_ _ | refine zV ?_ | refine zR ?_ _)); exact BK416.out) hb); have n3_ := za.mk (zp (by repeat (first | (with_reducible first | exact HB.out | apply zc | apply zb | apply zd | refine zv ?_ GE415.out | refine zv ?_ GE416.out) | exact HB.out)) hb); clear BK415; clear BK416; clear HB; have HO423 := n0_; have BK415 := n1_; have BK416 := n2_; have HB := n3_; clear n0_ n1_ n2_ n3_; clear hb ho17; obtain ⟨Ao18, co18, eo18⟩ := Kd.R_slice HO423.out; subst eo18) | ((with_reducible refine zr (f := 18) rfl ?_); refine zL (some 24) rfl rfl Tryz.func18 (by kernel_rfl) rfl #[.slice Ao18 y421.length co18] rfl (by (try simp only [zdJ, List.map_cons, List.map_nil]); first | done | rfl | (simp only [List.length_drop, List.length_take]; rfl)) ?_; (with_reducible refine (zy.calls k _ _ y421 t424 _ ?side1 ?side2 A5.out).mono ?_); (case side1 => repeat (first | exact (Kd.R_reads' HO423.out).2.2 | (with_reducible refine Kd.C_alloc ?_ _) | (with_reducible refine Kd.C_drewN ?_ _) | (with_reducible refine Kd.C_drew ?_))); (case side2 => exact (Kd.R_reads' HO423.out).2.1); rintro e w19 ⟨rfl, hb⟩; refine ⟨_, rfl, ?_⟩; have n0_ := za.mk (Kd.R_below (by (with_reducible repeat (first | apply Kd.R_alloc | apply Kd.R_drewN | apply Kd.R_drew)); exact HO423.out) hb); have n1_ := za.mk (zZ (g := gb415) (o := .cells #[] 95 (0, 0)) (by (with_reducible repeat (first | refine zS ?_ _ | refine zV ?_ | refine zR ?_ _)); exact BK415.out) hb); have n2_ := za.mk (zZ (g := gb416) (o := .cells #[.int .i64 a1_0, .int .i64 a1_1, .int .i64 a1_2, .int .i64 a1_3, .int .i64 a1_4, .slice A1_5 l1_5.length c1_5, .slice A1_6 l1_6.length c1_6, .slice A1_7 l1_7.length c1_7, .slice A1_8 l1_8.length c1_8, .slice A1_9 l1_9.length c1_9] 28 (0, 0)) (by (with_reducible repeat (first | refine zS ?_ _ | refine zV ?_ | refine zR ?_ _)); exact BK416.out) hb); have n3_ := za.mk (zp (by repeat (first | (with_reducible first | exact HB.out | apply zc | apply zb | apply zd | refine zv ?_ GE415.out | refine zv ?_ GE416.out) | exact HB.out)) hb); clear HO423; clear BK415; clear BK416; clear HB; have HO423 := n0_; have BK415 := n1_; have BK416 := n2_; have HB := n3_; clear n0_ n1_ n2_ n3_; (try clear hb); (try clear hb2); (try clear hk); (try clear hi)))
   go_ret
   exact ⟨by first | rfl | (simp [zl, zk] <;> rfl) | (simp [*, zl, zk] <;> rfl), by repeat (first | (with_reducible first | exact HB.out | apply zc | apply zb | apply zd | refine zv ?_ GE415.out | refine zv ?_ GE416.out) | exact HB.out)⟩
  ·rw [if_neg c7] at H
   exact absurd H (by simp)
 ·rw [if_neg c6] at H
  exact absurd H (by simp)
def qQ.f (k : Nat) (a0 a1 a2 a3 a4 : Int) (l5 : List ByteArray) (l6 : List S52) (l7 : List S46) (l8 : List S86) (l9 : List S77) : Option ByteArray := if a0 = 1 then qc.f k a0 a1 a2 a3 a4 l5 l6 l7 l8 l9 else if a0 = 2 then xT.f k a0 a1 a2 a3 a4 l5 l6 l7 l8 l9 else if a0 = 3 then qG.f k a0 a1 a2 a3 a4 l5 l6 l7 l8 l9 else if a0 = 4 then xI.f k a0 a1 a2 a3 a4 l5 l6 l7 l8 l9 else qJ.f k a0 a1 a2 a3 a4 l5 l6 l7 l8 l9
theorem qQ.calls (k : Nat) (a0 a1 a2 a3 a4 : Int) (A5 : Option Addr) (c5 : Nat) (l5 : List ByteArray) (A6 : Option Addr) (c6 : Nat) (l6 : List S52) (A7 : Option Addr) (c7 : Nat) (l7 : List S46) (A8 : Option Addr) (c8 : Nat) (l8 : List S86) (A9 : Option Addr) (c9 : Nat) (l9 : List S77) (r : ByteArray) (w : World) (hr5 : Kd.C Kd.string w A5 l5.length l5) (hc5 : l5.length ≤ c5) (hr6 : Kd.C k52 w A6 l6.length l6) (hc6 : l6.length ≤ c6) (hr7 : Kd.C k46 w A7 l7.length l7) (hc7 : l7.length ≤ c7) (hr8 : Kd.C k86 w A8 l8.length l8) (hc8 : l8.length ≤ c8) (hr9 : Kd.C k77 w A9 l9.length l9) (hc9 : l9.length ≤ c9) (h : qQ.f k a0 a1 a2 a3 a4 l5 l6 l7 l8 l9 = some r) :
  Calls Tryz.prog 19 #[.agg #[.int .i64 a0, .int .i64 a1, .int .i64 a2, .int .i64 a3, .int .i64 a4, .slice A5 l5.length c5, .slice A6 l6.length c6, .slice A7 l7.length c7, .slice A8 l8.length c8, .slice A9 l9.length c9]] w fun e w' => e = .returned (.string r) ∧ Below w.heap.size w w' := by
 have HB := za.mk (Below.refl w.heap.size w)
 have HR5 := za.mk hr5
 have HL5 := za.mk hc5
 have HR6 := za.mk hr6
 have HL6 := za.mk hc6
 have HR7 := za.mk hr7
 have HL7 := za.mk hc7
 have HR8 := za.mk hr8
 have HL8 := za.mk hc8
 have HR9 := za.mk hr9
 have HL9 := za.mk hc9
 clear hr5 hc5 hr6 hc6 hr7 hc7 hr8 hc8 hr9 hc9
 unfold qQ.f at h
 by_cases t1 : a0 = 1
 case pos =>
  subst t1
  replace h : qc.f k 1 a1 a2 a3 a4 l5 l6 l7 l8 l9 = some r := h
  have HX := za.mk h
  clear h
  go_enter Tryz.func19, Tryz.ntmps19
  go_wp2_with (first | ((with_reducible refine zN (N := 1) rfl ?_); refine yp ?hg (N := 1) ?hd (cs := #[.int .i64 1, .int .i64 a1, .int .i64 a2, .int .i64 a3, .int .i64 a4, .slice A5 l5.length c5, .slice A6 l6.length c6, .slice A7 l7.length c7, .slice A8 l8.length c8, .slice A9 l9.length c9]) (t := 28) ?hr ?_; (case hd => rfl); (case hg => rfl); (case hr => first | (go_simp; done) | (go_simp; rfl)); intro g_f hg_ w1_ hbox_ hb_; have n0_ := za.mk (zp HB.out hb_); have n1_ := za.mk ((by rw [hg_]; exact HB.out.size : w.heap.size ≤ g_f)); have n2_ := za.mk (hbox_); (try clear HB); (try clear GE_f); (try clear BK_f); have HB := n0_; have GE_f := n1_; have BK_f := n2_; clear n0_ n1_ n2_; clear hbox_ hb_ hg_; obtain ⟨hc_f_0, hc_f_1, hc_f_2, hc_f_3, hc_f_4, hc_f_5, hc_f_6, hc_f_7, hc_f_8, hc_f_9, hf_f_0, hf_f_1, hf_f_2, hf_f_3, hf_f_4, hf_f_5, hf_f_6, hf_f_7, hf_f_8, hf_f_9⟩ := je BK_f.out) | (go_at_call 58; (with_reducible refine (qc.calls k 1 a1 a2 a3 a4 A5 c5 l5 A6 c6 l6 A7 c7 l7 A8 c8 l8 A9 c9 l9 r _ ?s5 HL5.out ?s6 HL6.out ?s7 HL7.out ?s8 HL8.out ?s9 HL9.out HX.out).mono ?_); (case s5 => exact Kd.C_below HR5.out HB.out); (case s6 => exact Kd.C_below HR6.out HB.out); (case s7 => exact Kd.C_below HR7.out HB.out); (case s8 => exact Kd.C_below HR8.out HB.out); (case s9 => exact Kd.C_below HR9.out HB.out); rintro e_ w2_ ⟨rfl, hb_⟩; have n0_ := za.mk (zZ BK_f.out hb_); have n1_ := za.mk (zp HB.out hb_); (try clear BK_f); (try clear HB); have BK_f := n0_; have HB := n1_; clear n0_ n1_; (try clear hc_f_0 hc_f_1 hc_f_2 hc_f_3 hc_f_4 hc_f_5 hc_f_6 hc_f_7 hc_f_8 hc_f_9 hf_f_0 hf_f_1 hf_f_2 hf_f_3 hf_f_4 hf_f_5 hf_f_6 hf_f_7 hf_f_8 hf_f_9); (try clear hb_); obtain ⟨hc_f_0, hc_f_1, hc_f_2, hc_f_3, hc_f_4, hc_f_5, hc_f_6, hc_f_7, hc_f_8, hc_f_9, hf_f_0, hf_f_1, hf_f_2, hf_f_3, hf_f_4, hf_f_5, hf_f_6, hf_f_7, hf_f_8, hf_f_9⟩ := je BK_f.out))
  (try simp only [Exit.inBlock, Exit.then])
  go_ret
  exact ⟨rfl, HB.out⟩
 rw [if_neg t1] at h
 by_cases t2 : a0 = 2
 case pos =>
  subst t2
  replace h : xT.f k 2 a1 a2 a3 a4 l5 l6 l7 l8 l9 = some r := h
  have HX := za.mk h
  clear h
  go_enter Tryz.func19, Tryz.ntmps19
  go_wp2_with (first | ((with_reducible refine zN (N := 1) rfl ?_); refine yp ?hg (N := 1) ?hd (cs := #[.int .i64 2, .int .i64 a1, .int .i64 a2, .int .i64 a3, .int .i64 a4, .slice A5 l5.length c5, .slice A6 l6.length c6, .slice A7 l7.length c7, .slice A8 l8.length c8, .slice A9 l9.length c9]) (t := 28) ?hr ?_; (case hd => rfl); (case hg => rfl); (case hr => first | (go_simp; done) | (go_simp; rfl)); intro g_f hg_ w1_ hbox_ hb_; have n0_ := za.mk (zp HB.out hb_); have n1_ := za.mk ((by rw [hg_]; exact HB.out.size : w.heap.size ≤ g_f)); have n2_ := za.mk (hbox_); (try clear HB); (try clear GE_f); (try clear BK_f); have HB := n0_; have GE_f := n1_; have BK_f := n2_; clear n0_ n1_ n2_; clear hbox_ hb_ hg_; obtain ⟨hc_f_0, hc_f_1, hc_f_2, hc_f_3, hc_f_4, hc_f_5, hc_f_6, hc_f_7, hc_f_8, hc_f_9, hf_f_0, hf_f_1, hf_f_2, hf_f_3, hf_f_4, hf_f_5, hf_f_6, hf_f_7, hf_f_8, hf_f_9⟩ := je BK_f.out) | (go_at_call 59; (with_reducible refine (xT.calls k 2 a1 a2 a3 a4 A5 c5 l5 A6 c6 l6 A7 c7 l7 A8 c8 l8 A9 c9 l9 r _ ?s5 HL5.out ?s6 HL6.out ?s7 HL7.out ?s8 HL8.out ?s9 HL9.out HX.out).mono ?_); (case s5 => exact Kd.C_below HR5.out HB.out); (case s6 => exact Kd.C_below HR6.out HB.out); (case s7 => exact Kd.C_below HR7.out HB.out); (case s8 => exact Kd.C_below HR8.out HB.out); (case s9 => exact Kd.C_below HR9.out HB.out); rintro e_ w2_ ⟨rfl, hb_⟩; have n0_ := za.mk (zZ BK_f.out hb_); have n1_ := za.mk (zp HB.out hb_); (try clear BK_f); (try clear HB); have BK_f := n0_; have HB := n1_; clear n0_ n1_; (try clear hc_f_0 hc_f_1 hc_f_2 hc_f_3 hc_f_4 hc_f_5 hc_f_6 hc_f_7 hc_f_8 hc_f_9 hf_f_0 hf_f_1 hf_f_2 hf_f_3 hf_f_4 hf_f_5 hf_f_6 hf_f_7 hf_f_8 hf_f_9); (try clear hb_); obtain ⟨hc_f_0, hc_f_1, hc_f_2, hc_f_3, hc_f_4, hc_f_5, hc_f_6, hc_f_7, hc_f_8, hc_f_9, hf_f_0, hf_f_1, hf_f_2, hf_f_3, hf_f_4, hf_f_5, hf_f_6, hf_f_7, hf_f_8, hf_f_9⟩ := je BK_f.out))
  (try simp only [Exit.inBlock, Exit.then])
  go_ret
  exact ⟨rfl, HB.out⟩
 rw [if_neg t2] at h
 by_cases t3 : a0 = 3
 case pos =>
  subst t3
  replace h : qG.f k 3 a1 a2 a3 a4 l5 l6 l7 l8 l9 = some r := h
  have HX := za.mk h
  clear h
  go_enter Tryz.func19, Tryz.ntmps19
  go_wp2_with (first | ((with_reducible refine zN (N := 1) rfl ?_); refine yp ?hg (N := 1) ?hd (cs := #[.int .i64 3, .int .i64 a1, .int .i64 a2, .int .i64 a3, .int .i64 a4, .slice A5 l5.length c5, .slice A6 l6.length c6, .slice A7 l7.length c7, .slice A8 l8.length c8, .slice A9 l9.length c9]) (t := 28) ?hr ?_; (case hd => rfl); (case hg => rfl); (case hr => first | (go_simp; done) | (go_simp; rfl)); intro g_f hg_ w1_ hbox_ hb_; have n0_ := za.mk (zp HB.out hb_); have n1_ := za.mk ((by rw [hg_]; exact HB.out.size : w.heap.size ≤ g_f)); have n2_ := za.mk (hbox_); (try clear HB); (try clear GE_f); (try clear BK_f); have HB := n0_; have GE_f := n1_; have BK_f := n2_; clear n0_ n1_ n2_; clear hbox_ hb_ hg_; obtain ⟨hc_f_0, hc_f_1, hc_f_2, hc_f_3, hc_f_4, hc_f_5, hc_f_6, hc_f_7, hc_f_8, hc_f_9, hf_f_0, hf_f_1, hf_f_2, hf_f_3, hf_f_4, hf_f_5, hf_f_6, hf_f_7, hf_f_8, hf_f_9⟩ := je BK_f.out) | (go_at_call 60; (with_reducible refine (qG.calls k 3 a1 a2 a3 a4 A5 c5 l5 A6 c6 l6 A7 c7 l7 A8 c8 l8 A9 c9 l9 r _ ?s5 HL5.out ?s6 HL6.out ?s7 HL7.out ?s8 HL8.out ?s9 HL9.out HX.out).mono ?_); (case s5 => exact Kd.C_below HR5.out HB.out); (case s6 => exact Kd.C_below HR6.out HB.out); (case s7 => exact Kd.C_below HR7.out HB.out); (case s8 => exact Kd.C_below HR8.out HB.out); (case s9 => exact Kd.C_below HR9.out HB.out); rintro e_ w2_ ⟨rfl, hb_⟩; have n0_ := za.mk (zZ BK_f.out hb_); have n1_ := za.mk (zp HB.out hb_); (try clear BK_f); (try clear HB); have BK_f := n0_; have HB := n1_; clear n0_ n1_; (try clear hc_f_0 hc_f_1 hc_f_2 hc_f_3 hc_f_4 hc_f_5 hc_f_6 hc_f_7 hc_f_8 hc_f_9 hf_f_0 hf_f_1 hf_f_2 hf_f_3 hf_f_4 hf_f_5 hf_f_6 hf_f_7 hf_f_8 hf_f_9); (try clear hb_); obtain ⟨hc_f_0, hc_f_1, hc_f_2, hc_f_3, hc_f_4, hc_f_5, hc_f_6, hc_f_7, hc_f_8, hc_f_9, hf_f_0, hf_f_1, hf_f_2, hf_f_3, hf_f_4, hf_f_5, hf_f_6, hf_f_7, hf_f_8, hf_f_9⟩ := je BK_f.out))
  (try simp only [Exit.inBlock, Exit.then])
  go_ret
  exact ⟨rfl, HB.out⟩
 rw [if_neg t3] at h
 by_cases t4 : a0 = 4
 case pos =>
  subst t4
  replace h : xI.f k 4 a1 a2 a3 a4 l5 l6 l7 l8 l9 = some r := h
  have HX := za.mk h
  clear h
  go_enter Tryz.func19, Tryz.ntmps19
  go_wp2_with (first | ((with_reducible refine zN (N := 1) rfl ?_); refine yp ?hg (N := 1) ?hd (cs := #[.int .i64 4, .int .i64 a1, .int .i64 a2, .int .i64 a3, .int .i64 a4, .slice A5 l5.length c5, .slice A6 l6.length c6, .slice A7 l7.length c7, .slice A8 l8.length c8, .slice A9 l9.length c9]) (t := 28) ?hr ?_; (case hd => rfl); (case hg => rfl); (case hr => first | (go_simp; done) | (go_simp; rfl)); intro g_f hg_ w1_ hbox_ hb_; have n0_ := za.mk (zp HB.out hb_); have n1_ := za.mk ((by rw [hg_]; exact HB.out.size : w.heap.size ≤ g_f)); have n2_ := za.mk (hbox_); (try clear HB); (try clear GE_f); (try clear BK_f); have HB := n0_; have GE_f := n1_; have BK_f := n2_; clear n0_ n1_ n2_; clear hbox_ hb_ hg_; obtain ⟨hc_f_0, hc_f_1, hc_f_2, hc_f_3, hc_f_4, hc_f_5, hc_f_6, hc_f_7, hc_f_8, hc_f_9, hf_f_0, hf_f_1, hf_f_2, hf_f_3, hf_f_4, hf_f_5, hf_f_6, hf_f_7, hf_f_8, hf_f_9⟩ := je BK_f.out) | (go_at_call 61; (with_reducible refine (xI.calls k 4 a1 a2 a3 a4 A5 c5 l5 A6 c6 l6 A7 c7 l7 A8 c8 l8 A9 c9 l9 r _ ?s5 HL5.out ?s6 HL6.out ?s7 HL7.out ?s8 HL8.out ?s9 HL9.out HX.out).mono ?_); (case s5 => exact Kd.C_below HR5.out HB.out); (case s6 => exact Kd.C_below HR6.out HB.out); (case s7 => exact Kd.C_below HR7.out HB.out); (case s8 => exact Kd.C_below HR8.out HB.out); (case s9 => exact Kd.C_below HR9.out HB.out); rintro e_ w2_ ⟨rfl, hb_⟩; have n0_ := za.mk (zZ BK_f.out hb_); have n1_ := za.mk (zp HB.out hb_); (try clear BK_f); (try clear HB); have BK_f := n0_; have HB := n1_; clear n0_ n1_; (try clear hc_f_0 hc_f_1 hc_f_2 hc_f_3 hc_f_4 hc_f_5 hc_f_6 hc_f_7 hc_f_8 hc_f_9 hf_f_0 hf_f_1 hf_f_2 hf_f_3 hf_f_4 hf_f_5 hf_f_6 hf_f_7 hf_f_8 hf_f_9); (try clear hb_); obtain ⟨hc_f_0, hc_f_1, hc_f_2, hc_f_3, hc_f_4, hc_f_5, hc_f_6, hc_f_7, hc_f_8, hc_f_9, hf_f_0, hf_f_1, hf_f_2, hf_f_3, hf_f_4, hf_f_5, hf_f_6, hf_f_7, hf_f_8, hf_f_9⟩ := je BK_f.out))
  (try simp only [Exit.inBlock, Exit.then])
  go_ret
  exact ⟨rfl, HB.out⟩
 rw [if_neg t4] at h
 have e1 : (a0 == 1) = false := beq_eq_false_iff_ne.mpr t1
 have e2 : (a0 == 2) = false := beq_eq_false_iff_ne.mpr t2
 have e3 : (a0 == 3) = false := beq_eq_false_iff_ne.mpr t3
 have e4 : (a0 == 4) = false := beq_eq_false_iff_ne.mpr t4
 clear t1 t2 t3 t4
 have HX := za.mk h
 clear h
 go_enter Tryz.func19, Tryz.ntmps19
 go_wp2_with (first | ((with_reducible refine zN (N := 1) rfl ?_); refine yp ?hg (N := 1) ?hd (cs := #[.int .i64 a0, .int .i64 a1, .int .i64 a2, .int .i64 a3, .int .i64 a4, .slice A5 l5.length c5, .slice A6 l6.length c6, .slice A7 l7.length c7, .slice A8 l8.length c8, .slice A9 l9.length c9]) (t := 28) ?hr ?_; (case hd => rfl); (case hg => rfl); (case hr => first | (go_simp; done) | (go_simp; rfl)); intro g_f hg_ w1_ hbox_ hb_; have n0_ := za.mk (zp HB.out hb_); have n1_ := za.mk ((by rw [hg_]; exact HB.out.size : w.heap.size ≤ g_f)); have n2_ := za.mk (hbox_); (try clear HB); (try clear GE_f); (try clear BK_f); have HB := n0_; have GE_f := n1_; have BK_f := n2_; clear n0_ n1_ n2_; clear hbox_ hb_ hg_; obtain ⟨hc_f_0, hc_f_1, hc_f_2, hc_f_3, hc_f_4, hc_f_5, hc_f_6, hc_f_7, hc_f_8, hc_f_9, hf_f_0, hf_f_1, hf_f_2, hf_f_3, hf_f_4, hf_f_5, hf_f_6, hf_f_7, hf_f_8, hf_f_9⟩ := je BK_f.out) | (go_at_call 62; (with_reducible refine (qJ.calls k a0 a1 a2 a3 a4 A5 c5 l5 A6 c6 l6 A7 c7 l7 A8 c8 l8 A9 c9 l9 r _ ?s5 HL5.out ?s6 HL6.out ?s7 HL7.out ?s8 HL8.out ?s9 HL9.out HX.out).mono ?_); (case s5 => exact Kd.C_below HR5.out HB.out); (case s6 => exact Kd.C_below HR6.out HB.out); (case s7 => exact Kd.C_below HR7.out HB.out); (case s8 => exact Kd.C_below HR8.out HB.out); (case s9 => exact Kd.C_below HR9.out HB.out); rintro e_ w2_ ⟨rfl, hb_⟩; have n0_ := za.mk (zZ BK_f.out hb_); have n1_ := za.mk (zp HB.out hb_); (try clear BK_f); (try clear HB); have BK_f := n0_; have HB := n1_; clear n0_ n1_; (try clear hc_f_0 hc_f_1 hc_f_2 hc_f_3 hc_f_4 hc_f_5 hc_f_6 hc_f_7 hc_f_8 hc_f_9 hf_f_0 hf_f_1 hf_f_2 hf_f_3 hf_f_4 hf_f_5 hf_f_6 hf_f_7 hf_f_8 hf_f_9); (try clear hb_); obtain ⟨hc_f_0, hc_f_1, hc_f_2, hc_f_3, hc_f_4, hc_f_5, hc_f_6, hc_f_7, hc_f_8, hc_f_9, hf_f_0, hf_f_1, hf_f_2, hf_f_3, hf_f_4, hf_f_5, hf_f_6, hf_f_7, hf_f_8, hf_f_9⟩ := je BK_f.out))
 (try simp only [Exit.inBlock, Exit.then])
 go_ret
 exact ⟨rfl, HB.out⟩
def y8.f (a0 : Int) : Option (ByteArray) := some (strOfNums (([(a0) % 256, (a0 / 256) % 256, (a0 / 65536) % 256, (a0 / 16777216) % 256] : List Int)))
theorem y8.calls (a0 : Int) (r : ByteArray) (w : World) (h : y8.f a0 = some r) :
  Calls Tryz.prog 55 #[.int .u32 a0] w fun e w' => e = .returned (.string r) ∧ Below w.heap.size w w' := by
 have HB := za.mk (Below.refl w.heap.size w)
 have H : (some (strOfNums (([(a0) % 256, (a0 / 256) % 256, (a0 / 65536) % 256, (a0 / 16777216) % 256] : List Int)))) = some r := h
 clear h
 obtain ⟨y389, hy389⟩ : ∃ y_ : List Int, y_ = (([(a0) % 256, (a0 / 256) % 256, (a0 / 65536) % 256, (a0 / 16777216) % 256] : List Int)) := ⟨_, rfl⟩
 replace H : (some (strOfNums y389)) = some r := by first | (rw [hy389]; with_reducible exact H) | (have H2_ := (Option.bind_some _ _).symm.trans H; rw [hy389]; with_reducible exact H2_) | (have H2_ := (Option.bind_some _ _).symm.trans H; with_reducible exact H2_) | with_reducible exact H | (rw [hy389]; exact H) | exact H
 have Ny389 := za.mk hy389
 clear hy389
 obtain rfl := Option.some.inj H
 go_enter Tryz.func55, Tryz.ntmps55
 go_wp2_with (first | ((with_reducible refine zN (N := 14) rfl ?_); refine Kd.R_lit (Kd.int .u8) _ 5 ?hg (N := 14) ?hd (xs := ([(a0) % 256, (a0 / 256) % 256, (a0 / 65536) % 256, (a0 / 16777216) % 256] : List Int)) (inner := [.int .u8 ((a0) % 256), .int .u8 ((a0 / 256) % 256), .int .u8 ((a0 / 65536) % 256), .int .u8 ((a0 / 16777216) % 256)]) (ok := fun _ => True) (okp := fun _ => True) ?hr ?hp (fun _ hk => hk) trivial (Below.refl _ _) (Nat.le_refl _) (by simp) ?_; (case hd => rfl); (case hg => rfl); (case hr => first | (go_simp; done) | (go_simp; rfl)); (case hp => exact (zX.one (show Kd.M (Kd.int .u8) _ _ _ ((a0) % 256) [.int .u8 ((a0) % 256)] from rfl) (zX.one (show Kd.M (Kd.int .u8) _ _ _ ((a0 / 256) % 256) [.int .u8 ((a0 / 256) % 256)] from rfl) (zX.one (show Kd.M (Kd.int .u8) _ _ _ ((a0 / 65536) % 256) [.int .u8 ((a0 / 65536) % 256)] from rfl) (zX.one (show Kd.M (Kd.int .u8) _ _ _ ((a0 / 16777216) % 256) [.int .u8 ((a0 / 16777216) % 256)] from rfl) (zX.none _ _)))))); intro v390 w2 ho3 hb hg_ hnew_; clear hg_ hnew_; (first | rw [← Ny389.out] at ho3 | (simp only [Int.reduceToNat] at ho3; rw [← Ny389.out] at ho3)); have n0_ := za.mk (Kd.R_lower ho3 (zF (by repeat (first | (with_reducible first | exact HB.out | apply zc | apply zb | apply zd) | exact HB.out)))); have n1_ := za.mk (zp (by repeat (first | (with_reducible first | exact HB.out | apply zc | apply zb | apply zd) | exact HB.out)) hb); clear HB; have HO391 := n0_; have HB := n1_; clear n0_ n1_; clear hb ho3; have hcv4 := jQ (P := Tryz.prog) Tryz.underlying41 Tryz.underlying5 Tryz.underlying9 (Kd.own_of_R HO391.out)))
 go_ret
 exact ⟨by first | rfl | (simp [zl, zk] <;> rfl) | (simp [*, zl, zk] <;> rfl), by repeat (first | (with_reducible first | exact HB.out | apply zc | apply zb | apply zd) | exact HB.out)⟩
def yD.l0 : Nat → Int → Int → Option (Int)
 | 0, _, _ => none
 | k + 1, x0, x10 => if x10 < 8 then (if (Go.bits .and .u32 x0 1) = 1 then (yD.l0 k (Go.bits .xor .u32 (x0 / 2) 2197175160) (wrap64 (x10 + 1))) else (yD.l0 k (x0 / 2) (wrap64 (x10 + 1)))) else (some x0)
def yD.f (k : Nat) (a0 : Int) (a1 : Int) : Option (Int) := yD.l0 k (Go.bits .xor .u32 a0 ((a1) % 4294967296)) 0
theorem yD.calls (k : Nat) (a0 : Int) (a1 : Int) (r : Int) (w : World) (h : yD.f k a0 a1 = some r) :
  Calls Tryz.prog 130 #[.int .u32 a0, .int .u8 a1] w fun e w' => e = .returned (.int .u32 r) ∧ zi w w' := by
 have H : (yD.l0 k (Go.bits .xor .u32 a0 ((a1) % 4294967296)) 0) = some r := h
 clear h
 have H' := za.mk H
 clear H
 go_enter Tryz.func130, Tryz.ntmps130
 go_wp2
 go_loopg [0, 10] k (fun kq v0 v10 w' => ∃ (x0_1 : Int) (x10_1 : Int), v0 = .int .u32 x0_1 ∧ v10 = .int .i64 x10_1 ∧ za (yD.l0 kq x0_1 x10_1 = some r) ∧ za (kq ≤ k) ∧ zi w w')
 case atStart => exact ⟨(Go.bits .xor .u32 a0 ((a1) % 4294967296)), (0), (by first | rfl | (simp; done) | (simp [*]; done)), (by first | rfl | (simp; done) | (simp [*]; done)), H', ⟨Nat.le_refl _⟩, by repeat (first | exact zi.refl _ | apply zi.step)⟩
 case round =>
  clear H'
  try clear c1
  try clear p2
  obtain ⟨x0_1, x10_1, rfl, rfl, HA, HK1, ⟨m1, rfl⟩⟩ := hrel
  cases gk with
  | zero => exact absurd HA.out (by simp [yD.l0])
  | succ k1 =>
   have H := HA.out
   clear HA
   simp only [yD.l0] at H
   by_cases c3 : x10_1 < 8
   ·rw [if_pos c3] at H
    have c3b0 : decide (x10_1 < 8) = true := decide_eq_true c3
    clear c3
    by_cases c4 : (Go.bits .and .u32 x0_1 1) = 1
    ·rw [if_pos c4] at H
     have c4b0 : ((Go.bits .and .u32 x0_1 1) == 1) = true := beq_iff_eq.mpr c4
     have c4b1 : ((Go.bits .and .u32 x0_1 1) != 1) = false := bne_eq_false_iff_eq.mpr c4
     clear c4
     have H' := za.mk H
     clear H
     go_wp2
     go_roundg k1
     case measure => have := HK1.out; omega
     case rel => exact ⟨(Go.bits .xor .u32 (x0_1 / 2) 2197175160), (wrap64 (x10_1 + 1)), (by first | rfl | (simp; done) | (simp [*]; done)), (by first | rfl | (simp; done) | (simp [*]; done)), H', ⟨by have := HK1.out; omega⟩, by repeat (first | exact zi.refl _ | apply zi.step)⟩
    ·rw [if_neg c4] at H
     have c4b0 : ((Go.bits .and .u32 x0_1 1) == 1) = false := beq_eq_false_iff_ne.mpr c4
     have c4b1 : ((Go.bits .and .u32 x0_1 1) != 1) = true := bne_iff_ne.mpr c4
     have H' := za.mk H
     clear H
     go_wp2
     go_roundg k1
     case measure => have := HK1.out; omega
     case rel => exact ⟨(x0_1 / 2), (wrap64 (x10_1 + 1)), (by first | rfl | (simp; done) | (simp [*]; done)), (by first | rfl | (simp; done) | (simp [*]; done)), H', ⟨by have := HK1.out; omega⟩, by repeat (first | exact zi.refl _ | apply zi.step)⟩
   ·rw [if_neg c3] at H
    have c3b0 : decide (x10_1 < 8) = false := decide_eq_false c3
    clear c3
    obtain rfl := Option.some.inj H
    go_wp2
    go_ret
    exact ⟨by first | rfl | (simp; done) | (simp [*]; done), by repeat (first | exact zi.refl _ | apply zi.step)⟩
def yP.l0 : Nat → ByteArray → Int → Int → Int → Option (Int)
 | 0, _, _, _, _ => none
 | k + 1, x1, x5, x10, x11 => if x11 < x10 then (if 0 ≤ x11 then (if x11 < (x1.size : Int) then ((yD.f k x5 (bt x1 x11)).bind fun t392 => (yP.l0 k x1 t392 x10 (wrap64 (x11 + 1)))) else (none)) else (none)) else (some (Go.bits .xor .u32 4294967295 x5))
def yP.f (k : Nat) (a0 : Int) (a1 : ByteArray) : Option (Int) := yP.l0 k a1 (Go.bits .xor .u32 4294967295 a0) (a1.size : Int) 0
theorem yP.calls (k : Nat) (a0 : Int) (a1 : ByteArray) (r : Int) (w : World) (h : yP.f k a0 a1 = some r) :
  Calls Tryz.prog 100 #[.int .u32 a0, .string a1] w fun e w' => e = .returned (.int .u32 r) ∧ zi w w' := by
 have H : (yP.l0 k a1 (Go.bits .xor .u32 4294967295 a0) (a1.size : Int) 0) = some r := h
 clear h
 have H' := za.mk H
 clear H
 go_enter Tryz.func100, Tryz.ntmps100
 go_wp2
 go_loopg [5, 11] k (fun kq v5 v11 w' => ∃ (x5_1 : Int) (x11_1 : Int), v5 = .int .u32 x5_1 ∧ v11 = .int .i64 x11_1 ∧ za (yP.l0 kq a1 x5_1 (a1.size : Int) x11_1 = some r) ∧ za (kq ≤ k) ∧ zi w w')
 case atStart => exact ⟨(Go.bits .xor .u32 4294967295 a0), (0), (by first | rfl | (simp; done) | (simp [*]; done)), (by first | rfl | (simp; done) | (simp [*]; done)), H', ⟨Nat.le_refl _⟩, by repeat (first | exact zi.refl _ | apply zi.step)⟩
 case round =>
  clear H'
  try clear c1
  try clear p2
  obtain ⟨x5_1, x11_1, rfl, rfl, HA, HK1, ⟨m1, rfl⟩⟩ := hrel
  cases gk with
  | zero => exact absurd HA.out (by simp [yP.l0])
  | succ k1 =>
   have H := HA.out
   clear HA
   simp only [yP.l0] at H
   by_cases c3 : x11_1 < (a1.size : Int)
   ·rw [if_pos c3] at H
    have c3b0 : decide (x11_1 < (a1.size : Int)) = true := decide_eq_true c3
    clear c3
    by_cases c4 : 0 ≤ x11_1
    ·rw [if_pos c4] at H
     have c4b0 : decide (0 ≤ x11_1) = true := decide_eq_true c4
     clear c4
     by_cases c5 : x11_1 < (a1.size : Int)
     ·rw [if_pos c5] at H
      have c5b0 : decide (x11_1 < (a1.size : Int)) = true := decide_eq_true c5
      clear c5
      replace H := zdK.mp H
      obtain ⟨t392, A70, H⟩ := H
      replace H : (yP.l0 k1 a1 t392 (a1.size : Int) (wrap64 (x11_1 + 1))) = some r := H
      have A7 := za.mk A70
      clear A70
      have H' := za.mk H
      clear H
      have p6 : 0 ≤ (x11_1 : Int) := of_decide_eq_true (by first | (with_reducible assumption) | assumption)
      have q6 : x11_1 < (a1.size : Int) := of_decide_eq_true (by first | (with_reducible assumption) | assumption)
      have hx6 := xg a1 x11_1
      replace p6 := eq_true p6
      replace q6 := eq_true q6
      go_wp2_with (first | ((with_reducible refine zr (f := 130) rfl ?_); refine zL (some 18) rfl rfl Tryz.func130 (by kernel_rfl) rfl #[.int .u32 x5_1, .int .u8 (bt a1 x11_1)] rfl (by (try simp only [zdJ, List.map_cons, List.map_nil]); first | done | rfl | (simp only [List.length_drop, List.length_take]; rfl)) ?_; (with_reducible refine (yD.calls k1 x5_1 (bt a1 x11_1) t392 _ A7.out).mono ?_); rintro e w' ⟨rfl, ⟨nd, rfl⟩⟩; refine ⟨_, rfl, ?_⟩))
      go_roundg k1
      case measure => have := HK1.out; omega
      case rel => exact ⟨(t392), (wrap64 (x11_1 + 1)), (by first | rfl | (simp; done) | (simp [*]; done)), (by first | rfl | (simp; done) | (simp [*]; done)), H', ⟨by have := HK1.out; omega⟩, by repeat (first | exact zi.refl _ | apply zi.step)⟩
     ·rw [if_neg c5] at H
      exact absurd H (by simp)
    ·rw [if_neg c4] at H
     exact absurd H (by simp)
   ·rw [if_neg c3] at H
    have c3b0 : decide (x11_1 < (a1.size : Int)) = false := decide_eq_false c3
    clear c3
    obtain rfl := Option.some.inj H
    go_wp2
    go_ret
    exact ⟨by first | rfl | (simp; done) | (simp [*]; done), by repeat (first | exact zi.refl _ | apply zi.step)⟩
def xV.f (k : Nat) (a0 : ByteArray) : Option (Int) := (yP.f k 0 a0).bind fun t393 => (some t393)
theorem xV.calls (k : Nat) (a0 : ByteArray) (r : Int) (w : World) (h : xV.f k a0 = some r) :
  Calls Tryz.prog 56 #[.string a0] w fun e w' => e = .returned (.int .u32 r) ∧ zi w w' := by
 have H : ((yP.f k 0 a0).bind fun t393 => (some t393)) = some r := h
 clear h
 replace H := zdK.mp H
 obtain ⟨t393, A20, H⟩ := H
 replace H : (some t393) = some r := H
 have A2 := za.mk A20
 clear A20
 obtain rfl := Option.some.inj H
 go_enter Tryz.func56, Tryz.ntmps56
 go_wp2_with (first | ((with_reducible refine zr (f := 100) rfl ?_); refine zL (some 4) rfl rfl Tryz.func100 (by kernel_rfl) rfl #[.int .u32 0, .string a0] rfl (by (try simp only [zdJ, List.map_cons, List.map_nil]); first | done | rfl | (simp only [List.length_drop, List.length_take]; rfl)) ?_; (with_reducible refine (yP.calls k 0 a0 t393 _ A2.out).mono ?_); rintro e w' ⟨rfl, ⟨nd, rfl⟩⟩; refine ⟨_, rfl, ?_⟩))
 go_ret
 exact ⟨by first | rfl | (simp; done) | (simp [*]; done), by repeat (first | exact zi.refl _ | apply zi.step)⟩
def jY.f (k : Nat) (a0 : ByteArray) : Option (ByteArray) := (xV.f k a0).bind fun t394 => ((y8.f t394).bind fun t395 => (if a0.size + t395.size ≤ 9223372036854775807 then (some (a0 ++ t395)) else (none)))
theorem jY.calls (k : Nat) (a0 : ByteArray) (r : ByteArray) (w : World) (h : jY.f k a0 = some r) :
  Calls Tryz.prog 17 #[.string a0] w fun e w' => e = .returned (.string r) ∧ Below w.heap.size w w' := by
 have HB := za.mk (Below.refl w.heap.size w)
 have H : ((xV.f k a0).bind fun t394 => ((y8.f t394).bind fun t395 => (if a0.size + t395.size ≤ 9223372036854775807 then (some (a0 ++ t395)) else (none)))) = some r := h
 clear h
 replace H := zdK.mp H
 obtain ⟨t394, A20, H⟩ := H
 replace H : ((y8.f t394).bind fun t395 => (if a0.size + t395.size ≤ 9223372036854775807 then (some (a0 ++ t395)) else (none))) = some r := H
 have A2 := za.mk A20
 clear A20
 replace H := zdK.mp H
 obtain ⟨t395, A30, H⟩ := H
 replace H : (if a0.size + t395.size ≤ 9223372036854775807 then (some (a0 ++ t395)) else (none)) = some r := H
 have A3 := za.mk A30
 clear A30
 by_cases c4 : a0.size + t395.size ≤ 9223372036854775807
 ·rw [if_pos c4] at H
  have c4b0 := eq_true c4
  have c4b1 : decide (a0.size + t395.size ≤ 9223372036854775807) = true := decide_eq_true c4
  try have c4b2 : (9223372036854775807 < a0.size + t395.size) = False := eq_false (Nat.not_lt.2 c4)
  obtain rfl := Option.some.inj H
  go_enter Tryz.func17, Tryz.ntmps17
  go_wp2_with (first | ((with_reducible refine zr (f := 56) rfl ?_); refine zL (some 5) rfl rfl Tryz.func56 (by kernel_rfl) rfl #[.string a0] rfl (by (try simp only [zdJ, List.map_cons, List.map_nil]); first | done | rfl | (simp only [List.length_drop, List.length_take]; rfl)) ?_; (with_reducible refine (xV.calls k a0 t394 _ A2.out).mono ?_); rintro e w' ⟨rfl, ⟨nd, rfl⟩⟩; refine ⟨_, rfl, ?_⟩) | ((with_reducible refine zr (f := 55) rfl ?_); refine zL (some 6) rfl rfl Tryz.func55 (by kernel_rfl) rfl #[.int .u32 t394] rfl (by (try simp only [zdJ, List.map_cons, List.map_nil]); first | done | rfl | (simp only [List.length_drop, List.length_take]; rfl)) ?_; (with_reducible refine (y8.calls t394 t395 _ A3.out).mono ?_); rintro e w5 ⟨rfl, hb⟩; refine ⟨_, rfl, ?_⟩; have n0_ := za.mk (zp (by repeat (first | (with_reducible first | exact HB.out | apply zc | apply zb | apply zd) | exact HB.out)) hb); clear HB; have HB := n0_; clear n0_; (try clear hb); (try clear hb2); (try clear hk); (try clear hi)))
  go_ret
  exact ⟨by first | rfl | (simp [zl, zk] <;> rfl) | (simp [*, zl, zk] <;> rfl), by repeat (first | (with_reducible first | exact HB.out | apply zc | apply zb | apply zd) | exact HB.out)⟩
 ·rw [if_neg c4] at H
  exact absurd H (by simp)
def YC (x : Fm) (b : ByteArray) : Prop := ∃ k, qQ.f k x.f0 x.f1 x.f2 x.f3 x.f4 x.f5 x.f6 x.f7 x.f8 x.f9 = some b
theorem YC.calls {x : Fm} {b : ByteArray} {w : World} {cs : List Value} (h : YC x b) (hx : FmC w x cs) : Calls Tryz.prog 19 #[.agg cs.toArray] w fun e w' => e = .returned (.string b) ∧ Below w.heap.size w w' := by
 obtain ⟨k, h⟩ := h
 obtain ⟨v5, v6, v7, v8, v9, rfl, ⟨A5, c5, rfl, l5, h5⟩, ⟨A6, c6, rfl, l6, h6⟩, ⟨A7, c7, rfl, l7, h7⟩, ⟨A8, c8, rfl, l8, h8⟩, ⟨A9, c9, rfl, l9, h9⟩⟩ := hx
 exact qQ.calls k x.f0 x.f1 x.f2 x.f3 x.f4 A5 c5 x.f5 A6 c6 x.f6 A7 c7 x.f7 A8 c8 x.f8 A9 c9 x.f9 b w h5 l5 h6 l6 h7 l7 h8 l8 h9 l9 h
def YS (x : Fm) (s : ByteArray) (e : Int) : Prop := (ZB x false ∧ s = ⟨#[]⟩ ∧ e = 2) ∨ (ZB x true ∧ ∃ n b, (∃ k, zy.f k [x.f0, x.f1, x.f2] = some n) ∧ YC x b ∧ n.size + b.size ≤ 9223372036854775807 ∧ (∃ k, jY.f k (n ++ b) = some s) ∧ e = 0)
theorem YS.calls {x : Fm} {s : ByteArray} {er : Int} {w : World} {cs : List Value} (h : YS x s er) (hx : FmC w x cs) : Calls Tryz.prog 7 #[.agg cs.toArray] w fun e w' => e = .returned (.tuple #[.string s, .int .i64 er]) ∧ Below w.heap.size w w' := by
 have HX := hx
 obtain ⟨v5, v6, v7, v8, v9, rfl, h5, h6, h7, h8, h9⟩ := hx
 obtain ⟨A5, c5, rfl, _⟩ := h5.id
 obtain ⟨A6, c6, rfl, _⟩ := h6.id
 obtain ⟨A7, c7, rfl, _⟩ := h7.id
 obtain ⟨A8, c8, rfl, _⟩ := h8.id
 obtain ⟨A9, c9, rfl, _⟩ := h9.id
 clear h5 h6 h7 h8 h9
 have HS := (Sat.nil w).row (Ty.R (Kd.int .u8) 5 w.heap.size (.slice none 0 0) []) (Kd.R_nil _ _ _ _ _)
 replace HX := za.mk HX
 rcases h with ⟨hr, rfl, rfl⟩ | ⟨hr, n, b, ⟨_, hn⟩, hf, hz, ⟨_, hs⟩, rfl⟩
 ·replace hr := za.mk hr
  go_enter Tryz.func7, Tryz.ntmps7
  go_wp2_with ((first | ((with_reducible refine gB rfl ?_); refine zz HS ?_) | ((with_reducible refine gA rfl ?_); refine zt HS ?_) | ((with_reducible refine gS rfl ?_); refine zu HS ?_) | (go_at_call 16; refine HS.go (hr.out.calls (HX.out.below HS.below)) ?_)); clear HS; (try clear hc); intros; rename_i HS; have hc := HS.lk; simp only [Lk, LkC, Value.cells, List.toList_toArray, Nat.reduceAdd, Nat.zero_add, and_true, zf, zg, ze, zh] at HS hc)
  go_ret2
  exact ⟨rfl, HS.below⟩
 ·replace hr := za.mk hr
  replace hn := za.mk hn
  replace hf := za.mk hf
  replace hs := za.mk hs
  have hz2 : ¬ n.size + b.size > 9223372036854775807 := Nat.not_lt.2 hz
  have hz3 : ¬ 9223372036854775807 < n.size + b.size := Nat.not_lt.2 hz
  clear hz
  go_enter Tryz.func7, Tryz.ntmps7
  go_wp2_with (first | ((first | ((with_reducible refine gB rfl ?_); refine zz HS ?_) | ((with_reducible refine gA rfl ?_); refine zt HS ?_) | ((with_reducible refine gS rfl ?_); refine zu HS ?_) | (go_at_call 16; refine HS.go (hr.out.calls (HX.out.below HS.below)) ?_)); clear HS; (try clear hc); intros; rename_i HS; have hc := HS.lk; simp only [Lk, LkC, Value.cells, List.toList_toArray, Nat.reduceAdd, Nat.zero_add, and_true, zf, zg, ze, zh] at HS hc) | (refine yE (.op 0 0 7 (.op 1 0 8 (.op 2 0 9 (.op 3 0 10 (.op 4 0 11 (.op 5 0 12 (.op 8 0 15 (.op 6 2 13 (.op 7 2 14 (.op 9 2 16 (.op 10 1 17 (.op 11 2 18 (.op 12 1 2 (.op 13 1 3 .nil)))))))))))))) [] HS (List.Sublist.refl _) ?_; clear HS hc; intro HS hS; (repeat' (first | refine RT.tk ?_ | refine RT.pu ?_ | refine RT.f2 ?_ ?_ | refine RT.o1 ?_ | (refine Yb (l := [x.f0, x.f1, x.f2]) HS (List.Sublist.refl _) ?_ (by simp); clear HS; intro g_ w_ HS; refine RT.nm ?_) | (refine xS HS (List.Sublist.refl _) (zy.calls _ _ _ _ _ _ (Kd.R_reads' (HS.rows _ (.tail _ (.head _))).2).2.2 (Nat.le_refl _) hn.out) ?_; clear HS; intro w_ HS; refine RT.nm ?_) | (refine xS HS (List.Sublist.refl _) (YC.calls hf.out (HX.out.below HS.below)) ?_; clear HS; intro w_ HS; refine RT.nm ?_) | (refine xS HS (List.Sublist.refl _) (jY.calls _ _ _ _ hs.out) ?_; clear HS; intro w_ HS; refine RT.nm ?_))); have hc := HS.lk; simp only [Lk, LkC, Value.cells, List.toList_toArray, Nat.reduceAdd, Nat.zero_add, and_true, zf, zg, ze, zh] at HS hc; refine RT.nil ?_))
  go_ret2
  exact ⟨rfl, HS.below⟩
mutual
def zo.j0 : Nat → ByteArray → Int → Bool → Option (Int × Int × Int)
 | 0, _, _, _ => none
 | k + 1, x0, x1, x18 => if x18 = true then (some (0, 0, 3)) else (zo.l0 k x0 x1 0 0)
def zo.l0 : Nat → ByteArray → Int → Int → Int → Option (Int × Int × Int)
 | 0, _, _, _, _ => none
 | k + 1, x0, x1, x7, x8 => if (wrap64 (x1 + x8)) < (x0.size : Int) then (if 0 ≤ (wrap64 (x1 + x8)) then (if x8 = 9 then (zo.j2 k x0 x1 x7 x8 (bt x0 (wrap64 (x1 + x8))) (decide ((bt x0 (wrap64 (x1 + x8))) > 1))) else (zo.j2 k x0 x1 x7 x8 (bt x0 (wrap64 (x1 + x8))) false)) else (none)) else (some (0, 0, 5))
def zo.j2 : Nat → ByteArray → Int → Int → Int → Int → Bool → Option (Int × Int × Int)
 | 0, _, _, _, _, _, _ => none
 | k + 1, x0, x1, x7, x8, x9, x37 => if x37 = true then (some (0, 0, 6)) else (if 0 ≤ (wrap64 (7 * x8)) then (if x9 ≥ 128 then (zo.l0 k x0 x1 (Go.bits .or .u64 x7 (shl .u64 (IntKind.u64.wrap (Go.bits .and .u8 x9 127)) (wrap64 (7 * x8)))) (wrap64 (x8 + 1))) else (if x9 = 0 then (zo.j3 k x1 (Go.bits .or .u64 x7 (shl .u64 (IntKind.u64.wrap (Go.bits .and .u8 x9 127)) (wrap64 (7 * x8)))) x8 (decide (x8 > 0))) else (zo.j3 k x1 (Go.bits .or .u64 x7 (shl .u64 (IntKind.u64.wrap (Go.bits .and .u8 x9 127)) (wrap64 (7 * x8)))) x8 false))) else (none))
def zo.j3 : Nat → Int → Int → Int → Bool → Option (Int × Int × Int)
 | 0, _, _, _, _ => none
 | k + 1, x1, x7, x8, x53 => if x53 = true then (some (0, 0, 6)) else (if (Go.bits .and .u64 x7 1) = 1 then (some (Go.bits .xor .i64 (-1) (wrap64 (x7 / 2)), wrap64 ((wrap64 (x1 + x8)) + 1), 0)) else (some (wrap64 (x7 / 2), wrap64 ((wrap64 (x1 + x8)) + 1), 0)))
end
def zo.f (k : Nat) (a0 : ByteArray) (a1 : Int) : Option (Int × Int × Int) := if a1 < 0 then (zo.j0 k a0 a1 true) else (zo.j0 k a0 a1 (decide (a1 > (a0.size : Int))))
theorem zo.calls (k : Nat) (a0 : ByteArray) (a1 : Int) (r1 : Int) (r2 : Int) (r3 : Int) (w : World) (h : zo.f k a0 a1 = some (r1, r2, r3)) :
  Calls Tryz.prog 75 #[.string a0, .int .i64 a1] w fun e w' => e = .returned (.tuple #[.int .i64 r1, .int .i64 r2, .int .i64 r3]) ∧ zi w w' := by
 have H : (if a1 < 0 then (zo.j0 k a0 a1 true) else (zo.j0 k a0 a1 (decide (a1 > (a0.size : Int))))) = some (r1, r2, r3) := h
 clear h
 have HC3 := za.mk H
 clear H
 go_enter Tryz.func75, Tryz.ntmps75
 go_upto_region 1 with (fail)
 go_cut [18] (fun v18 wc => ∃ (kq : Nat) (x18_2 : Bool), v18 = .bool x18_2 ∧ za (zo.j0 kq a0 a1 x18_2 = some (r1, r2, r3)) ∧ za (kq ≤ k) ∧ zi w wc)
 case first =>
  have H := HC3.out
  clear HC3
  by_cases c4 : a1 < 0
  ·rw [if_pos c4] at H
   have c4b0 : decide (a1 < 0) = true := decide_eq_true c4
   clear c4
   (first | rw [c4b0] | (simp only [zT, yc]; rw [c4b0]) | skip)
   have H' := za.mk H
   clear H
   go_wp2
   go_meet
   case rel => exact ⟨_, (true), (by first | rfl | (simp; done) | (simp [*]; done)), H', ⟨by first | omega | exact Nat.le_refl _⟩, by repeat (first | exact zi.refl _ | apply zi.step)⟩
  ·rw [if_neg c4] at H
   have c4b0 : decide (a1 < 0) = false := decide_eq_false c4
   clear c4
   (first | rw [c4b0] | (simp only [zT, yc]; rw [c4b0]) | skip)
   have H' := za.mk H
   clear H
   go_wp2
   go_meet
   case rel => exact ⟨_, (decide (a1 > (a0.size : Int))), (by first | rfl | (simp; done) | (simp [*]; done)), H', ⟨by first | omega | exact Nat.le_refl _⟩, by repeat (first | exact zi.refl _ | apply zi.step)⟩
 case rest =>
  clear HC3
  try clear p2
  try clear c4
  try clear c4b0
  obtain ⟨kq, x18_2, rfl, HA, HJ2, ⟨mc2, rfl⟩⟩ := hcut
  cases kq with
  | zero => exact absurd HA.out (by simp [zo.j0])
  | succ kj2 =>
   have H := HA.out
   clear HA
   simp only [zo.j0] at H
   by_cases c5 : x18_2 = true
   ·subst c5
    have H1 : (some (0, 0, 3)) = some (r1, r2, r3) := by rw [if_pos rfl] at H; exact H
    clear H
    have H := H1
    clear H1
    simp only [Option.some.injEq, Prod.mk.injEq] at H
    obtain ⟨rfl, rfl, rfl⟩ := H
    go_wp2
    go_ret3
    exact ⟨by first | rfl | (simp; done) | (simp [*]; done), by repeat (first | exact zi.refl _ | apply zi.step)⟩
   ·replace c5 := zdM.mpr c5
    subst c5
    have H1 : (zo.l0 kj2 a0 a1 0 0) = some (r1, r2, r3) := by rw [if_neg (show ¬ (false = true) by decide)] at H; exact H
    clear H
    have H := H1
    clear H1
    have H' := za.mk H
    clear H
    go_wp2
    go_loopg [7, 8] kj2 (fun kq v7 v8 w' => ∃ (x7_2 : Int) (x8_2 : Int), v7 = .int .u64 x7_2 ∧ v8 = .int .i64 x8_2 ∧ za (zo.l0 kq a0 a1 x7_2 x8_2 = some (r1, r2, r3)) ∧ za (kq ≤ kj2) ∧ zi w w')
    case atStart => exact ⟨(0), (0), (by first | rfl | (simp; done) | (simp [*]; done)), (by first | rfl | (simp; done) | (simp [*]; done)), H', ⟨Nat.le_refl _⟩, by repeat (first | exact zi.refl _ | apply zi.step)⟩
    case round =>
     clear H'
     try clear c2
     try clear p2
     try clear c4
     try clear c4b0
     try clear c5
     try clear p2
     obtain ⟨x7_2, x8_2, rfl, rfl, HA, HK2, ⟨m2, rfl⟩⟩ := hrel
     cases gk with
     | zero => exact absurd HA.out (by simp [zo.l0])
     | succ k2 =>
      have H := HA.out
      clear HA
      simp only [zo.l0] at H
      by_cases c6 : (wrap64 (a1 + x8_2)) < (a0.size : Int)
      ·rw [if_pos c6] at H
       have c6b0 : decide ((wrap64 (a1 + x8_2)) < (a0.size : Int)) = true := decide_eq_true c6
       clear c6
       obtain ⟨ji7, hji7⟩ : ∃ j_ : Int, (wrap64 (a1 + x8_2)) = j_ := ⟨_, rfl⟩
       replace H : (if 0 ≤ (ji7) then (if x8_2 = 9 then (zo.j2 k2 a0 a1 x7_2 x8_2 (bt a0 (ji7)) (decide ((bt a0 (ji7)) > 1))) else (zo.j2 k2 a0 a1 x7_2 x8_2 (bt a0 (ji7)) false)) else (none)) = some (r1, r2, r3) := by first | (rw [hji7] at H; exact H) | (simp only [hji7] at H ⊢; exact H)
       (try rw [hji7] at c6b0)
       have hji7w : (IntKind.i64.wrap (a1 + x8_2)) = ji7 := (zT _).trans hji7
       by_cases c8 : 0 ≤ (ji7)
       ·rw [if_pos c8] at H
        have c8b0 : decide (0 ≤ (ji7)) = true := decide_eq_true c8
        clear c8
        have HC10 := za.mk H
        clear H
        have p9 : 0 ≤ ((ji7) : Int) := of_decide_eq_true (by first | (with_reducible assumption) | assumption)
        have q9 : (ji7) < (a0.size : Int) := of_decide_eq_true (by first | (with_reducible assumption) | assumption)
        have hx9 := xg a0 (ji7)
        replace p9 := eq_true p9
        replace q9 := eq_true q9
        go_upto_region 8 with (fail)
        go_cut [37] (fun v37 wc => ∃ (kq : Nat) (x37_9 : Bool), v37 = .bool x37_9 ∧ za (zo.j2 kq a0 a1 x7_2 x8_2 (bt a0 (ji7)) x37_9 = some (r1, r2, r3)) ∧ za (kq ≤ k2) ∧ zi w wc)
        case first =>
         have H := HC10.out
         clear HC10
         by_cases c11 : x8_2 = 9
         ·rw [if_pos c11] at H
          have c11b0 : (x8_2 == 9) = true := beq_iff_eq.mpr c11
          have c11b1 : (x8_2 != 9) = false := bne_eq_false_iff_eq.mpr c11
          clear c11
          (first | rw [c11b0] | (simp only [zT, yc]; rw [c11b0]) | skip)
          have H' := za.mk H
          clear H
          go_wp2
          go_meet
          case rel => exact ⟨_, (decide ((bt a0 (ji7)) > 1)), (by first | rfl | (simp; done) | (simp only [← hji7] <;> (first | rfl | simp)) | (simp [*]; done)), H', ⟨by have := HJ2.out; have := HK2.out; first | omega | exact Nat.le_refl _⟩, by repeat (first | exact zi.refl _ | apply zi.step)⟩
         ·rw [if_neg c11] at H
          have c11b0 : (x8_2 == 9) = false := beq_eq_false_iff_ne.mpr c11
          have c11b1 : (x8_2 != 9) = true := bne_iff_ne.mpr c11
          (first | rw [c11b0] | (simp only [zT, yc]; rw [c11b0]) | skip)
          have H' := za.mk H
          clear H
          go_wp2
          go_meet
          case rel => exact ⟨_, (false), (by first | rfl | (simp; done) | (simp [*]; done)), H', ⟨by have := HJ2.out; have := HK2.out; first | omega | exact Nat.le_refl _⟩, by repeat (first | exact zi.refl _ | apply zi.step)⟩
        case rest =>
         clear HC10
         try clear c1
         try clear c2
         try clear p2
         try clear c4
         try clear c4b0
         try clear c5
         try clear c6
         try clear c6b0
         try clear p6
         try clear c7
         try clear c8
         try clear c8b0
         try clear p9
         try clear q9
         try clear hx9
         try clear c11
         try clear c11b0
         try clear c11b1
         try clear p2
         try clear p9
         try clear q9
         obtain ⟨kq, x37_9, rfl, HA, HJ9, ⟨mc9, rfl⟩⟩ := hcut
         cases kq with
         | zero => exact absurd HA.out (by simp [zo.j2])
         | succ kj9 =>
          have H := HA.out
          clear HA
          simp only [zo.j2] at H
          by_cases c12 : x37_9 = true
          ·subst c12
           have H1 : (some (0, 0, 6)) = some (r1, r2, r3) := by rw [if_pos rfl] at H; exact H
           clear H
           have H := H1
           clear H1
           simp only [Option.some.injEq, Prod.mk.injEq] at H
           obtain ⟨rfl, rfl, rfl⟩ := H
           go_wp2
           go_ret3
           exact ⟨by first | rfl | (simp; done) | (simp only [← hji7] <;> (first | rfl | simp)) | (simp [*]; done), by repeat (first | exact zi.refl _ | apply zi.step)⟩
          ·replace c12 := zdM.mpr c12
           subst c12
           have H1 : (if 0 ≤ (wrap64 (7 * x8_2)) then (if (bt a0 (ji7)) ≥ 128 then (zo.l0 kj9 a0 a1 (Go.bits .or .u64 x7_2 (shl .u64 (IntKind.u64.wrap (Go.bits .and .u8 (bt a0 (ji7)) 127)) (wrap64 (7 * x8_2)))) (wrap64 (x8_2 + 1))) else (if (bt a0 (ji7)) = 0 then (zo.j3 kj9 a1 (Go.bits .or .u64 x7_2 (shl .u64 (IntKind.u64.wrap (Go.bits .and .u8 (bt a0 (ji7)) 127)) (wrap64 (7 * x8_2)))) x8_2 (decide (x8_2 > 0))) else (zo.j3 kj9 a1 (Go.bits .or .u64 x7_2 (shl .u64 (IntKind.u64.wrap (Go.bits .and .u8 (bt a0 (ji7)) 127)) (wrap64 (7 * x8_2)))) x8_2 false))) else (none)) = some (r1, r2, r3) := by rw [if_neg (show ¬ (false = true) by decide)] at H; exact H
           clear H
           have H := H1
           clear H1
           obtain ⟨ji13, hji13⟩ : ∃ j_ : Int, (wrap64 (7 * x8_2)) = j_ := ⟨_, rfl⟩
           replace H : (if 0 ≤ (ji13) then (if (bt a0 (ji7)) ≥ 128 then (zo.l0 kj9 a0 a1 (Go.bits .or .u64 x7_2 (shl .u64 (IntKind.u64.wrap (Go.bits .and .u8 (bt a0 (ji7)) 127)) (ji13))) (wrap64 (x8_2 + 1))) else (if (bt a0 (ji7)) = 0 then (zo.j3 kj9 a1 (Go.bits .or .u64 x7_2 (shl .u64 (IntKind.u64.wrap (Go.bits .and .u8 (bt a0 (ji7)) 127)) (ji13))) x8_2 (decide (x8_2 > 0))) else (zo.j3 kj9 a1 (Go.bits .or .u64 x7_2 (shl .u64 (IntKind.u64.wrap (Go.bits .and .u8 (bt a0 (ji7)) 127)) (ji13))) x8_2 false))) else (none)) = some (r1, r2, r3) := by first | (rw [hji13] at H; exact H) | (simp only [hji13] at H ⊢; exact H)
           have hji13w : (IntKind.i64.wrap (7 * x8_2)) = ji13 := (zT _).trans hji13
           by_cases c14 : 0 ≤ (ji13)
           ·rw [if_pos c14] at H
            have c14b0 := eq_true c14
            have c14b1 : decide (0 ≤ (ji13)) = true := decide_eq_true c14
            clear c14
            obtain ⟨ji15, hji15⟩ : ∃ j_ : Int, (shl .u64 (IntKind.u64.wrap (Go.bits .and .u8 (bt a0 (ji7)) 127)) (ji13)) = j_ := ⟨_, rfl⟩
            replace H : (if (bt a0 (ji7)) ≥ 128 then (zo.l0 kj9 a0 a1 (Go.bits .or .u64 x7_2 (ji15)) (wrap64 (x8_2 + 1))) else (if (bt a0 (ji7)) = 0 then (zo.j3 kj9 a1 (Go.bits .or .u64 x7_2 (ji15)) x8_2 (decide (x8_2 > 0))) else (zo.j3 kj9 a1 (Go.bits .or .u64 x7_2 (ji15)) x8_2 false))) = some (r1, r2, r3) := by first | (rw [hji15] at H; exact H) | (simp only [hji15] at H ⊢; exact H)
            have hji15_ : (IntKind.u64.wrap ((IntKind.u64.wrap (Go.bits .and .u8 (bt a0 (ji7)) 127)) * 2 ^ min (ji13).toNat 64)) = ji15 := hji15
            have hji15z : (ji13) ≤ 64 → (IntKind.u64.wrap ((IntKind.u64.wrap (Go.bits .and .u8 (bt a0 (ji7)) 127)) * 2 ^ (ji13).toNat)) = ji15 := zbq hji15
            by_cases c16 : (bt a0 (ji7)) ≥ 128
            ·rw [if_pos c16] at H
             have c16b0 : decide (128 ≤ (bt a0 (ji7))) = true := decide_eq_true c16
             clear c16
             have H' := za.mk H
             clear H
             go_wp2
             go_roundg kj9
             case measure => have := HJ2.out; have := HK2.out; have := HJ9.out; omega
             case rel => exact ⟨(Go.bits .or .u64 x7_2 (ji15)), (wrap64 (x8_2 + 1)), (by first | rfl | (simp; done) | (simp only [← hji15] <;> (first | rfl | simp)) | (simp [*]; done)), (by first | rfl | (simp; done) | (simp [*]; done)), H', ⟨by have := HJ2.out; have := HK2.out; have := HJ9.out; omega⟩, by repeat (first | exact zi.refl _ | apply zi.step)⟩
            ·rw [if_neg c16] at H
             have c16b0 : decide (128 ≤ (bt a0 (ji7))) = false := decide_eq_false c16
             clear c16
             have HC17 := za.mk H
             clear H
             go_upto_region 12 with (fail)
             go_cut [53] (fun v53 wc => ∃ (kq : Nat) (x53_16 : Bool), v53 = .bool x53_16 ∧ za (zo.j3 kq a1 (Go.bits .or .u64 x7_2 (ji15)) x8_2 x53_16 = some (r1, r2, r3)) ∧ za (kq ≤ kj9) ∧ zi w wc)
             case first =>
              have H := HC17.out
              clear HC17
              by_cases c18 : (bt a0 (ji7)) = 0
              ·rw [if_pos c18] at H
               have c18b0 : ((bt a0 (ji7)) == 0) = true := beq_iff_eq.mpr c18
               have c18b1 : ((bt a0 (ji7)) != 0) = false := bne_eq_false_iff_eq.mpr c18
               clear c18
               (first | rw [c18b0] | (simp only [zT, yc]; rw [c18b0]) | skip)
               have H' := za.mk H
               clear H
               go_wp2
               go_meet
               case rel => exact ⟨_, (decide (x8_2 > 0)), (by first | rfl | (simp; done) | (simp [*]; done)), H', ⟨by have := HJ2.out; have := HK2.out; have := HJ9.out; first | omega | exact Nat.le_refl _⟩, by repeat (first | exact zi.refl _ | apply zi.step)⟩
              ·rw [if_neg c18] at H
               have c18b0 : ((bt a0 (ji7)) == 0) = false := beq_eq_false_iff_ne.mpr c18
               have c18b1 : ((bt a0 (ji7)) != 0) = true := bne_iff_ne.mpr c18
               (first | rw [c18b0] | (simp only [zT, yc]; rw [c18b0]) | skip)
               have H' := za.mk H
               clear H
               go_wp2
               go_meet
               case rel => exact ⟨_, (false), (by first | rfl | (simp; done) | (simp [*]; done)), H', ⟨by have := HJ2.out; have := HK2.out; have := HJ9.out; first | omega | exact Nat.le_refl _⟩, by repeat (first | exact zi.refl _ | apply zi.step)⟩
             case rest =>
              clear HC17
              try clear c1
              try clear c2
              try clear p2
              try clear c4
              try clear c4b0
              try clear c5
              try clear c6
              try clear c6b0
              try clear p6
              try clear c7
              try clear c8
              try clear c8b0
              try clear c9
              try clear p9
              try clear q9
              try clear hx9
              try clear c11
              try clear c11b0
              try clear c11b1
              try clear c12
              try clear c14
              try clear c14b0
              try clear c14b1
              try clear c16
              try clear c16b0
              try clear c18
              try clear c18b0
              try clear c18b1
              try clear p2
              try clear p6
              try clear p9
              try clear q9
              obtain ⟨kq, x53_16, rfl, HA, HJ16, ⟨mc16, rfl⟩⟩ := hcut
              cases kq with
              | zero => exact absurd HA.out (by simp [zo.j3])
              | succ kj16 =>
               have H := HA.out
               clear HA
               simp only [zo.j3] at H
               by_cases c19 : x53_16 = true
               ·subst c19
                have H1 : (some (0, 0, 6)) = some (r1, r2, r3) := by rw [if_pos rfl] at H; exact H
                clear H
                have H := H1
                clear H1
                simp only [Option.some.injEq, Prod.mk.injEq] at H
                obtain ⟨rfl, rfl, rfl⟩ := H
                go_wp2
                go_ret3
                exact ⟨by first | rfl | (simp; done) | (simp only [← hji7, ← hji13, ← hji15] <;> (first | rfl | simp)) | (simp [*]; done), by repeat (first | exact zi.refl _ | apply zi.step)⟩
               ·replace c19 := zdM.mpr c19
                subst c19
                have H1 : (if (Go.bits .and .u64 (Go.bits .or .u64 x7_2 (ji15)) 1) = 1 then (some (Go.bits .xor .i64 (-1) (wrap64 ((Go.bits .or .u64 x7_2 (ji15)) / 2)), wrap64 ((wrap64 (a1 + x8_2)) + 1), 0)) else (some (wrap64 ((Go.bits .or .u64 x7_2 (ji15)) / 2), wrap64 ((wrap64 (a1 + x8_2)) + 1), 0))) = some (r1, r2, r3) := by rw [if_neg (show ¬ (false = true) by decide)] at H; exact H
                clear H
                have H := H1
                clear H1
                by_cases c20 : (Go.bits .and .u64 (Go.bits .or .u64 x7_2 (ji15)) 1) = 1
                ·rw [if_pos c20] at H
                 have c20b0 : ((Go.bits .and .u64 (Go.bits .or .u64 x7_2 (ji15)) 1) == 1) = true := beq_iff_eq.mpr c20
                 have c20b1 : ((Go.bits .and .u64 (Go.bits .or .u64 x7_2 (ji15)) 1) != 1) = false := bne_eq_false_iff_eq.mpr c20
                 clear c20
                 simp only [Option.some.injEq, Prod.mk.injEq] at H
                 obtain ⟨rfl, rfl, rfl⟩ := H
                 go_wp2
                 go_ret3
                 exact ⟨by first | rfl | (simp; done) | (simp only [← hji7, ← hji13, ← hji15] <;> (first | rfl | simp)) | (simp [*]; done), by repeat (first | exact zi.refl _ | apply zi.step)⟩
                ·rw [if_neg c20] at H
                 have c20b0 : ((Go.bits .and .u64 (Go.bits .or .u64 x7_2 (ji15)) 1) == 1) = false := beq_eq_false_iff_ne.mpr c20
                 have c20b1 : ((Go.bits .and .u64 (Go.bits .or .u64 x7_2 (ji15)) 1) != 1) = true := bne_iff_ne.mpr c20
                 simp only [Option.some.injEq, Prod.mk.injEq] at H
                 obtain ⟨rfl, rfl, rfl⟩ := H
                 go_wp2
                 go_ret3
                 exact ⟨by first | rfl | (simp; done) | (simp only [← hji7, ← hji13, ← hji15] <;> (first | rfl | simp)) | (simp [*]; done), by repeat (first | exact zi.refl _ | apply zi.step)⟩
           ·rw [if_neg c14] at H
            exact absurd H (by simp)
       ·rw [if_neg c8] at H
        exact absurd H (by simp)
      ·rw [if_neg c6] at H
       have c6b0 : decide ((wrap64 (a1 + x8_2)) < (a0.size : Int)) = false := decide_eq_false c6
       clear c6
       simp only [Option.some.injEq, Prod.mk.injEq] at H
       obtain ⟨rfl, rfl, rfl⟩ := H
       go_wp2
       go_ret3
       exact ⟨by first | rfl | (simp; done) | (simp [*]; done), by repeat (first | exact zi.refl _ | apply zi.step)⟩
end Go.Proofs.YtepipnpfggnadaaGreat.Q
