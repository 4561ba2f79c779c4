/- Texts of this session laid together (shrink.py): what the claim's law rests on. -/
import Derived.Below
import Derived.Deep.Draws
import Derived.Deep.AppendLies
import Derived.Maps.AppendAt
import Derived.OwnWalk
import Derived.Laws.BytesArg
import Derived.Laws.MakeOwn
import Derived.Laws.OwnMore
import Derived.Deep.OwnRows
import Derived.Tactics
import Derived.Lib.ConvBytes
import Derived.Laws.Slices
import Derived.WalkKit
import Derived.KernelRfl
import Derived.RowKit3
import Derived.Deep.LoopGhost
import Derived.Deep.QuietTactic
import Derived.BigQuiet
import Derived.WideLaws
import Derived.Deep.DeepCutAuto
import Derived.Deep.CutBlock
import Derived.Deep.RegionHeld3
import Derived.Laws.Rows
import Derived.Lib.AppendStr
import Derived.ArgAppend
import Derived.Laws.IdiomCopy
import Derived.RowKit
import Derived.OrdersHeld
import Derived.Laws.BitsLemmas
import Derived.Laws.StructEq
import Derived.Test.YtepipnpfggnadaaGreatProg
import Derived.WalkMore
import Derived.Lib.Strings
import Derived.ChangeArms
import Derived.Deep.Slices
import Derived.SizedLaws
import Derived.Test.YtepipnpfggnadaaGreatRows
import Derived.Test.YtepipnpfggnadaaGreatTFramesPutg
set_option linter.unusedVariables false
set_option linter.unusedSimpArgs false
set_option maxRecDepth 100000
set_option maxHeartbeats 8000000
open List renaming setIfInBounds_toArray → zdG
open List renaming set_cons_zero → zdH
open List renaming set_cons_succ → zdI
open List renaming map_toArray → zdJ
open Option renaming bind_eq_some_iff → zdK
open Go.World renaming block_lt_of_cell? → zdL
open Bool renaming eq_false_iff → zdM
open List renaming length_append → zdN
namespace Go.Proofs.YtepipnpfggnadaaGreat.Q
open Go.RowKit Go.Proofs.YtepipnpfggnadaaGreatW.PrintWords Go.Proofs.YtepipnpfggnadaaGreatW.PrintLast Go.Proofs.YtepipnpfggnadaaGreatW.PrintMore
def Qr {α : Type} (f : α → Int) (l : List α) (i : Nat) : Option Int := if i = 0 then none else (l[i - 1]?).map f
theorem VQ {α : Type} (f : α → Int) (l : List α) (i j : Nat) (hj : j = i - 1) (h : j < l.length) (n : Int) : qx (Qr f l i) n = !(decide (0 < i) && decide (n ≤ f l[j])) := by
 subst hj
 unfold Qr
 by_cases h0 : i = 0
 ·rw [if_pos h0, decide_eq_false (by omega)]
  rfl
 ·rw [if_neg h0, List.getElem?_eq_getElem h, decide_eq_true (by omega), Bool.true_and, Option.map_some, qx, Bool.eq_iff_iff]
  simp
theorem Q6 {α : Type} (f : α → Int) (l : List α) (i : Nat) (h : i < l.length) : Qr f l (i + 1) = some (f l[i]) := by
 unfold Qr
 rw [if_neg (by omega), Nat.add_sub_cancel, List.getElem?_eq_getElem h, Option.map_some]
theorem Vr {a1 a2 a3 a4 : Int} {A5 : Option Addr} {m5 d5 : Nat} {A6 : Option Addr} {d6 : Nat} {l6 : List S52} {A7 : Option Addr} {m7 d7 : Nat} {A8 : Option Addr} {m8 d8 : Nat} {A9 : Option Addr} {m9 d9 : Nat} {w : World} (hr6 : k52.C w A6 l6.length l6) (hl : l6.length ≤ d6) (hz : ∀ y ∈ l6, YN y) (gq : wiB a1 0 5 = true) (gu : wiB a2 1 1099511627776 = true) (gv : ((m5 == 0) && ((m7 == 0) && ((m8 == 0) && (m9 == 0)))) = true) (gs : wiB a3 0 1099511627776 = true) (gt : wiB a4 0 1099511627776 = true) : Calls Tryz.prog 10 #[.agg #[.int .i64 2, .int .i64 a1, .int .i64 a2, .int .i64 a3, .int .i64 a4, .slice A5 m5 d5, .slice A6 l6.length d6, .slice A7 m7 d7, .slice A8 m8 d8, .slice A9 m9 d9]] w fun e w' => e = .returned (.bool (jf a1 none l6 && ((a3 == 0) && ((a4 == 0) && (decide (0 < l6.length) && decide (l6.length ≤ 8)))))) ∧ Below w.heap.size w w' := by
 have HS := Sat.nil w
 have w0 : wiB 2 1 5 = true := rfl
 generalize hg : jf a1 none l6 = g
 generalize e0 : (a3 == 0) = s0
 have E0 := za.mk e0
 clear e0
 generalize e1 : (a4 == 0) = s1
 have E1 := za.mk e1
 clear e1
 generalize e2 : (decide (0 < l6.length)) = s2
 have E2 := za.mk e2
 clear e2
 generalize e3 : (decide (l6.length ≤ 8)) = s3
 have E3 := za.mk e3
 clear e3
 replace w0 := za.mk w0
 replace hg := za.mk hg
 replace hz := za.mk hz
 replace gq := za.mk gq
 replace gu := za.mk gu
 replace gv := za.mk gv
 replace gs := za.mk gs
 replace gt := za.mk gt
 have HR := za.mk hr6
 have HLEN := za.mk hr6.2.1
 clear hr6
 go_enter Tryz.func10, Tryz.ntmps10
 go_wp2_with ((first | ((with_reducible refine gB rfl ?_); refine zz HS ?_) | ((with_reducible refine gA rfl ?_); refine zt HS ?_) | ((with_reducible refine gS rfl ?_); refine zu HS ?_) | (go_at_call 20; refine HS.go (zY w0.out) ?_) | (go_at_call 20; refine HS.go (zY gq.out) ?_) | (go_at_call 20; refine HS.go (zY gu.out) ?_) | (go_at_call 20; refine HS.go (zY gs.out) ?_) | (go_at_call 20; refine HS.go (zY gt.out) ?_) | (go_at_call 21; refine HS.go (JC gv.out) ?_)); clear HS; (try clear hc); intros; rename_i HS; have hc := HS.lk; simp only [Lk, LkC, Value.cells, List.toList_toArray, Nat.reduceAdd, Nat.zero_add, and_true, zf, zg, ze, zh] at HS hc)
 obtain ⟨gf, hgf⟩ := HS.hd
 subst hgf
 have HZ := za.mk HS
 clear HS hc
 go_loopg [3] l6.length (fun kq vi wr => ∃ i : Nat, vi = .int .i64 i ∧ za (i + kq = l6.length) ∧ za (jf a1 (Qr S52.f1 l6 i) (l6.drop i) = g) ∧ za (Sat [] w wr [(gf, [.int .i64 2, .int .i64 a1, .int .i64 a2, .int .i64 a3, .int .i64 a4, .slice A5 m5 d5, .slice A6 l6.length d6, .slice A7 m7 d7, .slice A8 m8 d8, .slice A9 m9 d9], 28)] []))
 case atStart => exact ⟨0, rfl, ⟨by simp⟩, ⟨by rw [List.drop_zero]; exact hg.out⟩, HZ⟩
 case round =>
  clear HZ hg
  obtain ⟨i, rfl, HK, HO, HT⟩ := hrel
  have HS := HT.out
  clear HT
  have hc := HS.lk; simp only [Lk, LkC, Value.cells, List.toList_toArray, Nat.reduceAdd, Nat.zero_add, and_true, zf, zg, ze, zh] at HS hc
  have hil : i ≤ l6.length := by have := HK.out; omega
  by_cases hlt : i < l6.length
  ·obtain ⟨ad, A4_, c4_, e0, x0, x1, x2, x3, x4, x5, hll, hin⟩ := ZE HR.out (i : Int) (by omega) (by omega)
   subst e0
   obtain ⟨j, hj⟩ : ∃ j, j = i - 1 := ⟨_, rfl⟩
   have hjl : j < l6.length := by omega
   obtain ⟨ad2, _, _, e2, -, px, -⟩ := ZE HR.out (j : Int) (by omega) (by omega)
   obtain rfl : ad = ad2 := by injection e2
   have hd1 : xf l6 ((i : Nat) : Int) = l6[i] := by simp [xf, hlt]
   have hd2 : xf l6 ((j : Nat) : Int) = l6[j] := by simp [xf, hjl]
   have hy := hz.out l6[i] (List.getElem_mem hlt)
   have ho := HO.out
   rw [List.drop_eq_getElem_cons hlt, jf, VQ S52.f1 l6 i j hj hjl, ← Q6 S52.f1 l6 i hlt] at ho
   rw [Int.toNat_natCast] at x0 x1 x2 x3 x4 x5 px
   rw [hd1] at x0 x1 x2 x3 x4 x5 hll hin
   rw [hd2] at px
   generalize l6[i] = y at ho hy x0 x1 x2 x3 x4 x5 hll hin
   generalize l6[j] = z at ho px
   have HI := za.mk hin
   have HL := za.mk hll
   have HY := za.mk hy
   have b0 : (0 : Int) ≤ (i : Int) := by omega
   have b1 : (i : Int) < (l6.length : Int) := by omega
   have b2 : (0 : Int) ≤ (j : Int) := by omega
   have b3 : (j : Int) < (l6.length : Int) := by omega
   have j2 : 0 < i → wrap64 ((i : Int) - 1) = (j : Int) := fun h0 => by rw [xo (by omega) (by have := HLEN.out; omega)]; omega
   generalize hp : decide (0 < i) = p at ho
   have hp2 : decide ((0 : Int) < (i : Int)) = p := by rw [← hp]; exact decide_eq_decide.mpr (by omega)
   have hp3 : decide ((i : Int) > 0) = p := hp2
   generalize hu_ : (jo y.f0 y.f1 y.f2 y.f3 y.f4 y.f5) = u_ at ho
   generalize hq_ : (y.f0 == a1) = q_ at ho
   have hq_2 : (y.f0 != a1) = !q_ := by rw [← hq_]; rfl
   generalize ht_ : (decide (y.f1 ≤ z.f1)) = t_ at ho
   replace hu_ := za.mk hu_
   clear hd1 hd2 HO e2 hll hin hy hj hjl
   go_wp2
   cases u_
   case' true => cases q_
   case' true.true => cases p
   case' true.true.true => cases t_
   all_goals
    first
    | (have j4 := of_decide_eq_true hp2; have j5 : decide (0 < i) = true := decide_eq_true (by omega); replace j2 := j2 (by omega); have j3 := (zT _).trans j2)
    | (have j4 := of_decide_eq_false hp2; have j5 : decide (0 < i) = false := decide_eq_false (by omega))
    | skip
    clear hc
    replace HS := HS.drewN 1
    refine jx (.op 0 0 58 (.op 1 0 59 (.op 2 0 60 (.op 3 0 61 (.op 4 0 62 (.op 5 2 63 (.op 6 0 64 (.op 7 0 65 (.op 8 0 66 (.op 9 0 67 (.op 10 0 68 (.op 11 0 69 (.op 12 0 70 (.op 13 0 71 (.op 14 0 72 (.op 15 0 73 (.op 16 0 74 (.op 17 0 75 (.op 18 0 76 (.op 19 0 77 (.op 20 0 78 (.op 21 0 79 (.op 22 0 80 (.op 23 0 81 (.op 24 0 82 (.op 25 0 83 (.op 26 0 84 (.op 27 0 85 (.op 28 0 86 (.op 29 0 87 (.op 30 0 88 (.op 31 0 89 (.op 32 0 90 (.op 33 0 91 (.op 34 0 92 (.op 35 0 93 (.op 36 0 94 (.op 37 0 95 .nil)))))))))))))))))))))))))))))))))))))) [] (fun W => Lk W [(gf, [.int .i64 2, .int .i64 a1, .int .i64 a2, .int .i64 a3, .int .i64 a4, .slice A5 m5 d5, .slice (some ad) l6.length d6, .slice A7 m7 d7, .slice A8 m8 d8, .slice A9 m9 d9], 28)] ∧ W.cell? (ad.add (i * 6)) = some (.int .i64 y.f0) ∧ W.cell? ⟨(ad.add (i * 6)).block, (ad.add (i * 6)).off + 1, none⟩ = some (.int .i64 y.f1) ∧ W.cell? ⟨(ad.add (i * 6)).block, (ad.add (i * 6)).off + 2, none⟩ = some (.string y.f2) ∧ W.cell? ⟨(ad.add (i * 6)).block, (ad.add (i * 6)).off + 3, none⟩ = some (.int .i64 y.f3) ∧ W.cell? ⟨(ad.add (i * 6)).block, (ad.add (i * 6)).off + 4, none⟩ = some (.slice A4_ y.f4.length c4_) ∧ W.cell? ⟨(ad.add (i * 6)).block, (ad.add (i * 6)).off + 5, none⟩ = some (.int .i64 y.f5) ∧ W.cell? ⟨(ad.add (j * 6)).block, (ad.add (j * 6)).off + 1, none⟩ = some (.int .i64 z.f1)) ((fun _ H => ⟨H.lk, H.at_ x0, H.at_ x1, H.at_ x2, H.at_ x3, H.at_ x4, H.at_ x5, H.at_ px⟩) _ HS) (fun hS => ?_)
    (repeat (first | refine RT.tk ?_ | refine RT.tn ?_ | (refine RT.o1 ?_; refine xU HS (fun _ H => ⟨H.lk, H.at_ x0, H.at_ x1, H.at_ x2, H.at_ x3, H.at_ x4, H.at_ x5, H.at_ px⟩) (zde (Kd.C_below HI.out HS.below) HL.out hu_.out) ?_; clear HS hS; intro w_ hS HS; refine RT.nm ?_)))
    refine RT.nil ?_
    clear hS px
    go_wp2
    first
    | (go_ret; exact ⟨by rw [← ho]; rfl, HS.below⟩)
    | (go_roundg (l6.length - (i + 1)); (case measure => have := HK.out; omega); (case rel => exact ⟨i + 1, by have h_ : wrap64 ((i : Int) + 1) = ((i + 1 : Nat) : Int) := z4 (by omega) (by have := HLEN.out; omega); first | (rw [h_]) | (simp only [h_]) | rfl, ⟨by have := HK.out; omega⟩, ⟨ho⟩, ⟨HS⟩⟩))
  ·obtain rfl : i = l6.length := by omega
   have ho := HO.out
   rw [List.drop_length, jf] at ho
   subst ho
   clear HO
   have e0 := E0.out
   have e1 := E1.out
   have e2 := E2.out
   have e20 : (decide ((l6.length : Int) > 0)) = s2 := by rw [← e2]; exact decide_eq_decide.mpr (by omega)
   have e21 : (decide ((0 : Int) < (l6.length : Int))) = s2 := by rw [← e2]; exact decide_eq_decide.mpr (by omega)
   have e3 := E3.out
   have e30 : (decide ((l6.length : Int) ≤ 8)) = s3 := by rw [← e3]; exact decide_eq_decide.mpr (by omega)
   cases s0
   case' true => cases s1
   case' true.true => cases s2
   case' true.true.true => cases s3
   all_goals
    go_wp2
    go_ret
    exact ⟨rfl, HS.below⟩
theorem zbH {a1 a2 a3 a4 : Int} {A5 : Option Addr} {m5 d5 : Nat} {A6 : Option Addr} {d6 : Nat} {l6 : List S52} {A7 : Option Addr} {m7 d7 : Nat} {A8 : Option Addr} {m8 d8 : Nat} {A9 : Option Addr} {m9 d9 : Nat} {w : World} (hr6 : k52.C w A6 l6.length l6) (hl : l6.length ≤ d6) (hz : ∀ y ∈ l6, YN y) : Calls Tryz.prog 10 #[.agg #[.int .i64 2, .int .i64 a1, .int .i64 a2, .int .i64 a3, .int .i64 a4, .slice A5 m5 d5, .slice A6 l6.length d6, .slice A7 m7 d7, .slice A8 m8 d8, .slice A9 m9 d9]] w fun e w' => e = .returned (.bool (wiB a1 0 5 && (wiB a2 1 1099511627776 && (((m5 == 0) && ((m7 == 0) && ((m8 == 0) && (m9 == 0)))) && (wiB a3 0 1099511627776 && (wiB a4 0 1099511627776 && (jf a1 none l6 && ((a3 == 0) && ((a4 == 0) && (decide (0 < l6.length) && decide (l6.length ≤ 8))))))))))) ∧ Below w.heap.size w w' := by
 have HS := Sat.nil w
 have w0 : wiB 2 1 5 = true := rfl
 generalize gq : wiB a1 0 5 = q
 generalize gu : wiB a2 1 1099511627776 = u
 generalize gv : ((m5 == 0) && ((m7 == 0) && ((m8 == 0) && (m9 == 0)))) = v
 generalize gs : wiB a3 0 1099511627776 = s
 generalize gt : wiB a4 0 1099511627776 = t
 cases q
 case' true => cases u
 case' true.true => cases v
 case' true.true.true => cases s
 case' true.true.true.true => cases t
 case true.true.true.true.true => exact Vr hr6 hl hz gq gu gv gs gt
 all_goals
  clear hr6 hl hz
  replace w0 := za.mk w0
  replace gq := za.mk gq
  replace gu := za.mk gu
  replace gv := za.mk gv
  replace gs := za.mk gs
  replace gt := za.mk gt
  have HS := Sat.nil w
  go_enter Tryz.func10, Tryz.ntmps10
  go_wp2_with ((first | ((with_reducible refine gB rfl ?_); refine zz HS ?_) | ((with_reducible refine gA rfl ?_); refine zt HS ?_) | ((with_reducible refine gS rfl ?_); refine zu HS ?_) | (go_at_call 20; refine HS.go (zY w0.out) ?_) | (go_at_call 20; refine HS.go (zY gq.out) ?_) | (go_at_call 20; refine HS.go (zY gu.out) ?_) | (go_at_call 20; refine HS.go (zY gs.out) ?_) | (go_at_call 20; refine HS.go (zY gt.out) ?_) | (go_at_call 21; refine HS.go (JC gv.out) ?_)); clear HS; (try clear hc); intros; rename_i HS; have hc := HS.lk; simp only [Lk, LkC, Value.cells, List.toList_toArray, Nat.reduceAdd, Nat.zero_add, and_true, zf, zg, ze, zh] at HS hc)
  go_ret
  exact ⟨rfl, HS.below⟩
theorem Vk {a1 a2 a3 a4 : Int} {A5 : Option Addr} {m5 d5 : Nat} {A6 : Option Addr} {m6 d6 : Nat} {A7 : Option Addr} {d7 : Nat} {l7 : List S46} {A8 : Option Addr} {m8 d8 : Nat} {A9 : Option Addr} {m9 d9 : Nat} {w : World} (hr7 : k46.C w A7 l7.length l7) (hl : l7.length ≤ d7) (hz : ∀ y ∈ l7, Yo y) (gq : wiB a1 0 5 = true) (gu : wiB a2 1 1099511627776 = true) (gv : ((m5 == 0) && ((m6 == 0) && ((m8 == 0) && (m9 == 0)))) = true) (gs : wiB a3 0 1099511627776 = true) (gt : wiB a4 0 1099511627776 = true) : Calls Tryz.prog 10 #[.agg #[.int .i64 4, .int .i64 a1, .int .i64 a2, .int .i64 a3, .int .i64 a4, .slice A5 m5 d5, .slice A6 m6 d6, .slice A7 l7.length d7, .slice A8 m8 d8, .slice A9 m9 d9]] w fun e w' => e = .returned (.bool (jc a3 a4 none l7 && (decide (a3 ≤ a4) && decide (l7.length ≤ 16)))) ∧ Below w.heap.size w w' := by
 have HS := Sat.nil w
 have w0 : wiB 4 1 5 = true := rfl
 generalize hg : jc a3 a4 none l7 = g
 generalize e0 : (decide (a3 ≤ a4)) = s0
 have E0 := za.mk e0
 clear e0
 generalize e1 : (decide (l7.length ≤ 16)) = s1
 have E1 := za.mk e1
 clear e1
 replace w0 := za.mk w0
 replace hg := za.mk hg
 replace hz := za.mk hz
 replace gq := za.mk gq
 replace gu := za.mk gu
 replace gv := za.mk gv
 replace gs := za.mk gs
 replace gt := za.mk gt
 have HR := za.mk hr7
 have HLEN := za.mk hr7.2.1
 clear hr7
 go_enter Tryz.func10, Tryz.ntmps10
 go_wp2_with ((first | ((with_reducible refine gB rfl ?_); refine zz HS ?_) | ((with_reducible refine gA rfl ?_); refine zt HS ?_) | ((with_reducible refine gS rfl ?_); refine zu HS ?_) | (go_at_call 20; refine HS.go (zY w0.out) ?_) | (go_at_call 20; refine HS.go (zY gq.out) ?_) | (go_at_call 20; refine HS.go (zY gu.out) ?_) | (go_at_call 20; refine HS.go (zY gs.out) ?_) | (go_at_call 20; refine HS.go (zY gt.out) ?_) | (go_at_call 21; refine HS.go (J1 gv.out) ?_)); clear HS; (try clear hc); intros; rename_i HS; have hc := HS.lk; simp only [Lk, LkC, Value.cells, List.toList_toArray, Nat.reduceAdd, Nat.zero_add, and_true, zf, zg, ze, zh] at HS hc)
 obtain ⟨gf, hgf⟩ := HS.hd
 subst hgf
 have HZ := za.mk HS
 clear HS hc
 go_loopg [4, 5] l7.length (fun kq vi vx wr => ∃ i : Nat, vi = .int .i64 i ∧ za (i + kq = l7.length) ∧ za (jc a3 a4 (Qr S46.f0 l7 i) (l7.drop i) = g) ∧ za (Sat [] w wr [(gf, [.int .i64 4, .int .i64 a1, .int .i64 a2, .int .i64 a3, .int .i64 a4, .slice A5 m5 d5, .slice A6 m6 d6, .slice A7 l7.length d7, .slice A8 m8 d8, .slice A9 m9 d9], 28)] []))
 case atStart => exact ⟨0, rfl, ⟨by simp⟩, ⟨by rw [List.drop_zero]; exact hg.out⟩, HZ⟩
 case round =>
  clear HZ hg
  obtain ⟨i, rfl, HK, HO, HT⟩ := hrel
  have HS := HT.out
  clear HT
  have hc := HS.lk; simp only [Lk, LkC, Value.cells, List.toList_toArray, Nat.reduceAdd, Nat.zero_add, and_true, zf, zg, ze, zh] at HS hc
  have hil : i ≤ l7.length := by have := HK.out; omega
  by_cases hlt : i < l7.length
  ·obtain ⟨ad, A4_, c4_, e0, x0, x1, x2, x3, x4, hll, hin⟩ := vV HR.out (i : Int) (by omega) (by omega)
   subst e0
   obtain ⟨j, hj⟩ : ∃ j, j = i - 1 := ⟨_, rfl⟩
   have hjl : j < l7.length := by omega
   obtain ⟨ad2, _, _, e2, px, -⟩ := vV HR.out (j : Int) (by omega) (by omega)
   obtain rfl : ad = ad2 := by injection e2
   have hd1 : xb l7 ((i : Nat) : Int) = l7[i] := by simp [xb, hlt]
   have hd2 : xb l7 ((j : Nat) : Int) = l7[j] := by simp [xb, hjl]
   have hy := hz.out l7[i] (List.getElem_mem hlt)
   have ho := HO.out
   rw [List.drop_eq_getElem_cons hlt, jc, VQ S46.f0 l7 i j hj hjl, ← Q6 S46.f0 l7 i hlt] at ho
   rw [Int.toNat_natCast] at x0 x1 x2 x3 x4 px
   rw [hd1] at x0 x1 x2 x3 x4 hll hin
   rw [hd2] at px
   generalize l7[i] = y at ho hy x0 x1 x2 x3 x4 hll hin
   generalize l7[j] = z at ho px
   have HI := za.mk hin
   have HL := za.mk hll
   have HY := za.mk hy
   replace x0 := HS.at_ x0
   replace x1 := HS.at_ x1
   replace x2 := HS.at_ x2
   replace x3 := HS.at_ x3
   replace x4 := HS.at_ x4
   have b0 : (0 : Int) ≤ (i : Int) := by omega
   have b1 : (i : Int) < (l7.length : Int) := by omega
   have b2 : (0 : Int) ≤ (j : Int) := by omega
   have b3 : (j : Int) < (l7.length : Int) := by omega
   have j2 : 0 < i → wrap64 ((i : Int) - 1) = (j : Int) := fun h0 => by rw [xo (by omega) (by have := HLEN.out; omega)]; omega
   generalize hp : decide (0 < i) = p at ho
   have hp2 : decide ((0 : Int) < (i : Int)) = p := by rw [← hp]; exact decide_eq_decide.mpr (by omega)
   have hp3 : decide ((i : Int) > 0) = p := hp2
   generalize hu_ : (Ze y) = u_ at ho
   generalize hq_ : (decide (a3 ≤ y.f0)) = q_ at ho
   have hq_2 : decide (y.f0 < a3) = !q_ := by rw [← hq_, Bool.eq_iff_iff]; simp
   generalize hr_ : (decide (y.f0 < a4)) = r_ at ho
   have hr_2 : decide (a4 ≤ y.f0) = !r_ := by rw [← hr_, Bool.eq_iff_iff]; simp
   have hr_3 : decide (y.f0 ≥ a4) = !r_ := hr_2
   generalize ht_ : (decide (y.f0 ≤ z.f0)) = t_ at ho
   replace hu_ := za.mk hu_
   clear hd1 hd2 HO e2 hll hin hy hj hjl
   go_wp2_with ((first | ((with_reducible refine gB rfl ?_); refine zz HS ?_) | ((with_reducible refine gA rfl ?_); refine zt HS ?_) | ((with_reducible refine gS rfl ?_); refine zu HS ?_)); clear HS; (try clear hc); intros; rename_i HS; have hc := HS.lk; simp only [Lk, LkC, Value.cells, List.toList_toArray, Nat.reduceAdd, Nat.zero_add, and_true, zf, zg, ze, zh] at HS hc)
   obtain ⟨gx, hgx⟩ := HS.hd
   subst hgx
   cases u_
   case' true => cases q_
   case' true.true => cases r_
   case' true.true.true => cases p
   case' true.true.true.true => cases t_
   all_goals
    first
    | (have j4 := of_decide_eq_true hp2; have j5 : decide (0 < i) = true := decide_eq_true (by omega); replace j2 := j2 (by omega); have j3 := (zT _).trans j2)
    | (have j4 := of_decide_eq_false hp2; have j5 : decide (0 < i) = false := decide_eq_false (by omega))
    | skip
    clear hc
    replace HS := HS.drewN 1
    refine jx (.op 0 0 135 (.op 1 2 136 (.op 2 0 137 (.op 3 0 138 (.op 4 0 139 (.op 5 0 140 (.op 6 0 141 (.op 7 0 142 (.op 8 0 143 (.op 9 0 144 (.op 10 0 145 (.op 11 0 146 (.op 12 0 147 (.op 13 0 148 (.op 14 0 149 (.op 15 0 150 (.op 16 0 151 (.op 17 0 152 (.op 18 0 153 (.op 19 0 154 (.op 20 0 155 (.op 21 0 156 (.op 22 0 157 (.op 23 0 158 (.op 24 0 159 (.op 25 0 160 (.op 26 0 161 (.op 27 0 162 (.op 28 0 163 (.op 29 0 164 (.op 30 0 165 (.op 31 0 166 (.op 32 0 167 .nil))))))))))))))))))))))))))))))))) [] (fun W => Lk W [(gx, [.int .i64 y.f0, .string y.f1, .slice A4_ y.f2.length c4_, .int .i64 y.f3, .int .i64 y.f4], 46), (gf, [.int .i64 4, .int .i64 a1, .int .i64 a2, .int .i64 a3, .int .i64 a4, .slice A5 m5 d5, .slice A6 m6 d6, .slice (some ad) l7.length d7, .slice A8 m8 d8, .slice A9 m9 d9], 28)] ∧ W.cell? (ad.add (j * 5)) = some (.int .i64 z.f0)) ((fun _ H => ⟨H.lk, H.at_ px⟩) _ HS) (fun hS => ?_)
    (repeat (first | refine RT.tk ?_ | refine RT.tn ?_ | (refine RT.o1 ?_; refine xU HS (fun _ H => ⟨H.lk, H.at_ px⟩) (zcq (Kd.C_below HI.out HS.below) HL.out HY.out hu_.out) ?_; clear HS hS; intro w_ hS HS; refine RT.nm ?_)))
    refine RT.nil ?_
    clear hS px
    go_wp2
    first
    | (go_ret; exact ⟨by rw [← ho]; rfl, HS.below⟩)
    | (go_roundg (l7.length - (i + 1)); (case measure => have := HK.out; omega); (case rel => exact ⟨i + 1, by have h_ : wrap64 ((i : Int) + 1) = ((i + 1 : Nat) : Int) := z4 (by omega) (by have := HLEN.out; omega); first | (rw [h_]) | (simp only [h_]) | rfl, ⟨by have := HK.out; omega⟩, ⟨ho⟩, ⟨HS.off (.cons _ (List.Sublist.refl _))⟩⟩))
  ·obtain rfl : i = l7.length := by omega
   have ho := HO.out
   rw [List.drop_length, jc] at ho
   subst ho
   clear HO
   have e0 := E0.out
   have e1 := E1.out
   have e10 : (decide ((l7.length : Int) ≤ 16)) = s1 := by rw [← e1]; exact decide_eq_decide.mpr (by omega)
   cases s0
   case' true => cases s1
   all_goals
    go_wp2
    go_ret
    exact ⟨rfl, HS.below⟩
theorem zbr {a1 a2 a3 a4 : Int} {A5 : Option Addr} {m5 d5 : Nat} {A6 : Option Addr} {m6 d6 : Nat} {A7 : Option Addr} {d7 : Nat} {l7 : List S46} {A8 : Option Addr} {m8 d8 : Nat} {A9 : Option Addr} {m9 d9 : Nat} {w : World} (hr7 : k46.C w A7 l7.length l7) (hl : l7.length ≤ d7) (hz : ∀ y ∈ l7, Yo y) : Calls Tryz.prog 10 #[.agg #[.int .i64 4, .int .i64 a1, .int .i64 a2, .int .i64 a3, .int .i64 a4, .slice A5 m5 d5, .slice A6 m6 d6, .slice A7 l7.length d7, .slice A8 m8 d8, .slice A9 m9 d9]] w fun e w' => e = .returned (.bool (wiB a1 0 5 && (wiB a2 1 1099511627776 && (((m5 == 0) && ((m6 == 0) && ((m8 == 0) && (m9 == 0)))) && (wiB a3 0 1099511627776 && (wiB a4 0 1099511627776 && (jc a3 a4 none l7 && (decide (a3 ≤ a4) && decide (l7.length ≤ 16))))))))) ∧ Below w.heap.size w w' := by
 have HS := Sat.nil w
 have w0 : wiB 4 1 5 = true := rfl
 generalize gq : wiB a1 0 5 = q
 generalize gu : wiB a2 1 1099511627776 = u
 generalize gv : ((m5 == 0) && ((m6 == 0) && ((m8 == 0) && (m9 == 0)))) = v
 generalize gs : wiB a3 0 1099511627776 = s
 generalize gt : wiB a4 0 1099511627776 = t
 cases q
 case' true => cases u
 case' true.true => cases v
 case' true.true.true => cases s
 case' true.true.true.true => cases t
 case true.true.true.true.true => exact Vk hr7 hl hz gq gu gv gs gt
 all_goals
  clear hr7 hl hz
  replace w0 := za.mk w0
  replace gq := za.mk gq
  replace gu := za.mk gu
  replace gv := za.mk gv
  replace gs := za.mk gs
  replace gt := za.mk gt
  have HS := Sat.nil w
  go_enter Tryz.func10, Tryz.ntmps10
  go_wp2_with ((first | ((with_reducible refine gB rfl ?_); refine zz HS ?_) | ((with_reducible refine gA rfl ?_); refine zt HS ?_) | ((with_reducible refine gS rfl ?_); refine zu HS ?_) | (go_at_call 20; refine HS.go (zY w0.out) ?_) | (go_at_call 20; refine HS.go (zY gq.out) ?_) | (go_at_call 20; refine HS.go (zY gu.out) ?_) | (go_at_call 20; refine HS.go (zY gs.out) ?_) | (go_at_call 20; refine HS.go (zY gt.out) ?_) | (go_at_call 21; refine HS.go (J1 gv.out) ?_)); clear HS; (try clear hc); intros; rename_i HS; have hc := HS.lk; simp only [Lk, LkC, Value.cells, List.toList_toArray, Nat.reduceAdd, Nat.zero_add, and_true, zf, zg, ze, zh] at HS hc)
  go_ret
  exact ⟨rfl, HS.below⟩
theorem za0 {a0 a1 a2 a3 a4 : Int} {A5 : Option Addr} {m5 d5 : Nat} {A6 : Option Addr} {m6 d6 : Nat} {A7 : Option Addr} {m7 d7 : Nat} {A8 : Option Addr} {m8 d8 : Nat} {A9 : Option Addr} {m9 d9 : Nat} {w : World} (h : wiB a0 1 5 = false) : Calls Tryz.prog 10 #[.agg #[.int .i64 a0, .int .i64 a1, .int .i64 a2, .int .i64 a3, .int .i64 a4, .slice A5 m5 d5, .slice A6 m6 d6, .slice A7 m7 d7, .slice A8 m8 d8, .slice A9 m9 d9]] w fun e w' => e = .returned (.bool false) ∧ Below w.heap.size w w' := by
 replace h := za.mk h
 have HS := Sat.nil w
 go_enter Tryz.func10, Tryz.ntmps10
 go_wp2_with ((first | ((with_reducible refine gB rfl ?_); refine zz HS ?_) | ((with_reducible refine gA rfl ?_); refine zt HS ?_) | ((with_reducible refine gS rfl ?_); refine zu HS ?_) | (go_at_call 20; refine HS.go (zY h.out) ?_)); clear HS; (try clear hc); intros; rename_i HS; have hc := HS.lk; simp only [Lk, LkC, Value.cells, List.toList_toArray, Nat.reduceAdd, Nat.zero_add, and_true, zf, zg, ze, zh] at HS hc)
 go_ret
 exact ⟨rfl, HS.below⟩
theorem zbi (a1 a2 a3 a4 : Int) (l5 : List ByteArray) (l6 : List S52) (l7 : List S46) (l8 : List S86) (l9 : List S77) : (wiB a1 0 5 && (wiB a2 1 1099511627776 && (((l6.length == 0) && ((l7.length == 0) && ((l8.length == 0) && (l9.length == 0)))) && (wiB a3 0 1099511627776 && (wiB a4 0 1099511627776 && (decide (0 < a4) && vv l5)))))) = yO ⟨1, a1, a2, a3, a4, l5, l6, l7, l8, l9⟩ := by
 unfold yO qT ji inB wiB
 dsimp only
 generalize vv l5 = z0
 have e5 := @List.length_eq_zero_iff _ l5
 have e6 := @List.length_eq_zero_iff _ l6
 have e7 := @List.length_eq_zero_iff _ l7
 have e8 := @List.length_eq_zero_iff _ l8
 have e9 := @List.length_eq_zero_iff _ l9
 rw [Bool.eq_iff_iff]
 simp [qz]
 constructor
 ·intro h
  obtain ⟨h1, h2, h3, h4, h5⟩ := h
  simp_all <;> omega
 ·intro h
  simp_all <;> omega
theorem zaY (a1 a2 a3 a4 : Int) (l5 : List ByteArray) (l6 : List S52) (l7 : List S46) (l8 : List S86) (l9 : List S77) : (wiB a1 0 5 && (wiB a2 1 1099511627776 && (((l5.length == 0) && ((l7.length == 0) && ((l8.length == 0) && (l9.length == 0)))) && (wiB a3 0 1099511627776 && (wiB a4 0 1099511627776 && (jf a1 none l6 && ((a3 == 0) && ((a4 == 0) && (decide (0 < l6.length) && decide (l6.length ≤ 8)))))))))) = yO ⟨2, a1, a2, a3, a4, l5, l6, l7, l8, l9⟩ := by
 unfold yO qT ji inB wiB
 dsimp only
 generalize jf a1 none l6 = z0
 have e5 := @List.length_eq_zero_iff _ l5
 have e6 := @List.length_eq_zero_iff _ l6
 have e7 := @List.length_eq_zero_iff _ l7
 have e8 := @List.length_eq_zero_iff _ l8
 have e9 := @List.length_eq_zero_iff _ l9
 rw [Bool.eq_iff_iff]
 simp [qz]
 constructor
 ·intro h
  obtain ⟨h1, h2, h3, h4, h5⟩ := h
  simp_all <;> omega
 ·intro h
  simp_all <;> omega
theorem zaM (a1 a2 a3 a4 : Int) (l5 : List ByteArray) (l6 : List S52) (l7 : List S46) (l8 : List S86) (l9 : List S77) : (wiB a1 0 5 && (wiB a2 1 1099511627776 && (((l5.length == 0) && ((l6.length == 0) && ((l7.length == 0) && ((l8.length == 0) && (l9.length == 0))))) && (wiB a3 0 1099511627776 && (wiB a4 0 1099511627776 && (a3 == 0)))))) = yO ⟨3, a1, a2, a3, a4, l5, l6, l7, l8, l9⟩ := by
 unfold yO qT ji inB wiB
 dsimp only
 have e5 := @List.length_eq_zero_iff _ l5
 have e6 := @List.length_eq_zero_iff _ l6
 have e7 := @List.length_eq_zero_iff _ l7
 have e8 := @List.length_eq_zero_iff _ l8
 have e9 := @List.length_eq_zero_iff _ l9
 rw [Bool.eq_iff_iff]
 simp [qz]
 constructor
 ·intro h
  obtain ⟨h1, h2, h3, h4, h5⟩ := h
  simp_all <;> omega
 ·intro h
  simp_all <;> omega
theorem za7 (a1 a2 a3 a4 : Int) (l5 : List ByteArray) (l6 : List S52) (l7 : List S46) (l8 : List S86) (l9 : List S77) : (wiB a1 0 5 && (wiB a2 1 1099511627776 && (((l5.length == 0) && ((l6.length == 0) && ((l8.length == 0) && (l9.length == 0)))) && (wiB a3 0 1099511627776 && (wiB a4 0 1099511627776 && (jc a3 a4 none l7 && (decide (a3 ≤ a4) && decide (l7.length ≤ 16)))))))) = yO ⟨4, a1, a2, a3, a4, l5, l6, l7, l8, l9⟩ := by
 unfold yO qT ji inB wiB
 dsimp only
 generalize jc a3 a4 none l7 = z0
 have e5 := @List.length_eq_zero_iff _ l5
 have e6 := @List.length_eq_zero_iff _ l6
 have e7 := @List.length_eq_zero_iff _ l7
 have e8 := @List.length_eq_zero_iff _ l8
 have e9 := @List.length_eq_zero_iff _ l9
 rw [Bool.eq_iff_iff]
 simp [qz]
 constructor
 ·intro h
  obtain ⟨h1, h2, h3, h4, h5⟩ := h
  simp_all <;> omega
 ·intro h
  simp_all <;> omega
theorem zbn (a1 a2 a3 a4 : Int) (l5 : List ByteArray) (l6 : List S52) (l7 : List S46) (l8 : List S86) (l9 : List S77) : (wiB a1 0 5 && (wiB a2 1 1099511627776 && (((l5.length == 0) && ((l6.length == 0) && (l7.length == 0))) && (wiB a3 0 1099511627776 && (wiB a4 0 1099511627776 && ((a3 == 0) && (xR l8 && yY l9))))))) = yO ⟨5, a1, a2, a3, a4, l5, l6, l7, l8, l9⟩ := by
 unfold yO qT ji inB wiB
 dsimp only
 generalize xR l8 = z0
 generalize yY l9 = z1
 have e5 := @List.length_eq_zero_iff _ l5
 have e6 := @List.length_eq_zero_iff _ l6
 have e7 := @List.length_eq_zero_iff _ l7
 have e8 := @List.length_eq_zero_iff _ l8
 have e9 := @List.length_eq_zero_iff _ l9
 rw [Bool.eq_iff_iff]
 simp [qz]
 constructor
 ·intro h
  obtain ⟨h1, h2, h3, h4, h5⟩ := h
  simp_all <;> omega
 ·intro h
  simp_all <;> omega
theorem zbN {x : Fm} {cs : List Value} {w : World} (hx : FmC w x cs) (hB : FmB x) : Calls Tryz.prog 10 #[.agg cs.toArray] w fun e w' => e = .returned (.bool (yO x)) ∧ Below w.heap.size w w' := by
 obtain ⟨v5, v6, v7, v8, v9, rfl, ⟨A5, d5, rfl, hl5, hC5⟩, ⟨A6, d6, rfl, hl6, hC6⟩, ⟨A7, d7, rfl, hl7, hC7⟩, ⟨A8, d8, rfl, hl8, hC8⟩, ⟨A9, d9, rfl, hl9, hC9⟩⟩ := hx
 obtain ⟨a0, a1, a2, a3, a4, l5, l6, l7, l8, l9⟩ := x
 dsimp only at hl5 hl6 hl7 hl8 hl9 hC5 hC6 hC7 hC8 hC9 ⊢
 cases h0 : wiB a0 1 5 with
 | false =>
  have e : yO ⟨a0, a1, a2, a3, a4, l5, l6, l7, l8, l9⟩ = false := by
   have h1 := of_decide_eq_false h0
   unfold yO
   rw [decide_eq_false (fun (h : qz _) => h1 h.2.2)]
   rfl
  rw [e]
  exact za0 h0
 | true =>
  have h1 := of_decide_eq_true h0
  clear h0
  rcases (by omega : a0 = 1 ∨ a0 = 2 ∨ a0 = 3 ∨ a0 = 4 ∨ a0 = 5) with rfl | rfl | rfl | rfl | rfl
  ·rw [← zbi]
   exact za1 hC5 ⟨hB.fil.1, hl5⟩
  ·rw [← zaY]
   exact zbH hC6 hl6 hB.cmd.2
  ·rw [← zaM]
   exact zbE
  ·rw [← za7]
   exact zbr hC7 hl7 hB.ent.2
  ·rw [← zbn]
   exact zbu hC8 hC9 hB.ite.2.1
theorem jn {α : Type} (B : α → ByteArray) : ∀ (l : List α) (i : Nat) (h : i < l.length), yV B (l.take (i + 1)) = yV B (l.take i) ++ B l[i]
 | x :: l, 0, _ => by
  rw [List.take_succ_cons, List.take_zero, List.take_zero, qC, xO, qe, Z3]
  rfl
 | x :: l, i + 1, h => by
  rw [List.take_succ_cons, List.take_succ_cons, qC, qC, jn B l i (Nat.lt_of_succ_lt_succ h), yz]
  rfl
theorem vZ {α : Type} {B : α → ByteArray} {M : Nat} {l : List α} (h : ∀ x ∈ l, (B x).size ≤ M) (hl : l.length ≤ 1048576) (i : Nat) : (yV B (l.take i)).size ≤ 1048576 * M := by
 have h1 := jI B M (l.take i) (fun x hx => h x (List.mem_of_mem_take hx))
 have h2 : (l.take i).length ≤ 1048576 := by rw [List.length_take]; omega
 have h3 := Nat.mul_le_mul_left M h2
 rw [Nat.mul_comm M 1048576] at h3
 omega
theorem qY {n : Int} {b : ByteArray} {w : World} (h : (Lit.int .i64 n).wf = true) (hb : yn n = b) : Calls Tryz.prog 30 #[.int .i64 n] w fun e w' => e = .returned (.string b) ∧ Below w.heap.size w w' := by
 subst hb
 have h1 := X9 h
 exact xZ.calls 10 _ _ _ (Qv n h1.1 h1.2 10 (Nat.le_refl _))
theorem VR {P : Program} {ops : Array Oper} {Q : Exit → Act → World → Prop} {d : Nat} {a : Act} {w w0 : World} {o : Oper} {bs : List Bk} {rs : List Rw} {S : World → Prop} {X : Act → World → Prop} {r0 : Rw} {l : List Int} (H : Sat [] w0 w bs (r0 :: rs)) (hS : ∀ rs' w', Sat [] w0 w' bs rs' → S w') (h : ∀ g w', S w' → Sat [] w0 w' bs (r0 :: JN w0 (.slice (some ⟨g, 0, none⟩) l.length l.length) l :: rs) → X (a.put (some d) (.slice (some ⟨g, 0, none⟩) l.length l.length)) w') (hl : l.length ≤ 9223372036854775807)
  (hd : o.dst = some d := by rfl) (hw : Region.wanted o (yielded ops a.tmps) = true := by rfl) (hr : (execOp a.eval o).run P w = .ok (.value (.slice (some ⟨w.heap.size, 0, none⟩) l.length l.length)) (w.alloc (.cells (yH .i64 l).toArray 3)) := by (go_simp; rfl)) : Stp P ops Q S X o d a w := by
 have h2 := H.lit hl
 intro K hK
 have hst := vH (o := o) (Q := Q) (Kc := K) hw hr
 rw [hd] at hst
 exact hst (hK _ _ (hS _ _ h2) (fun hs => h _ _ hs h2))
theorem vL {gs : List Nat} {w0 w : World} {bs : List Bk} {rs : List Rw} {r0 : Rw} {l : List Int} {g : Nat} (H : Sat gs w0 w bs (r0 :: JN w0 (.slice (some ⟨g, 0, none⟩) l.length l.length) l :: rs)) : (Kd.int .i64).C w (some ⟨g, 0, none⟩) l.length l := (Kd.R_reads' (H.rows _ (.tail _ (.head _))).2).2.2
theorem xF {l : List Int} {A : Option Addr} {c : Nat} {w : World} {r : ByteArray} (hr : (Kd.int .i64).C w A l.length l) (hn : l.length ≤ 1048576) (hz : ∀ y ∈ l, (Lit.int .i64 y).wf = true) (he : yV yn l = r) : Calls Tryz.prog 28 #[.slice A l.length c] w fun e w' => e = .returned (.string r) ∧ Below w.heap.size w w' := by
 subst he
 have HB := za.mk (vZ (B := yn) (M := 10) (l := l) (fun y hy => by exact zE _) hn)
 have HR := za.mk hr
 have HZ := za.mk hz
 clear hr hz
 have HS := Sat.nil w
 go_enter Tryz.func28, Tryz.ntmps28
 go_wp2
 have HT := za.mk HS
 clear HS
 go_loopg [3, 4] l.length (fun kq vo vi wr => ∃ i : Nat, vi = .int .i64 i ∧ vo = .string (yV yn (l.take i)) ∧ za (i + kq = l.length) ∧ za (Sat [] w wr [] []))
 case atStart => exact ⟨0, rfl, by rw [List.take_zero, xO], ⟨by simp⟩, ⟨HT.out⟩⟩
 case round =>
  clear HT
  obtain ⟨i, rfl, rfl, HK, HT⟩ := hrel
  have HS := HT.out
  clear HT
  have hil : i ≤ l.length := by have := HK.out; omega
  by_cases hlt : i < l.length
  ·obtain ⟨ad, e0, x0⟩ := Kd.at_int HR.out (i : Int) (by omega) (by omega)
   subst e0
   have hy := HZ.out l[i] (List.getElem_mem hlt)
   have HU := za.mk (jn yn l i hlt)
   have hb1 := HB.out i
   have hd1 : rd l ((i : Nat) : Int) = l[i] := by simp [rd, hlt]
   rw [Int.toNat_natCast] at x0
   rw [hd1] at x0
   replace HU := HU.out
   generalize l[i] = y at HU hy x0
   generalize yV yn (l.take i) = a0 at HU hb1 ⊢
   obtain ⟨n0, hn0⟩ : ∃ b, b = yn y := ⟨_, rfl⟩
   have sn0 : n0.size ≤ 10 := by rw [hn0]; exact zE _
   have HV : yV yn (l.take (i + 1)) = a0 ++ n0 := by rw [HU, hn0]
   have ha := hb1
   have z_n0 : ¬ (a0).size + n0.size > 9223372036854775807 := by (try simp only [zq]); omega
   have zy_n0 : ¬ 9223372036854775807 < (a0).size + n0.size := by (try simp only [zq]); omega
   replace HV := za.mk HV
   replace hy := za.mk hy
   replace hn0 := za.mk hn0
   clear sn0
   clear HU hb1 ha hd1
   have b0 : (0 : Int) ≤ (i : Int) := by omega
   have b1 : (i : Int) < (l.length : Int) := by omega
   replace x0 := HS.at_ x0
   go_wp2_with ((first | (go_at_call 30; refine HS.go (qY hy.out hn0.out.symm) ?_)); clear HS; intros; rename_i HS)
   go_roundg (l.length - (i + 1))
   case measure => have := HK.out; omega
   case rel => exact ⟨i + 1, by have h_ : wrap64 ((i : Int) + 1) = ((i + 1 : Nat) : Int) := z4 (by omega) (by omega); first | (rw [h_]) | (simp only [h_]) | rfl, by rw [HV.out], ⟨by have := HK.out; omega⟩, ⟨HS⟩⟩
  ·obtain rfl : i = l.length := by omega
   go_wp2
   go_ret
   exact ⟨by rw [List.take_of_length_le (Nat.le_refl _)]; rfl, HS.below⟩
theorem Xu {t b : ByteArray} {w : World} (h : t.size ≤ 1048576) (hb : xi t = b) : Calls Tryz.prog 32 #[.string t] w fun e w' => e = .returned (.string b) ∧ Below w.heap.size w w' := by
 subst hb
 have HS := Sat.nil w
 have wn := vn h
 unfold xi
 have sn := zE (t.size : Int)
 obtain ⟨n0, hn0⟩ : ∃ b, b = yn (t.size : Int) := ⟨_, rfl⟩
 rw [← hn0] at sn ⊢
 have z0 : ¬ n0.size + t.size > 9223372036854775807 := by omega
 have z1 : ¬ 9223372036854775807 < n0.size + t.size := by omega
 replace hn0 := za.mk hn0
 go_enter Tryz.func32, Tryz.ntmps32
 go_wp2_with ((go_at_call 30; refine HS.go (qY wn hn0.out.symm) ?_); clear HS; intros; rename_i HS)
 go_ret
 exact ⟨rfl, HS.below⟩
theorem QF {l : List Int} {A : Option Addr} {c : Nat} {b : ByteArray} {w : World} (hr : (Kd.int .i64).C w A l.length l) (h : vT l) (hb : yt yn l = b) : Calls Tryz.prog 73 #[.slice A l.length c] w fun e w' => e = .returned (.string b) ∧ Below w.heap.size w w' := by
 subst hb
 have HS := Sat.nil w
 have wn := vn h.1
 unfold yt
 have sn := zE (l.length : Int)
 have sm := xu l
 have hl := h.1
 unfold yB at sm
 obtain ⟨n0, hn0⟩ : ∃ b, b = yn (l.length : Int) := ⟨_, rfl⟩
 obtain ⟨n1, hn1⟩ : ∃ b, b = yV yn l := ⟨_, rfl⟩
 rw [← hn0] at sn ⊢
 rw [← hn1] at sm ⊢
 have z0 : ¬ n0.size + n1.size > 9223372036854775807 := by omega
 have z1 : ¬ 9223372036854775807 < n0.size + n1.size := by omega
 replace hn0 := za.mk hn0
 replace hn1 := za.mk hn1
 replace hr := za.mk hr
 replace h := za.mk h
 go_enter Tryz.func73, Tryz.ntmps73
 go_wp2_with ((first | (go_at_call 30; refine HS.go (qY wn hn0.out.symm) ?_) | (go_at_call 28; refine HS.go (xF (Kd.C_below hr.out HS.below) h.out.1 h.out.2 hn1.out.symm) ?_)); clear HS; intros; rename_i HS)
 go_ret
 exact ⟨rfl, HS.below⟩
theorem Vf {l : List S108} {A : Option Addr} {c : Nat} {w : World} {r : ByteArray} (hr : k108.C w A l.length l) (hn : l.length ≤ 1048576) (hz : ∀ y ∈ l, YL y) (he : yt evY l = r) : Calls Tryz.prog 33 #[.slice A l.length c] w fun e w' => e = .returned (.string r) ∧ Below w.heap.size w w' := by
 subst he
 have HB := za.mk (vZ (B := evY) (M := 10485800) (l := l) (fun y hy => by have h_ := hz y hy; have := xn y.f1; have := zE y.f0; have := h_.2.1; unfold evY; rw [zq]; omega) hn)
 have HR := za.mk hr
 have HZ := za.mk hz
 clear hr hz
 have HS := Sat.nil w
 have wn := vn hn
 have en : ∃ p, p = yn (l.length : Int) := ⟨_, rfl⟩
 obtain ⟨p, hp⟩ := en
 have sp : p.size ≤ 10 := by rw [hp]; exact zE _
 unfold yt
 rw [← hp]
 replace hp := za.mk hp
 go_enter Tryz.func33, Tryz.ntmps33
 go_wp2_with ((go_at_call 30; refine HS.go (qY wn hp.out.symm) ?_); clear HS; intros; rename_i HS)
 have HT := za.mk HS
 clear HS
 go_loopg [3, 4] l.length (fun kq vo vi wr => ∃ i : Nat, vi = .int .i64 i ∧ vo = .string (p ++ yV evY (l.take i)) ∧ za (i + kq = l.length) ∧ za (Sat [] w wr [] []))
 case atStart => exact ⟨0, rfl, by rw [List.take_zero, xO, qe], ⟨by simp⟩, ⟨HT.out⟩⟩
 case round =>
  clear HT
  obtain ⟨i, rfl, rfl, HK, HT⟩ := hrel
  have HS := HT.out
  clear HT
  have hil : i ≤ l.length := by have := HK.out; omega
  by_cases hlt : i < l.length
  ·obtain ⟨ad, A1, c1, e0, x0, x1, hll, hin⟩ := qR HR.out (i : Int) (by omega) (by omega)
   subst e0
   have hy := HZ.out l[i] (List.getElem_mem hlt)
   have HU := za.mk (jn evY l i hlt)
   have hb1 := HB.out i
   have hd1 : yq l ((i : Nat) : Int) = l[i] := by simp [yq, hlt]
   rw [Int.toNat_natCast] at x0 x1
   rw [hd1] at x0 x1 hin hll
   replace HU := HU.out
   generalize l[i] = y at HU hy x0 x1 hin hll
   generalize yV evY (l.take i) = a0 at HU hb1 ⊢
   have ha : (p ++ a0).size ≤ 10995158220810 := by rw [zq]; omega
   obtain ⟨n0, hn0⟩ : ∃ b, b = yn y.f0 := ⟨_, rfl⟩
   have sn0 : n0.size ≤ 10 := by rw [hn0]; exact zE _
   obtain ⟨n1, hn1⟩ : ∃ b, b = yt yn y.f1 := ⟨_, rfl⟩
   have sn1 : n1.size ≤ 10485770 := by rw [hn1]; have := xn y.f1; have := hy.2.1; omega
   have HV : p ++ yV evY (l.take (i + 1)) = (p ++ a0) ++ n0 ++ n1 := by rw [HU]; unfold evY; simp only [hn0, hn1, qX, yz]
   generalize p ++ a0 = a1 at HV ha ⊢
   have z_n0 : ¬ (a1).size + n0.size > 9223372036854775807 := by (try simp only [zq]); omega
   have zy_n0 : ¬ 9223372036854775807 < (a1).size + n0.size := by (try simp only [zq]); omega
   have z_n1 : ¬ (a1 ++ n0).size + n1.size > 9223372036854775807 := by (try simp only [zq]); omega
   have zy_n1 : ¬ 9223372036854775807 < (a1 ++ n0).size + n1.size := by (try simp only [zq]); omega
   have v_n1 : ¬ a1.size + n0.size + n1.size > 9223372036854775807 := by (try simp only [zq]); omega
   have vy_n1 : ¬ 9223372036854775807 < a1.size + n0.size + n1.size := by (try simp only [zq]); omega
   replace HV := za.mk HV
   replace hy := za.mk hy
   have HI := za.mk hin
   clear hin hll
   replace hn0 := za.mk hn0
   clear sn0
   replace hn1 := za.mk hn1
   clear sn1
   clear HU hb1 ha hd1 sp
   have b0 : (0 : Int) ≤ (i : Int) := by omega
   have b1 : (i : Int) < (l.length : Int) := by omega
   go_wp2
   replace HS := HS.drewN 1
   refine jx (.op 0 0 14 (.op 1 0 15 (.op 2 0 16 (.op 3 0 17 (.op 4 0 18 (.op 5 0 19 (.op 8 0 22 (.op 9 0 23 (.op 10 0 24 (.op 11 0 25 (.op 12 0 26 (.op 6 2 20 (.op 7 1 21 (.op 13 2 27 (.op 14 1 28 (.op 15 1 3 .nil)))))))))))))))) [] (fun W => W.cell? (ad.add (i * 2)) = some (.int .i64 y.f0) ∧ W.cell? ⟨(ad.add (i * 2)).block, (ad.add (i * 2)).off + 1, none⟩ = some (.slice A1 y.f1.length c1)) ((fun H => ⟨H.at_ x0, H.at_ x1⟩) HS) (fun hS => ?_)
   (repeat' (first | refine RT.tk ?_ | refine RT.pu ?_ | refine RT.f2 ?_ ?_ | refine RT.o1 ?_ | (refine xU HS (fun _ H => ⟨H.at_ x0, H.at_ x1⟩) (qY hy.out.1 hn0.out.symm) ?_; clear HS hS; intro w_ hS HS; refine RT.nm ?_) | (refine xU HS (fun _ H => ⟨H.at_ x0, H.at_ x1⟩) (QF (Kd.C_below HI.out HS.below) hy.out.2 hn1.out.symm) ?_; clear HS hS; intro w_ hS HS; refine RT.nm ?_)))
   all_goals
    refine RT.nil ?_
    clear hS x0 x1
    go_wp2
    go_roundg (l.length - (i + 1))
    case measure => have := HK.out; omega
    case rel => exact ⟨i + 1, by have h_ : wrap64 ((i : Int) + 1) = ((i + 1 : Nat) : Int) := z4 (by omega) (by omega); first | (rw [h_]) | (simp only [h_]) | rfl, by rw [HV.out], ⟨by have := HK.out; omega⟩, ⟨HS⟩⟩
  ·obtain rfl : i = l.length := by omega
   go_wp2
   go_ret
   exact ⟨by rw [List.take_of_length_le (Nat.le_refl _)]; rfl, HS.below⟩
theorem QE {l : List S77} {A : Option Addr} {c : Nat} {w : World} {r : ByteArray} (hr : k77.C w A l.length l) (hn : l.length ≤ 1048576) (hz : ∀ y ∈ l, Qq y) (he : yt veY l = r) : Calls Tryz.prog 35 #[.slice A l.length c] w fun e w' => e = .returned (.string r) ∧ Below w.heap.size w w' := by
 subst he
 have HB := za.mk (vZ (B := veY) (M := 20) (l := l) (fun y hy => by have := zE y.f0; have := zE y.f1; unfold veY; rw [zq]; omega) hn)
 have HR := za.mk hr
 have HZ := za.mk hz
 clear hr hz
 have HS := (Sat.nil w).row (Ty.R (Kd.int .u8) 5 w.heap.size (.slice none 0 0) []) (Kd.R_nil _ _ _ _ _)
 have wn := vn hn
 have en : ∃ p, p = yn (l.length : Int) := ⟨_, rfl⟩
 obtain ⟨p, hp⟩ := en
 have sp : p.size ≤ 10 := by rw [hp]; exact zE _
 unfold yt
 rw [← hp]
 replace hp := za.mk hp
 go_enter Tryz.func35, Tryz.ntmps35
 go_wp2_with ((go_at_call 30; refine HS.go (qY wn hp.out.symm) ?_); clear HS; intros; rename_i HS)
 have HT := za.mk HS
 clear HS
 go_loopg [3, 4] l.length (fun kq vo vi wr => ∃ i : Nat, vi = .int .i64 i ∧ vo = .string (p ++ yV veY (l.take i)) ∧ za (i + kq = l.length) ∧ za (∃ r0, Sat [] w wr [] [r0]))
 case atStart => exact ⟨0, rfl, by rw [List.take_zero, xO, qe], ⟨by simp⟩, ⟨⟨_, HT.out⟩⟩⟩
 case round =>
  clear HT
  obtain ⟨i, rfl, rfl, HK, HT⟩ := hrel
  obtain ⟨r0, HS⟩ := HT.out
  clear HT
  have hil : i ≤ l.length := by have := HK.out; omega
  by_cases hlt : i < l.length
  ·obtain ⟨ad, e0, x0, x1⟩ := vr HR.out (i : Int) (by omega) (by omega)
   subst e0
   have hy := HZ.out l[i] (List.getElem_mem hlt)
   have HU := za.mk (jn veY l i hlt)
   have hb1 := HB.out i
   have hd1 : yv l ((i : Nat) : Int) = l[i] := by simp [yv, hlt]
   rw [Int.toNat_natCast] at x0 x1
   rw [hd1] at x0 x1
   replace HU := HU.out
   generalize l[i] = y at HU hy x0 x1
   generalize yV veY (l.take i) = a0 at HU hb1 ⊢
   have ha : (p ++ a0).size ≤ 20971530 := by rw [zq]; omega
   obtain ⟨n0, hn0⟩ : ∃ b, b = yB [y.f0, y.f1] := ⟨_, rfl⟩
   have sn0 : n0.size ≤ 20 := by rw [hn0]; exact xu _
   have HV : p ++ yV veY (l.take (i + 1)) = (p ++ a0) ++ n0 := by rw [HU]; unfold veY; simp only [hn0, qX, yz]
   generalize p ++ a0 = a1 at HV ha ⊢
   have z_n0 : ¬ (a1).size + n0.size > 9223372036854775807 := by (try simp only [zq]); omega
   have zy_n0 : ¬ 9223372036854775807 < (a1).size + n0.size := by (try simp only [zq]); omega
   replace HV := za.mk HV
   replace hy := za.mk hy
   replace hn0 := za.mk hn0
   clear sn0
   clear HU hb1 ha hd1 sp
   have b0 : (0 : Int) ≤ (i : Int) := by omega
   have b1 : (i : Int) < (l.length : Int) := by omega
   go_wp2
   replace HS := HS.drewN 1
   refine jx (.op 0 0 14 (.op 1 0 15 (.op 2 0 16 (.op 3 0 17 (.op 4 0 18 (.op 5 0 19 (.op 6 0 20 (.op 7 0 21 (.op 8 0 22 (.op 9 0 23 (.op 10 0 24 (.op 11 2 25 (.op 12 2 26 (.op 13 1 27 (.op 14 1 3 .nil))))))))))))))) [] (fun W => W.cell? (ad.add (i * 2)) = some (.int .i64 y.f0) ∧ W.cell? ⟨(ad.add (i * 2)).block, (ad.add (i * 2)).off + 1, none⟩ = some (.int .i64 y.f1)) ((fun H => ⟨H.at_ x0, H.at_ x1⟩) HS) (fun hS => ?_)
   (repeat' (first | refine RT.tk ?_ | refine RT.pu ?_ | refine RT.f2 ?_ ?_ | refine RT.o1 ?_ | (refine VR (l := [y.f0, y.f1]) HS (fun _ _ H => ⟨H.at_ x0, H.at_ x1⟩) ?_ (by simp); clear HS hS; intro g_ w_ hS HS; refine RT.nm ?_) | (refine xU HS (fun _ H => ⟨H.at_ x0, H.at_ x1⟩) (xF (l := [y.f0, y.f1]) (vL HS) (by simp) (qw hy.out.1 hy.out.2) hn0.out.symm) ?_; clear HS hS; intro w_ hS HS; refine RT.nm ?_)))
   all_goals
    refine RT.nil ?_
    clear hS x0 x1
    go_wp2
    go_roundg (l.length - (i + 1))
    case measure => have := HK.out; omega
    case rel => exact ⟨i + 1, by have h_ : wrap64 ((i : Int) + 1) = ((i + 1 : Nat) : Int) := z4 (by omega) (by omega); first | (rw [h_]) | (simp only [h_]) | rfl, by rw [HV.out], ⟨by have := HK.out; omega⟩, ⟨⟨_, HS.drop (rs' := [r0]) (by simp)⟩⟩⟩
  ·obtain rfl : i = l.length := by omega
   go_wp2
   go_ret
   exact ⟨by rw [List.take_of_length_le (Nat.le_refl _)]; rfl, HS.below⟩
theorem JV {l : List ByteArray} {A : Option Addr} {c : Nat} {w : World} {r : ByteArray} (hr : Kd.string.C w A l.length l) (hn : l.length ≤ 1048576) (hz : ∀ y ∈ l, y.size ≤ 1048576) (he : yt xi l = r) : Calls Tryz.prog 29 #[.slice A l.length c] w fun e w' => e = .returned (.string r) ∧ Below w.heap.size w w' := by
 subst he
 have HB := za.mk (vZ (B := xi) (M := 1048600) (l := l) (fun y hy => by have h_ := hz y hy; have := xa y; omega) hn)
 have HR := za.mk hr
 have HZ := za.mk hz
 clear hr hz
 have HS := Sat.nil w
 have wn := vn hn
 have en : ∃ p, p = yn (l.length : Int) := ⟨_, rfl⟩
 obtain ⟨p, hp⟩ := en
 have sp : p.size ≤ 10 := by rw [hp]; exact zE _
 unfold yt
 rw [← hp]
 replace hp := za.mk hp
 go_enter Tryz.func29, Tryz.ntmps29
 go_wp2_with ((go_at_call 30; refine HS.go (qY wn hp.out.symm) ?_); clear HS; intros; rename_i HS)
 have HT := za.mk HS
 clear HS
 go_loopg [3, 4] l.length (fun kq vo vi wr => ∃ i : Nat, vi = .int .i64 i ∧ vo = .string (p ++ yV xi (l.take i)) ∧ za (i + kq = l.length) ∧ za (Sat [] w wr [] []))
 case atStart => exact ⟨0, rfl, by rw [List.take_zero, xO, qe], ⟨by simp⟩, ⟨HT.out⟩⟩
 case round =>
  clear HT
  obtain ⟨i, rfl, rfl, HK, HT⟩ := hrel
  have HS := HT.out
  clear HT
  have hil : i ≤ l.length := by have := HK.out; omega
  by_cases hlt : i < l.length
  ·obtain ⟨ad, e0, x0⟩ := Kd.at_string HR.out (i : Int) (by omega) (by omega)
   subst e0
   have hy := HZ.out l[i] (List.getElem_mem hlt)
   have HU := za.mk (jn xi l i hlt)
   have hb1 := HB.out i
   have hd1 : ym ByteArray.empty l ((i : Nat) : Int) = l[i] := by simp [ym, hlt]
   rw [Int.toNat_natCast] at x0
   rw [hd1] at x0
   replace HU := HU.out
   generalize l[i] = y at HU hy x0
   generalize yV xi (l.take i) = a0 at HU hb1 ⊢
   have ha : (p ++ a0).size ≤ 1099536793610 := by rw [zq]; omega
   obtain ⟨n0, hn0⟩ : ∃ b, b = xi y := ⟨_, rfl⟩
   have sn0 : n0.size ≤ 1048600 := by rw [hn0]; have := xa y; omega
   have HV : p ++ yV xi (l.take (i + 1)) = (p ++ a0) ++ n0 := by rw [HU]; simp only [hn0, qX, yz]
   generalize p ++ a0 = a1 at HV ha ⊢
   have z_n0 : ¬ (a1).size + n0.size > 9223372036854775807 := by (try simp only [zq]); omega
   have zy_n0 : ¬ 9223372036854775807 < (a1).size + n0.size := by (try simp only [zq]); omega
   replace HV := za.mk HV
   replace hy := za.mk hy
   replace hn0 := za.mk hn0
   clear sn0
   clear HU hb1 ha hd1 sp
   have b0 : (0 : Int) ≤ (i : Int) := by omega
   have b1 : (i : Int) < (l.length : Int) := by omega
   replace x0 := HS.at_ x0
   go_wp2_with ((first | (go_at_call 32; refine HS.go (Xu hy.out hn0.out.symm) ?_)); clear HS; intros; rename_i HS)
   go_roundg (l.length - (i + 1))
   case measure => have := HK.out; omega
   case rel => exact ⟨i + 1, by have h_ : wrap64 ((i : Int) + 1) = ((i + 1 : Nat) : Int) := z4 (by omega) (by omega); first | (rw [h_]) | (simp only [h_]) | rfl, by rw [HV.out], ⟨by have := HK.out; omega⟩, ⟨HS⟩⟩
  ·obtain rfl : i = l.length := by omega
   go_wp2
   go_ret
   exact ⟨by rw [List.take_of_length_le (Nat.le_refl _)]; rfl, HS.below⟩
theorem Vy {l : List S86} {A : Option Addr} {c : Nat} {w : World} {r : ByteArray} (hr : k86.C w A l.length l) (hn : l.length ≤ 1048576) (hz : ∀ y ∈ l, (y.f0.size ≤ 1048576 ∧ Xl y)) (he : yt itY l = r) : Calls Tryz.prog 34 #[.slice A l.length c] w fun e w' => e = .returned (.string r) ∧ Below w.heap.size w w' := by
 subst he
 have HB := za.mk (vZ (B := itY) (M := 12000000) (l := l) (fun y hy => by have h_ := hz y hy; have := h_.1; have := h_.2.2.2.2.1; have := xa y.f0; have := zE y.f1.f0; have := zE y.f1.f1; have := xn y.f1.f2; unfold itY; simp only [zq]; omega) hn)
 have HR := za.mk hr
 have HZ := za.mk hz
 clear hr hz
 have HS := (Sat.nil w).row (Ty.R (Kd.int .u8) 5 w.heap.size (.slice none 0 0) []) (Kd.R_nil _ _ _ _ _)
 have wn := vn hn
 have en : ∃ p, p = yn (l.length : Int) := ⟨_, rfl⟩
 obtain ⟨p, hp⟩ := en
 have sp : p.size ≤ 10 := by rw [hp]; exact zE _
 unfold yt
 rw [← hp]
 replace hp := za.mk hp
 go_enter Tryz.func34, Tryz.ntmps34
 go_wp2_with ((go_at_call 30; refine HS.go (qY wn hp.out.symm) ?_); clear HS; intros; rename_i HS)
 have HT := za.mk HS
 clear HS
 go_loopg [3, 4] l.length (fun kq vo vi wr => ∃ i : Nat, vi = .int .i64 i ∧ vo = .string (p ++ yV itY (l.take i)) ∧ za (i + kq = l.length) ∧ za (∃ r0, Sat [] w wr [] [r0]))
 case atStart => exact ⟨0, rfl, by rw [List.take_zero, xO, qe], ⟨by simp⟩, ⟨⟨_, HT.out⟩⟩⟩
 case round =>
  clear HT
  obtain ⟨i, rfl, rfl, HK, HT⟩ := hrel
  obtain ⟨r0, HS⟩ := HT.out
  clear HT
  have hil : i ≤ l.length := by have := HK.out; omega
  by_cases hlt : i < l.length
  ·obtain ⟨ad, A1, c1, e0, x0, x1, x2, x3, hll, hin⟩ := vW HR.out (i : Int) (by omega) (by omega)
   subst e0
   have hy := HZ.out l[i] (List.getElem_mem hlt)
   have HU := za.mk (jn itY l i hlt)
   have hb1 := HB.out i
   have hd1 : xD l ((i : Nat) : Int) = l[i] := by simp [xD, hlt]
   rw [Int.toNat_natCast] at x0 x1 x2 x3
   rw [hd1] at x0 x1 x2 x3 hin hll
   replace HU := HU.out
   generalize l[i] = y at HU hy x0 x1 x2 x3 hin hll
   generalize yV itY (l.take i) = a0 at HU hb1 ⊢
   have ha : (p ++ a0).size ≤ 12582912000010 := by rw [zq]; omega
   obtain ⟨n0, hn0⟩ : ∃ b, b = xi y.f0 := ⟨_, rfl⟩
   have sn0 : n0.size ≤ 1048600 := by rw [hn0]; have := xa y.f0; have := hy.1; omega
   obtain ⟨n1, hn1⟩ : ∃ b, b = yB [y.f1.f0, y.f1.f1] := ⟨_, rfl⟩
   have sn1 : n1.size ≤ 20 := by rw [hn1]; exact xu _
   obtain ⟨n2, hn2⟩ : ∃ b, b = yt yn y.f1.f2 := ⟨_, rfl⟩
   have sn2 : n2.size ≤ 10485770 := by rw [hn2]; have := xn y.f1.f2; have := hy.2.2.2.2.1; omega
   have HV : p ++ yV itY (l.take (i + 1)) = (p ++ a0) ++ n0 ++ n1 ++ n2 := by rw [HU]; unfold itY; simp only [hn0, hn1, hn2, qX, yz]
   generalize p ++ a0 = a1 at HV ha ⊢
   have z_n0 : ¬ (a1).size + n0.size > 9223372036854775807 := by (try simp only [zq]); omega
   have zy_n0 : ¬ 9223372036854775807 < (a1).size + n0.size := by (try simp only [zq]); omega
   have z_n1 : ¬ (a1 ++ n0).size + n1.size > 9223372036854775807 := by (try simp only [zq]); omega
   have zy_n1 : ¬ 9223372036854775807 < (a1 ++ n0).size + n1.size := by (try simp only [zq]); omega
   have v_n1 : ¬ a1.size + n0.size + n1.size > 9223372036854775807 := by (try simp only [zq]); omega
   have vy_n1 : ¬ 9223372036854775807 < a1.size + n0.size + n1.size := by (try simp only [zq]); omega
   have z_n2 : ¬ (a1 ++ n0 ++ n1).size + n2.size > 9223372036854775807 := by (try simp only [zq]); omega
   have zy_n2 : ¬ 9223372036854775807 < (a1 ++ n0 ++ n1).size + n2.size := by (try simp only [zq]); omega
   have v_n2 : ¬ a1.size + n0.size + n1.size + n2.size > 9223372036854775807 := by (try simp only [zq]); omega
   have vy_n2 : ¬ 9223372036854775807 < a1.size + n0.size + n1.size + n2.size := by (try simp only [zq]); omega
   replace HV := za.mk HV
   replace hy := za.mk hy
   have HI := za.mk hin
   clear hin hll
   replace hn0 := za.mk hn0
   clear sn0
   replace hn1 := za.mk hn1
   clear sn1
   replace hn2 := za.mk hn2
   clear sn2
   clear HU hb1 ha hd1 sp
   have b0 : (0 : Int) ≤ (i : Int) := by omega
   have b1 : (i : Int) < (l.length : Int) := by omega
   go_wp2
   replace HS := HS.drewN 1
   refine jx (.op 0 0 14 (.op 1 0 15 (.op 2 0 16 (.op 3 0 17 (.op 4 0 18 (.op 5 0 19 (.op 8 0 22 (.op 9 0 23 (.op 10 0 24 (.op 11 0 25 (.op 12 0 26 (.op 13 0 27 (.op 14 0 28 (.op 15 0 29 (.op 16 0 30 (.op 17 0 31 (.op 18 0 32 (.op 19 0 33 (.op 23 0 37 (.op 24 0 38 (.op 25 0 39 (.op 26 0 40 (.op 27 0 41 (.op 28 0 42 (.two 6 20 20 34 (.op 7 1 21 (.op 20 2 34 (.op 21 2 35 (.op 22 1 36 (.op 29 2 43 (.op 30 1 44 (.op 31 1 3 .nil))))))) (.op 6 2 20 (.op 7 1 21 (.op 21 2 35 (.op 22 1 36 (.op 29 2 43 (.op 30 1 44 (.op 31 1 3 .nil)))))))))))))))))))))))))))))))) [] (fun W => W.cell? (ad.add (i * 4)) = some (.string y.f0) ∧ W.cell? ⟨(ad.add (i * 4)).block, (ad.add (i * 4)).off + 1, none⟩ = some (.int .i64 y.f1.f0) ∧ W.cell? ⟨(ad.add (i * 4)).block, (ad.add (i * 4)).off + 2, none⟩ = some (.int .i64 y.f1.f1) ∧ W.cell? ⟨(ad.add (i * 4)).block, (ad.add (i * 4)).off + 3, none⟩ = some (.slice A1 y.f1.f2.length c1)) ((fun H => ⟨H.at_ x0, H.at_ x1, H.at_ x2, H.at_ x3⟩) HS) (fun hS => ?_)
   (repeat' (first | refine RT.tk ?_ | refine RT.pu ?_ | refine RT.f2 ?_ ?_ | refine RT.o1 ?_ | (refine VR (l := [y.f1.f0, y.f1.f1]) HS (fun _ _ H => ⟨H.at_ x0, H.at_ x1, H.at_ x2, H.at_ x3⟩) ?_ (by simp); clear HS hS; intro g_ w_ hS HS; refine RT.nm ?_) | (refine xU HS (fun _ H => ⟨H.at_ x0, H.at_ x1, H.at_ x2, H.at_ x3⟩) (Xu hy.out.1 hn0.out.symm) ?_; clear HS hS; intro w_ hS HS; refine RT.nm ?_) | (refine xU HS (fun _ H => ⟨H.at_ x0, H.at_ x1, H.at_ x2, H.at_ x3⟩) (xF (l := [y.f1.f0, y.f1.f1]) (vL HS) (by simp) (qw hy.out.2.2.1 hy.out.2.2.2.1) hn1.out.symm) ?_; clear HS hS; intro w_ hS HS; refine RT.nm ?_) | (refine xU HS (fun _ H => ⟨H.at_ x0, H.at_ x1, H.at_ x2, H.at_ x3⟩) (QF (Kd.C_below HI.out HS.below) hy.out.2.2.2.2 hn2.out.symm) ?_; clear HS hS; intro w_ hS HS; refine RT.nm ?_)))
   all_goals
    refine RT.nil ?_
    clear hS x0 x1 x2 x3
    go_wp2
    go_roundg (l.length - (i + 1))
    case measure => have := HK.out; omega
    case rel => exact ⟨i + 1, by have h_ : wrap64 ((i : Int) + 1) = ((i + 1 : Nat) : Int) := z4 (by omega) (by omega); first | (rw [h_]) | (simp only [h_]) | rfl, by rw [HV.out], ⟨by have := HK.out; omega⟩, ⟨⟨_, HS.drop (rs' := [r0]) (by simp)⟩⟩⟩
  ·obtain rfl : i = l.length := by omega
   go_wp2
   go_ret
   exact ⟨by rw [List.take_of_length_le (Nat.le_refl _)]; rfl, HS.below⟩
theorem zaD {a0 a1 : Int} {a2 : ByteArray} {a3 : Int} {A4 : Option Addr} {c4 : Nat} {l4 : List Int} {a5 : Int} {b : ByteArray} {w : World} (hr : (Kd.int .i64).C w A4 l4.length l4) (u0 : (Lit.int .i64 a0).wf = true) (u1 : (Lit.int .i64 a1).wf = true) (u2 : a2.size ≤ 1048576) (u3 : (Lit.int .i64 a3).wf = true) (u4 : vT l4) (u5 : (Lit.int .i64 a5).wf = true) (hb : Y4 a0 a1 a2 a3 l4 a5 = b) : Calls Tryz.prog 31 #[.agg #[.int .i64 a0, .int .i64 a1, .string a2, .int .i64 a3, .slice A4 l4.length c4, .int .i64 a5]] w fun e w' => e = .returned (.string b) ∧ Below w.heap.size w w' := by
 have HS := (Sat.nil w).row (Ty.R (Kd.int .u8) 5 w.heap.size (.slice none 0 0) []) (Kd.R_nil _ _ _ _ _)
 obtain ⟨n0, hn0⟩ : ∃ b, b = yB [a0, a1] := ⟨_, rfl⟩
 have sn0 : n0.size ≤ 20 := by rw [hn0]; exact xu _
 obtain ⟨n1, hn1⟩ : ∃ b, b = xi a2 := ⟨_, rfl⟩
 have sn1 : n1.size ≤ 1048600 := by rw [hn1]; have := xa a2; omega
 obtain ⟨n2, hn2⟩ : ∃ b, b = yn a3 := ⟨_, rfl⟩
 have sn2 : n2.size ≤ 10 := by rw [hn2]; exact zE _
 obtain ⟨n3, hn3⟩ : ∃ b, b = yt yn l4 := ⟨_, rfl⟩
 have sn3 : n3.size ≤ 10485770 := by rw [hn3]; have := xn l4; have := u4.1; omega
 obtain ⟨n4, hn4⟩ : ∃ b, b = yn a5 := ⟨_, rfl⟩
 have sn4 : n4.size ≤ 10 := by rw [hn4]; exact zE _
 have z_n1 : ¬ (n0).size + n1.size > 9223372036854775807 := by (try simp only [zq]); omega
 have zy_n1 : ¬ 9223372036854775807 < (n0).size + n1.size := by (try simp only [zq]); omega
 have z_n2 : ¬ (n0 ++ n1).size + n2.size > 9223372036854775807 := by (try simp only [zq]); omega
 have zy_n2 : ¬ 9223372036854775807 < (n0 ++ n1).size + n2.size := by (try simp only [zq]); omega
 have v_n2 : ¬ n0.size + n1.size + n2.size > 9223372036854775807 := by (try simp only [zq]); omega
 have vy_n2 : ¬ 9223372036854775807 < n0.size + n1.size + n2.size := by (try simp only [zq]); omega
 have z_n3 : ¬ (n0 ++ n1 ++ n2).size + n3.size > 9223372036854775807 := by (try simp only [zq]); omega
 have zy_n3 : ¬ 9223372036854775807 < (n0 ++ n1 ++ n2).size + n3.size := by (try simp only [zq]); omega
 have v_n3 : ¬ n0.size + n1.size + n2.size + n3.size > 9223372036854775807 := by (try simp only [zq]); omega
 have vy_n3 : ¬ 9223372036854775807 < n0.size + n1.size + n2.size + n3.size := by (try simp only [zq]); omega
 have z_n4 : ¬ (n0 ++ n1 ++ n2 ++ n3).size + n4.size > 9223372036854775807 := by (try simp only [zq]); omega
 have zy_n4 : ¬ 9223372036854775807 < (n0 ++ n1 ++ n2 ++ n3).size + n4.size := by (try simp only [zq]); omega
 have v_n4 : ¬ n0.size + n1.size + n2.size + n3.size + n4.size > 9223372036854775807 := by (try simp only [zq]); omega
 have vy_n4 : ¬ 9223372036854775807 < n0.size + n1.size + n2.size + n3.size + n4.size := by (try simp only [zq]); omega
 have hv : (((n0 ++ n1) ++ n2) ++ n3) ++ n4 = b := by rw [← hb]; unfold Y4; simp only [hn0, hn1, hn2, hn3, hn4, qX]
 subst hv
 have u6 : ∀ n ∈ [a0, a1], (Lit.int .i64 n).wf = true := qw u0 u1
 replace hr := za.mk hr
 replace u0 := za.mk u0
 replace u1 := za.mk u1
 replace u2 := za.mk u2
 replace u3 := za.mk u3
 replace u4 := za.mk u4
 replace u5 := za.mk u5
 replace u6 := za.mk u6
 replace hn0 := za.mk hn0
 replace hn1 := za.mk hn1
 replace hn2 := za.mk hn2
 replace hn3 := za.mk hn3
 replace hn4 := za.mk hn4
 clear hb sn0 sn1 sn2 sn3 sn4
 go_enter Tryz.func31, Tryz.ntmps31
 go_wp2_with (first | ((first | ((with_reducible refine gB rfl ?_); refine zz HS ?_) | ((with_reducible refine gA rfl ?_); refine zt HS ?_) | ((with_reducible refine gS rfl ?_); refine zu HS ?_)); clear HS; (try clear hc); intros; rename_i HS; have hc := HS.lk; simp only [Lk, LkC, Value.cells, List.toList_toArray, Nat.reduceAdd, Nat.zero_add, and_true, zf, zg, ze, zh] at HS hc) | (refine yE (.op 0 0 3 (.op 1 0 4 (.op 2 0 5 (.op 3 0 6 (.op 6 0 9 (.op 7 0 10 (.op 10 0 13 (.op 11 0 14 (.op 14 0 17 (.op 15 0 18 (.op 18 0 21 (.op 19 0 22 (.op 4 2 7 (.op 5 2 8 (.op 8 2 11 (.op 9 1 12 (.op 12 2 15 (.op 13 1 16 (.op 16 2 19 (.op 17 1 20 (.op 20 2 23 (.op 21 1 24 (.op 22 1 2 .nil))))))))))))))))))))))) [] HS (List.Sublist.refl _) ?_; clear HS hc; intro HS hS; (repeat' (first | refine RT.tk ?_ | refine RT.pu ?_ | refine RT.f2 ?_ ?_ | refine RT.o1 ?_ | (refine Yb (l := [a0, a1]) HS (List.Sublist.refl _) ?_ (by simp); clear HS; intro g_ w_ HS; refine RT.nm ?_) | (refine xS HS (List.Sublist.refl _) (xF (l := [a0, a1]) (vL HS) (by simp) u6.out hn0.out.symm) ?_; clear HS; intro w_ HS; refine RT.nm ?_) | (refine xS HS (List.Sublist.refl _) (Xu u2.out hn1.out.symm) ?_; clear HS; intro w_ HS; refine RT.nm ?_) | (refine xS HS (List.Sublist.refl _) (qY u3.out hn2.out.symm) ?_; clear HS; intro w_ HS; refine RT.nm ?_) | (refine xS HS (List.Sublist.refl _) (QF (Kd.C_below hr.out HS.below) u4.out hn3.out.symm) ?_; clear HS; intro w_ HS; refine RT.nm ?_) | (refine xS HS (List.Sublist.refl _) (qY u5.out hn4.out.symm) ?_; clear HS; intro w_ HS; refine RT.nm ?_))); (all_goals clear hS); (all_goals have hc := HS.lk); (all_goals simp only [Lk, LkC, Value.cells, List.toList_toArray, Nat.reduceAdd, Nat.zero_add, and_true, zf, zg, ze, zh] at HS hc); (all_goals refine RT.nil ?_)))
 go_ret
 exact ⟨rfl, HS.below⟩
theorem rLay1 {a1 a2 a3 a4 : Int} {A5 : Option Addr} {d5 : Nat} {l5 : List ByteArray} {A6 : Option Addr} {m6 d6 : Nat} {A7 : Option Addr} {m7 d7 : Nat} {A8 : Option Addr} {m8 d8 : Nat} {A9 : Option Addr} {m9 d9 : Nat} {w : World} (hr5 : Kd.string.C w A5 l5.length l5) (w1 : (Lit.int .i64 a1).wf = true) (w2 : (Lit.int .i64 a2).wf = true) (w3 : (Lit.int .i64 a3).wf = true) (w4 : (Lit.int .i64 a4).wf = true) (hn : l5.length ≤ 8) (hz : ∀ y ∈ l5, y.size ≤ 1048576) : Calls Tryz.prog 12 #[.agg #[.int .i64 1, .int .i64 a1, .int .i64 a2, .int .i64 a3, .int .i64 a4, .slice A5 l5.length d5, .slice A6 m6 d6, .slice A7 m7 d7, .slice A8 m8 d8, .slice A9 m9 d9]] w fun e w' => e = .returned (.string ((yB [1, a1, a2] ++ yB [a3, a4]) ++ yt xi l5)) ∧ Below w.heap.size w w' := by
 have HS := (Sat.nil w).row (Ty.R (Kd.int .u8) 5 w.heap.size (.slice none 0 0) []) (Kd.R_nil _ _ _ _ _)
 obtain ⟨n0, hn0⟩ : ∃ b, b = yB [1, a1, a2] := ⟨_, rfl⟩
 have sn0 : n0.size ≤ 30 := by rw [hn0]; exact xu _
 obtain ⟨n1, hn1⟩ : ∃ b, b = yB [a3, a4] := ⟨_, rfl⟩
 have sn1 : n1.size ≤ 20 := by rw [hn1]; exact xu _
 obtain ⟨n2, hn2⟩ : ∃ b, b = yt xi l5 := ⟨_, rfl⟩
 have sn2 : n2.size ≤ 1000000000 := by rw [hn2]; have := jr xi 1048600 8 l5 hn (fun y hy => by have := xa y; have := hz y hy; omega); omega
 have z_n1 : ¬ (n0).size + n1.size > 9223372036854775807 := by (try simp only [zq]); omega
 have zy_n1 : ¬ 9223372036854775807 < (n0).size + n1.size := by (try simp only [zq]); omega
 have z_n2 : ¬ (n0 ++ n1).size + n2.size > 9223372036854775807 := by (try simp only [zq]); omega
 have zy_n2 : ¬ 9223372036854775807 < (n0 ++ n1).size + n2.size := by (try simp only [zq]); omega
 have v_n2 : ¬ n0.size + n1.size + n2.size > 9223372036854775807 := by (try simp only [zq]); omega
 have vy_n2 : ¬ 9223372036854775807 < n0.size + n1.size + n2.size := by (try simp only [zq]); omega
 have v0 : ∀ n ∈ [(1 : Int), a1, a2], (Lit.int .i64 n).wf = true := fun n hn => by rcases List.mem_cons.1 hn with rfl | hn; rfl; exact qw w1 w2 n hn
 have v1 : ∀ n ∈ [a3, a4], (Lit.int .i64 n).wf = true := qw w3 w4
 have hm : l5.length ≤ 1048576 := by omega
 clear w1 w2 w3 w4 hn
 rw [← hn0, ← hn1, ← hn2]
 replace v0 := za.mk v0
 replace v1 := za.mk v1
 replace hz := za.mk hz
 replace hm := za.mk hm
 replace hr5 := za.mk hr5
 replace hn0 := za.mk hn0
 replace hn1 := za.mk hn1
 replace hn2 := za.mk hn2
 clear sn0 sn1 sn2
 go_enter Tryz.func12, Tryz.ntmps12
 go_wp2_with (first | ((first | ((with_reducible refine gB rfl ?_); refine zz HS ?_) | ((with_reducible refine gA rfl ?_); refine zt HS ?_) | ((with_reducible refine gS rfl ?_); refine zu HS ?_) | (go_at_call 28; refine (HS.lit (l := [1, a1, a2]) (by simp)).go (xF (l := [1, a1, a2]) (vL (HS.lit (by simp))) (by simp) v0.out hn0.out.symm) ?_)); clear HS; (try clear hc); intros; rename_i HS; have hc := HS.lk; simp only [Lk, LkC, Value.cells, List.toList_toArray, Nat.reduceAdd, Nat.zero_add, and_true, zf, zg, ze, zh] at HS hc) | (refine yE (.op 0 0 19 (.op 1 0 20 (.op 2 0 21 (.op 3 0 22 (.op 4 0 23 (.op 8 0 27 (.op 9 0 28 (.op 5 2 24 (.op 6 2 25 (.op 7 1 26 (.op 10 2 29 (.op 11 1 30 (.op 12 1 2 .nil))))))))))))) [] HS (List.Sublist.refl _) ?_; clear HS hc; intro HS hS; (repeat' (first | refine RT.tk ?_ | refine RT.pu ?_ | refine RT.f2 ?_ ?_ | refine RT.o1 ?_ | (refine Yb (l := [a3, a4]) HS (List.Sublist.refl _) ?_ (by simp); clear HS; intro g_ w_ HS; refine RT.nm ?_) | (refine xS HS (List.Sublist.refl _) (xF (l := [a3, a4]) (vL HS) (by simp) v1.out hn1.out.symm) ?_; clear HS; intro w_ HS; refine RT.nm ?_) | (refine xS HS (List.Sublist.refl _) (JV (Kd.C_below hr5.out HS.below) hm.out hz.out hn2.out.symm) ?_; clear HS; intro w_ HS; refine RT.nm ?_))); (all_goals clear hS); (all_goals have hc := HS.lk); (all_goals simp only [Lk, LkC, Value.cells, List.toList_toArray, Nat.reduceAdd, Nat.zero_add, and_true, zf, zg, ze, zh] at HS hc); (all_goals refine RT.nil ?_)))
 go_ret
 exact ⟨rfl, HS.below⟩
theorem rLay3 {a1 a2 a3 a4 : Int} {A5 : Option Addr} {m5 d5 : Nat} {A6 : Option Addr} {m6 d6 : Nat} {A7 : Option Addr} {m7 d7 : Nat} {A8 : Option Addr} {m8 d8 : Nat} {A9 : Option Addr} {m9 d9 : Nat} {w : World} (w1 : (Lit.int .i64 a1).wf = true) (w2 : (Lit.int .i64 a2).wf = true) (w4 : (Lit.int .i64 a4).wf = true) : Calls Tryz.prog 12 #[.agg #[.int .i64 3, .int .i64 a1, .int .i64 a2, .int .i64 a3, .int .i64 a4, .slice A5 m5 d5, .slice A6 m6 d6, .slice A7 m7 d7, .slice A8 m8 d8, .slice A9 m9 d9]] w fun e w' => e = .returned (.string (yB [3, a1, a2] ++ yn a4)) ∧ Below w.heap.size w w' := by
 have HS := (Sat.nil w).row (Ty.R (Kd.int .u8) 5 w.heap.size (.slice none 0 0) []) (Kd.R_nil _ _ _ _ _)
 obtain ⟨n0, hn0⟩ : ∃ b, b = yB [3, a1, a2] := ⟨_, rfl⟩
 have sn0 : n0.size ≤ 30 := by rw [hn0]; exact xu _
 obtain ⟨n1, hn1⟩ : ∃ b, b = yn a4 := ⟨_, rfl⟩
 have sn1 : n1.size ≤ 10 := by rw [hn1]; exact zE _
 have z_n1 : ¬ (n0).size + n1.size > 9223372036854775807 := by (try simp only [zq]); omega
 have zy_n1 : ¬ 9223372036854775807 < (n0).size + n1.size := by (try simp only [zq]); omega
 have v0 : ∀ n ∈ [(3 : Int), a1, a2], (Lit.int .i64 n).wf = true := fun n hn => by rcases List.mem_cons.1 hn with rfl | hn; rfl; exact qw w1 w2 n hn
 clear w1 w2
 rw [← hn0, ← hn1]
 replace v0 := za.mk v0
 replace w4 := za.mk w4
 replace hn0 := za.mk hn0
 replace hn1 := za.mk hn1
 clear sn0 sn1
 go_enter Tryz.func12, Tryz.ntmps12
 go_wp2_with (first | ((first | ((with_reducible refine gB rfl ?_); refine zz HS ?_) | ((with_reducible refine gA rfl ?_); refine zt HS ?_) | ((with_reducible refine gS rfl ?_); refine zu HS ?_) | (go_at_call 28; refine (HS.lit (l := [3, a1, a2]) (by simp)).go (xF (l := [3, a1, a2]) (vL (HS.lit (by simp))) (by simp) v0.out hn0.out.symm) ?_) | (go_at_call 30; refine HS.go (qY w4.out hn1.out.symm) ?_)); clear HS; (try clear hc); intros; rename_i HS; have hc := HS.lk; simp only [Lk, LkC, Value.cells, List.toList_toArray, Nat.reduceAdd, Nat.zero_add, and_true, zf, zg, ze, zh] at HS hc))
 go_ret
 exact ⟨rfl, HS.below⟩
theorem rLay5 {a1 a2 a3 a4 : Int} {A5 : Option Addr} {m5 d5 : Nat} {A6 : Option Addr} {m6 d6 : Nat} {A7 : Option Addr} {m7 d7 : Nat} {A8 : Option Addr} {d8 : Nat} {l8 : List S86} {A9 : Option Addr} {d9 : Nat} {l9 : List S77} {w : World} (hr8 : k86.C w A8 l8.length l8) (hr9 : k77.C w A9 l9.length l9) (w1 : (Lit.int .i64 a1).wf = true) (w2 : (Lit.int .i64 a2).wf = true) (w4 : (Lit.int .i64 a4).wf = true) (hn8 : l8.length ≤ 64) (hz8 : ∀ y ∈ l8, y.f0.size ≤ 1048576 ∧ Xl y) (hb8 : (yt itY l8).size ≤ 1000000000) (hn9 : l9.length ≤ 32) (hz9 : ∀ y ∈ l9, Qq y) : Calls Tryz.prog 12 #[.agg #[.int .i64 5, .int .i64 a1, .int .i64 a2, .int .i64 a3, .int .i64 a4, .slice A5 m5 d5, .slice A6 m6 d6, .slice A7 m7 d7, .slice A8 l8.length d8, .slice A9 l9.length d9]] w fun e w' => e = .returned (.string (((yB [5, a1, a2] ++ yn a4) ++ yt itY l8) ++ yt veY l9)) ∧ Below w.heap.size w w' := by
 have HS := (Sat.nil w).row (Ty.R (Kd.int .u8) 5 w.heap.size (.slice none 0 0) []) (Kd.R_nil _ _ _ _ _)
 obtain ⟨n0, hn0⟩ : ∃ b, b = yB [5, a1, a2] := ⟨_, rfl⟩
 have sn0 : n0.size ≤ 30 := by rw [hn0]; exact xu _
 obtain ⟨n1, hn1⟩ : ∃ b, b = yn a4 := ⟨_, rfl⟩
 have sn1 : n1.size ≤ 10 := by rw [hn1]; exact zE _
 obtain ⟨n2, hn2⟩ : ∃ b, b = yt itY l8 := ⟨_, rfl⟩
 have sn2 : n2.size ≤ 1000000000 := by rw [hn2]; exact hb8
 obtain ⟨n3, hn3⟩ : ∃ b, b = yt veY l9 := ⟨_, rfl⟩
 have sn3 : n3.size ≤ 650 := by rw [hn3]; exact jr veY 20 32 l9 hn9 (fun y _ => YV y)
 have z_n1 : ¬ (n0).size + n1.size > 9223372036854775807 := by (try simp only [zq]); omega
 have zy_n1 : ¬ 9223372036854775807 < (n0).size + n1.size := by (try simp only [zq]); omega
 have z_n2 : ¬ (n0 ++ n1).size + n2.size > 9223372036854775807 := by (try simp only [zq]); omega
 have zy_n2 : ¬ 9223372036854775807 < (n0 ++ n1).size + n2.size := by (try simp only [zq]); omega
 have v_n2 : ¬ n0.size + n1.size + n2.size > 9223372036854775807 := by (try simp only [zq]); omega
 have vy_n2 : ¬ 9223372036854775807 < n0.size + n1.size + n2.size := by (try simp only [zq]); omega
 have z_n3 : ¬ (n0 ++ n1 ++ n2).size + n3.size > 9223372036854775807 := by (try simp only [zq]); omega
 have zy_n3 : ¬ 9223372036854775807 < (n0 ++ n1 ++ n2).size + n3.size := by (try simp only [zq]); omega
 have v_n3 : ¬ n0.size + n1.size + n2.size + n3.size > 9223372036854775807 := by (try simp only [zq]); omega
 have vy_n3 : ¬ 9223372036854775807 < n0.size + n1.size + n2.size + n3.size := by (try simp only [zq]); omega
 have v0 : ∀ n ∈ [(5 : Int), a1, a2], (Lit.int .i64 n).wf = true := fun n hn => by rcases List.mem_cons.1 hn with rfl | hn; rfl; exact qw w1 w2 n hn
 have hm8 : l8.length ≤ 1048576 := by omega
 have hm9 : l9.length ≤ 1048576 := by omega
 clear w1 w2 hn8 hn9 hb8
 rw [← hn0, ← hn1, ← hn2, ← hn3]
 replace v0 := za.mk v0
 replace w4 := za.mk w4
 replace hz8 := za.mk hz8
 replace hz9 := za.mk hz9
 replace hm8 := za.mk hm8
 replace hm9 := za.mk hm9
 replace hr8 := za.mk hr8
 replace hr9 := za.mk hr9
 replace hn0 := za.mk hn0
 replace hn1 := za.mk hn1
 replace hn2 := za.mk hn2
 replace hn3 := za.mk hn3
 clear sn0 sn1 sn2 sn3
 go_enter Tryz.func12, Tryz.ntmps12
 go_wp2_with (first | ((first | ((with_reducible refine gB rfl ?_); refine zz HS ?_) | ((with_reducible refine gA rfl ?_); refine zt HS ?_) | ((with_reducible refine gS rfl ?_); refine zu HS ?_) | (go_at_call 28; refine (HS.lit (l := [5, a1, a2]) (by simp)).go (xF (l := [5, a1, a2]) (vL (HS.lit (by simp))) (by simp) v0.out hn0.out.symm) ?_)); clear HS; (try clear hc); intros; rename_i HS; have hc := HS.lk; simp only [Lk, LkC, Value.cells, List.toList_toArray, Nat.reduceAdd, Nat.zero_add, and_true, zf, zg, ze, zh] at HS hc) | (refine yE (.op 0 0 108 (.op 1 0 109 (.op 2 0 110 (.op 5 0 113 (.op 6 0 114 (.op 9 0 117 (.op 10 0 118 (.op 3 2 111 (.op 4 1 112 (.op 7 2 115 (.op 8 1 116 (.op 11 2 119 (.op 12 1 120 (.op 13 1 2 .nil)))))))))))))) [] HS (List.Sublist.refl _) ?_; clear HS hc; intro HS hS; (repeat' (first | refine RT.tk ?_ | refine RT.pu ?_ | refine RT.f2 ?_ ?_ | refine RT.o1 ?_ | (refine xS HS (List.Sublist.refl _) (qY w4.out hn1.out.symm) ?_; clear HS; intro w_ HS; refine RT.nm ?_) | (refine xS HS (List.Sublist.refl _) (Vy (Kd.C_below hr8.out HS.below) hm8.out hz8.out hn2.out.symm) ?_; clear HS; intro w_ HS; refine RT.nm ?_) | (refine xS HS (List.Sublist.refl _) (QE (Kd.C_below hr9.out HS.below) hm9.out hz9.out hn3.out.symm) ?_; clear HS; intro w_ HS; refine RT.nm ?_))); (all_goals clear hS); (all_goals have hc := HS.lk); (all_goals simp only [Lk, LkC, Value.cells, List.toList_toArray, Nat.reduceAdd, Nat.zero_add, and_true, zf, zg, ze, zh] at HS hc); (all_goals refine RT.nil ?_)))
 go_ret
 exact ⟨rfl, HS.below⟩
theorem rLay2 {a1 a2 a3 a4 : Int} {A5 : Option Addr} {m5 d5 : Nat} {A6 : Option Addr} {d6 : Nat} {l6 : List S52} {A7 : Option Addr} {m7 d7 : Nat} {A8 : Option Addr} {m8 d8 : Nat} {A9 : Option Addr} {m9 d9 : Nat} {w : World} (hr6 : k52.C w A6 l6.length l6) (w1 : (Lit.int .i64 a1).wf = true) (w2 : (Lit.int .i64 a2).wf = true) (hn : l6.length ≤ 8) (hz : ∀ y ∈ l6, YN y ∧ y.f2.size ≤ 1048576 ∧ (vk y).size ≤ 3000) : Calls Tryz.prog 12 #[.agg #[.int .i64 2, .int .i64 a1, .int .i64 a2, .int .i64 a3, .int .i64 a4, .slice A5 m5 d5, .slice A6 l6.length d6, .slice A7 m7 d7, .slice A8 m8 d8, .slice A9 m9 d9]] w fun e w' => e = .returned (.string ((yB [2, a1, a2] ++ yn (l6.length : Int)) ++ yV vk l6)) ∧ Below w.heap.size w w' := by
 have HS := (Sat.nil w).row (Ty.R (Kd.int .u8) 5 w.heap.size (.slice none 0 0) []) (Kd.R_nil _ _ _ _ _)
 obtain ⟨n0, hn0⟩ : ∃ b, b = yB [2, a1, a2] := ⟨_, rfl⟩
 have sn0 : n0.size ≤ 30 := by rw [hn0]; exact xu _
 obtain ⟨n1, hn1⟩ : ∃ b, b = yn (l6.length : Int) := ⟨_, rfl⟩
 have sn1 : n1.size ≤ 10 := by rw [hn1]; exact zE _
 have z_n1 : ¬ (n0).size + n1.size > 9223372036854775807 := by (try simp only [zq]); omega
 have zy_n1 : ¬ 9223372036854775807 < (n0).size + n1.size := by (try simp only [zq]); omega
 have v0 : ∀ n ∈ [(2 : Int), a1, a2], (Lit.int .i64 n).wf = true := fun n hn => by rcases List.mem_cons.1 hn with rfl | hn; rfl; exact qw w1 w2 n hn
 have wl : (Lit.int .i64 (l6.length : Int)).wf = true := vn (by omega)
 have hp : (n0 ++ n1).size ≤ 60 := by rw [zq]; omega
 rw [← hn0, ← hn1]
 have hB := za.mk (vZ (B := vk) (M := 3000) (l := l6) (fun y hy => (hz y hy).2.2) (by omega))
 replace v0 := za.mk v0
 replace hz := za.mk hz
 replace hr6 := za.mk hr6
 replace wl := za.mk wl
 replace hn0 := za.mk hn0
 replace hn1 := za.mk hn1
 clear sn0 sn1 w1 w2
 go_enter Tryz.func12, Tryz.ntmps12
 go_wp2_with ((first | ((with_reducible refine gB rfl ?_); refine zz HS ?_) | ((with_reducible refine gA rfl ?_); refine zt HS ?_) | ((with_reducible refine gS rfl ?_); refine zu HS ?_) | (go_at_call 28; refine (HS.lit (l := [2, a1, a2]) (by simp)).go (xF (l := [2, a1, a2]) (vL (HS.lit (by simp))) (by simp) v0.out hn0.out.symm) ?_) | (go_at_call 30; refine HS.go (qY wl.out hn1.out.symm) ?_)); clear HS; (try clear hc); intros; rename_i HS; have hc := HS.lk; simp only [Lk, LkC, Value.cells, List.toList_toArray, Nat.reduceAdd, Nat.zero_add, and_true, zf, zg, ze, zh] at HS hc)
 obtain ⟨gf, hgf⟩ := HS.hd
 subst hgf
 have HT : za (Sat [] w _ [(gf, [.int .i64 2, .int .i64 a1, .int .i64 a2, .int .i64 a3, .int .i64 a4, .slice A5 m5 d5, .slice A6 l6.length d6, .slice A7 m7 d7, .slice A8 m8 d8, .slice A9 m9 d9], 28)] [vN w (.slice none 0 0) []]) := ⟨HS.drop (List.forall_mem_singleton.2 (.head _))⟩
 clear HS hc
 generalize hpp : n0 ++ n1 = p at *
 go_loopg [3, 4] l6.length (fun kq vo vi wr => ∃ i : Nat, vi = .int .i64 i ∧ vo = .string (p ++ yV vk (l6.take i)) ∧ za (i + kq = l6.length) ∧ za (Sat [] w wr [(gf, [.int .i64 2, .int .i64 a1, .int .i64 a2, .int .i64 a3, .int .i64 a4, .slice A5 m5 d5, .slice A6 l6.length d6, .slice A7 m7 d7, .slice A8 m8 d8, .slice A9 m9 d9], 28)] [vN w (.slice none 0 0) []]))
 case atStart => exact ⟨0, rfl, by rw [List.take_zero, xO, qe], ⟨by simp⟩, HT⟩
 case round =>
  clear HT
  obtain ⟨i, rfl, rfl, HK, HT⟩ := hrel
  have HS := HT.out
  clear HT
  have hc := HS.lk; simp only [Lk, LkC, Value.cells, List.toList_toArray, Nat.reduceAdd, Nat.zero_add, and_true, zf, zg, ze, zh] at HS hc
  have hil : i ≤ l6.length := by have := HK.out; omega
  by_cases hlt : i < l6.length
  ·obtain ⟨ad, A1, c1, e0, x0, x1, x2, x3, x4, x5, hll, hin⟩ := ZE hr6.out (i : Int) (by omega) (by omega)
   subst e0
   have hy := hz.out l6[i] (List.getElem_mem hlt)
   have HU := za.mk (jn vk l6 i hlt)
   have hb1 := hB.out i
   have hd1 : xf l6 ((i : Nat) : Int) = l6[i] := by simp [xf, hlt]
   rw [Int.toNat_natCast] at x0 x1 x2 x3 x4 x5
   rw [hd1] at x0 x1 x2 x3 x4 x5 hin hll
   replace HU := HU.out
   generalize l6[i] = y at HU hy x0 x1 x2 x3 x4 x5 hin hll
   generalize yV vk (l6.take i) = a0 at HU hb1 ⊢
   have ha : (p ++ a0).size ≤ 3145728060 := by rw [zq]; omega
   obtain ⟨n2, hn2⟩ : ∃ b, b = vk y := ⟨_, rfl⟩
   have sn2 : n2.size ≤ 3000 := by rw [hn2]; exact hy.2.2
   have HV : p ++ yV vk (l6.take (i + 1)) = (p ++ a0) ++ n2 := by rw [HU]; simp only [hn2, qX, yz]
   generalize p ++ a0 = b9 at HV ha ⊢
   have z_n2 : ¬ (b9).size + n2.size > 9223372036854775807 := by (try simp only [zq]); omega
   have zy_n2 : ¬ 9223372036854775807 < (b9).size + n2.size := by (try simp only [zq]); omega
   replace HV := za.mk HV
   replace hy := za.mk hy
   replace hn2 := za.mk hn2
   have HI := za.mk hin
   clear hin hll HU hb1 ha hd1 sn2
   have b0 : (0 : Int) ≤ (i : Int) := by omega
   have b1 : (i : Int) < (l6.length : Int) := by omega
   replace x0 := HS.at_ x0
   replace x1 := HS.at_ x1
   replace x2 := HS.at_ x2
   replace x3 := HS.at_ x3
   replace x4 := HS.at_ x4
   replace x5 := HS.at_ x5
   go_wp2_with ((first | (go_at_call 31; refine HS.go (zaD (Kd.C_below HI.out HS.below) hy.out.1.1 hy.out.1.2.1 hy.out.2.1 hy.out.1.2.2.2.1 hy.out.1.2.2.2.2.1 hy.out.1.2.2.2.2.2 hn2.out.symm) ?_)); clear HS; (try clear hc); intros; rename_i HS; have hc := HS.lk; simp only [Lk, LkC, Value.cells, List.toList_toArray, Nat.reduceAdd, Nat.zero_add, and_true, zf, zg, ze, zh] at HS hc)
   go_roundg (l6.length - (i + 1))
   case measure => have := HK.out; omega
   case rel => exact ⟨i + 1, by have h_ : wrap64 ((i : Int) + 1) = ((i + 1 : Nat) : Int) := z4 (by omega) (by omega); first | (rw [h_]) | (simp only [h_]) | rfl, by rw [HV.out], ⟨by have := HK.out; omega⟩, ⟨HS⟩⟩
  ·obtain rfl : i = l6.length := by omega
   go_wp2
   go_ret
   exact ⟨by rw [hpp, List.take_of_length_le (Nat.le_refl _)]; rfl, HS.below⟩
theorem rLay4 {a1 a2 a3 a4 : Int} {A5 : Option Addr} {m5 d5 : Nat} {A6 : Option Addr} {m6 d6 : Nat} {A7 : Option Addr} {d7 : Nat} {l7 : List S46} {A8 : Option Addr} {m8 d8 : Nat} {A9 : Option Addr} {m9 d9 : Nat} {w : World} (hr7 : k46.C w A7 l7.length l7) (w1 : (Lit.int .i64 a1).wf = true) (w2 : (Lit.int .i64 a2).wf = true) (w3 : (Lit.int .i64 a3).wf = true) (w4 : (Lit.int .i64 a4).wf = true) (hn : l7.length ≤ 16) (hz : ∀ y ∈ l7, Yo y ∧ y.f1.size ≤ 1048576 ∧ (jE y).size ≤ 9000) : Calls Tryz.prog 12 #[.agg #[.int .i64 4, .int .i64 a1, .int .i64 a2, .int .i64 a3, .int .i64 a4, .slice A5 m5 d5, .slice A6 m6 d6, .slice A7 l7.length d7, .slice A8 m8 d8, .slice A9 m9 d9]] w fun e w' => e = .returned (.string ((yB [4, a1, a2] ++ yB [a3, a4, (l7.length : Int)]) ++ yV jE l7)) ∧ Below w.heap.size w w' := by
 have HS := (Sat.nil w).row (Ty.R (Kd.int .u8) 5 w.heap.size (.slice none 0 0) []) (Kd.R_nil _ _ _ _ _)
 obtain ⟨n0, hn0⟩ : ∃ b, b = yB [4, a1, a2] := ⟨_, rfl⟩
 have sn0 : n0.size ≤ 30 := by rw [hn0]; exact xu _
 obtain ⟨n1, hn1⟩ : ∃ b, b = yB [a3, a4, (l7.length : Int)] := ⟨_, rfl⟩
 have sn1 : n1.size ≤ 30 := by rw [hn1]; exact xu _
 have z_n1 : ¬ (n0).size + n1.size > 9223372036854775807 := by (try simp only [zq]); omega
 have zy_n1 : ¬ 9223372036854775807 < (n0).size + n1.size := by (try simp only [zq]); omega
 have v0 : ∀ n ∈ [(4 : Int), a1, a2], (Lit.int .i64 n).wf = true := fun n hn => by rcases List.mem_cons.1 hn with rfl | hn; rfl; exact qw w1 w2 n hn
 have wl : ∀ n ∈ [a3, a4, (l7.length : Int)], (Lit.int .i64 n).wf = true := fun n hn_ => by rcases List.mem_cons.1 hn_ with rfl | hn_; exact w3; exact qw w4 (vn (by omega)) n hn_
 have hp : (n0 ++ n1).size ≤ 60 := by rw [zq]; omega
 rw [← hn0, ← hn1]
 have hB := za.mk (vZ (B := jE) (M := 9000) (l := l7) (fun y hy => (hz y hy).2.2) (by omega))
 replace v0 := za.mk v0
 replace hz := za.mk hz
 replace hr7 := za.mk hr7
 replace wl := za.mk wl
 replace hn0 := za.mk hn0
 replace hn1 := za.mk hn1
 clear sn0 sn1 w1 w2 w3 w4
 go_enter Tryz.func12, Tryz.ntmps12
 go_wp2_with ((first | ((with_reducible refine gB rfl ?_); refine zz HS ?_) | ((with_reducible refine gA rfl ?_); refine zt HS ?_) | ((with_reducible refine gS rfl ?_); refine zu HS ?_) | (go_at_call 28; refine (HS.lit (l := [4, a1, a2]) (by simp)).go (xF (l := [4, a1, a2]) (vL (HS.lit (by simp))) (by simp) v0.out hn0.out.symm) ?_) | (go_at_call 28; refine (HS.lit (l := [a3, a4, (l7.length : Int)]) (by simp)).go (xF (l := [a3, a4, (l7.length : Int)]) (vL (HS.lit (by simp))) (by simp) wl.out hn1.out.symm) ?_)); clear HS; (try clear hc); intros; rename_i HS; have hc := HS.lk; simp only [Lk, LkC, Value.cells, List.toList_toArray, Nat.reduceAdd, Nat.zero_add, and_true, zf, zg, ze, zh] at HS hc)
 obtain ⟨gf, hgf⟩ := HS.hd
 subst hgf
 have HT : za (Sat [] w _ [(gf, [.int .i64 4, .int .i64 a1, .int .i64 a2, .int .i64 a3, .int .i64 a4, .slice A5 m5 d5, .slice A6 m6 d6, .slice A7 l7.length d7, .slice A8 m8 d8, .slice A9 m9 d9], 28)] [vN w (.slice none 0 0) []]) := ⟨HS.drop (List.forall_mem_singleton.2 (.head _))⟩
 clear HS hc
 generalize hpp : n0 ++ n1 = p at *
 go_loopg [3, 5, 6] l7.length (fun kq vo vi vx wr => ∃ i : Nat, vi = .int .i64 i ∧ vo = .string (p ++ yV jE (l7.take i)) ∧ za (i + kq = l7.length) ∧ za (Sat [] w wr [(gf, [.int .i64 4, .int .i64 a1, .int .i64 a2, .int .i64 a3, .int .i64 a4, .slice A5 m5 d5, .slice A6 m6 d6, .slice A7 l7.length d7, .slice A8 m8 d8, .slice A9 m9 d9], 28)] [vN w (.slice none 0 0) []]))
 case atStart => exact ⟨0, rfl, by rw [List.take_zero, xO, qe], ⟨by simp⟩, HT⟩
 case round =>
  clear HT
  obtain ⟨i, rfl, rfl, HK, HT⟩ := hrel
  have HS := HT.out
  clear HT
  have hc := HS.lk; simp only [Lk, LkC, Value.cells, List.toList_toArray, Nat.reduceAdd, Nat.zero_add, and_true, zf, zg, ze, zh] at HS hc
  have hil : i ≤ l7.length := by have := HK.out; omega
  by_cases hlt : i < l7.length
  ·obtain ⟨ad, A1, c1, e0, x0, x1, x2, x3, x4, hll, hin⟩ := vV hr7.out (i : Int) (by omega) (by omega)
   subst e0
   have hy := hz.out l7[i] (List.getElem_mem hlt)
   have HU := za.mk (jn jE l7 i hlt)
   have hb1 := hB.out i
   have hd1 : xb l7 ((i : Nat) : Int) = l7[i] := by simp [xb, hlt]
   rw [Int.toNat_natCast] at x0 x1 x2 x3 x4
   rw [hd1] at x0 x1 x2 x3 x4 hin hll
   replace HU := HU.out
   generalize l7[i] = y at HU hy x0 x1 x2 x3 x4 hin hll
   generalize yV jE (l7.take i) = a0 at HU hb1 ⊢
   have ha : (p ++ a0).size ≤ 9437184060 := by rw [zq]; omega
   obtain ⟨n2, hn2⟩ : ∃ b, b = yn y.f0 := ⟨_, rfl⟩
   have sn2 : n2.size ≤ 10 := by rw [hn2]; exact zE _
   obtain ⟨n3, hn3⟩ : ∃ b, b = xi y.f1 := ⟨_, rfl⟩
   have sn3 : n3.size ≤ 1048600 := by rw [hn3]; have := xa y.f1; have := hy.2.1; omega
   obtain ⟨n4, hn4⟩ : ∃ b, b = yt evY y.f2 := ⟨_, rfl⟩
   have sn4 : n4.size ≤ 9000 := by rw [hn4]; have h_ := hy.2.2; unfold jE at h_; simp only [zq] at h_; omega
   obtain ⟨n5, hn5⟩ : ∃ b, b = yB [y.f3, y.f4] := ⟨_, rfl⟩
   have sn5 : n5.size ≤ 20 := by rw [hn5]; exact xu _
   have HV : p ++ yV jE (l7.take (i + 1)) = (p ++ a0) ++ n2 ++ n3 ++ n4 ++ n5 := by rw [HU]; unfold jE; simp only [hn2, hn3, hn4, hn5, qX, yz]
   generalize p ++ a0 = b9 at HV ha ⊢
   have z_n2 : ¬ (b9).size + n2.size > 9223372036854775807 := by (try simp only [zq]); omega
   have zy_n2 : ¬ 9223372036854775807 < (b9).size + n2.size := by (try simp only [zq]); omega
   have z_n3 : ¬ (b9 ++ n2).size + n3.size > 9223372036854775807 := by (try simp only [zq]); omega
   have zy_n3 : ¬ 9223372036854775807 < (b9 ++ n2).size + n3.size := by (try simp only [zq]); omega
   have v_n3 : ¬ b9.size + n2.size + n3.size > 9223372036854775807 := by (try simp only [zq]); omega
   have vy_n3 : ¬ 9223372036854775807 < b9.size + n2.size + n3.size := by (try simp only [zq]); omega
   have z_n4 : ¬ (b9 ++ n2 ++ n3).size + n4.size > 9223372036854775807 := by (try simp only [zq]); omega
   have zy_n4 : ¬ 9223372036854775807 < (b9 ++ n2 ++ n3).size + n4.size := by (try simp only [zq]); omega
   have v_n4 : ¬ b9.size + n2.size + n3.size + n4.size > 9223372036854775807 := by (try simp only [zq]); omega
   have vy_n4 : ¬ 9223372036854775807 < b9.size + n2.size + n3.size + n4.size := by (try simp only [zq]); omega
   have z_n5 : ¬ (b9 ++ n2 ++ n3 ++ n4).size + n5.size > 9223372036854775807 := by (try simp only [zq]); omega
   have zy_n5 : ¬ 9223372036854775807 < (b9 ++ n2 ++ n3 ++ n4).size + n5.size := by (try simp only [zq]); omega
   have v_n5 : ¬ b9.size + n2.size + n3.size + n4.size + n5.size > 9223372036854775807 := by (try simp only [zq]); omega
   have vy_n5 : ¬ 9223372036854775807 < b9.size + n2.size + n3.size + n4.size + n5.size := by (try simp only [zq]); omega
   replace HV := za.mk HV
   replace hy := za.mk hy
   replace hn2 := za.mk hn2
   replace hn3 := za.mk hn3
   replace hn4 := za.mk hn4
   replace hn5 := za.mk hn5
   have HI := za.mk hin
   clear hin hll HU hb1 ha hd1 sn2 sn3 sn4 sn5
   have b0 : (0 : Int) ≤ (i : Int) := by omega
   have b1 : (i : Int) < (l7.length : Int) := by omega
   replace x0 := HS.at_ x0
   replace x1 := HS.at_ x1
   replace x2 := HS.at_ x2
   replace x3 := HS.at_ x3
   replace x4 := HS.at_ x4
   replace hy := hy.out
   have h5 : ∀ n ∈ [y.f3, y.f4], (Lit.int .i64 n).wf = true := qw hy.1.2.2.2.1 hy.1.2.2.2.2
   replace hy := za.mk hy
   replace h5 := za.mk h5
   go_wp2_with ((first | ((with_reducible refine gB rfl ?_); refine zz HS ?_) | ((with_reducible refine gA rfl ?_); refine zt HS ?_) | ((with_reducible refine gS rfl ?_); refine zu HS ?_)); clear HS; (try clear hc); intros; rename_i HS; have hc := HS.lk; simp only [Lk, LkC, Value.cells, List.toList_toArray, Nat.reduceAdd, Nat.zero_add, and_true, zf, zg, ze, zh] at HS hc)
   refine yE (.op 0 0 87 (.op 1 0 88 (.op 2 0 89 (.op 5 0 92 (.op 6 0 93 (.op 9 0 96 (.op 10 0 97 (.op 13 0 100 (.op 14 0 101 (.op 15 0 102 (.op 16 0 103 (.two 3 90 17 104 (.op 4 1 91 (.two 7 94 17 104 (.op 8 1 95 (.two 11 98 17 104 (.op 12 1 99 (.op 17 2 104 (.op 18 2 105 (.op 19 1 106 (.op 20 1 3 .nil))))) (.op 11 2 98 (.op 12 1 99 (.op 18 2 105 (.op 19 1 106 (.op 20 1 3 .nil))))))) (.op 7 2 94 (.op 8 1 95 (.op 11 2 98 (.op 12 1 99 (.op 18 2 105 (.op 19 1 106 (.op 20 1 3 .nil))))))))) (.op 3 2 90 (.op 4 1 91 (.op 7 2 94 (.op 8 1 95 (.op 11 2 98 (.op 12 1 99 (.op 18 2 105 (.op 19 1 106 (.op 20 1 3 .nil))))))))))))))))))))) [] HS (List.Sublist.refl _) ?_
   clear HS hc; intro HS hS
   (repeat' (first | refine RT.tk ?_ | refine RT.pu ?_ | refine RT.f2 ?_ ?_ | refine RT.o1 ?_ | (refine Yb (l := [y.f3, y.f4]) HS (List.Sublist.refl _) ?_ (by simp); clear HS; intro g_ w_ HS; refine RT.nm ?_) | (refine xS HS (List.Sublist.refl _) (xF (l := [y.f3, y.f4]) (vL HS) (by simp) h5.out hn5.out.symm) ?_; clear HS; intro w_ HS; refine RT.nm ?_) | (refine xS HS (List.Sublist.refl _) (qY hy.out.1.1 hn2.out.symm) ?_; clear HS; intro w_ HS; refine RT.nm ?_) | (refine xS HS (List.Sublist.refl _) (Xu hy.out.2.1 hn3.out.symm) ?_; clear HS; intro w_ HS; refine RT.nm ?_) | (refine xS HS (List.Sublist.refl _) (Vf (Kd.C_below HI.out HS.below) hy.out.1.2.2.1.1 hy.out.1.2.2.1.2 hn4.out.symm) ?_; clear HS; intro w_ HS; refine RT.nm ?_)))
   all_goals
    clear hS
    have hc := HS.lk
    simp only [Lk, LkC, Value.cells, List.toList_toArray, Nat.reduceAdd, Nat.zero_add, and_true, zf, zg, ze, zh] at HS hc
    refine RT.nil ?_
    go_wp2
    go_roundg (l7.length - (i + 1))
    case measure => have := HK.out; omega
    case rel => exact ⟨i + 1, by have h_ : wrap64 ((i : Int) + 1) = ((i + 1 : Nat) : Int) := z4 (by omega) (by omega); first | (rw [h_]) | (simp only [h_]) | rfl, by rw [HV.out], ⟨by have := HK.out; omega⟩, ⟨(HS.off (.cons _ (List.Sublist.refl _))).drop (List.forall_mem_singleton.2 (.head _))⟩⟩
  ·obtain rfl : i = l7.length := by omega
   go_wp2
   go_ret
   exact ⟨by rw [hpp, List.take_of_length_le (Nat.le_refl _)]; rfl, HS.below⟩
def Yw (y : S46) : Bool := decide (y.f1.size ≤ 200) && decide (y.f2.length ≤ 20)
def Z7 (x : Fm) : Bool := decide (x.f5.length ≤ 40) && (decide (x.f6.length ≤ 40) && (decide (x.f7.length ≤ 40) && (decide (x.f8.length ≤ 80) && (decide (x.f9.length ≤ 80) && (x.f7.all Yw)))))
theorem zbF {x : Fm} (h : qT x = true) : (x.f0 ≠ 1 → x.f5 = []) ∧ (x.f0 ≠ 2 → x.f6 = []) ∧ (x.f0 ≠ 4 → x.f7 = []) ∧ (x.f0 ≠ 5 → x.f8 = []) ∧ (x.f0 ≠ 5 → x.f9 = []) := by
 unfold qT at h
 simp only [Bool.and_eq_true, Bool.or_eq_true, beq_iff_eq, List.isEmpty_iff] at h
 obtain ⟨_, _, h5, h6, h7, h8, h9⟩ := h
 exact ⟨fun n => h5.resolve_left n, fun n => h6.resolve_left n, fun n => h7.resolve_left n, fun n => h8.resolve_left n, fun n => h9.resolve_left n⟩
theorem zcA {x : Fm} (h : yO x = true) : Z7 x = true := by
 unfold yO at h
 simp only [Bool.and_eq_true, decide_eq_true_eq] at h
 obtain ⟨hh, ho, hs⟩ := h
 obtain ⟨n5, n6, n7, n8, n9⟩ := zbF ho
 have h0 := hh.2.2
 clear ho hh
 have key : x.f5.length ≤ 40 ∧ x.f6.length ≤ 40 ∧ x.f7.length ≤ 40 ∧ x.f8.length ≤ 80 ∧ x.f9.length ≤ 80 ∧ ∀ y ∈ x.f7, Yw y = true := by
  unfold ji at hs
  by_cases c1 : x.f0 = 1
  ·rw [if_pos c1, Bool.and_eq_true] at hs
   rw [n6 (by omega), n7 (by omega), n8 (by omega), n9 (by omega)]
   exact ⟨by have := (Xk hs.1).1; omega, by simp, by simp, by simp, by simp, by simp⟩
  rw [if_neg c1] at hs
  rw [n5 c1]
  by_cases c2 : x.f0 = 2
  ·rw [if_pos c2, Bool.and_eq_true] at hs
   have hl : (x.f6.length : Int) ≤ 8 := of_decide_eq_true (Bool.and_eq_true_iff.1 hs.2).2
   rw [n7 (by omega), n8 (by omega), n9 (by omega)]
   exact ⟨by simp, by omega, by simp, by simp, by simp, by simp⟩
  rw [if_neg c2] at hs
  rw [n6 c2]
  by_cases c3 : x.f0 = 3
  ·rw [n7 (by omega), n8 (by omega), n9 (by omega)]
   exact ⟨by simp, by simp, by simp, by simp, by simp, by simp⟩
  rw [if_neg c3] at hs
  by_cases c4 : x.f0 = 4
  ·rw [if_pos c4] at hs
   simp only [Bool.and_eq_true, decide_eq_true_eq] at hs
   have hl := hs.2.2.2.2
   have ha := ZD _ _ _ _ hs.1
   rw [n8 (by omega), n9 (by omega)]
   refine ⟨by simp, by simp, by omega, by simp, by simp, fun y hy => ?_⟩
   obtain ⟨g1, g2⟩ := Xt (ha y hy)
   have g3 := (JA g1).1
   unfold Yw
   rw [decide_eq_true (by omega), decide_eq_true (by omega)]
   rfl
  rw [if_neg c4] at hs
  simp only [Bool.and_eq_true] at hs
  rw [n7 c4]
  exact ⟨by simp, by simp, by simp, by have := (Z9 hs.2.1).1; omega, by have := (Zw hs.2.2).1; omega, by simp⟩
 obtain ⟨k5, k6, k7, k8, k9, ke⟩ := key
 unfold Z7
 rw [decide_eq_true k5, decide_eq_true k6, decide_eq_true k7, decide_eq_true k8, decide_eq_true k9, List.all_eq_true.2 ke]
 rfl
theorem zdn {x : Fm} {cs : List Value} {w : World} (hx : FmC w x cs) (hB : FmB x) : Calls Tryz.prog 8 #[.agg cs.toArray] w fun e w' => e = .returned (.bool (Z7 x)) ∧ Below w.heap.size w w' := by
 have HLEN := za.mk hB.ent.1
 clear hB
 obtain ⟨v5, v6, v7, v8, v9, rfl, ⟨A5, d5, rfl, -, -⟩, ⟨A6, d6, rfl, -, -⟩, ⟨A7, d7, rfl, hld, hr⟩, ⟨A8, d8, rfl, -, -⟩, ⟨A9, d9, rfl, -, -⟩⟩ := hx
 obtain ⟨a0, a1, a2, a3, a4, l5, l6, l7, l8, l9⟩ := x
 dsimp only at HLEN hld hr ⊢
 have HS := Sat.nil w
 have HR := za.mk hr
 clear hr
 unfold Z7
 dsimp only
 generalize hg : l7.all Yw = g
 have HG := za.mk hg
 clear hg
 generalize g5 : decide (l5.length ≤ 40) = b5
 have g50 : decide ((l5.length : Int) > 40) = !b5 := by rw [← g5, ← decide_not]; exact decide_eq_decide.mpr (by omega)
 have g51 : decide ((40 : Int) < (l5.length : Int)) = !b5 := by rw [← g5, ← decide_not]; exact decide_eq_decide.mpr (by omega)
 generalize g6 : decide (l6.length ≤ 40) = b6
 have g60 : decide ((l6.length : Int) > 40) = !b6 := by rw [← g6, ← decide_not]; exact decide_eq_decide.mpr (by omega)
 have g61 : decide ((40 : Int) < (l6.length : Int)) = !b6 := by rw [← g6, ← decide_not]; exact decide_eq_decide.mpr (by omega)
 generalize g7 : decide (l7.length ≤ 40) = b7
 have g70 : decide ((l7.length : Int) > 40) = !b7 := by rw [← g7, ← decide_not]; exact decide_eq_decide.mpr (by omega)
 have g71 : decide ((40 : Int) < (l7.length : Int)) = !b7 := by rw [← g7, ← decide_not]; exact decide_eq_decide.mpr (by omega)
 generalize g8 : decide (l8.length ≤ 80) = b8
 have g80 : decide ((l8.length : Int) > 80) = !b8 := by rw [← g8, ← decide_not]; exact decide_eq_decide.mpr (by omega)
 have g81 : decide ((80 : Int) < (l8.length : Int)) = !b8 := by rw [← g8, ← decide_not]; exact decide_eq_decide.mpr (by omega)
 generalize g9 : decide (l9.length ≤ 80) = b9
 have g90 : decide ((l9.length : Int) > 80) = !b9 := by rw [← g9, ← decide_not]; exact decide_eq_decide.mpr (by omega)
 have g91 : decide ((80 : Int) < (l9.length : Int)) = !b9 := by rw [← g9, ← decide_not]; exact decide_eq_decide.mpr (by omega)
 cases b5
 case' true => cases b6
 case' true.true => cases b7
 case' true.true.true => cases b8
 case' true.true.true.true => cases b9
 case true.true.true.true.true =>
  go_enter Tryz.func8, Tryz.ntmps8
  go_wp2_with ((first | ((with_reducible refine gB rfl ?_); refine zz HS ?_) | ((with_reducible refine gA rfl ?_); refine zt HS ?_) | ((with_reducible refine gS rfl ?_); refine zu HS ?_)); clear HS; (try clear hc); intros; rename_i HS; have hc := HS.lk; simp only [Lk, LkC, Value.cells, List.toList_toArray, Nat.reduceAdd, Nat.zero_add, and_true, zf, zg, ze, zh] at HS hc)
  clear g5 g50 g51 g6 g60 g61 g7 g70 g71 g8 g80 g81 g9 g90 g91
  obtain ⟨gf, hgf⟩ := HS.hd
  subst hgf
  have HZ := za.mk HS
  clear HS hc
  go_loopg [3] l7.length (fun kq vi wr => ∃ i : Nat, vi = .int .i64 i ∧ za (i + kq = l7.length) ∧ za ((l7.drop i).all Yw = g) ∧ za (Sat [] w wr [(gf, [.int .i64 a0, .int .i64 a1, .int .i64 a2, .int .i64 a3, .int .i64 a4, .slice A5 l5.length d5, .slice A6 l6.length d6, .slice A7 l7.length d7, .slice A8 l8.length d8, .slice A9 l9.length d9], 28)] []))
  case atStart => exact ⟨0, rfl, ⟨by simp⟩, ⟨by rw [List.drop_zero]; exact HG.out⟩, HZ⟩
  case round =>
   clear HZ HG
   obtain ⟨i, rfl, HK, HO, HT⟩ := hrel
   have HS := HT.out
   clear HT
   have hc := HS.lk; simp only [Lk, LkC, Value.cells, List.toList_toArray, Nat.reduceAdd, Nat.zero_add, and_true, zf, zg, ze, zh] at HS hc
   have hil : i ≤ l7.length := by have := HK.out; omega
   by_cases hlt : i < l7.length
   ·obtain ⟨ad, A4_, c4_, e0, -, x1, x2, -, -, -, -⟩ := vV HR.out (i : Int) (by omega) (by omega)
    subst e0
    have hd1 : xb l7 ((i : Nat) : Int) = l7[i] := by simp [xb, hlt]
    have ho := HO.out
    rw [List.drop_eq_getElem_cons hlt, List.all_cons] at ho
    rw [Int.toNat_natCast] at x1 x2
    rw [hd1] at x1 x2
    generalize l7[i] = y at ho x1 x2
    have b0 : (0 : Int) ≤ (i : Int) := by omega
    have b1 : (i : Int) < (l7.length : Int) := by omega
    rw [show Yw y = (decide (y.f1.size ≤ 200) && decide (y.f2.length ≤ 20)) from rfl] at ho
    generalize h0 : decide (y.f1.size ≤ 200) = p0 at ho
    have h00 : decide ((y.f1.size : Int) > 200) = !p0 := by rw [← h0, ← decide_not]; exact decide_eq_decide.mpr (by omega)
    have h01 : decide ((200 : Int) < (y.f1.size : Int)) = !p0 := by rw [← h0, ← decide_not]; exact decide_eq_decide.mpr (by omega)
    generalize h1 : decide (y.f2.length ≤ 20) = p1 at ho
    have h10 : decide ((y.f2.length : Int) > 20) = !p1 := by rw [← h1, ← decide_not]; exact decide_eq_decide.mpr (by omega)
    have h11 : decide ((20 : Int) < (y.f2.length : Int)) = !p1 := by rw [← h1, ← decide_not]; exact decide_eq_decide.mpr (by omega)
    replace x1 := HS.at_ x1
    replace x2 := HS.at_ x2
    clear HO hd1
    cases p0
    case' true => cases p1
    all_goals
     go_wp2
     first
     | (go_ret; exact ⟨by rw [← ho]; rfl, HS.below⟩)
     | (go_roundg (l7.length - (i + 1)); (case measure => have := HK.out; omega); (case rel => exact ⟨i + 1, by have h_ : wrap64 ((i : Int) + 1) = ((i + 1 : Nat) : Int) := z4 (by omega) (by have := HLEN.out; omega); first | (rw [h_]) | (simp only [h_]) | rfl, ⟨by have := HK.out; omega⟩, ⟨ho⟩, ⟨HS⟩⟩))
   ·have ho := HO.out
    rw [List.drop_of_length_le (by omega), List.all_nil] at ho
    subst ho
    obtain rfl : i = l7.length := by omega
    clear HO
    go_wp2
    go_ret
    exact ⟨rfl, HS.below⟩
 all_goals
  go_enter Tryz.func8, Tryz.ntmps8
  go_wp2_with ((first | ((with_reducible refine gB rfl ?_); refine zz HS ?_) | ((with_reducible refine gA rfl ?_); refine zt HS ?_) | ((with_reducible refine gS rfl ?_); refine zu HS ?_)); clear HS; (try clear hc); intros; rename_i HS; have hc := HS.lk; simp only [Lk, LkC, Value.cells, List.toList_toArray, Nat.reduceAdd, Nat.zero_add, and_true, zf, zg, ze, zh] at HS hc)
  go_ret
  exact ⟨rfl, HS.below⟩
theorem zdy {x : Fm} {cs : List Value} {w : World} (hx : FmC w x cs) (hB : FmB x) (h : yO x = true) : Calls Tryz.prog 12 #[.agg cs.toArray] w fun e w' => e = .returned (.string (Zq x)) ∧ Below w.heap.size w w' := by
 obtain ⟨v5, v6, v7, v8, v9, rfl, ⟨A5, d5, rfl, hl5, hC5⟩, ⟨A6, d6, rfl, hl6, hC6⟩, ⟨A7, d7, rfl, hl7, hC7⟩, ⟨A8, d8, rfl, hl8, hC8⟩, ⟨A9, d9, rfl, hl9, hC9⟩⟩ := hx
 obtain ⟨a0, a1, a2, a3, a4, l5, l6, l7, l8, l9⟩ := x
 dsimp only at hl5 hl6 hl7 hl8 hl9 hC5 hC6 hC7 hC8 hC9 ⊢
 unfold yO at h
 simp only [Bool.and_eq_true, decide_eq_true_eq] at h
 obtain ⟨h0, ho, hs⟩ := h
 replace h0 : 1 ≤ a0 ∧ a0 ≤ 5 := h0.2.2
 have w1 := hB.n1
 have w2 := hB.n2
 have w3 := hB.n3
 have w4 := hB.n4
 dsimp only at w1 w2 w3 w4
 clear ho
 unfold Zq Za
 unfold ji at hs
 rcases (by omega : a0 = 1 ∨ a0 = 2 ∨ a0 = 3 ∨ a0 = 4 ∨ a0 = 5) with rfl | rfl | rfl | rfl | rfl
 ·replace hs : (vv l5 && (inB a3 0 MS && inB a4 1 MS)) = true := hs
  rw [Bool.and_eq_true] at hs
  have g := Xk hs.1
  show Calls _ _ _ _ fun e w' => e = .returned (.string (yB [1, a1, a2] ++ (yB [a3, a4] ++ yt xi l5))) ∧ _
  rw [← yz]
  exact rLay1 hC5 w1 w2 w3 w4 g.1 (fun y hy => Nat.le_trans (g.2 y hy) (by omega))
 ·replace hs : (jf a1 none l6 && inB (l6.length : Int) 1 8) = true := hs
  rw [Bool.and_eq_true] at hs
  have hl : (l6.length : Int) ≤ 8 := of_decide_eq_true (Bool.and_eq_true_iff.1 hs.2).2
  have ha := Yg _ _ _ hs.1
  show Calls _ _ _ _ fun e w' => e = .returned (.string (yB [2, a1, a2] ++ (yB [(l6.length : Int)] ++ yV vk l6))) ∧ _
  rw [← yz, ZH]
  exact rLay2 hC6 w1 w2 (by omega) (fun y hy => ⟨hB.cmd.2 y hy, Nat.le_trans (JX (ha y hy)).2.2.1 (by omega), Yj (ha y hy)⟩)
 ·show Calls _ _ _ _ fun e w' => e = .returned (.string (yB [3, a1, a2] ++ yB [a4])) ∧ _
  rw [ZH]
  exact rLay3 w1 w2 w4
 ·replace hs : (jc a3 a4 none l7 && (inB a3 0 MS && (inB a4 0 MS && (decide (a3 ≤ a4) && decide ((l7.length : Int) ≤ 16))))) = true := hs
  simp only [Bool.and_eq_true, decide_eq_true_eq] at hs
  have hl := hs.2.2.2.2
  have ha := ZD _ _ _ _ hs.1
  show Calls _ _ _ _ fun e w' => e = .returned (.string (yB [4, a1, a2] ++ (yB [a3, a4, (l7.length : Int)] ++ yV jE l7))) ∧ _
  rw [← yz]
  exact rLay4 hC7 w1 w2 w3 w4 (by omega) (fun y hy => ⟨hB.ent.2 y hy, Nat.le_trans (Xt (ha y hy)).2 (by omega), Xn (ha y hy)⟩)
 ·replace hs : (inB a4 0 MS && (xR l8 && yY l9)) = true := hs
  simp only [Bool.and_eq_true] at hs
  have g1 := Z9 hs.2.1
  have g2 := Zw hs.2.2
  have b2 := jr itY 3000 64 l8 g1.1 (fun y hy => by
   have := xa y.f0
   have := zE y.f1.f0
   have := zE y.f1.f1
   have := xn y.f1.f2
   have := (g1.2 y hy).2
   unfold itY
   simp only [zq]
   omega)
  show Calls _ _ _ _ fun e w' => e = .returned (.string (yB [5, a1, a2] ++ ((yB [a4] ++ yt itY l8) ++ yt veY l9))) ∧ _
  rw [← yz, ← yz, ZH]
  exact rLay5 hC8 hC9 w1 w2 w4 g1.1 (fun y hy => ⟨hB.ite.2.1 y hy, hB.ite.2.2 y hy⟩) (by omega) g2.1 hB.ver.2
open Go.RowKit Go.Proofs.YtepipnpfggnadaaGreatW.PrintWords Go.Proofs.YtepipnpfggnadaaGreatW.PrintLast Go.Proofs.YtepipnpfggnadaaGreatW.PrintMore Go.Proofs.YtepipnpfggnadaaGreat.Crc
theorem zce {x : Fm} {cs : List Value} {w : World} (hx : FmC w x cs) (hB : FmB x) : Calls Tryz.prog 3 #[.agg cs.toArray] w fun e w' => e = .returned (.bool true) ∧ Below w.heap.size w w' := by
 have HX := hx
 obtain ⟨v5, v6, v7, v8, v9, rfl, h5, h6, h7, h8, h9⟩ := hx
 obtain ⟨A5, c5, rfl, _⟩ := h5.id
 obtain ⟨A6, c6, rfl, _⟩ := h6.id
 obtain ⟨A7, c7, rfl, _⟩ := h7.id
 obtain ⟨A8, c8, rfl, _⟩ := h8.id
 obtain ⟨A9, c9, rfl, _⟩ := h9.id
 clear h5 h6 h7 h8 h9
 replace HX := za.mk HX
 have HS := Sat.nil w
 have hlr : Z7 x = false → yO x = false := fun h => by
  cases hr : yO x with
  | false => rfl
  | true => rw [zcA hr] at h; cases h
 obtain ⟨S, e1, hp, hS⟩ : ∃ (S : ByteArray) (e1 : Int), YS x S e1 ∧ ((yO x = false ∧ S = ⟨#[]⟩ ∧ e1 = 2) ∨ (yO x = true ∧ xw.f (10 * (Zq x).size + 10) (Zq x) = some S ∧ e1 = 0)) := by
  rcases VG hB with ⟨hr, h⟩ | ⟨hr, h, hz⟩
  ·exact ⟨_, _, h, .inl ⟨hr, rfl, rfl⟩⟩
  ·exact ⟨_, _, h, .inr ⟨hr, Vm (Zq x) (by omega) _ (by omega), rfl⟩⟩
 have HL : ∀ w2 : World, Below w.heap.size w w2 → Calls Tryz.prog 8 #[.agg #[.int .i64 x.f0, .int .i64 x.f1, .int .i64 x.f2, .int .i64 x.f3, .int .i64 x.f4, .slice A5 x.f5.length c5, .slice A6 x.f6.length c6, .slice A7 x.f7.length c7, .slice A8 x.f8.length c8, .slice A9 x.f9.length c9]] w2 fun e w' => e = .returned (.bool (Z7 x)) ∧ Below w2.heap.size w2 w' := fun _ hb => zdn (HX.out.below hb) hB
 have HQ : ∀ w2 : World, Below w.heap.size w w2 → Calls Tryz.prog 10 #[.agg #[.int .i64 x.f0, .int .i64 x.f1, .int .i64 x.f2, .int .i64 x.f3, .int .i64 x.f4, .slice A5 x.f5.length c5, .slice A6 x.f6.length c6, .slice A7 x.f7.length c7, .slice A8 x.f8.length c8, .slice A9 x.f9.length c9]] w2 fun e w' => e = .returned (.bool (yO x)) ∧ Below w2.heap.size w2 w' := fun _ hb => zbN (HX.out.below hb) hB
 have HY : yO x = true → ∀ w2 : World, Below w.heap.size w w2 → Calls Tryz.prog 12 #[.agg #[.int .i64 x.f0, .int .i64 x.f1, .int .i64 x.f2, .int .i64 x.f3, .int .i64 x.f4, .slice A5 x.f5.length c5, .slice A6 x.f6.length c6, .slice A7 x.f7.length c7, .slice A8 x.f8.length c8, .slice A9 x.f9.length c9]] w2 fun e w' => e = .returned (.string (Zq x)) ∧ Below w2.heap.size w2 w' := fun hr _ hb => zdy (HX.out.below hb) hB hr
 clear hB
 generalize Z7 x = lb at hlr HL
 generalize yO x = rb at hlr HQ hS HY
 generalize Zq x = t at hS HY
 replace hp := za.mk hp
 replace HL := za.mk HL
 replace HQ := za.mk HQ
 rcases hS with ⟨rfl, rfl, rfl⟩ | ⟨rfl, hse, rfl⟩
 case' inl =>
  clear hlr HY
  cases lb
 case' inr =>
  obtain rfl : lb = true := by cases lb with | true => rfl | false => exact absurd (hlr rfl) (by decide)
  clear hlr
  replace HY := za.mk (HY rfl)
  replace hse := za.mk hse
 all_goals
  go_enter Tryz.func3, Tryz.ntmps3
  go_wp2_with ((first | ((with_reducible refine gB rfl ?_); refine zz HS ?_) | ((with_reducible refine gA rfl ?_); refine zt HS ?_) | ((with_reducible refine gS rfl ?_); refine zu HS ?_) | (go_at_call 7; with_reducible refine HS.go (YS.calls hp.out (HX.out.below HS.below)) ?_) | (go_at_call 8; refine HS.go (HL.out _ HS.below) ?_) | (go_at_call 10; refine HS.go (HQ.out _ HS.below) ?_) | (go_at_call 9; refine HS.go (zc4 _) ?_) | (go_at_call 12; refine HS.go (HY.out _ HS.below) ?_) | (go_at_call 11; refine HS.go (xw.calls _ t S _ hse.out) ?_)); clear HS; (try clear hc); intros; rename_i HS; have hc := HS.lk; simp only [Lk, LkC, Value.cells, List.toList_toArray, Nat.reduceAdd, Nat.zero_add, and_true, zf, zg, ze, zh] at HS hc)
  go_ret
  exact ⟨rfl, HS.below⟩
theorem Y5 {α : Type} (f : α → Nat) (l : List α) : ∀ x ∈ l, f x ≤ (l.map f).sum := by
 induction l with
 | nil => simp
 | cons y l ih =>
  intro x hx
  rw [List.map_cons, List.sum_cons]
  rcases List.mem_cons.1 hx with rfl | hx
  ·omega
  ·have := ih x hx; omega
theorem Zp {α : Type} (f : α → Nat) (c : Nat) (h : ∀ x, c ≤ f x) (l : List α) : c * l.length ≤ (l.map f).sum := by
 induction l with
 | nil => simp
 | cons y l ih =>
  have := h y
  rw [List.map_cons, List.sum_cons, List.length_cons, Nat.mul_succ]
  omega
theorem QM {l : List Int} (h : (l.map fun _ => 1).sum ≤ 1048576) (hw : ∀ y ∈ l, (Lit.int .i64 y).wf = true) : vT l :=
 ⟨by have := Zp (fun _ : Int => 1) 1 (fun _ => Nat.le_refl _) l; omega, hw⟩
theorem FmB.of (a0 a1 a2 a3 a4 : Int) (l5 : List ByteArray) (l6 : List S52) (l7 : List S46) (l8 : List S86) (l9 : List S77) (g0 : (Lit.int .i64 a0).wf = true) (g1 : (Lit.int .i64 a1).wf = true) (g2 : (Lit.int .i64 a2).wf = true) (g3 : (Lit.int .i64 a3).wf = true) (g4 : (Lit.int .i64 a4).wf = true)
  (g5 : l5.length * 16 ≤ 140737488351232 ∧ l5.length ≤ 9223372036854775807 ∧ ∀ y2 ∈ l5, y2.size ≤ 140737488351232)
  (g6 : l6.length * 72 ≤ 140737488351232 ∧ l6.length ≤ 9223372036854775807 ∧ ∀ y2 ∈ l6, ((Lit.int .i64 y2.f0).wf = true ∧ (Lit.int .i64 y2.f1).wf = true ∧ y2.f2.size ≤ 140737488351232 ∧ (Lit.int .i64 y2.f3).wf = true ∧ (y2.f4.length * 8 ≤ 140737488351232 ∧ y2.f4.length ≤ 9223372036854775807 ∧ ∀ y3 ∈ y2.f4, (Lit.int .i64 y3).wf = true) ∧ (Lit.int .i64 y2.f5).wf = true))
  (g7 : l7.length * 64 ≤ 140737488351232 ∧ l7.length ≤ 9223372036854775807 ∧ ∀ y2 ∈ l7, ((Lit.int .i64 y2.f0).wf = true ∧ y2.f1.size ≤ 140737488351232 ∧ (y2.f2.length * 32 ≤ 140737488351232 ∧ y2.f2.length ≤ 9223372036854775807 ∧ ∀ y3 ∈ y2.f2, ((Lit.int .i64 y3.f0).wf = true ∧ (y3.f1.length * 8 ≤ 140737488351232 ∧ y3.f1.length ≤ 9223372036854775807 ∧ ∀ y4 ∈ y3.f1, (Lit.int .i64 y4).wf = true))) ∧ (Lit.int .i64 y2.f3).wf = true ∧ (Lit.int .i64 y2.f4).wf = true))
  (g8 : l8.length * 56 ≤ 140737488351232 ∧ l8.length ≤ 9223372036854775807 ∧ ∀ y2 ∈ l8, (y2.f0.size ≤ 140737488351232 ∧ ((Lit.int .i64 y2.f1.f0).wf = true ∧ (Lit.int .i64 y2.f1.f1).wf = true ∧ (y2.f1.f2.length * 8 ≤ 140737488351232 ∧ y2.f1.f2.length ≤ 9223372036854775807 ∧ ∀ y3 ∈ y2.f1.f2, (Lit.int .i64 y3).wf = true))))
  (g9 : l9.length * 16 ≤ 140737488351232 ∧ l9.length ≤ 9223372036854775807 ∧ ∀ y2 ∈ l9, ((Lit.int .i64 y2.f0).wf = true ∧ (Lit.int .i64 y2.f1).wf = true))
  (hM : (1 + (1 + (1 + (1 + (1 + (((l5.map fun y2 => (y2.size + 1)).sum + 1) + (((l6.map fun y2 => (1 + (1 + ((y2.f2.size + 1) + (1 + (((y2.f4.map fun y3 => 1).sum + 1) + 1)))))).sum + 1) + (((l7.map fun y2 => (1 + ((y2.f1.size + 1) + (((y2.f2.map fun y3 => (1 + ((y3.f1.map fun y4 => 1).sum + 1))).sum + 1) + (1 + 1))))).sum + 1) + (((l8.map fun y2 => ((y2.f0.size + 1) + (1 + (1 + ((y2.f1.f2.map fun y3 => 1).sum + 1))))).sum + 1) + ((l9.map fun y2 => (1 + 1)).sum + 1)))))))))) ≤ 1048576) : FmB ⟨a0, a1, a2, a3, a4, l5, l6, l7, l8, l9⟩ := by
 have b5 := Zp (fun y2 : ByteArray => y2.size + 1) 1 (fun _ => by omega) l5
 have b6 := Zp (fun y2 : S52 => (1 + (1 + ((y2.f2.size + 1) + (1 + (((y2.f4.map fun y3 => 1).sum + 1) + 1)))))) 1 (fun _ => by omega) l6
 have b7 := Zp (fun y2 : S46 => (1 + ((y2.f1.size + 1) + (((y2.f2.map fun y3 => (1 + ((y3.f1.map fun y4 => 1).sum + 1))).sum + 1) + (1 + 1))))) 1 (fun _ => by omega) l7
 have b8 := Zp (fun y2 : S86 => ((y2.f0.size + 1) + (1 + (1 + ((y2.f1.f2.map fun y3 => 1).sum + 1))))) 2 (fun _ => by omega) l8
 have b9 := Zp (fun y2 : S77 => 1 + 1) 1 (fun _ => by omega) l9
 refine ⟨g0, g1, g2, g3, g4, ⟨by show l5.length ≤ _; omega, g5.2.2⟩, ⟨by show l6.length ≤ _; omega, fun y hy => ?_⟩, ⟨by show l7.length ≤ _; omega, fun y hy => ?_⟩, ⟨by show l8.length ≤ _; omega, fun y hy => ?_, fun y hy => ?_⟩, ⟨by show l9.length ≤ _; omega, g9.2.2⟩⟩
 ·have h := g6.2.2 y hy
  have m := Y5 (fun y2 : S52 => (1 + (1 + ((y2.f2.size + 1) + (1 + (((y2.f4.map fun y3 => 1).sum + 1) + 1)))))) l6 y hy
  exact ⟨h.1, h.2.1, h.2.2.1, h.2.2.2.1, QM (by omega) h.2.2.2.2.1.2.2, h.2.2.2.2.2⟩
 ·have h := g7.2.2 y hy
  have m := Y5 (fun y2 : S46 => (1 + ((y2.f1.size + 1) + (((y2.f2.map fun y3 => (1 + ((y3.f1.map fun y4 => 1).sum + 1))).sum + 1) + (1 + 1))))) l7 y hy
  have b := Zp (fun y3 : S108 => 1 + ((y3.f1.map fun y4 => 1).sum + 1)) 1 (fun _ => by omega) y.f2
  refine ⟨h.1, h.2.1, ⟨by omega, fun e he => ⟨(h.2.2.1.2.2 e he).1, QM ?_ (h.2.2.1.2.2 e he).2.2.2⟩⟩, h.2.2.2.1, h.2.2.2.2⟩
  have m2 := Y5 (fun y3 : S108 => 1 + ((y3.f1.map fun y4 => 1).sum + 1)) y.f2 e he
  omega
 ·have m := Y5 (fun y2 : S86 => ((y2.f0.size + 1) + (1 + (1 + ((y2.f1.f2.map fun y3 => 1).sum + 1))))) l8 y hy
  omega
 ·have h := g8.2.2 y hy
  have m := Y5 (fun y2 : S86 => ((y2.f0.size + 1) + (1 + (1 + ((y2.f1.f2.map fun y3 => 1).sum + 1))))) l8 y hy
  exact ⟨h.1, h.2.1, h.2.2.1, QM (by omega) h.2.2.2.2.2⟩
theorem QK (a0 a1 a2 a3 a4 : Int) (A5 : Option Addr) (c5 : Nat) (l5 : List ByteArray) (A6 : Option Addr) (c6 : Nat) (l6 : List S52) (A7 : Option Addr) (c7 : Nat) (l7 : List S46) (A8 : Option Addr) (c8 : Nat) (l8 : List S86) (A9 : Option Addr) (c9 : Nat) (l9 : List S77) (W : World) (g0 : (Lit.int .i64 a0).wf = true) (g1 : (Lit.int .i64 a1).wf = true) (g2 : (Lit.int .i64 a2).wf = true) (g3 : (Lit.int .i64 a3).wf = true) (g4 : (Lit.int .i64 a4).wf = true)
  (g5 : l5.length * 16 ≤ 140737488351232 ∧ l5.length ≤ 9223372036854775807 ∧ ∀ y2 ∈ l5, y2.size ≤ 140737488351232)
  (g6 : l6.length * 72 ≤ 140737488351232 ∧ l6.length ≤ 9223372036854775807 ∧ ∀ y2 ∈ l6, ((Lit.int .i64 y2.f0).wf = true ∧ (Lit.int .i64 y2.f1).wf = true ∧ y2.f2.size ≤ 140737488351232 ∧ (Lit.int .i64 y2.f3).wf = true ∧ (y2.f4.length * 8 ≤ 140737488351232 ∧ y2.f4.length ≤ 9223372036854775807 ∧ ∀ y3 ∈ y2.f4, (Lit.int .i64 y3).wf = true) ∧ (Lit.int .i64 y2.f5).wf = true))
  (g7 : l7.length * 64 ≤ 140737488351232 ∧ l7.length ≤ 9223372036854775807 ∧ ∀ y2 ∈ l7, ((Lit.int .i64 y2.f0).wf = true ∧ y2.f1.size ≤ 140737488351232 ∧ (y2.f2.length * 32 ≤ 140737488351232 ∧ y2.f2.length ≤ 9223372036854775807 ∧ ∀ y3 ∈ y2.f2, ((Lit.int .i64 y3.f0).wf = true ∧ (y3.f1.length * 8 ≤ 140737488351232 ∧ y3.f1.length ≤ 9223372036854775807 ∧ ∀ y4 ∈ y3.f1, (Lit.int .i64 y4).wf = true))) ∧ (Lit.int .i64 y2.f3).wf = true ∧ (Lit.int .i64 y2.f4).wf = true))
  (g8 : l8.length * 56 ≤ 140737488351232 ∧ l8.length ≤ 9223372036854775807 ∧ ∀ y2 ∈ l8, (y2.f0.size ≤ 140737488351232 ∧ ((Lit.int .i64 y2.f1.f0).wf = true ∧ (Lit.int .i64 y2.f1.f1).wf = true ∧ (y2.f1.f2.length * 8 ≤ 140737488351232 ∧ y2.f1.f2.length ≤ 9223372036854775807 ∧ ∀ y3 ∈ y2.f1.f2, (Lit.int .i64 y3).wf = true))))
  (g9 : l9.length * 16 ≤ 140737488351232 ∧ l9.length ≤ 9223372036854775807 ∧ ∀ y2 ∈ l9, ((Lit.int .i64 y2.f0).wf = true ∧ (Lit.int .i64 y2.f1).wf = true))
  (hC5 : Kd.C Kd.string W A5 l5.length l5) (hl5 : l5.length ≤ c5) (hC6 : Kd.C k52 W A6 l6.length l6) (hl6 : l6.length ≤ c6) (hC7 : Kd.C k46 W A7 l7.length l7) (hl7 : l7.length ≤ c7) (hC8 : Kd.C k86 W A8 l8.length l8) (hl8 : l8.length ≤ c8) (hC9 : Kd.C k77 W A9 l9.length l9) (hl9 : l9.length ≤ c9)
  (hM : (1 + (1 + (1 + (1 + (1 + (((l5.map fun y2 => (y2.size + 1)).sum + 1) + (((l6.map fun y2 => (1 + (1 + ((y2.f2.size + 1) + (1 + (((y2.f4.map fun y3 => 1).sum + 1) + 1)))))).sum + 1) + (((l7.map fun y2 => (1 + ((y2.f1.size + 1) + (((y2.f2.map fun y3 => (1 + ((y3.f1.map fun y4 => 1).sum + 1))).sum + 1) + (1 + 1))))).sum + 1) + (((l8.map fun y2 => ((y2.f0.size + 1) + (1 + (1 + ((y2.f1.f2.map fun y3 => 1).sum + 1))))).sum + 1) + ((l9.map fun y2 => (1 + 1)).sum + 1)))))))))) ≤ 1048576) :
  Calls Tryz.prog 3 #[.agg #[.int .i64 a0, .int .i64 a1, .int .i64 a2, .int .i64 a3, .int .i64 a4, .slice A5 l5.length c5, .slice A6 l6.length c6, .slice A7 l7.length c7, .slice A8 l8.length c8, .slice A9 l9.length c9]] W fun e w' => e = .returned (.bool true) ∧ Below W.heap.size W w' := by
 exact zce (x := ⟨a0, a1, a2, a3, a4, l5, l6, l7, l8, l9⟩) ⟨_, _, _, _, _, rfl, ⟨A5, c5, rfl, hl5, hC5⟩, ⟨A6, c6, rfl, hl6, hC6⟩, ⟨A7, c7, rfl, hl7, hC7⟩, ⟨A8, c8, rfl, hl8, hC8⟩, ⟨A9, c9, rfl, hl9, hC9⟩⟩ (FmB.of a0 a1 a2 a3 a4 l5 l6 l7 l8 l9 g0 g1 g2 g3 g4 g5 g6 g7 g8 g9 hM)
section
variable {H : Type} (enc : TypeId × Value → H) (P : Program) (W : World)
def j8 {α : Type} (t : TypeId) (d : Kd α) (G : α → Prop) : Prop :=
 P.cellsOf t = d.sz ∧ ∀ (fuel : Nat) (cs : List Value) (x : DataW H × List MemPlace), DataW.trod enc P W 0 (fun _ => true) true fuel t cs = some x → (∀ n ∈ x.1.weights P t, n ≤ reachBytes) → ∃ y, d.K W y cs ∧ G y
def Zn {α : Type} (ts : List TypeId) (d : Kd α) (G : α → Prop) : Prop :=
 (ts.map P.cellsOf).sum = d.sz ∧ ∀ (fuel : Nat) (cs : List Value) (xs : List (DataW H × List MemPlace)), cs.length = (ts.map P.cellsOf).sum → xs.length = ts.length →
  (∀ i t, ts[i]? = some t → DataW.trod enc P W 0 (fun _ => true) true fuel t ((cs.drop ((ts.take i).map P.cellsOf).sum).take (P.cellsOf t)) = xs[i]?) →
  (∀ n ∈ DataW.weightsEach P ts (xs.map (·.1)), n ≤ reachBytes) → ∃ y, d.K W y cs ∧ G y
variable {enc P W}
theorem j8.int {t : TypeId} {k : IntKind} (ht : P.underlying t = some (.int k)) (hc : P.cellsOf t = 1) : j8 enc P W t (Kd.int k) (fun n => (Lit.int k n).wf = true) := by
 refine ⟨hc, fun fuel cs x h _ => ?_⟩
 obtain ⟨n, rfl, _, hw⟩ := DataW.trod_int ht h
 exact ⟨n, rfl, hw⟩
theorem j8.bool {t : TypeId} (ht : P.underlying t = some .bool) (hc : P.cellsOf t = 1) : j8 enc P W t Kd.bool (fun _ => True) := by
 refine ⟨hc, fun fuel cs x h _ => ?_⟩
 cases fuel with
 | zero => simp [DataW.trod] at h
 | succ n =>
  unfold DataW.trod at h
  rw [ht] at h
  split at h <;> first | exact ⟨_, rfl, trivial⟩ | simp_all
theorem j8.string {t : TypeId} (ht : P.underlying t = some .string) (hc : P.cellsOf t = 1) : j8 enc P W t Kd.string (fun s => s.size ≤ 140737488351232) := by
 refine ⟨hc, fun fuel cs x h hw => ?_⟩
 obtain ⟨s, rfl, rfl, _⟩ := DataW.trod_string ht h
 refine ⟨s, rfl, ?_⟩
 have := hw s.data.toList.length (by simp [DataW.weights])
 simpa [reachBytes, Array.length_toList] using this
theorem XM {e : TypeId} {ds : List (DataW H)} {d : DataW H} (h : d ∈ ds) : ∀ n ∈ d.weights P e, n ∈ DataW.weightsAll P e ds := by
 induction ds with
 | nil => cases h
 | cons d' ds ih =>
  intro n hn
  rw [DataW.weightsAll, List.mem_append]
  rcases List.mem_cons.1 h with rfl | h
  ·exact .inl hn
  ·exact .inr (ih h n hn)
open Classical in
theorem XK {α : Type} (z : α) (R : Nat → α → Prop) (n : Nat) (h : ∀ i, i < n → ∃ y, R i y) : ∃ l : List α, l.length = n ∧ ∀ i (hi : i < n) (hl : i < l.length), R i l[i] := by
 refine ⟨(List.range n).map fun i => if h' : ∃ y, R i y then Classical.choose h' else z, by simp, fun i hi hl => ?_⟩
 have he := h i hi
 simp only [List.getElem_map, List.getElem_range, dif_pos he]
 exact Classical.choose_spec he
theorem j8.slice {α : Type} (z : α) {t e : TypeId} {d : Kd α} {G : α → Prop} (bytes : Nat) (ht : P.underlying t = some (.slice e)) (hc : P.cellsOf t = 1) (hb : P.bytesOf e = bytes) (h : j8 enc P W e d G) :
  j8 enc P W t (Kd.slice e d) (fun xs => xs.length * bytes ≤ 140737488351232 ∧ xs.length ≤ 9223372036854775807 ∧ ∀ x ∈ xs, G x) := by
 refine ⟨hc, fun fuel cs x hx hw => ?_⟩
 rcases Go.Deep.open_slice ht hx with ⟨rfl, rfl⟩ | ⟨a, len, cap, m, n, D, Pl, rfl, _, hlc, hcm, hm, rfl, hel⟩
 ·exact ⟨[], ⟨none, 0, rfl, Nat.le_refl _, Kd.C_nil d W⟩, by simp, by simp, fun x hx => by cases hx⟩
 ·have hlm : len ≤ m := by rw [hm]; split <;> omega
  have hwt : DataW.weights P t (.slice ((List.range len).map D) ((List.range (m - len)).map fun j => D (len + j))) =
    (((List.range len).map D).length + ((List.range (m - len)).map fun j => D (len + j)).length) * P.bytesOf e :: (DataW.weightsAll P e ((List.range len).map D) ++ DataW.weightsAll P e ((List.range (m - len)).map fun j => D (len + j))) := by
   rw [DataW.weights]
   simp only [ht]
  have hel' : ∀ i, i < len → ∃ y, (∃ cs', W.cells? 0 (a.add (i * P.cellsOf e)) (P.cellsOf e) = some cs' ∧ d.K W y cs') ∧ G y := by
   intro i hi
   obtain ⟨cs', h1, h2⟩ := hel i (by omega)
   obtain ⟨y, hy, hg⟩ := h.2 n cs' _ h2 (fun n hn => hw n (by
    rw [hwt]
    exact List.mem_cons_of_mem _ (List.mem_append_left _ (XM (List.mem_map.2 ⟨i, List.mem_range.2 hi, rfl⟩) n hn))))
   exact ⟨y, ⟨cs', h1, hy⟩, hg⟩
  obtain ⟨l, hll, hl⟩ := XK z _ len hel'
  have hb1 := hw _ (by rw [hwt]; exact List.mem_cons_self)
  have hle : len * bytes ≤ 140737488351232 := by
   simp only [List.length_map, List.length_range, hb, reachBytes] at hb1
   exact Nat.le_trans (Nat.mul_le_mul_right _ (by omega)) hb1
  have hmx : len ≤ 9223372036854775807 := by
   simp only [maxLen] at hcm
   omega
  refine ⟨l, ⟨some a, cap, by rw [hll], by omega, by rw [hll], by omega, fun _ => ⟨a, rfl, fun j p hj => ?_⟩⟩, by rw [hll]; exact hle, by omega, fun x hx => ?_⟩
  ·obtain ⟨hjl, rfl⟩ := List.getElem?_eq_some_iff.1 hj
   obtain ⟨⟨cs', h1, hK⟩, _⟩ := hl j (by omega) hjl
   obtain ⟨_, hcl, hcell⟩ := World.cells?_some h1
   refine ⟨cs', by rw [hcl, h.1], hK, fun i u hu => ?_⟩
   have hi : i < P.cellsOf e := by
    have := (List.getElem?_eq_some_iff.1 hu).1
    omega
   have := hcell i hi
   rw [hu, VM, h.1] at this
   exact this
  ·obtain ⟨j, hj, rfl⟩ := List.getElem_of_mem hx
   exact (hl j (by omega) hj).2
theorem Zn.one {α : Type} {t : TypeId} {d : Kd α} {G : α → Prop} (h : j8 enc P W t d G) : Zn enc P W [t] d G := by
 refine ⟨by simp [h.1], fun fuel cs xs hl hx hr hw => ?_⟩
 have hr0 := hr 0 t rfl
 simp only [List.take_zero, List.map_nil, List.sum_nil, List.drop_zero] at hr0
 have hc : cs.length = P.cellsOf t := by simpa using hl
 rw [List.take_of_length_le (by omega)] at hr0
 match xs, hx with
 | [x], _ =>
  exact h.2 fuel cs x hr0 (fun n hn => hw n (by simp [DataW.weightsEach, hn]))
theorem Zn.cons {α β : Type} {t : TypeId} {ts : List TypeId} {d : Kd α} {d' : Kd β} {G : α → Prop} {G' : β → Prop} (h : j8 enc P W t d G) (h' : Zn enc P W ts d' G') :
  Zn enc P W (t :: ts) (Kd.pair d d') (fun y => G y.1 ∧ G' y.2) := by
 refine ⟨by simp [Kd.pair, h.1, h'.1], fun fuel cs xs hl hx hr hw => ?_⟩
 match xs, hx with
 | x :: xs, hx =>
  have hr0 := hr 0 t rfl
  simp only [List.take_zero, List.map_nil, List.sum_nil, List.drop_zero] at hr0
  obtain ⟨y, hy, hg⟩ := h.2 fuel _ x hr0 (fun n hn => hw n (by simp [DataW.weightsEach, hn]))
  have hl2 : (cs.drop (P.cellsOf t)).length = (ts.map P.cellsOf).sum := by
   rw [List.length_drop, hl, List.map_cons, List.sum_cons]
   omega
  obtain ⟨y', hy', hg'⟩ := h'.2 fuel (cs.drop (P.cellsOf t)) xs hl2 (by simpa using hx) (fun i t' ht' => by
   have := hr (i + 1) t' (by simpa using ht')
   simp only [List.take_succ_cons, List.map_cons, List.sum_cons, List.getElem?_cons_succ] at this
   rw [List.drop_drop]
   exact this) (fun n hn => hw n (by simp only [List.map_cons, DataW.weightsEach, List.mem_append]; exact .inr hn))
  exact ⟨(y, y'), ⟨_, _, (List.take_append_drop (P.cellsOf t) cs).symm, hy, hy'⟩, hg, hg'⟩
theorem j8.struct {α β : Type} {t : TypeId} {fs : Array Field} (ts : List TypeId) {d : Kd α} {G : α → Prop} (f : β → α) (g : α → β) (hfg : ∀ a, f (g a) = a) (ht : P.underlying t = some (.struct fs)) (hts : fs.toList.map (·.type) = ts)
  (hoff0 : fs.toList.map (·.offset) = (List.range fs.size).map fun i => ((ts.take i).map P.cellsOf).sum) (hc : P.cellsOf t = (ts.map P.cellsOf).sum) (h : Zn enc P W ts d G) : j8 enc P W t (Kd.iso d f) (fun y => G (f y)) := by
 have hoff : ∀ i fd, fs[i]? = some fd → fd.offset = ((ts.take i).map P.cellsOf).sum := by
  intro i fd hi
  have h1 : (fs.toList.map (·.offset))[i]? = some fd.offset := by rw [List.getElem?_map, Array.getElem?_toList, hi]; rfl
  have hlt : i < fs.size := (Array.getElem?_eq_some_iff.1 hi).1
  rw [hoff0, List.getElem?_map, List.getElem?_range hlt] at h1
  simpa using h1.symm
 refine ⟨hc.trans h.1, fun fuel cs x hx hw => ?_⟩
 obtain ⟨xs, n, rfl, rfl, hcl, hxl, hfd⟩ := DataW.trod_struct ht hx
 have hwt : DataW.weights P t (.agg (xs.map (·.1)) : DataW H) = DataW.weightsEach P ts (xs.map (·.1)) := by
  rw [DataW.weights]
  simp only [ht, hts]
 obtain ⟨y, hy, hg⟩ := h.2 n cs xs (hcl.trans hc) (by rw [hxl, ← hts]; simp) (fun i t' ht' => by
  rw [← hts, List.getElem?_map, Option.map_eq_some_iff] at ht'
  obtain ⟨fd, hfi, rfl⟩ := ht'
  rw [Array.getElem?_toList] at hfi
  rw [← hoff i fd hfi]
  exact hfd i fd hfi) (fun n hn => hw n (by rw [hwt]; exact hn))
 exact ⟨g y, by show d.K W (f (g y)) cs; rw [hfg]; exact hy, by show G (f (g y)); rw [hfg]; exact hg⟩
theorem JB {ts : List TypeId} : ∀ {ds : List (DataW H)} {j : Nat} {t : TypeId} {d : DataW H}, ts[j]? = some t → ds[j]? = some d → ∀ n ∈ d.weights P t, n ∈ DataW.weightsEach P ts ds := by
 induction ts with
 | nil => intro ds j t d h; simp at h
 | cons t' ts ih =>
  intro ds j t d h h' n hn
  cases ds with
  | nil => simp at h'
  | cons d' ds =>
   rw [DataW.weightsEach, List.mem_append]
   cases j with
   | zero =>
    simp only [List.getElem?_cons_zero, Option.some.injEq] at h h'
    subst h h'
    exact .inl hn
   | succ j => exact .inr (ih (by simpa using h) (by simpa using h') n hn)
end
theorem zcu {H : Type} {α : Type} (m : α → Nat) (D : Nat → DataW H) (l : List α) (n : Nat) (hl : l.length = n) (h : ∀ i (hi : i < n) (hl' : i < l.length), m l[i] ≤ Rows.uptoBulk (D i)) : (l.map m).sum ≤ Rows.uptoBulkAll ((List.range n).map D) := by
 subst hl
 induction l generalizing D with
 | nil => exact Nat.zero_le _
 | cons x l ih =>
  rw [List.length_cons, List.range_succ_eq_map, List.map_cons, List.map_cons, List.map_map, List.sum_cons, Rows.uptoBulkAll]
  exact Nat.add_le_add (h 0 (by simp) (by simp)) (ih (D ∘ Nat.succ) (fun i hi hl' => h (i + 1) (by simpa using hi) (by simpa using hl')))
section
variable {H : Type} (enc : TypeId × Value → H) (P : Program) (W : World)
def ye {α : Type} (t : TypeId) (d : Kd α) (G : α → Prop) (m : α → Nat) : Prop :=
 P.cellsOf t = d.sz ∧ ∀ (fuel : Nat) (cs : List Value) (x : DataW H × List MemPlace), DataW.trod enc P W 0 (fun _ => true) true fuel t cs = some x → (∀ n ∈ x.1.weights P t, n ≤ reachBytes) → ∃ y, d.K W y cs ∧ G y ∧ m y ≤ Rows.uptoBulk x.1
def yk {α : Type} (ts : List TypeId) (d : Kd α) (G : α → Prop) (m : α → Nat) : Prop :=
 (ts.map P.cellsOf).sum = d.sz ∧ ∀ (fuel : Nat) (cs : List Value) (xs : List (DataW H × List MemPlace)), cs.length = (ts.map P.cellsOf).sum → xs.length = ts.length →
  (∀ i t, ts[i]? = some t → DataW.trod enc P W 0 (fun _ => true) true fuel t ((cs.drop ((ts.take i).map P.cellsOf).sum).take (P.cellsOf t)) = xs[i]?) →
  (∀ n ∈ DataW.weightsEach P ts (xs.map (·.1)), n ≤ reachBytes) → ∃ y, d.K W y cs ∧ G y ∧ m y ≤ Rows.uptoBulkAll (xs.map (·.1))
variable {enc P W}
theorem ye.int {t : TypeId} {k : IntKind} (ht : P.underlying t = some (.int k)) (hc : P.cellsOf t = 1) : ye enc P W t (Kd.int k) (fun n => (Lit.int k n).wf = true) (fun _ => 1) := by
 refine ⟨hc, fun fuel cs x h _ => ?_⟩
 obtain ⟨n, rfl, rfl, hw⟩ := DataW.trod_int ht h
 exact ⟨n, rfl, hw, Nat.le_refl _⟩
theorem ye.bool {t : TypeId} (ht : P.underlying t = some .bool) (hc : P.cellsOf t = 1) : ye enc P W t Kd.bool (fun _ => True) (fun _ => 0) := by
 refine ⟨hc, fun fuel cs x h _ => ?_⟩
 cases fuel with
 | zero => simp [DataW.trod] at h
 | succ n =>
  unfold DataW.trod at h
  rw [ht] at h
  split at h <;> first | exact ⟨_, rfl, trivial, Nat.zero_le _⟩ | simp_all
theorem ye.string {t : TypeId} (ht : P.underlying t = some .string) (hc : P.cellsOf t = 1) : ye enc P W t Kd.string (fun s => s.size ≤ 140737488351232) (fun s => s.size + 1) := by
 refine ⟨hc, fun fuel cs x h hw => ?_⟩
 obtain ⟨s, rfl, rfl, _⟩ := DataW.trod_string ht h
 refine ⟨s, rfl, ?_, ?_⟩
 ·have := hw s.data.toList.length (by simp [DataW.weights])
  simpa [reachBytes, Array.length_toList] using this
 ·show s.size + 1 ≤ s.data.toList.length + 1
  rw [Array.length_toList]
  exact Nat.le_refl _
theorem ye.slice {α : Type} (z : α) {t e : TypeId} {d : Kd α} {G : α → Prop} {m : α → Nat} (bytes : Nat) (ht : P.underlying t = some (.slice e)) (hc : P.cellsOf t = 1) (hb : P.bytesOf e = bytes) (h : ye enc P W e d G m) :
  ye enc P W t (Kd.slice e d) (fun xs => xs.length * bytes ≤ 140737488351232 ∧ xs.length ≤ 9223372036854775807 ∧ ∀ x ∈ xs, G x) (fun xs => (xs.map m).sum + 1) := by
 refine ⟨hc, fun fuel cs x hx hw => ?_⟩
 rcases Go.Deep.open_slice ht hx with ⟨rfl, rfl⟩ | ⟨a, len, cap, mm, n, D, Pl, rfl, _, hlc, hcm, hm, rfl, hel⟩
 ·exact ⟨[], ⟨none, 0, rfl, Nat.le_refl _, Kd.C_nil d W⟩, ⟨by simp, by simp, fun x hx => by cases hx⟩, by simp [Rows.uptoBulk]⟩
 ·have hlm : len ≤ mm := by rw [hm]; split <;> omega
  have hwt : DataW.weights P t (.slice ((List.range len).map D) ((List.range (mm - len)).map fun j => D (len + j))) =
    (((List.range len).map D).length + ((List.range (mm - len)).map fun j => D (len + j)).length) * P.bytesOf e :: (DataW.weightsAll P e ((List.range len).map D) ++ DataW.weightsAll P e ((List.range (mm - len)).map fun j => D (len + j))) := by
   rw [DataW.weights]
   simp only [ht]
  have hel' : ∀ i, i < len → ∃ y, (∃ cs', W.cells? 0 (a.add (i * P.cellsOf e)) (P.cellsOf e) = some cs' ∧ d.K W y cs') ∧ G y ∧ m y ≤ Rows.uptoBulk (D i) := by
   intro i hi
   obtain ⟨cs', h1, h2⟩ := hel i (by omega)
   obtain ⟨y, hy, hg, hmm⟩ := h.2 n cs' _ h2 (fun n hn => hw n (by
    rw [hwt]
    exact List.mem_cons_of_mem _ (List.mem_append_left _ (XM (List.mem_map.2 ⟨i, List.mem_range.2 hi, rfl⟩) n hn))))
   exact ⟨y, ⟨cs', h1, hy⟩, hg, hmm⟩
  obtain ⟨l, hll, hl⟩ := XK z _ len hel'
  have hb1 := hw _ (by rw [hwt]; exact List.mem_cons_self)
  have hle : len * bytes ≤ 140737488351232 := by
   simp only [List.length_map, List.length_range, hb, reachBytes] at hb1
   exact Nat.le_trans (Nat.mul_le_mul_right _ (by omega)) hb1
  have hmx : len ≤ 9223372036854775807 := by
   simp only [maxLen] at hcm
   omega
  refine ⟨l, ⟨some a, cap, by rw [hll], by omega, by rw [hll], by omega, fun _ => ⟨a, rfl, fun j p hj => ?_⟩⟩, ⟨by rw [hll]; exact hle, by omega, fun x hx => ?_⟩, ?_⟩
  ·obtain ⟨hjl, rfl⟩ := List.getElem?_eq_some_iff.1 hj
   obtain ⟨⟨cs', h1, hK⟩, _, _⟩ := hl j (by omega) hjl
   obtain ⟨_, hcl, hcell⟩ := World.cells?_some h1
   refine ⟨cs', by rw [hcl, h.1], hK, fun i u hu => ?_⟩
   have hi : i < P.cellsOf e := by
    have := (List.getElem?_eq_some_iff.1 hu).1
    omega
   have := hcell i hi
   rw [hu, VM, h.1] at this
   exact this
  ·obtain ⟨j, hj, rfl⟩ := List.getElem_of_mem hx
   exact (hl j (by omega) hj).2.1
  ·have hsum : (l.map m).sum ≤ Rows.uptoBulkAll ((List.range len).map D) := zcu m D l len hll (fun i hi hl' => (hl i hi hl').2.2)
   show (l.map m).sum + 1 ≤ Rows.uptoBulkAll _ + Rows.uptoBulkAll _ + 1
   omega
theorem yk.one {α : Type} {t : TypeId} {d : Kd α} {G : α → Prop} {m : α → Nat} (h : ye enc P W t d G m) : yk enc P W [t] d G m := by
 refine ⟨by simp [h.1], fun fuel cs xs hl hx hr hw => ?_⟩
 have hr0 := hr 0 t rfl
 simp only [List.take_zero, List.map_nil, List.sum_nil, List.drop_zero] at hr0
 have hc : cs.length = P.cellsOf t := by simpa using hl
 rw [List.take_of_length_le (by omega)] at hr0
 match xs, hx with
 | [x], _ =>
  obtain ⟨y, hy, hg, hmm⟩ := h.2 fuel cs x hr0 (fun n hn => hw n (by simp [DataW.weightsEach, hn]))
  exact ⟨y, hy, hg, by simpa [Rows.uptoBulkAll] using hmm⟩
theorem yk.cons {α β : Type} {t : TypeId} {ts : List TypeId} {d : Kd α} {d' : Kd β} {G : α → Prop} {G' : β → Prop} {m : α → Nat} {m' : β → Nat} (h : ye enc P W t d G m) (h' : yk enc P W ts d' G' m') :
  yk enc P W (t :: ts) (Kd.pair d d') (fun y => G y.1 ∧ G' y.2) (fun y => m y.1 + m' y.2) := by
 refine ⟨by simp [Kd.pair, h.1, h'.1], fun fuel cs xs hl hx hr hw => ?_⟩
 match xs, hx with
 | x :: xs, hx =>
  have hr0 := hr 0 t rfl
  simp only [List.take_zero, List.map_nil, List.sum_nil, List.drop_zero] at hr0
  obtain ⟨y, hy, hg, hm1⟩ := h.2 fuel _ x hr0 (fun n hn => hw n (by simp [DataW.weightsEach, hn]))
  have hl2 : (cs.drop (P.cellsOf t)).length = (ts.map P.cellsOf).sum := by
   rw [List.length_drop, hl, List.map_cons, List.sum_cons]
   omega
  obtain ⟨y', hy', hg', hm2⟩ := h'.2 fuel (cs.drop (P.cellsOf t)) xs hl2 (by simpa using hx) (fun i t' ht' => by
   have := hr (i + 1) t' (by simpa using ht')
   simp only [List.take_succ_cons, List.map_cons, List.sum_cons, List.getElem?_cons_succ] at this
   rw [List.drop_drop]
   exact this) (fun n hn => hw n (by simp only [List.map_cons, DataW.weightsEach, List.mem_append]; exact .inr hn))
  exact ⟨(y, y'), ⟨_, _, (List.take_append_drop (P.cellsOf t) cs).symm, hy, hy'⟩, ⟨hg, hg'⟩, Nat.add_le_add hm1 hm2⟩
theorem ye.struct {α β : Type} {t : TypeId} {fs : Array Field} (ts : List TypeId) {d : Kd α} {G : α → Prop} {m : α → Nat} (f : β → α) (g : α → β) (hfg : ∀ a, f (g a) = a) (ht : P.underlying t = some (.struct fs)) (hts : fs.toList.map (·.type) = ts)
  (hoff0 : fs.toList.map (·.offset) = (List.range fs.size).map fun i => ((ts.take i).map P.cellsOf).sum) (hc : P.cellsOf t = (ts.map P.cellsOf).sum) (h : yk enc P W ts d G m) : ye enc P W t (Kd.iso d f) (fun y => G (f y)) (fun y => m (f y)) := by
 have hoff : ∀ i fd, fs[i]? = some fd → fd.offset = ((ts.take i).map P.cellsOf).sum := by
  intro i fd hi
  have h1 : (fs.toList.map (·.offset))[i]? = some fd.offset := by rw [List.getElem?_map, Array.getElem?_toList, hi]; rfl
  have hlt : i < fs.size := (Array.getElem?_eq_some_iff.1 hi).1
  rw [hoff0, List.getElem?_map, List.getElem?_range hlt] at h1
  simpa using h1.symm
 refine ⟨hc.trans h.1, fun fuel cs x hx hw => ?_⟩
 obtain ⟨xs, n, rfl, rfl, hcl, hxl, hfd⟩ := DataW.trod_struct ht hx
 have hwt : DataW.weights P t (.agg (xs.map (·.1)) : DataW H) = DataW.weightsEach P ts (xs.map (·.1)) := by
  rw [DataW.weights]
  simp only [ht, hts]
 obtain ⟨y, hy, hg, hmm⟩ := h.2 n cs xs (hcl.trans hc) (by rw [hxl, ← hts]; simp) (fun i t' ht' => by
  rw [← hts, List.getElem?_map, Option.map_eq_some_iff] at ht'
  obtain ⟨fd, hfi, rfl⟩ := ht'
  rw [Array.getElem?_toList] at hfi
  rw [← hoff i fd hfi]
  exact hfd i fd hfi) (fun n hn => hw n (by rw [hwt]; exact hn))
 exact ⟨g y, by show d.K W (f (g y)) cs; rw [hfg]; exact hy, by show G (f (g y)); rw [hfg]; exact hg, by show m (f (g y)) ≤ Rows.uptoBulkAll _ + 1; rw [hfg]; omega⟩
end
end Go.Proofs.YtepipnpfggnadaaGreat.Q
