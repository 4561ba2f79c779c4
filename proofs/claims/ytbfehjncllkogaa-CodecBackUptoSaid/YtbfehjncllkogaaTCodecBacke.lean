/- Texts of this session laid together (shrink.py): what the claim's law rests on. -/
import Derived.Below
import Derived.Deep.Draws
import Derived.Deep.AppendLies
import Derived.Maps.AppendAt
import Derived.OwnWalk
import Derived.Laws.BytesArg
import Derived.Laws.MakeOwn
import Derived.Laws.OwnMore
import Derived.Deep.OwnRows
import Derived.Tactics
import Derived.Lib.ConvBytes
import Derived.Laws.Slices
import Derived.WalkKit
import Derived.KernelRfl
import Derived.RowKit3
import Derived.Deep.LoopGhost
import Derived.Deep.QuietTactic
import Derived.BigQuiet
import Derived.WideLaws
import Derived.Deep.DeepCutAuto
import Derived.Deep.CutBlock
import Derived.Deep.RegionHeld3
import Derived.Laws.Rows
import Derived.Lib.AppendStr
import Derived.ArgAppend
import Derived.Laws.IdiomCopy
import Derived.RowKit
import Derived.OrdersHeld
import Derived.Laws.BitsLemmas
import Derived.Laws.StructEq
import Derived.Test.YtbfehjncllkogaaProg
import Derived.WalkMore
import Derived.Lib.Strings
import Derived.Outline
import Derived.Test.YtbfehjncllkogaaTCodecBackd
set_option linter.unusedVariables false
set_option linter.unusedSimpArgs false
set_option maxRecDepth 100000
set_option maxHeartbeats 8000000
open List renaming setIfInBounds_toArray → Vt
open List renaming set_cons_zero → Vu
open List renaming set_cons_succ → Vv
open List renaming map_toArray → Vw
open Option renaming bind_eq_some_iff → Vx
open Go.World renaming block_lt_of_cell? → Vy
open ByteArray renaming size_append → Vz
open Bool renaming eq_false_iff → VA
open List renaming length_append → VB
namespace Go.Proofs.Ytbfehjncllkogaa.Q
open Go.RowKit Go.Proofs.YtbfehjncllkogaaW.PrintWords Go.Proofs.YtbfehjncllkogaaW.PrintLast Go.Proofs.YtbfehjncllkogaaW.PrintMore
attribute [local go_sem] qw qx qN qK qg qh qz qu
def z5.l0 : Nat → List (S97) → List (S97) → Int → Int → Option (Bool)
 | 0, _, _, _, _ => none
 | k + 1, x0, x5, x6, x7 => if x7 < x6 then (if 0 ≤ x7 then (if x7 < (x5.length : Int) then ((zB.f ((zP x5 x7).f0) 1 1099511627776).bind fun t379 => (if t379 = true then ((zB.f ((zP x5 x7).f1) 0 63).bind fun t380 => (if t380 = true then (if x7 > 0 then (if 0 ≤ (wrap64 (x7 - 1)) then (if (wrap64 (x7 - 1)) < (x0.length : Int) then (if ((zP x5 x7).f0) ≤ ((zP x0 (wrap64 (x7 - 1))).f0) then (some false) else (z5.l0 k x0 x5 x6 (wrap64 (x7 + 1)))) else (none)) else (none)) else (z5.l0 k x0 x5 x6 (wrap64 (x7 + 1)))) else (some false))) else (some false))) else (none)) else (none)) else (some (decide ((x0.length : Int) ≤ 32)))
def z5.f (k : Nat) (l0 : List (S97)) : Option (Bool) := z5.l0 k l0 l0 (l0.length : Int) 0
theorem z5.calls (k : Nat) (A0 : Option Addr) (c0 : Nat) (l0 : List (S97)) (r : Bool) (w : World) (hr0 : Kd.C k97 w A0 l0.length l0) (hc0 : l0.length ≤ c0) (h : z5.f k l0 = some r) :
  Calls Try.prog 57 #[.slice A0 l0.length c0] w fun e w' => e = .returned (.bool r) ∧ Below w.heap.size w w' := by
 have hu97 := Try.underlying97
 have HR0 := za.mk hr0
 have HC0 := za.mk hc0
 clear hr0 hc0
 have HB := za.mk (Below.refl w.heap.size w)
 have H : (z5.l0 k l0 l0 (l0.length : Int) 0) = some r := h
 clear h
 have H' := za.mk H
 clear H
 go_enter Try.func57, Try.ntmps57
 go_wp2
 repeat (go_quiet (fail); try go_wp2)
 go_loopg [7] k (fun kq v7 w' => ∃ (x7_1 : Int), v7 = .int .i64 x7_1 ∧ za (z5.l0 kq l0 l0 (l0.length : Int) x7_1 = some r) ∧ za (kq ≤ k) ∧ za (Below w.heap.size w w'))
 case atStart => exact ⟨(0), (by first | rfl | (simp; done) | (simp [*]; done)), H', ⟨Nat.le_refl _⟩, ⟨by repeat (first | (with_reducible first | exact HB.out | apply zc | apply zb | apply zd) | exact HB.out)⟩⟩
 case round =>
  clear H'
  obtain ⟨x7_1, rfl, HA, HK1, HB⟩ := hrel
  cases gk with
  | zero => exact absurd HA.out (by simp [z5.l0])
  | succ k1 =>
   have H := HA.out
   clear HA
   simp only [z5.l0] at H
   by_cases c2 : x7_1 < (l0.length : Int)
   ·rw [if_pos c2] at H
    have c2b0 : decide (x7_1 < (l0.length : Int)) = true := decide_eq_true c2
    clear c2
    by_cases c3 : 0 ≤ x7_1
    ·rw [if_pos c3] at H
     have c3b0 : decide (0 ≤ x7_1) = true := decide_eq_true c3
     clear c3
     by_cases c4 : x7_1 < (l0.length : Int)
     ·rw [if_pos c4] at H
      have c4b0 : decide (x7_1 < (l0.length : Int)) = true := decide_eq_true c4
      clear c4
      replace H := Vx.mp H
      obtain ⟨t379, A50, H⟩ := H
      replace H : (if t379 = true then ((zB.f ((zP l0 x7_1).f1) 0 63).bind fun t380 => (if t380 = true then (if x7_1 > 0 then (if 0 ≤ (wrap64 (x7_1 - 1)) then (if (wrap64 (x7_1 - 1)) < (l0.length : Int) then (if ((zP l0 x7_1).f0) ≤ ((zP l0 (wrap64 (x7_1 - 1))).f0) then (some false) else (z5.l0 k1 l0 l0 (l0.length : Int) (wrap64 (x7_1 + 1)))) else (none)) else (none)) else (z5.l0 k1 l0 l0 (l0.length : Int) (wrap64 (x7_1 + 1)))) else (some false))) else (some false)) = some r := H
      have A5 := za.mk A50
      clear A50
      by_cases c6 : t379 = true
      ·subst c6
       have H1 : ((zB.f ((zP l0 x7_1).f1) 0 63).bind fun t380 => (if t380 = true then (if x7_1 > 0 then (if 0 ≤ (wrap64 (x7_1 - 1)) then (if (wrap64 (x7_1 - 1)) < (l0.length : Int) then (if ((zP l0 x7_1).f0) ≤ ((zP l0 (wrap64 (x7_1 - 1))).f0) then (some false) else (z5.l0 k1 l0 l0 (l0.length : Int) (wrap64 (x7_1 + 1)))) else (none)) else (none)) else (z5.l0 k1 l0 l0 (l0.length : Int) (wrap64 (x7_1 + 1)))) else (some false))) = some r := by rw [if_pos rfl] at H; exact H
       clear H
       have H := H1
       clear H1
       replace H := Vx.mp H
       obtain ⟨t380, A70, H⟩ := H
       replace H : (if t380 = true then (if x7_1 > 0 then (if 0 ≤ (wrap64 (x7_1 - 1)) then (if (wrap64 (x7_1 - 1)) < (l0.length : Int) then (if ((zP l0 x7_1).f0) ≤ ((zP l0 (wrap64 (x7_1 - 1))).f0) then (some false) else (z5.l0 k1 l0 l0 (l0.length : Int) (wrap64 (x7_1 + 1)))) else (none)) else (none)) else (z5.l0 k1 l0 l0 (l0.length : Int) (wrap64 (x7_1 + 1)))) else (some false)) = some r := H
       have A7 := za.mk A70
       clear A70
       by_cases c8 : t380 = true
       ·subst c8
        have H1 : (if x7_1 > 0 then (if 0 ≤ (wrap64 (x7_1 - 1)) then (if (wrap64 (x7_1 - 1)) < (l0.length : Int) then (if ((zP l0 x7_1).f0) ≤ ((zP l0 (wrap64 (x7_1 - 1))).f0) then (some false) else (z5.l0 k1 l0 l0 (l0.length : Int) (wrap64 (x7_1 + 1)))) else (none)) else (none)) else (z5.l0 k1 l0 l0 (l0.length : Int) (wrap64 (x7_1 + 1)))) = some r := by rw [if_pos rfl] at H; exact H
        clear H
        have H := H1
        clear H1
        by_cases c9 : x7_1 > 0
        ·rw [if_pos c9] at H
         have c9b0 : decide (0 < x7_1) = true := decide_eq_true c9
         clear c9
         obtain ⟨ji10, hji10⟩ : ∃ j_ : Int, (wrap64 (x7_1 - 1)) = j_ := ⟨_, rfl⟩
         replace H : (if 0 ≤ (ji10) then (if (ji10) < (l0.length : Int) then (if ((zP l0 x7_1).f0) ≤ ((zP l0 (ji10)).f0) then (some false) else (z5.l0 k1 l0 l0 (l0.length : Int) (wrap64 (x7_1 + 1)))) else (none)) else (none)) = some r := by first | (rw [hji10] at H; exact H) | (simp only [hji10] at H ⊢; exact H)
         (try rw [hji10] at A5)
         (try rw [hji10] at A7)
         have hji10w : (IntKind.i64.wrap (x7_1 - 1)) = ji10 := (zx _).trans hji10
         by_cases c11 : 0 ≤ (ji10)
         ·rw [if_pos c11] at H
          have c11b0 : decide (0 ≤ (ji10)) = true := decide_eq_true c11
          clear c11
          by_cases c12 : (ji10) < (l0.length : Int)
          ·rw [if_pos c12] at H
           have c12b0 : decide ((ji10) < (l0.length : Int)) = true := decide_eq_true c12
           clear c12
           by_cases c13 : ((zP l0 x7_1).f0) ≤ ((zP l0 (ji10)).f0)
           ·rw [if_pos c13] at H
            have c13b0 : decide (((zP l0 x7_1).f0) ≤ ((zP l0 (ji10)).f0)) = true := decide_eq_true c13
            clear c13
            obtain rfl := Option.some.inj H
            have p377 : 0 ≤ (x7_1 : Int) := of_decide_eq_true (by first | (with_reducible assumption) | assumption)
            have q377 : x7_1 < (l0.length : Int) := of_decide_eq_true (by first | (with_reducible assumption) | assumption)
            obtain ⟨ad377, e377, hx377_0, hx377_1⟩ := xU HR0.out x7_1 p377 q377
            cases e377
            replace hx377_0 := (HB.out.cell (Vy w _ hx377_0)).trans hx377_0
            replace hx377_1 := (HB.out.cell (Vy w _ hx377_1)).trans hx377_1
            replace p377 := eq_true p377
            replace q377 := eq_true q377
            go_wp2_with (first | ((with_reducible refine zC (N := 4) rfl ?_); refine zF ?hg (N := 4) ?hd (cs := #[.int .i64 0, .int .i64 0]) (t := 97) ?hr ?_; (case hd => rfl); (case hg => rfl); (case hr => first | (go_simp; done) | (go_simp; rfl)); intro gb378 hg w14 hbox hb; have n0_ := za.mk (zi (by repeat (first | (with_reducible first | exact HB.out | apply zc | apply zb | apply zd) | exact HB.out)) hb); have n1_ := za.mk (hbox); have n2_ := za.mk ((by rw [hg]; exact (zp (by repeat (first | (with_reducible first | exact HB.out | apply zc | apply zb | apply zd) | exact HB.out))) : w.heap.size ≤ gb378)); have n3_ := za.mk ((by rw [hg]; exact (zp (by repeat (first | (with_reducible first | exact HB.out | apply zc | apply zb | apply zd) | exact HB.out))) : w.heap.size ≤ gb378)); clear HB; have HB := n0_; have BK378 := n1_; have GW378 := n2_; have GE378 := n3_; clear n0_ n1_ n2_ n3_; clear hb hbox hg; have hcz15_0 : w14.cell? ⟨gb378, 0, none⟩ = some (.int .i64 0) := (zg BK378.out 0).trans rfl; have hcz15_1 : w14.cell? ⟨gb378, 1, none⟩ = some (.int .i64 0) := (zg BK378.out 1).trans rfl; have hfz15_0 := ze BK378.out 0; have hfz15_1 := ze BK378.out 1) | (go_at_call 90; (with_reducible refine (zB.calls ((zP l0 x7_1).f0) 1 1099511627776 true _ A5.out).mono ?_); rintro e w' ⟨rfl, ⟨nd, rfl⟩⟩; (try first | exact ⟨rfl, _, World.drewN_drewN _ _ _⟩ | exact ⟨rfl, _, Eq.trans (World.drewN_drewN _ _ _) (congrArg (World.drewN _) (Nat.add_assoc _ _ _))⟩)) | (go_at_call 90; (with_reducible refine (zB.calls ((zP l0 x7_1).f1) 0 63 true _ A7.out).mono ?_); rintro e w' ⟨rfl, ⟨nd, rfl⟩⟩; (try first | exact ⟨rfl, _, World.drewN_drewN _ _ _⟩ | exact ⟨rfl, _, Eq.trans (World.drewN_drewN _ _ _) (congrArg (World.drewN _) (Nat.add_assoc _ _ _))⟩); have p381 : 0 ≤ ((ji10) : Int) := of_decide_eq_true (by first | (with_reducible assumption) | assumption); have q381 : (ji10) < (l0.length : Int) := of_decide_eq_true (by first | (with_reducible assumption) | assumption); obtain ⟨ad381, e381, hx381_0, hx381_1⟩ := xU HR0.out (ji10) p381 q381; obtain rfl : ad377 = ad381 := (by injection e381); have hn381_0 : ad377.block ≠ gb378 := Nat.ne_of_lt (Nat.lt_of_lt_of_le (by have := Vy _ _ hx381_0; first | rwa [zW] at this | exact this) GW378.out); have hn381_1 : ad377.block ≠ gb378 := Nat.ne_of_lt (Nat.lt_of_lt_of_le (by have := Vy _ _ hx381_0; first | rwa [zW] at this | exact this) GW378.out); replace hx381_0 := (HB.out.cell (Vy w _ hx381_0)).trans hx381_0; replace hx381_1 := (HB.out.cell (Vy w _ hx381_1)).trans hx381_1; replace hx381_0 := (yX (p := ⟨gb378, 0, none⟩) (by first | (rw [zW]; exact hn381_0) | (show (Addr.add _ _).block ≠ _; rw [zW]; exact hn381_0) | exact hn381_0) (.int .i64 ((zP l0 x7_1).f0))).trans hx381_0; replace hx381_1 := (yX (p := ⟨gb378, 0, none⟩) (by first | (rw [zW]; exact hn381_0) | (show (Addr.add _ _).block ≠ _; rw [zW]; exact hn381_0) | exact hn381_0) (.int .i64 ((zP l0 x7_1).f0))).trans hx381_1; replace hx381_0 := (yX (p := ⟨gb378, 1, none⟩) (by first | (rw [zW]; exact hn381_1) | (show (Addr.add _ _).block ≠ _; rw [zW]; exact hn381_1) | exact hn381_1) (.int .i64 ((zP l0 x7_1).f1))).trans hx381_0; replace hx381_1 := (yX (p := ⟨gb378, 1, none⟩) (by first | (rw [zW]; exact hn381_1) | (show (Addr.add _ _).block ≠ _; rw [zW]; exact hn381_1) | exact hn381_1) (.int .i64 ((zP l0 x7_1).f1))).trans hx381_1; (try have hy381_0 := fun (n_ : Nat) => (show ((((w14.drewN n_).setCell ⟨gb378, 0, none⟩ (.int .i64 ((zP l0 x7_1).f0))).setCell ⟨gb378, 1, none⟩ (.int .i64 ((zP l0 x7_1).f1)))).cell? _ = some _ from hx381_0)); (try have hy381_1 := fun (n_ : Nat) => (show ((((w14.drewN n_).setCell ⟨gb378, 0, none⟩ (.int .i64 ((zP l0 x7_1).f0))).setCell ⟨gb378, 1, none⟩ (.int .i64 ((zP l0 x7_1).f1)))).cell? _ = some _ from hx381_1)); clear hn381_0; clear hn381_1; replace p381 := eq_true p381; replace q381 := eq_true q381))
            repeat (go_quiet (first | ((with_reducible refine zC (N := 4) rfl ?_); refine zF ?hg (N := 4) ?hd (cs := #[.int .i64 0, .int .i64 0]) (t := 97) ?hr ?_; (case hd => rfl); (case hg => rfl); (case hr => first | (go_simp; done) | (go_simp; rfl)); intro gb378 hg w14 hbox hb; have n0_ := za.mk (zi (by repeat (first | (with_reducible first | exact HB.out | apply zc | apply zb | apply zd) | exact HB.out)) hb); have n1_ := za.mk (hbox); have n2_ := za.mk ((by rw [hg]; exact (zp (by repeat (first | (with_reducible first | exact HB.out | apply zc | apply zb | apply zd) | exact HB.out))) : w.heap.size ≤ gb378)); have n3_ := za.mk ((by rw [hg]; exact (zp (by repeat (first | (with_reducible first | exact HB.out | apply zc | apply zb | apply zd) | exact HB.out))) : w.heap.size ≤ gb378)); clear HB; have HB := n0_; have BK378 := n1_; have GW378 := n2_; have GE378 := n3_; clear n0_ n1_ n2_ n3_; clear hb hbox hg; have hcz15_0 : w14.cell? ⟨gb378, 0, none⟩ = some (.int .i64 0) := (zg BK378.out 0).trans rfl; have hcz15_1 : w14.cell? ⟨gb378, 1, none⟩ = some (.int .i64 0) := (zg BK378.out 1).trans rfl; have hfz15_0 := ze BK378.out 0; have hfz15_1 := ze BK378.out 1) | (go_at_call 90; (with_reducible refine (zB.calls ((zP l0 x7_1).f0) 1 1099511627776 true _ A5.out).mono ?_); rintro e w' ⟨rfl, ⟨nd, rfl⟩⟩; (try first | exact ⟨rfl, _, World.drewN_drewN _ _ _⟩ | exact ⟨rfl, _, Eq.trans (World.drewN_drewN _ _ _) (congrArg (World.drewN _) (Nat.add_assoc _ _ _))⟩)) | (go_at_call 90; (with_reducible refine (zB.calls ((zP l0 x7_1).f1) 0 63 true _ A7.out).mono ?_); rintro e w' ⟨rfl, ⟨nd, rfl⟩⟩; (try first | exact ⟨rfl, _, World.drewN_drewN _ _ _⟩ | exact ⟨rfl, _, Eq.trans (World.drewN_drewN _ _ _) (congrArg (World.drewN _) (Nat.add_assoc _ _ _))⟩); have p381 : 0 ≤ ((ji10) : Int) := of_decide_eq_true (by first | (with_reducible assumption) | assumption); have q381 : (ji10) < (l0.length : Int) := of_decide_eq_true (by first | (with_reducible assumption) | assumption); obtain ⟨ad381, e381, hx381_0, hx381_1⟩ := xU HR0.out (ji10) p381 q381; obtain rfl : ad377 = ad381 := (by injection e381); have hn381_0 : ad377.block ≠ gb378 := Nat.ne_of_lt (Nat.lt_of_lt_of_le (by have := Vy _ _ hx381_0; first | rwa [zW] at this | exact this) GW378.out); have hn381_1 : ad377.block ≠ gb378 := Nat.ne_of_lt (Nat.lt_of_lt_of_le (by have := Vy _ _ hx381_0; first | rwa [zW] at this | exact this) GW378.out); replace hx381_0 := (HB.out.cell (Vy w _ hx381_0)).trans hx381_0; replace hx381_1 := (HB.out.cell (Vy w _ hx381_1)).trans hx381_1; replace hx381_0 := (yX (p := ⟨gb378, 0, none⟩) (by first | (rw [zW]; exact hn381_0) | (show (Addr.add _ _).block ≠ _; rw [zW]; exact hn381_0) | exact hn381_0) (.int .i64 ((zP l0 x7_1).f0))).trans hx381_0; replace hx381_1 := (yX (p := ⟨gb378, 0, none⟩) (by first | (rw [zW]; exact hn381_0) | (show (Addr.add _ _).block ≠ _; rw [zW]; exact hn381_0) | exact hn381_0) (.int .i64 ((zP l0 x7_1).f0))).trans hx381_1; replace hx381_0 := (yX (p := ⟨gb378, 1, none⟩) (by first | (rw [zW]; exact hn381_1) | (show (Addr.add _ _).block ≠ _; rw [zW]; exact hn381_1) | exact hn381_1) (.int .i64 ((zP l0 x7_1).f1))).trans hx381_0; replace hx381_1 := (yX (p := ⟨gb378, 1, none⟩) (by first | (rw [zW]; exact hn381_1) | (show (Addr.add _ _).block ≠ _; rw [zW]; exact hn381_1) | exact hn381_1) (.int .i64 ((zP l0 x7_1).f1))).trans hx381_1; (try have hy381_0 := fun (n_ : Nat) => (show ((((w14.drewN n_).setCell ⟨gb378, 0, none⟩ (.int .i64 ((zP l0 x7_1).f0))).setCell ⟨gb378, 1, none⟩ (.int .i64 ((zP l0 x7_1).f1)))).cell? _ = some _ from hx381_0)); (try have hy381_1 := fun (n_ : Nat) => (show ((((w14.drewN n_).setCell ⟨gb378, 0, none⟩ (.int .i64 ((zP l0 x7_1).f0))).setCell ⟨gb378, 1, none⟩ (.int .i64 ((zP l0 x7_1).f1)))).cell? _ = some _ from hx381_1)); clear hn381_0; clear hn381_1; replace p381 := eq_true p381; replace q381 := eq_true q381)); try go_wp2_with (first | ((with_reducible refine zC (N := 4) rfl ?_); refine zF ?hg (N := 4) ?hd (cs := #[.int .i64 0, .int .i64 0]) (t := 97) ?hr ?_; (case hd => rfl); (case hg => rfl); (case hr => first | (go_simp; done) | (go_simp; rfl)); intro gb378 hg w14 hbox hb; have n0_ := za.mk (zi (by repeat (first | (with_reducible first | exact HB.out | apply zc | apply zb | apply zd) | exact HB.out)) hb); have n1_ := za.mk (hbox); have n2_ := za.mk ((by rw [hg]; exact (zp (by repeat (first | (with_reducible first | exact HB.out | apply zc | apply zb | apply zd) | exact HB.out))) : w.heap.size ≤ gb378)); have n3_ := za.mk ((by rw [hg]; exact (zp (by repeat (first | (with_reducible first | exact HB.out | apply zc | apply zb | apply zd) | exact HB.out))) : w.heap.size ≤ gb378)); clear HB; have HB := n0_; have BK378 := n1_; have GW378 := n2_; have GE378 := n3_; clear n0_ n1_ n2_ n3_; clear hb hbox hg; have hcz15_0 : w14.cell? ⟨gb378, 0, none⟩ = some (.int .i64 0) := (zg BK378.out 0).trans rfl; have hcz15_1 : w14.cell? ⟨gb378, 1, none⟩ = some (.int .i64 0) := (zg BK378.out 1).trans rfl; have hfz15_0 := ze BK378.out 0; have hfz15_1 := ze BK378.out 1) | (go_at_call 90; (with_reducible refine (zB.calls ((zP l0 x7_1).f0) 1 1099511627776 true _ A5.out).mono ?_); rintro e w' ⟨rfl, ⟨nd, rfl⟩⟩; (try first | exact ⟨rfl, _, World.drewN_drewN _ _ _⟩ | exact ⟨rfl, _, Eq.trans (World.drewN_drewN _ _ _) (congrArg (World.drewN _) (Nat.add_assoc _ _ _))⟩)) | (go_at_call 90; (with_reducible refine (zB.calls ((zP l0 x7_1).f1) 0 63 true _ A7.out).mono ?_); rintro e w' ⟨rfl, ⟨nd, rfl⟩⟩; (try first | exact ⟨rfl, _, World.drewN_drewN _ _ _⟩ | exact ⟨rfl, _, Eq.trans (World.drewN_drewN _ _ _) (congrArg (World.drewN _) (Nat.add_assoc _ _ _))⟩); have p381 : 0 ≤ ((ji10) : Int) := of_decide_eq_true (by first | (with_reducible assumption) | assumption); have q381 : (ji10) < (l0.length : Int) := of_decide_eq_true (by first | (with_reducible assumption) | assumption); obtain ⟨ad381, e381, hx381_0, hx381_1⟩ := xU HR0.out (ji10) p381 q381; obtain rfl : ad377 = ad381 := (by injection e381); have hn381_0 : ad377.block ≠ gb378 := Nat.ne_of_lt (Nat.lt_of_lt_of_le (by have := Vy _ _ hx381_0; first | rwa [zW] at this | exact this) GW378.out); have hn381_1 : ad377.block ≠ gb378 := Nat.ne_of_lt (Nat.lt_of_lt_of_le (by have := Vy _ _ hx381_0; first | rwa [zW] at this | exact this) GW378.out); replace hx381_0 := (HB.out.cell (Vy w _ hx381_0)).trans hx381_0; replace hx381_1 := (HB.out.cell (Vy w _ hx381_1)).trans hx381_1; replace hx381_0 := (yX (p := ⟨gb378, 0, none⟩) (by first | (rw [zW]; exact hn381_0) | (show (Addr.add _ _).block ≠ _; rw [zW]; exact hn381_0) | exact hn381_0) (.int .i64 ((zP l0 x7_1).f0))).trans hx381_0; replace hx381_1 := (yX (p := ⟨gb378, 0, none⟩) (by first | (rw [zW]; exact hn381_0) | (show (Addr.add _ _).block ≠ _; rw [zW]; exact hn381_0) | exact hn381_0) (.int .i64 ((zP l0 x7_1).f0))).trans hx381_1; replace hx381_0 := (yX (p := ⟨gb378, 1, none⟩) (by first | (rw [zW]; exact hn381_1) | (show (Addr.add _ _).block ≠ _; rw [zW]; exact hn381_1) | exact hn381_1) (.int .i64 ((zP l0 x7_1).f1))).trans hx381_0; replace hx381_1 := (yX (p := ⟨gb378, 1, none⟩) (by first | (rw [zW]; exact hn381_1) | (show (Addr.add _ _).block ≠ _; rw [zW]; exact hn381_1) | exact hn381_1) (.int .i64 ((zP l0 x7_1).f1))).trans hx381_1; (try have hy381_0 := fun (n_ : Nat) => (show ((((w14.drewN n_).setCell ⟨gb378, 0, none⟩ (.int .i64 ((zP l0 x7_1).f0))).setCell ⟨gb378, 1, none⟩ (.int .i64 ((zP l0 x7_1).f1)))).cell? _ = some _ from hx381_0)); (try have hy381_1 := fun (n_ : Nat) => (show ((((w14.drewN n_).setCell ⟨gb378, 0, none⟩ (.int .i64 ((zP l0 x7_1).f0))).setCell ⟨gb378, 1, none⟩ (.int .i64 ((zP l0 x7_1).f1)))).cell? _ = some _ from hx381_1)); clear hn381_0; clear hn381_1; replace p381 := eq_true p381; replace q381 := eq_true q381)))
            go_ret
            exact ⟨by first | rfl | (simp [zn, zo] <;> rfl) | (simp only [← hji10]; first | rfl | (simp [zn, zo] <;> rfl)) | (simp [*, zn, zo] <;> rfl), by repeat (first | (with_reducible first | exact HB.out | apply zc | apply zb | apply zd | refine zh ?_ GE378.out) | exact HB.out)⟩
           ·rw [if_neg c13] at H
            have c13b0 : decide (((zP l0 x7_1).f0) ≤ ((zP l0 (ji10)).f0)) = false := decide_eq_false c13
            clear c13
            have H' := za.mk H
            clear H
            have p377 : 0 ≤ (x7_1 : Int) := of_decide_eq_true (by first | (with_reducible assumption) | assumption)
            have q377 : x7_1 < (l0.length : Int) := of_decide_eq_true (by first | (with_reducible assumption) | assumption)
            obtain ⟨ad377, e377, hx377_0, hx377_1⟩ := xU HR0.out x7_1 p377 q377
            cases e377
            replace hx377_0 := (HB.out.cell (Vy w _ hx377_0)).trans hx377_0
            replace hx377_1 := (HB.out.cell (Vy w _ hx377_1)).trans hx377_1
            replace p377 := eq_true p377
            replace q377 := eq_true q377
            go_wp2_with (first | ((with_reducible refine zC (N := 4) rfl ?_); refine zF ?hg (N := 4) ?hd (cs := #[.int .i64 0, .int .i64 0]) (t := 97) ?hr ?_; (case hd => rfl); (case hg => rfl); (case hr => first | (go_simp; done) | (go_simp; rfl)); intro gb378 hg w16 hbox hb; have n0_ := za.mk (zi (by repeat (first | (with_reducible first | exact HB.out | apply zc | apply zb | apply zd) | exact HB.out)) hb); have n1_ := za.mk (hbox); have n2_ := za.mk ((by rw [hg]; exact (zp (by repeat (first | (with_reducible first | exact HB.out | apply zc | apply zb | apply zd) | exact HB.out))) : w.heap.size ≤ gb378)); have n3_ := za.mk ((by rw [hg]; exact (zp (by repeat (first | (with_reducible first | exact HB.out | apply zc | apply zb | apply zd) | exact HB.out))) : w.heap.size ≤ gb378)); clear HB; have HB := n0_; have BK378 := n1_; have GW378 := n2_; have GE378 := n3_; clear n0_ n1_ n2_ n3_; clear hb hbox hg; have hcz17_0 : w16.cell? ⟨gb378, 0, none⟩ = some (.int .i64 0) := (zg BK378.out 0).trans rfl; have hcz17_1 : w16.cell? ⟨gb378, 1, none⟩ = some (.int .i64 0) := (zg BK378.out 1).trans rfl; have hfz17_0 := ze BK378.out 0; have hfz17_1 := ze BK378.out 1) | (go_at_call 90; (with_reducible refine (zB.calls ((zP l0 x7_1).f0) 1 1099511627776 true _ A5.out).mono ?_); rintro e w' ⟨rfl, ⟨nd, rfl⟩⟩; (try first | exact ⟨rfl, _, World.drewN_drewN _ _ _⟩ | exact ⟨rfl, _, Eq.trans (World.drewN_drewN _ _ _) (congrArg (World.drewN _) (Nat.add_assoc _ _ _))⟩)) | (go_at_call 90; (with_reducible refine (zB.calls ((zP l0 x7_1).f1) 0 63 true _ A7.out).mono ?_); rintro e w' ⟨rfl, ⟨nd, rfl⟩⟩; (try first | exact ⟨rfl, _, World.drewN_drewN _ _ _⟩ | exact ⟨rfl, _, Eq.trans (World.drewN_drewN _ _ _) (congrArg (World.drewN _) (Nat.add_assoc _ _ _))⟩); have p381 : 0 ≤ ((ji10) : Int) := of_decide_eq_true (by first | (with_reducible assumption) | assumption); have q381 : (ji10) < (l0.length : Int) := of_decide_eq_true (by first | (with_reducible assumption) | assumption); obtain ⟨ad381, e381, hx381_0, hx381_1⟩ := xU HR0.out (ji10) p381 q381; obtain rfl : ad377 = ad381 := (by injection e381); have hn381_0 : ad377.block ≠ gb378 := Nat.ne_of_lt (Nat.lt_of_lt_of_le (by have := Vy _ _ hx381_0; first | rwa [zW] at this | exact this) GW378.out); have hn381_1 : ad377.block ≠ gb378 := Nat.ne_of_lt (Nat.lt_of_lt_of_le (by have := Vy _ _ hx381_0; first | rwa [zW] at this | exact this) GW378.out); replace hx381_0 := (HB.out.cell (Vy w _ hx381_0)).trans hx381_0; replace hx381_1 := (HB.out.cell (Vy w _ hx381_1)).trans hx381_1; replace hx381_0 := (yX (p := ⟨gb378, 0, none⟩) (by first | (rw [zW]; exact hn381_0) | (show (Addr.add _ _).block ≠ _; rw [zW]; exact hn381_0) | exact hn381_0) (.int .i64 ((zP l0 x7_1).f0))).trans hx381_0; replace hx381_1 := (yX (p := ⟨gb378, 0, none⟩) (by first | (rw [zW]; exact hn381_0) | (show (Addr.add _ _).block ≠ _; rw [zW]; exact hn381_0) | exact hn381_0) (.int .i64 ((zP l0 x7_1).f0))).trans hx381_1; replace hx381_0 := (yX (p := ⟨gb378, 1, none⟩) (by first | (rw [zW]; exact hn381_1) | (show (Addr.add _ _).block ≠ _; rw [zW]; exact hn381_1) | exact hn381_1) (.int .i64 ((zP l0 x7_1).f1))).trans hx381_0; replace hx381_1 := (yX (p := ⟨gb378, 1, none⟩) (by first | (rw [zW]; exact hn381_1) | (show (Addr.add _ _).block ≠ _; rw [zW]; exact hn381_1) | exact hn381_1) (.int .i64 ((zP l0 x7_1).f1))).trans hx381_1; (try have hy381_0 := fun (n_ : Nat) => (show ((((w16.drewN n_).setCell ⟨gb378, 0, none⟩ (.int .i64 ((zP l0 x7_1).f0))).setCell ⟨gb378, 1, none⟩ (.int .i64 ((zP l0 x7_1).f1)))).cell? _ = some _ from hx381_0)); (try have hy381_1 := fun (n_ : Nat) => (show ((((w16.drewN n_).setCell ⟨gb378, 0, none⟩ (.int .i64 ((zP l0 x7_1).f0))).setCell ⟨gb378, 1, none⟩ (.int .i64 ((zP l0 x7_1).f1)))).cell? _ = some _ from hx381_1)); clear hn381_0; clear hn381_1; replace p381 := eq_true p381; replace q381 := eq_true q381))
            repeat (go_quiet (first | ((with_reducible refine zC (N := 4) rfl ?_); refine zF ?hg (N := 4) ?hd (cs := #[.int .i64 0, .int .i64 0]) (t := 97) ?hr ?_; (case hd => rfl); (case hg => rfl); (case hr => first | (go_simp; done) | (go_simp; rfl)); intro gb378 hg w16 hbox hb; have n0_ := za.mk (zi (by repeat (first | (with_reducible first | exact HB.out | apply zc | apply zb | apply zd) | exact HB.out)) hb); have n1_ := za.mk (hbox); have n2_ := za.mk ((by rw [hg]; exact (zp (by repeat (first | (with_reducible first | exact HB.out | apply zc | apply zb | apply zd) | exact HB.out))) : w.heap.size ≤ gb378)); have n3_ := za.mk ((by rw [hg]; exact (zp (by repeat (first | (with_reducible first | exact HB.out | apply zc | apply zb | apply zd) | exact HB.out))) : w.heap.size ≤ gb378)); clear HB; have HB := n0_; have BK378 := n1_; have GW378 := n2_; have GE378 := n3_; clear n0_ n1_ n2_ n3_; clear hb hbox hg; have hcz17_0 : w16.cell? ⟨gb378, 0, none⟩ = some (.int .i64 0) := (zg BK378.out 0).trans rfl; have hcz17_1 : w16.cell? ⟨gb378, 1, none⟩ = some (.int .i64 0) := (zg BK378.out 1).trans rfl; have hfz17_0 := ze BK378.out 0; have hfz17_1 := ze BK378.out 1) | (go_at_call 90; (with_reducible refine (zB.calls ((zP l0 x7_1).f0) 1 1099511627776 true _ A5.out).mono ?_); rintro e w' ⟨rfl, ⟨nd, rfl⟩⟩; (try first | exact ⟨rfl, _, World.drewN_drewN _ _ _⟩ | exact ⟨rfl, _, Eq.trans (World.drewN_drewN _ _ _) (congrArg (World.drewN _) (Nat.add_assoc _ _ _))⟩)) | (go_at_call 90; (with_reducible refine (zB.calls ((zP l0 x7_1).f1) 0 63 true _ A7.out).mono ?_); rintro e w' ⟨rfl, ⟨nd, rfl⟩⟩; (try first | exact ⟨rfl, _, World.drewN_drewN _ _ _⟩ | exact ⟨rfl, _, Eq.trans (World.drewN_drewN _ _ _) (congrArg (World.drewN _) (Nat.add_assoc _ _ _))⟩); have p381 : 0 ≤ ((ji10) : Int) := of_decide_eq_true (by first | (with_reducible assumption) | assumption); have q381 : (ji10) < (l0.length : Int) := of_decide_eq_true (by first | (with_reducible assumption) | assumption); obtain ⟨ad381, e381, hx381_0, hx381_1⟩ := xU HR0.out (ji10) p381 q381; obtain rfl : ad377 = ad381 := (by injection e381); have hn381_0 : ad377.block ≠ gb378 := Nat.ne_of_lt (Nat.lt_of_lt_of_le (by have := Vy _ _ hx381_0; first | rwa [zW] at this | exact this) GW378.out); have hn381_1 : ad377.block ≠ gb378 := Nat.ne_of_lt (Nat.lt_of_lt_of_le (by have := Vy _ _ hx381_0; first | rwa [zW] at this | exact this) GW378.out); replace hx381_0 := (HB.out.cell (Vy w _ hx381_0)).trans hx381_0; replace hx381_1 := (HB.out.cell (Vy w _ hx381_1)).trans hx381_1; replace hx381_0 := (yX (p := ⟨gb378, 0, none⟩) (by first | (rw [zW]; exact hn381_0) | (show (Addr.add _ _).block ≠ _; rw [zW]; exact hn381_0) | exact hn381_0) (.int .i64 ((zP l0 x7_1).f0))).trans hx381_0; replace hx381_1 := (yX (p := ⟨gb378, 0, none⟩) (by first | (rw [zW]; exact hn381_0) | (show (Addr.add _ _).block ≠ _; rw [zW]; exact hn381_0) | exact hn381_0) (.int .i64 ((zP l0 x7_1).f0))).trans hx381_1; replace hx381_0 := (yX (p := ⟨gb378, 1, none⟩) (by first | (rw [zW]; exact hn381_1) | (show (Addr.add _ _).block ≠ _; rw [zW]; exact hn381_1) | exact hn381_1) (.int .i64 ((zP l0 x7_1).f1))).trans hx381_0; replace hx381_1 := (yX (p := ⟨gb378, 1, none⟩) (by first | (rw [zW]; exact hn381_1) | (show (Addr.add _ _).block ≠ _; rw [zW]; exact hn381_1) | exact hn381_1) (.int .i64 ((zP l0 x7_1).f1))).trans hx381_1; (try have hy381_0 := fun (n_ : Nat) => (show ((((w16.drewN n_).setCell ⟨gb378, 0, none⟩ (.int .i64 ((zP l0 x7_1).f0))).setCell ⟨gb378, 1, none⟩ (.int .i64 ((zP l0 x7_1).f1)))).cell? _ = some _ from hx381_0)); (try have hy381_1 := fun (n_ : Nat) => (show ((((w16.drewN n_).setCell ⟨gb378, 0, none⟩ (.int .i64 ((zP l0 x7_1).f0))).setCell ⟨gb378, 1, none⟩ (.int .i64 ((zP l0 x7_1).f1)))).cell? _ = some _ from hx381_1)); clear hn381_0; clear hn381_1; replace p381 := eq_true p381; replace q381 := eq_true q381)); try go_wp2_with (first | ((with_reducible refine zC (N := 4) rfl ?_); refine zF ?hg (N := 4) ?hd (cs := #[.int .i64 0, .int .i64 0]) (t := 97) ?hr ?_; (case hd => rfl); (case hg => rfl); (case hr => first | (go_simp; done) | (go_simp; rfl)); intro gb378 hg w16 hbox hb; have n0_ := za.mk (zi (by repeat (first | (with_reducible first | exact HB.out | apply zc | apply zb | apply zd) | exact HB.out)) hb); have n1_ := za.mk (hbox); have n2_ := za.mk ((by rw [hg]; exact (zp (by repeat (first | (with_reducible first | exact HB.out | apply zc | apply zb | apply zd) | exact HB.out))) : w.heap.size ≤ gb378)); have n3_ := za.mk ((by rw [hg]; exact (zp (by repeat (first | (with_reducible first | exact HB.out | apply zc | apply zb | apply zd) | exact HB.out))) : w.heap.size ≤ gb378)); clear HB; have HB := n0_; have BK378 := n1_; have GW378 := n2_; have GE378 := n3_; clear n0_ n1_ n2_ n3_; clear hb hbox hg; have hcz17_0 : w16.cell? ⟨gb378, 0, none⟩ = some (.int .i64 0) := (zg BK378.out 0).trans rfl; have hcz17_1 : w16.cell? ⟨gb378, 1, none⟩ = some (.int .i64 0) := (zg BK378.out 1).trans rfl; have hfz17_0 := ze BK378.out 0; have hfz17_1 := ze BK378.out 1) | (go_at_call 90; (with_reducible refine (zB.calls ((zP l0 x7_1).f0) 1 1099511627776 true _ A5.out).mono ?_); rintro e w' ⟨rfl, ⟨nd, rfl⟩⟩; (try first | exact ⟨rfl, _, World.drewN_drewN _ _ _⟩ | exact ⟨rfl, _, Eq.trans (World.drewN_drewN _ _ _) (congrArg (World.drewN _) (Nat.add_assoc _ _ _))⟩)) | (go_at_call 90; (with_reducible refine (zB.calls ((zP l0 x7_1).f1) 0 63 true _ A7.out).mono ?_); rintro e w' ⟨rfl, ⟨nd, rfl⟩⟩; (try first | exact ⟨rfl, _, World.drewN_drewN _ _ _⟩ | exact ⟨rfl, _, Eq.trans (World.drewN_drewN _ _ _) (congrArg (World.drewN _) (Nat.add_assoc _ _ _))⟩); have p381 : 0 ≤ ((ji10) : Int) := of_decide_eq_true (by first | (with_reducible assumption) | assumption); have q381 : (ji10) < (l0.length : Int) := of_decide_eq_true (by first | (with_reducible assumption) | assumption); obtain ⟨ad381, e381, hx381_0, hx381_1⟩ := xU HR0.out (ji10) p381 q381; obtain rfl : ad377 = ad381 := (by injection e381); have hn381_0 : ad377.block ≠ gb378 := Nat.ne_of_lt (Nat.lt_of_lt_of_le (by have := Vy _ _ hx381_0; first | rwa [zW] at this | exact this) GW378.out); have hn381_1 : ad377.block ≠ gb378 := Nat.ne_of_lt (Nat.lt_of_lt_of_le (by have := Vy _ _ hx381_0; first | rwa [zW] at this | exact this) GW378.out); replace hx381_0 := (HB.out.cell (Vy w _ hx381_0)).trans hx381_0; replace hx381_1 := (HB.out.cell (Vy w _ hx381_1)).trans hx381_1; replace hx381_0 := (yX (p := ⟨gb378, 0, none⟩) (by first | (rw [zW]; exact hn381_0) | (show (Addr.add _ _).block ≠ _; rw [zW]; exact hn381_0) | exact hn381_0) (.int .i64 ((zP l0 x7_1).f0))).trans hx381_0; replace hx381_1 := (yX (p := ⟨gb378, 0, none⟩) (by first | (rw [zW]; exact hn381_0) | (show (Addr.add _ _).block ≠ _; rw [zW]; exact hn381_0) | exact hn381_0) (.int .i64 ((zP l0 x7_1).f0))).trans hx381_1; replace hx381_0 := (yX (p := ⟨gb378, 1, none⟩) (by first | (rw [zW]; exact hn381_1) | (show (Addr.add _ _).block ≠ _; rw [zW]; exact hn381_1) | exact hn381_1) (.int .i64 ((zP l0 x7_1).f1))).trans hx381_0; replace hx381_1 := (yX (p := ⟨gb378, 1, none⟩) (by first | (rw [zW]; exact hn381_1) | (show (Addr.add _ _).block ≠ _; rw [zW]; exact hn381_1) | exact hn381_1) (.int .i64 ((zP l0 x7_1).f1))).trans hx381_1; (try have hy381_0 := fun (n_ : Nat) => (show ((((w16.drewN n_).setCell ⟨gb378, 0, none⟩ (.int .i64 ((zP l0 x7_1).f0))).setCell ⟨gb378, 1, none⟩ (.int .i64 ((zP l0 x7_1).f1)))).cell? _ = some _ from hx381_0)); (try have hy381_1 := fun (n_ : Nat) => (show ((((w16.drewN n_).setCell ⟨gb378, 0, none⟩ (.int .i64 ((zP l0 x7_1).f0))).setCell ⟨gb378, 1, none⟩ (.int .i64 ((zP l0 x7_1).f1)))).cell? _ = some _ from hx381_1)); clear hn381_0; clear hn381_1; replace p381 := eq_true p381; replace q381 := eq_true q381)))
            go_roundg k1
            case measure => have := HK1.out; omega
            case rel => exact ⟨(wrap64 (x7_1 + 1)), (by first | rfl | (simp; done) | (simp [*]; done)), H', ⟨by have := HK1.out; omega⟩, ⟨by repeat (first | (with_reducible first | exact HB.out | apply zc | apply zb | apply zd | refine zh ?_ GE378.out) | exact HB.out)⟩⟩
          ·rw [if_neg c12] at H
           exact absurd H (by simp)
         ·rw [if_neg c11] at H
          exact absurd H (by simp)
        ·rw [if_neg c9] at H
         have c9b0 : decide (0 < x7_1) = false := decide_eq_false c9
         clear c9
         have H' := za.mk H
         clear H
         have p377 : 0 ≤ (x7_1 : Int) := of_decide_eq_true (by first | (with_reducible assumption) | assumption)
         have q377 : x7_1 < (l0.length : Int) := of_decide_eq_true (by first | (with_reducible assumption) | assumption)
         obtain ⟨ad377, e377, hx377_0, hx377_1⟩ := xU HR0.out x7_1 p377 q377
         cases e377
         replace hx377_0 := (HB.out.cell (Vy w _ hx377_0)).trans hx377_0
         replace hx377_1 := (HB.out.cell (Vy w _ hx377_1)).trans hx377_1
         replace p377 := eq_true p377
         replace q377 := eq_true q377
         go_wp2_with (first | ((with_reducible refine zC (N := 4) rfl ?_); refine zF ?hg (N := 4) ?hd (cs := #[.int .i64 0, .int .i64 0]) (t := 97) ?hr ?_; (case hd => rfl); (case hg => rfl); (case hr => first | (go_simp; done) | (go_simp; rfl)); intro gb378 hg w18 hbox hb; have n0_ := za.mk (zi (by repeat (first | (with_reducible first | exact HB.out | apply zc | apply zb | apply zd) | exact HB.out)) hb); have n1_ := za.mk (hbox); have n2_ := za.mk ((by rw [hg]; exact (zp (by repeat (first | (with_reducible first | exact HB.out | apply zc | apply zb | apply zd) | exact HB.out))) : w.heap.size ≤ gb378)); have n3_ := za.mk ((by rw [hg]; exact (zp (by repeat (first | (with_reducible first | exact HB.out | apply zc | apply zb | apply zd) | exact HB.out))) : w.heap.size ≤ gb378)); clear HB; have HB := n0_; have BK378 := n1_; have GW378 := n2_; have GE378 := n3_; clear n0_ n1_ n2_ n3_; clear hb hbox hg; have hcz19_0 : w18.cell? ⟨gb378, 0, none⟩ = some (.int .i64 0) := (zg BK378.out 0).trans rfl; have hcz19_1 : w18.cell? ⟨gb378, 1, none⟩ = some (.int .i64 0) := (zg BK378.out 1).trans rfl; have hfz19_0 := ze BK378.out 0; have hfz19_1 := ze BK378.out 1) | (go_at_call 90; (with_reducible refine (zB.calls ((zP l0 x7_1).f0) 1 1099511627776 true _ A5.out).mono ?_); rintro e w' ⟨rfl, ⟨nd, rfl⟩⟩; (try first | exact ⟨rfl, _, World.drewN_drewN _ _ _⟩ | exact ⟨rfl, _, Eq.trans (World.drewN_drewN _ _ _) (congrArg (World.drewN _) (Nat.add_assoc _ _ _))⟩)) | (go_at_call 90; (with_reducible refine (zB.calls ((zP l0 x7_1).f1) 0 63 true _ A7.out).mono ?_); rintro e w' ⟨rfl, ⟨nd, rfl⟩⟩; (try first | exact ⟨rfl, _, World.drewN_drewN _ _ _⟩ | exact ⟨rfl, _, Eq.trans (World.drewN_drewN _ _ _) (congrArg (World.drewN _) (Nat.add_assoc _ _ _))⟩)))
         repeat (go_quiet (first | ((with_reducible refine zC (N := 4) rfl ?_); refine zF ?hg (N := 4) ?hd (cs := #[.int .i64 0, .int .i64 0]) (t := 97) ?hr ?_; (case hd => rfl); (case hg => rfl); (case hr => first | (go_simp; done) | (go_simp; rfl)); intro gb378 hg w18 hbox hb; have n0_ := za.mk (zi (by repeat (first | (with_reducible first | exact HB.out | apply zc | apply zb | apply zd) | exact HB.out)) hb); have n1_ := za.mk (hbox); have n2_ := za.mk ((by rw [hg]; exact (zp (by repeat (first | (with_reducible first | exact HB.out | apply zc | apply zb | apply zd) | exact HB.out))) : w.heap.size ≤ gb378)); have n3_ := za.mk ((by rw [hg]; exact (zp (by repeat (first | (with_reducible first | exact HB.out | apply zc | apply zb | apply zd) | exact HB.out))) : w.heap.size ≤ gb378)); clear HB; have HB := n0_; have BK378 := n1_; have GW378 := n2_; have GE378 := n3_; clear n0_ n1_ n2_ n3_; clear hb hbox hg; have hcz19_0 : w18.cell? ⟨gb378, 0, none⟩ = some (.int .i64 0) := (zg BK378.out 0).trans rfl; have hcz19_1 : w18.cell? ⟨gb378, 1, none⟩ = some (.int .i64 0) := (zg BK378.out 1).trans rfl; have hfz19_0 := ze BK378.out 0; have hfz19_1 := ze BK378.out 1) | (go_at_call 90; (with_reducible refine (zB.calls ((zP l0 x7_1).f0) 1 1099511627776 true _ A5.out).mono ?_); rintro e w' ⟨rfl, ⟨nd, rfl⟩⟩; (try first | exact ⟨rfl, _, World.drewN_drewN _ _ _⟩ | exact ⟨rfl, _, Eq.trans (World.drewN_drewN _ _ _) (congrArg (World.drewN _) (Nat.add_assoc _ _ _))⟩)) | (go_at_call 90; (with_reducible refine (zB.calls ((zP l0 x7_1).f1) 0 63 true _ A7.out).mono ?_); rintro e w' ⟨rfl, ⟨nd, rfl⟩⟩; (try first | exact ⟨rfl, _, World.drewN_drewN _ _ _⟩ | exact ⟨rfl, _, Eq.trans (World.drewN_drewN _ _ _) (congrArg (World.drewN _) (Nat.add_assoc _ _ _))⟩))); try go_wp2_with (first | ((with_reducible refine zC (N := 4) rfl ?_); refine zF ?hg (N := 4) ?hd (cs := #[.int .i64 0, .int .i64 0]) (t := 97) ?hr ?_; (case hd => rfl); (case hg => rfl); (case hr => first | (go_simp; done) | (go_simp; rfl)); intro gb378 hg w18 hbox hb; have n0_ := za.mk (zi (by repeat (first | (with_reducible first | exact HB.out | apply zc | apply zb | apply zd) | exact HB.out)) hb); have n1_ := za.mk (hbox); have n2_ := za.mk ((by rw [hg]; exact (zp (by repeat (first | (with_reducible first | exact HB.out | apply zc | apply zb | apply zd) | exact HB.out))) : w.heap.size ≤ gb378)); have n3_ := za.mk ((by rw [hg]; exact (zp (by repeat (first | (with_reducible first | exact HB.out | apply zc | apply zb | apply zd) | exact HB.out))) : w.heap.size ≤ gb378)); clear HB; have HB := n0_; have BK378 := n1_; have GW378 := n2_; have GE378 := n3_; clear n0_ n1_ n2_ n3_; clear hb hbox hg; have hcz19_0 : w18.cell? ⟨gb378, 0, none⟩ = some (.int .i64 0) := (zg BK378.out 0).trans rfl; have hcz19_1 : w18.cell? ⟨gb378, 1, none⟩ = some (.int .i64 0) := (zg BK378.out 1).trans rfl; have hfz19_0 := ze BK378.out 0; have hfz19_1 := ze BK378.out 1) | (go_at_call 90; (with_reducible refine (zB.calls ((zP l0 x7_1).f0) 1 1099511627776 true _ A5.out).mono ?_); rintro e w' ⟨rfl, ⟨nd, rfl⟩⟩; (try first | exact ⟨rfl, _, World.drewN_drewN _ _ _⟩ | exact ⟨rfl, _, Eq.trans (World.drewN_drewN _ _ _) (congrArg (World.drewN _) (Nat.add_assoc _ _ _))⟩)) | (go_at_call 90; (with_reducible refine (zB.calls ((zP l0 x7_1).f1) 0 63 true _ A7.out).mono ?_); rintro e w' ⟨rfl, ⟨nd, rfl⟩⟩; (try first | exact ⟨rfl, _, World.drewN_drewN _ _ _⟩ | exact ⟨rfl, _, Eq.trans (World.drewN_drewN _ _ _) (congrArg (World.drewN _) (Nat.add_assoc _ _ _))⟩))))
         go_roundg k1
         case measure => have := HK1.out; omega
         case rel => exact ⟨(wrap64 (x7_1 + 1)), (by first | rfl | (simp; done) | (simp [*]; done)), H', ⟨by have := HK1.out; omega⟩, ⟨by repeat (first | (with_reducible first | exact HB.out | apply zc | apply zb | apply zd | refine zh ?_ GE378.out) | exact HB.out)⟩⟩
       ·replace c8 := VA.mpr c8
        subst c8
        have H1 : (some false) = some r := by rw [if_neg (show ¬ (false = true) by decide)] at H; exact H
        clear H
        have H := H1
        clear H1
        obtain rfl := Option.some.inj H
        have p377 : 0 ≤ (x7_1 : Int) := of_decide_eq_true (by first | (with_reducible assumption) | assumption)
        have q377 : x7_1 < (l0.length : Int) := of_decide_eq_true (by first | (with_reducible assumption) | assumption)
        obtain ⟨ad377, e377, hx377_0, hx377_1⟩ := xU HR0.out x7_1 p377 q377
        cases e377
        replace hx377_0 := (HB.out.cell (Vy w _ hx377_0)).trans hx377_0
        replace hx377_1 := (HB.out.cell (Vy w _ hx377_1)).trans hx377_1
        replace p377 := eq_true p377
        replace q377 := eq_true q377
        go_wp2_with (first | ((with_reducible refine zC (N := 4) rfl ?_); refine zF ?hg (N := 4) ?hd (cs := #[.int .i64 0, .int .i64 0]) (t := 97) ?hr ?_; (case hd => rfl); (case hg => rfl); (case hr => first | (go_simp; done) | (go_simp; rfl)); intro gb378 hg w20 hbox hb; have n0_ := za.mk (zi (by repeat (first | (with_reducible first | exact HB.out | apply zc | apply zb | apply zd) | exact HB.out)) hb); have n1_ := za.mk (hbox); have n2_ := za.mk ((by rw [hg]; exact (zp (by repeat (first | (with_reducible first | exact HB.out | apply zc | apply zb | apply zd) | exact HB.out))) : w.heap.size ≤ gb378)); have n3_ := za.mk ((by rw [hg]; exact (zp (by repeat (first | (with_reducible first | exact HB.out | apply zc | apply zb | apply zd) | exact HB.out))) : w.heap.size ≤ gb378)); clear HB; have HB := n0_; have BK378 := n1_; have GW378 := n2_; have GE378 := n3_; clear n0_ n1_ n2_ n3_; clear hb hbox hg; have hcz21_0 : w20.cell? ⟨gb378, 0, none⟩ = some (.int .i64 0) := (zg BK378.out 0).trans rfl; have hcz21_1 : w20.cell? ⟨gb378, 1, none⟩ = some (.int .i64 0) := (zg BK378.out 1).trans rfl; have hfz21_0 := ze BK378.out 0; have hfz21_1 := ze BK378.out 1) | (go_at_call 90; (with_reducible refine (zB.calls ((zP l0 x7_1).f0) 1 1099511627776 true _ A5.out).mono ?_); rintro e w' ⟨rfl, ⟨nd, rfl⟩⟩; (try first | exact ⟨rfl, _, World.drewN_drewN _ _ _⟩ | exact ⟨rfl, _, Eq.trans (World.drewN_drewN _ _ _) (congrArg (World.drewN _) (Nat.add_assoc _ _ _))⟩)) | (go_at_call 90; (with_reducible refine (zB.calls ((zP l0 x7_1).f1) 0 63 false _ A7.out).mono ?_); rintro e w' ⟨rfl, ⟨nd, rfl⟩⟩; (try first | exact ⟨rfl, _, World.drewN_drewN _ _ _⟩ | exact ⟨rfl, _, Eq.trans (World.drewN_drewN _ _ _) (congrArg (World.drewN _) (Nat.add_assoc _ _ _))⟩)))
        repeat (go_quiet (first | ((with_reducible refine zC (N := 4) rfl ?_); refine zF ?hg (N := 4) ?hd (cs := #[.int .i64 0, .int .i64 0]) (t := 97) ?hr ?_; (case hd => rfl); (case hg => rfl); (case hr => first | (go_simp; done) | (go_simp; rfl)); intro gb378 hg w20 hbox hb; have n0_ := za.mk (zi (by repeat (first | (with_reducible first | exact HB.out | apply zc | apply zb | apply zd) | exact HB.out)) hb); have n1_ := za.mk (hbox); have n2_ := za.mk ((by rw [hg]; exact (zp (by repeat (first | (with_reducible first | exact HB.out | apply zc | apply zb | apply zd) | exact HB.out))) : w.heap.size ≤ gb378)); have n3_ := za.mk ((by rw [hg]; exact (zp (by repeat (first | (with_reducible first | exact HB.out | apply zc | apply zb | apply zd) | exact HB.out))) : w.heap.size ≤ gb378)); clear HB; have HB := n0_; have BK378 := n1_; have GW378 := n2_; have GE378 := n3_; clear n0_ n1_ n2_ n3_; clear hb hbox hg; have hcz21_0 : w20.cell? ⟨gb378, 0, none⟩ = some (.int .i64 0) := (zg BK378.out 0).trans rfl; have hcz21_1 : w20.cell? ⟨gb378, 1, none⟩ = some (.int .i64 0) := (zg BK378.out 1).trans rfl; have hfz21_0 := ze BK378.out 0; have hfz21_1 := ze BK378.out 1) | (go_at_call 90; (with_reducible refine (zB.calls ((zP l0 x7_1).f0) 1 1099511627776 true _ A5.out).mono ?_); rintro e w' ⟨rfl, ⟨nd, rfl⟩⟩; (try first | exact ⟨rfl, _, World.drewN_drewN _ _ _⟩ | exact ⟨rfl, _, Eq.trans (World.drewN_drewN _ _ _) (congrArg (World.drewN _) (Nat.add_assoc _ _ _))⟩)) | (go_at_call 90; (with_reducible refine (zB.calls ((zP l0 x7_1).f1) 0 63 false _ A7.out).mono ?_); rintro e w' ⟨rfl, ⟨nd, rfl⟩⟩; (try first | exact ⟨rfl, _, World.drewN_drewN _ _ _⟩ | exact ⟨rfl, _, Eq.trans (World.drewN_drewN _ _ _) (congrArg (World.drewN _) (Nat.add_assoc _ _ _))⟩))); try go_wp2_with (first | ((with_reducible refine zC (N := 4) rfl ?_); refine zF ?hg (N := 4) ?hd (cs := #[.int .i64 0, .int .i64 0]) (t := 97) ?hr ?_; (case hd => rfl); (case hg => rfl); (case hr => first | (go_simp; done) | (go_simp; rfl)); intro gb378 hg w20 hbox hb; have n0_ := za.mk (zi (by repeat (first | (with_reducible first | exact HB.out | apply zc | apply zb | apply zd) | exact HB.out)) hb); have n1_ := za.mk (hbox); have n2_ := za.mk ((by rw [hg]; exact (zp (by repeat (first | (with_reducible first | exact HB.out | apply zc | apply zb | apply zd) | exact HB.out))) : w.heap.size ≤ gb378)); have n3_ := za.mk ((by rw [hg]; exact (zp (by repeat (first | (with_reducible first | exact HB.out | apply zc | apply zb | apply zd) | exact HB.out))) : w.heap.size ≤ gb378)); clear HB; have HB := n0_; have BK378 := n1_; have GW378 := n2_; have GE378 := n3_; clear n0_ n1_ n2_ n3_; clear hb hbox hg; have hcz21_0 : w20.cell? ⟨gb378, 0, none⟩ = some (.int .i64 0) := (zg BK378.out 0).trans rfl; have hcz21_1 : w20.cell? ⟨gb378, 1, none⟩ = some (.int .i64 0) := (zg BK378.out 1).trans rfl; have hfz21_0 := ze BK378.out 0; have hfz21_1 := ze BK378.out 1) | (go_at_call 90; (with_reducible refine (zB.calls ((zP l0 x7_1).f0) 1 1099511627776 true _ A5.out).mono ?_); rintro e w' ⟨rfl, ⟨nd, rfl⟩⟩; (try first | exact ⟨rfl, _, World.drewN_drewN _ _ _⟩ | exact ⟨rfl, _, Eq.trans (World.drewN_drewN _ _ _) (congrArg (World.drewN _) (Nat.add_assoc _ _ _))⟩)) | (go_at_call 90; (with_reducible refine (zB.calls ((zP l0 x7_1).f1) 0 63 false _ A7.out).mono ?_); rintro e w' ⟨rfl, ⟨nd, rfl⟩⟩; (try first | exact ⟨rfl, _, World.drewN_drewN _ _ _⟩ | exact ⟨rfl, _, Eq.trans (World.drewN_drewN _ _ _) (congrArg (World.drewN _) (Nat.add_assoc _ _ _))⟩))))
        go_ret
        exact ⟨by first | rfl | (simp [zn, zo] <;> rfl) | (simp [*, zn, zo] <;> rfl), by repeat (first | (with_reducible first | exact HB.out | apply zc | apply zb | apply zd | refine zh ?_ GE378.out) | exact HB.out)⟩
      ·replace c6 := VA.mpr c6
       subst c6
       have H1 : (some false) = some r := by rw [if_neg (show ¬ (false = true) by decide)] at H; exact H
       clear H
       have H := H1
       clear H1
       obtain rfl := Option.some.inj H
       have p377 : 0 ≤ (x7_1 : Int) := of_decide_eq_true (by first | (with_reducible assumption) | assumption)
       have q377 : x7_1 < (l0.length : Int) := of_decide_eq_true (by first | (with_reducible assumption) | assumption)
       obtain ⟨ad377, e377, hx377_0, hx377_1⟩ := xU HR0.out x7_1 p377 q377
       cases e377
       replace hx377_0 := (HB.out.cell (Vy w _ hx377_0)).trans hx377_0
       replace hx377_1 := (HB.out.cell (Vy w _ hx377_1)).trans hx377_1
       replace p377 := eq_true p377
       replace q377 := eq_true q377
       go_wp2_with (first | ((with_reducible refine zC (N := 4) rfl ?_); refine zF ?hg (N := 4) ?hd (cs := #[.int .i64 0, .int .i64 0]) (t := 97) ?hr ?_; (case hd => rfl); (case hg => rfl); (case hr => first | (go_simp; done) | (go_simp; rfl)); intro gb378 hg w22 hbox hb; have n0_ := za.mk (zi (by repeat (first | (with_reducible first | exact HB.out | apply zc | apply zb | apply zd) | exact HB.out)) hb); have n1_ := za.mk (hbox); have n2_ := za.mk ((by rw [hg]; exact (zp (by repeat (first | (with_reducible first | exact HB.out | apply zc | apply zb | apply zd) | exact HB.out))) : w.heap.size ≤ gb378)); have n3_ := za.mk ((by rw [hg]; exact (zp (by repeat (first | (with_reducible first | exact HB.out | apply zc | apply zb | apply zd) | exact HB.out))) : w.heap.size ≤ gb378)); clear HB; have HB := n0_; have BK378 := n1_; have GW378 := n2_; have GE378 := n3_; clear n0_ n1_ n2_ n3_; clear hb hbox hg; have hcz23_0 : w22.cell? ⟨gb378, 0, none⟩ = some (.int .i64 0) := (zg BK378.out 0).trans rfl; have hcz23_1 : w22.cell? ⟨gb378, 1, none⟩ = some (.int .i64 0) := (zg BK378.out 1).trans rfl; have hfz23_0 := ze BK378.out 0; have hfz23_1 := ze BK378.out 1) | (go_at_call 90; (with_reducible refine (zB.calls ((zP l0 x7_1).f0) 1 1099511627776 false _ A5.out).mono ?_); rintro e w' ⟨rfl, ⟨nd, rfl⟩⟩; (try first | exact ⟨rfl, _, World.drewN_drewN _ _ _⟩ | exact ⟨rfl, _, Eq.trans (World.drewN_drewN _ _ _) (congrArg (World.drewN _) (Nat.add_assoc _ _ _))⟩)))
       repeat (go_quiet (first | ((with_reducible refine zC (N := 4) rfl ?_); refine zF ?hg (N := 4) ?hd (cs := #[.int .i64 0, .int .i64 0]) (t := 97) ?hr ?_; (case hd => rfl); (case hg => rfl); (case hr => first | (go_simp; done) | (go_simp; rfl)); intro gb378 hg w22 hbox hb; have n0_ := za.mk (zi (by repeat (first | (with_reducible first | exact HB.out | apply zc | apply zb | apply zd) | exact HB.out)) hb); have n1_ := za.mk (hbox); have n2_ := za.mk ((by rw [hg]; exact (zp (by repeat (first | (with_reducible first | exact HB.out | apply zc | apply zb | apply zd) | exact HB.out))) : w.heap.size ≤ gb378)); have n3_ := za.mk ((by rw [hg]; exact (zp (by repeat (first | (with_reducible first | exact HB.out | apply zc | apply zb | apply zd) | exact HB.out))) : w.heap.size ≤ gb378)); clear HB; have HB := n0_; have BK378 := n1_; have GW378 := n2_; have GE378 := n3_; clear n0_ n1_ n2_ n3_; clear hb hbox hg; have hcz23_0 : w22.cell? ⟨gb378, 0, none⟩ = some (.int .i64 0) := (zg BK378.out 0).trans rfl; have hcz23_1 : w22.cell? ⟨gb378, 1, none⟩ = some (.int .i64 0) := (zg BK378.out 1).trans rfl; have hfz23_0 := ze BK378.out 0; have hfz23_1 := ze BK378.out 1) | (go_at_call 90; (with_reducible refine (zB.calls ((zP l0 x7_1).f0) 1 1099511627776 false _ A5.out).mono ?_); rintro e w' ⟨rfl, ⟨nd, rfl⟩⟩; (try first | exact ⟨rfl, _, World.drewN_drewN _ _ _⟩ | exact ⟨rfl, _, Eq.trans (World.drewN_drewN _ _ _) (congrArg (World.drewN _) (Nat.add_assoc _ _ _))⟩))); try go_wp2_with (first | ((with_reducible refine zC (N := 4) rfl ?_); refine zF ?hg (N := 4) ?hd (cs := #[.int .i64 0, .int .i64 0]) (t := 97) ?hr ?_; (case hd => rfl); (case hg => rfl); (case hr => first | (go_simp; done) | (go_simp; rfl)); intro gb378 hg w22 hbox hb; have n0_ := za.mk (zi (by repeat (first | (with_reducible first | exact HB.out | apply zc | apply zb | apply zd) | exact HB.out)) hb); have n1_ := za.mk (hbox); have n2_ := za.mk ((by rw [hg]; exact (zp (by repeat (first | (with_reducible first | exact HB.out | apply zc | apply zb | apply zd) | exact HB.out))) : w.heap.size ≤ gb378)); have n3_ := za.mk ((by rw [hg]; exact (zp (by repeat (first | (with_reducible first | exact HB.out | apply zc | apply zb | apply zd) | exact HB.out))) : w.heap.size ≤ gb378)); clear HB; have HB := n0_; have BK378 := n1_; have GW378 := n2_; have GE378 := n3_; clear n0_ n1_ n2_ n3_; clear hb hbox hg; have hcz23_0 : w22.cell? ⟨gb378, 0, none⟩ = some (.int .i64 0) := (zg BK378.out 0).trans rfl; have hcz23_1 : w22.cell? ⟨gb378, 1, none⟩ = some (.int .i64 0) := (zg BK378.out 1).trans rfl; have hfz23_0 := ze BK378.out 0; have hfz23_1 := ze BK378.out 1) | (go_at_call 90; (with_reducible refine (zB.calls ((zP l0 x7_1).f0) 1 1099511627776 false _ A5.out).mono ?_); rintro e w' ⟨rfl, ⟨nd, rfl⟩⟩; (try first | exact ⟨rfl, _, World.drewN_drewN _ _ _⟩ | exact ⟨rfl, _, Eq.trans (World.drewN_drewN _ _ _) (congrArg (World.drewN _) (Nat.add_assoc _ _ _))⟩))))
       go_ret
       exact ⟨by first | rfl | (simp [zn, zo] <;> rfl) | (simp [*, zn, zo] <;> rfl), by repeat (first | (with_reducible first | exact HB.out | apply zc | apply zb | apply zd | refine zh ?_ GE378.out) | exact HB.out)⟩
     ·rw [if_neg c4] at H
      exact absurd H (by simp)
    ·rw [if_neg c3] at H
     exact absurd H (by simp)
   ·rw [if_neg c2] at H
    have c2b0 : decide (x7_1 < (l0.length : Int)) = false := decide_eq_false c2
    clear c2
    obtain rfl := Option.some.inj H
    go_wp2
    repeat (go_quiet (fail); try go_wp2)
    go_ret
    exact ⟨by first | rfl | (simp [zn, zo] <;> rfl) | (simp [*, zn, zo] <;> rfl), by repeat (first | (with_reducible first | exact HB.out | apply zc | apply zb | apply zd) | exact HB.out)⟩
theorem ZD (k g : Nat) (s0_0 : ByteArray) (s0_1 : Int) (A : Option Addr) (c : Nat) (l : List S97) (w0 w : World) (er : Int) (he : er ≠ 0) (hI : zf w0 w g s0_0 s0_1 er) (hB : Below w0.heap.size w0 w) (hC : Kd.C k97 w A l.length l) (hl : l.length ≤ c) :
  Calls Try.prog 76 #[.pointer (some ⟨g, 0, none⟩), .slice A l.length c, .func (Fn.func 57) #[] #[]] w fun e w' => e = .returned (.tuple #[.slice none 0 0, .int .i64 0, .int .i64 er]) ∧ zf w0 w' g s0_0 s0_1 er ∧ Below w0.heap.size w0 w' ∧ zl w w' g none := by
 have HI := za.mk hI
 have HB := za.mk hB
 clear hI hB hC
 have e1 : (er == 0) = false := beq_eq_false_iff_ne.mpr he
 have e2 : (er != 0) = true := bne_iff_ne.mpr he
 have hc0 := yd HI.out.1
 have hc1 := yc HI.out.1
 have hc2 := ye HI.out.1
 have hf0 := ze HI.out.1 0
 have hf1 := ze HI.out.1 1
 have hf2 := ze HI.out.1 2
 go_enter Try.func76, Try.ntmps76
 go_wp2
 repeat (go_quiet (fail); try go_wp2)
 go_ret3
 exact ⟨rfl, by repeat (first | exact HI.out | apply zf.drewN | apply zf.drew), by repeat (first | exact HB.out | apply zb | apply zd), by repeat (first | exact zl.refl _ _ _ | apply zI | apply zO)⟩
theorem Zj (k g : Nat) (s0_0 : ByteArray) (s0_1 : Int) (A : Option Addr) (c : Nat) (l : List S97) (w0 w : World) (hI : zf w0 w g s0_0 s0_1 0) (hB : Below w0.heap.size w0 w) (hC : Kd.C k97 w A l.length l) (hl : l.length ≤ c) (h : z5.f k l = some true) :
  Calls Try.prog 76 #[.pointer (some ⟨g, 0, none⟩), .slice A l.length c, .func (Fn.func 57) #[] #[]] w fun e w' => e = .returned (.tuple #[.slice A l.length c, .int .i64 s0_1, .int .i64 0]) ∧ zf w0 w' g s0_0 s0_1 0 ∧ Below w0.heap.size w0 w' ∧ zl w w' g none := by
 have HI := za.mk hI
 have HB := za.mk hB
 have HX := za.mk h
 have HC := za.mk hC
 have HL := za.mk hl
 clear hI hB h hC hl
 have hc0 := yd HI.out.1
 have hc1 := yc HI.out.1
 have hc2 := ye HI.out.1
 have hf0 := ze HI.out.1 0
 have hf1 := ze HI.out.1 1
 have hf2 := ze HI.out.1 2
 go_enter Try.func76, Try.ntmps76
 go_wp2_with (first | (go_at_call 57; (with_reducible refine (z5.calls k _ _ l true _ ?side1 ?side2 HX.out).mono ?_); (case side1 => exact HC.out); (case side2 => exact HL.out); rintro e w1 ⟨rfl, hb⟩; have HB2 := za.mk hb; have HI1 := za.mk (HI.out.below HB2.out); clear hb hc0 hc1 hc2 hf0 hf1 hf2; have hc0 := yd HI1.out.1; have hc1 := yc HI1.out.1; have hc2 := ye HI1.out.1; have hf0 := ze HI1.out.1 0; have hf1 := ze HI1.out.1 1; have hf2 := ze HI1.out.1 2))
 have HB3 := za.mk (zi HB.out HB2.out)
 have HK2 := za.mk (zl.of_below HB2.out g none)
 repeat (go_quiet (fail); try go_wp2)
 go_ret3
 exact ⟨rfl, by repeat (first | exact HI1.out | apply zf.drewN | apply zf.drew), by repeat (first | exact HB3.out | apply zb | apply zd), by repeat (first | exact HK2.out | apply zI | apply zO)⟩
theorem vR (k g : Nat) (s0_0 : ByteArray) (s0_1 : Int) (A : Option Addr) (c : Nat) (l : List S97) (w0 w : World) (hI : zf w0 w g s0_0 s0_1 0) (hB : Below w0.heap.size w0 w) (hC : Kd.C k97 w A l.length l) (hl : l.length ≤ c) (h : z5.f k l = some false) :
  Calls Try.prog 76 #[.pointer (some ⟨g, 0, none⟩), .slice A l.length c, .func (Fn.func 57) #[] #[]] w fun e w' => e = .returned (.tuple #[.slice none 0 0, .int .i64 0, .int .i64 6]) ∧ zf w0 w' g s0_0 s0_1 6 ∧ Below w0.heap.size w0 w' ∧ zl w w' g none := by
 have HI := za.mk hI
 have HB := za.mk hB
 have HX := za.mk h
 have HC := za.mk hC
 have HL := za.mk hl
 clear hI hB h hC hl
 have hc0 := yd HI.out.1
 have hc1 := yc HI.out.1
 have hc2 := ye HI.out.1
 have hf0 := ze HI.out.1 0
 have hf1 := ze HI.out.1 1
 have hf2 := ze HI.out.1 2
 go_enter Try.func76, Try.ntmps76
 go_wp2_with (first | (go_at_call 57; (with_reducible refine (z5.calls k _ _ l false _ ?side1 ?side2 HX.out).mono ?_); (case side1 => exact HC.out); (case side2 => exact HL.out); rintro e w1 ⟨rfl, hb⟩; have HB2 := za.mk hb; have HI1 := za.mk (HI.out.below HB2.out); clear hb hc0 hc1 hc2 hf0 hf1 hf2; have hc0 := yd HI1.out.1; have hc1 := yc HI1.out.1; have hc2 := ye HI1.out.1; have hf0 := ze HI1.out.1 0; have hf1 := ze HI1.out.1 1; have hf2 := ze HI1.out.1 2))
 have HI2 := za.mk (HI1.out.set_2 6)
 have HB3 := za.mk (zh (g := g) (j := 2) (v := .int .i64 6) (zi HB.out HB2.out) (zf.ge HI1.out))
 have HK2 := za.mk ((zl.of_below HB2.out g none).set_ 2 (.int .i64 6))
 repeat (go_quiet (fail); try go_wp2)
 go_ret3
 exact ⟨rfl, by repeat (first | exact HI2.out | apply zf.drewN | apply zf.drew), by repeat (first | exact HB3.out | apply zb | apply zd), by repeat (first | exact HK2.out | apply zI | apply zO)⟩
def xq.f (k : Nat) (s0_0 : ByteArray) (s0_1 : Int) (s0_2 : Int) : Option (Int × Int × ByteArray × Int × Int) := (zw.f k s0_0 s0_1 s0_2).bind fun bt549 => ((zw.f k bt549.2.1 bt549.2.2.1 bt549.2.2.2).bind fun bt553 => (some (bt549.1, bt553.1, bt553.2.1, bt553.2.2.1, bt553.2.2.2)))
theorem xq.calls (k : Nat) (g : Nat) (s0_0 : ByteArray) (s0_1 : Int) (s0_2 : Int) (r1 : Int) (r2 : Int) (r3 : ByteArray) (r4 : Int) (r5 : Int) (w0 w : World) (hI : zf w0 w g s0_0 s0_1 s0_2) (hB : Below w0.heap.size w0 w) (h : xq.f k s0_0 s0_1 s0_2 = some (r1, r2, r3, r4, r5)) :
  Calls Try.prog 78 #[.pointer (some ⟨g, 0, none⟩)] w fun e w' => e = .returned (.agg #[.int .i64 r1, .int .i64 r2]) ∧ zf w0 w' g r3 r4 r5 ∧ Below w0.heap.size w0 w' ∧ zl w w' g none := by
 have hu97 := Try.underlying97
 have HI0 := za.mk hI
 have HK := za.mk (zl.refl w g none)
 have HL := za.mk hB.size
 clear hI
 have HW0 := za.mk hB.size
 have HB := za.mk hB
 clear hB
 have H : ((zw.f k s0_0 s0_1 s0_2).bind fun bt549 => ((zw.f k bt549.2.1 bt549.2.2.1 bt549.2.2.2).bind fun bt553 => (some (bt549.1, bt553.1, bt553.2.1, bt553.2.2.1, bt553.2.2.2)))) = some (r1, r2, r3, r4, r5) := h
 clear h
 replace H := Vx.mp H
 obtain ⟨⟨t549, t550, t551, t552⟩, A20, H⟩ := H
 replace H : ((zw.f k t550 t551 t552).bind fun bt553 => (some (t549, bt553.1, bt553.2.1, bt553.2.2.1, bt553.2.2.2))) = some (r1, r2, r3, r4, r5) := H
 have A2 := za.mk A20
 clear A20
 replace H := Vx.mp H
 obtain ⟨⟨t553, t554, t555, t556⟩, A30, H⟩ := H
 replace H : (some (t549, t553, t554, t555, t556)) = some (r1, r2, r3, r4, r5) := H
 have A3 := za.mk A30
 clear A30
 simp only [Option.some.injEq, Prod.mk.injEq] at H
 obtain ⟨rfl, rfl, rfl, rfl, rfl⟩ := H
 go_enter Try.func78, Try.ntmps78
 go_wp2_with (first | ((with_reducible refine zC (N := 2) rfl ?_); refine zF ?hg (N := 2) ?hd (cs := #[.int .i64 0, .int .i64 0]) (t := 97) ?hr ?_; (case hd => rfl); (case hg => rfl); (case hr => first | (go_simp; done) | (go_simp; rfl)); intro gb548 hg w4 hbox hb; have n0_ := za.mk (zf.below (by repeat (first | (with_reducible first | exact HI0.out | apply zf.alloc | apply zf.drewN | apply zf.drew | apply zf.set_0 | apply zf.set_1 | apply zf.set_2) | exact HI0.out)) hb); have n1_ := za.mk (zl.trans (by repeat (first | (with_reducible first | exact HK.out | apply zl.set_ | apply zI | apply zO | apply zQ) | exact HK.out)) (zl.of_below hb g none) (.inl rfl)); have n2_ := za.mk (zi (by repeat (first | (with_reducible first | exact HB.out | apply zc | apply zb | apply zd | refine zh ?_ (zf.ge HI0.out)) | exact HB.out)) hb); have n3_ := za.mk (hbox); have n4_ := za.mk ((by rw [hg]; exact (xx (w := w) (g := g) (row := none) (by repeat (first | (with_reducible first | exact HK.out | apply zl.set_ | apply zI | apply zO | apply zQ) | exact HK.out))) : w.heap.size ≤ gb548)); have n5_ := za.mk ((Nat.le_trans HW0.out (by rw [hg]; exact (xx (w := w) (g := g) (row := none) (by repeat (first | (with_reducible first | exact HK.out | apply zl.set_ | apply zI | apply zO | apply zQ) | exact HK.out))) : w.heap.size ≤ gb548) : w0.heap.size ≤ gb548)); have n6_ := za.mk ((by rw [hg]; exact Nat.ne_of_lt (zf.lt (show zf w0 _ g s0_0 s0_1 s0_2 from by repeat (first | (with_reducible first | exact HI0.out | apply zf.alloc | apply zf.drewN | apply zf.drew | apply zf.set_0 | apply zf.set_1 | apply zf.set_2) | exact HI0.out))) : g ≠ gb548)); have n7_ := za.mk ((by rw [hg]; exact Nat.ne_of_gt (zf.lt (show zf w0 _ g s0_0 s0_1 s0_2 from by repeat (first | (with_reducible first | exact HI0.out | apply zf.alloc | apply zf.drewN | apply zf.drew | apply zf.set_0 | apply zf.set_1 | apply zf.set_2) | exact HI0.out))) : gb548 ≠ g)); clear HI0; clear HK; clear HB; have HI0 := n0_; have HK := n1_; have HB := n2_; have BK548 := n3_; have GW548 := n4_; have GE548 := n5_; have NB0_548 := n6_; have NB548_0 := n7_; clear n0_ n1_ n2_ n3_ n4_ n5_ n6_ n7_; clear hb hbox hg) | ((with_reducible refine zL (f := 66) rfl ?_); refine z8 (some 4) rfl rfl Try.func66 (by kernel_rfl) rfl #[.pointer (some ⟨g, 0, none⟩)] rfl (by (try simp only [Vw, List.map_cons, List.map_nil]); first | done | rfl | (simp only [List.length_drop, List.length_take]; rfl)) ?_; (with_reducible refine (zw.calls k g s0_0 s0_1 s0_2 t549 t550 t551 t552 w0 _ ?side1 ?side2 A2.out).mono ?_); (case side1 => repeat (first | (with_reducible first | exact HI0.out | apply zf.alloc | apply zf.drewN | apply zf.drew | apply zf.set_0 | apply zf.set_1 | apply zf.set_2 | refine zf.far ?_ NB0_548.out _) | exact HI0.out)); (case side2 => repeat (first | (with_reducible first | exact HB.out | apply zc | apply zb | apply zd | refine zh ?_ (zf.ge HI0.out) | refine zh ?_ GE548.out) | exact HB.out)); rintro e w5 ⟨rfl, hi, hb, hk⟩; refine ⟨_, rfl, ?_⟩; have n0_ := za.mk (zl.blk hk (g' := gb548) (o := .cells #[.int .i64 0, .int .i64 0] 97 (0, 0)) (by (with_reducible repeat (first | refine zt ?_ _ | refine zu ?_ | refine zr ?_ _)); exact BK548.out) NB548_0.out (by simp)); have n1_ := za.mk (zl.trans (by repeat (first | (with_reducible first | exact HK.out | apply zl.set_ | apply zI | apply zO | apply zQ | refine xe ?_ GW548.out _) | exact HK.out)) hk (.inl rfl)); have n2_ := za.mk (hb); have n3_ := za.mk (hi); clear BK548; clear HK; clear HB; clear HI0; have BK548 := n0_; have HK := n1_; have HB := n2_; have HI0 := n3_; clear n0_ n1_ n2_ n3_; (try clear hb); (try clear hb2); (try clear hk); (try clear hi)) | ((with_reducible refine zL (f := 66) rfl ?_); refine z8 (some 6) rfl rfl Try.func66 (by kernel_rfl) rfl #[.pointer (some ⟨g, 0, none⟩)] rfl (by (try simp only [Vw, List.map_cons, List.map_nil]); first | done | rfl | (simp only [List.length_drop, List.length_take]; rfl)) ?_; (with_reducible refine (zw.calls k g t550 t551 t552 t553 t554 t555 t556 w0 _ ?side1 ?side2 A3.out).mono ?_); (case side1 => repeat (first | (with_reducible first | exact HI0.out | apply zf.alloc | apply zf.drewN | apply zf.drew | apply zf.set_0 | apply zf.set_1 | apply zf.set_2 | refine zf.far ?_ NB0_548.out _) | exact HI0.out)); (case side2 => repeat (first | (with_reducible first | exact HB.out | apply zc | apply zb | apply zd | refine zh ?_ (zf.ge HI0.out) | refine zh ?_ GE548.out) | exact HB.out)); rintro e w6 ⟨rfl, hi, hb, hk⟩; refine ⟨_, rfl, ?_⟩; have n0_ := za.mk (zl.blk hk (g' := gb548) (o := .cells #[.int .i64 0, .int .i64 0] 97 (0, 0)) (by (with_reducible repeat (first | refine zt ?_ _ | refine zu ?_ | refine zr ?_ _)); exact BK548.out) NB548_0.out (by simp)); have n1_ := za.mk (zl.trans (by repeat (first | (with_reducible first | exact HK.out | apply zl.set_ | apply zI | apply zO | apply zQ | refine xe ?_ GW548.out _) | exact HK.out)) hk (.inl rfl)); have n2_ := za.mk (hb); have n3_ := za.mk (hi); clear BK548; clear HK; clear HB; clear HI0; have BK548 := n0_; have HK := n1_; have HB := n2_; have HI0 := n3_; clear n0_ n1_ n2_ n3_; (try clear hb); (try clear hb2); (try clear hk); (try clear hi); have hnb7 := NB548_0.out; have hnc7 := NB0_548.out; have hcz8_0 : w6.cell? ⟨gb548, 0, none⟩ = some (.int .i64 0) := (zg BK548.out 0).trans rfl; have hcz8_1 : w6.cell? ⟨gb548, 1, none⟩ = some (.int .i64 0) := (zg BK548.out 1).trans rfl; have hfz8_0 := ze BK548.out 0; have hfz8_1 := ze BK548.out 1))
 refine bodyPost_ret (results_cell_row rfl _ _ gb548 97 #[.int .i64 t549, .int .i64 t553] (0, 0) _ rfl (by (with_reducible repeat (first | refine zt ?_ _ | refine zu ?_ | refine zr ?_ _)); refine zJ (cs := #[.int .i64 t549, .int .i64 0]) ?_ 1 _ rfl; (with_reducible repeat (first | refine zt ?_ _ | refine zu ?_ | refine zr ?_ _)); refine zJ (cs := #[.int .i64 0, .int .i64 0]) ?_ 0 _ rfl; (with_reducible repeat (first | refine zt ?_ _ | refine zu ?_ | refine zr ?_ _)); exact BK548.out) Try.underlying97 rfl (by kernel_rfl)) rfl ?_
 exact ⟨by first | rfl | (simp [zn, zo] <;> rfl) | (simp [*, zn, zo] <;> rfl), by repeat (first | (with_reducible first | exact HI0.out | apply zf.alloc | apply zf.drewN | apply zf.drew | apply zf.set_0 | apply zf.set_1 | apply zf.set_2 | refine zf.far ?_ NB0_548.out _) | exact HI0.out), by repeat (first | (with_reducible first | exact HB.out | apply zc | apply zb | apply zd | refine zh ?_ (zf.ge HI0.out) | refine zh ?_ GE548.out) | exact HB.out), by repeat (first | (with_reducible first | exact HK.out | apply zl.set_ | apply zI | apply zO | apply zQ | refine xe ?_ GW548.out _) | exact HK.out)⟩
mutual
def zm.j0 : Nat → Int → Bool → ByteArray → Int → Int → Option ((List (S97)) × ByteArray × Int × Int)
 | 0, _, _, _, _, _ => none
 | k + 1, x7, x22, x1000, x1001, x1002 => if x22 = true then (zm.j1 k x7 x1000 x1001 6) else (zm.j1 k x7 x1000 x1001 x1002)
def zm.j1 : Nat → Int → ByteArray → Int → Int → Option ((List (S97)) × ByteArray × Int × Int)
 | 0, _, _, _, _ => none
 | k + 1, x7, x1000, x1001, x1002 => zm.l0 k x7 ([] : List (S97)) 0 x1000 x1001 x1002
def zm.l0 : Nat → Int → List (S97) → Int → ByteArray → Int → Int → Option ((List (S97)) × ByteArray × Int × Int)
 | 0, _, _, _, _, _, _ => none
 | k + 1, x7, x8, x9, x1000, x1001, x1002 => if x9 < x7 then (if x1002 = 0 then ((xq.f k x1000 x1001 x1002).bind fun bt562 => (if x8.length < 8796093022208 then (zm.l0 k x7 (x8 ++ [(⟨bt562.1, bt562.2.1⟩ : S97)]) (wrap64 (x9 + 1)) bt562.2.2.1 bt562.2.2.2.1 bt562.2.2.2.2) else (none))) else (some (x8, x1000, x1001, x1002))) else (some (x8, x1000, x1001, x1002))
end
def zm.f (k : Nat) (s0_0 : ByteArray) (s0_1 : Int) (s0_2 : Int) (a1 : Int)  : Option ((List (S97)) × ByteArray × Int × Int) := (zw.f k s0_0 s0_1 s0_2).bind fun bt557 => (if bt557.2.2.2 = 0 then ((zB.f bt557.1 0 a1).bind fun t561 => (zm.j0 k bt557.1 (!t561) bt557.2.1 bt557.2.2.1 bt557.2.2.2)) else (zm.j0 k bt557.1 false bt557.2.1 bt557.2.2.1 bt557.2.2.2))
theorem zm.calls (k : Nat) (g : Nat) (s0_0 : ByteArray) (s0_1 : Int) (s0_2 : Int) (a1 : Int)  (r1 : List (S97)) (r2 : ByteArray) (r3 : Int) (r4 : Int) (w0 w : World) (hI : zf w0 w g s0_0 s0_1 s0_2) (hB : Below w0.heap.size w0 w) (h : zm.f k s0_0 s0_1 s0_2 a1 = some (r1, r2, r3, r4)) :
  Calls Try.prog 77 #[.pointer (some ⟨g, 0, none⟩), .int .i64 a1, .func (Fn.func 78) #[] #[]] w fun e w' => ∃ v0_ : Value, e = .returned (v0_) ∧ Kd.R k97 97 w' w.heap.size (fun _ => True) v0_ r1 ∧ zf w0 w' g r2 r3 r4 ∧ Below w0.heap.size w0 w' ∧ zl w w' g none := by
 have HI0 := za.mk hI
 have HK := za.mk (zl.refl w g none)
 have HL := za.mk hB.size
 clear hI
 have HW0 := za.mk hB.size
 have HB := za.mk hB
 clear hB
 have H : ((zw.f k s0_0 s0_1 s0_2).bind fun bt557 => (if bt557.2.2.2 = 0 then ((zB.f bt557.1 0 a1).bind fun t561 => (zm.j0 k bt557.1 (!t561) bt557.2.1 bt557.2.2.1 bt557.2.2.2)) else (zm.j0 k bt557.1 false bt557.2.1 bt557.2.2.1 bt557.2.2.2))) = some (r1, r2, r3, r4) := h
 clear h
 replace H := Vx.mp H
 obtain ⟨⟨t557, t558, t559, t560⟩, A40, H⟩ := H
 replace H : (if t560 = 0 then ((zB.f t557 0 a1).bind fun t561 => (zm.j0 k t557 (!t561) t558 t559 t560)) else (zm.j0 k t557 false t558 t559 t560)) = some (r1, r2, r3, r4) := H
 have A4 := za.mk A40
 clear A40
 have HC5 := za.mk H
 clear H
 go_enter Try.func77, Try.ntmps77
 go_upto_region 2 with (first | ((with_reducible refine zL (f := 66) rfl ?_); refine z8 (some 11) rfl rfl Try.func66 (by kernel_rfl) rfl #[.pointer (some ⟨g, 0, none⟩)] rfl (by (try simp only [Vw, List.map_cons, List.map_nil]); first | done | rfl | (simp only [List.length_drop, List.length_take]; rfl)) ?_; (with_reducible refine (zw.calls k g s0_0 s0_1 s0_2 t557 t558 t559 t560 w0 _ ?side1 ?side2 A4.out).mono ?_); (case side1 => repeat (first | (with_reducible first | exact HI0.out | apply zf.alloc | apply zf.drewN | apply zf.drew | apply zf.set_0 | apply zf.set_1 | apply zf.set_2) | exact HI0.out)); (case side2 => repeat (first | (with_reducible first | exact HB.out | apply zc | apply zb | apply zd | refine zh ?_ (zf.ge HI0.out)) | exact HB.out)); rintro e w6 ⟨rfl, hi, hb, hk⟩; refine ⟨_, rfl, ?_⟩; have n0_ := za.mk (zl.trans (by repeat (first | (with_reducible first | exact HK.out | apply zl.set_ | apply zI | apply zO | apply zQ) | exact HK.out)) hk (.inl rfl)); have n1_ := za.mk (hb); have n2_ := za.mk (hi); clear HK; clear HB; clear HI0; have HK := n0_; have HB := n1_; have HI0 := n2_; clear n0_ n1_ n2_; (try clear hb); (try clear hb2); (try clear hk); (try clear hi)))
 (try simp only [Act.put, Vt, Vu, Vv])
 go_cut [22] (fun v22 wc => ∃ (kq : Nat) (x22_4 : Bool), v22 = .bool x22_4 ∧ za (zm.j0 kq t557 x22_4 t558 t559 t560 = some (r1, r2, r3, r4)) ∧ za (kq ≤ k) ∧ za (zf w0 wc g t558 t559 t560) ∧ za (zl w wc g none) ∧ za (Below w0.heap.size w0 wc))
 case first =>
  have H := HC5.out
  clear HC5
  by_cases c7 : t560 = 0
  ·rw [if_pos c7] at H
   have c7b0 : (t560 == 0) = true := beq_iff_eq.mpr c7
   have c7b1 : (t560 != 0) = false := bne_eq_false_iff_eq.mpr c7
   clear c7
   (first | rw [c7b0] | (simp only [zx, zz]; rw [c7b0]) | skip)
   replace H := Vx.mp H
   obtain ⟨t561, A80, H⟩ := H
   replace H : (zm.j0 k t557 (!t561) t558 t559 t560) = some (r1, r2, r3, r4) := H
   have A8 := za.mk A80
   clear A80
   have H' := za.mk H
   clear H
   obtain ⟨HGz9, hgz9⟩ := HI0.out
   have hcz9_0 := yd HGz9
   have hcz9_1 := yc HGz9
   have hcz9_2 := ye HGz9
   have hfz9_0 := ze HGz9 0
   have hfz9_1 := ze HGz9 1
   have hfz9_2 := ze HGz9 2
   clear HGz9 hgz9
   go_wp2_with (first | (go_at_call 90; (with_reducible refine (zB.calls t557 0 a1 t561 _ A8.out).mono ?_); rintro e w' ⟨rfl, ⟨nd, rfl⟩⟩))
   go_meet
   case rel => exact ⟨_, (!t561), (by first | rfl | (simp; done) | (simp [*]; done)), H', ⟨by first | omega | exact Nat.le_refl _⟩, ⟨by repeat (first | (with_reducible first | exact HI0.out | apply zf.alloc | apply zf.drewN | apply zf.drew | apply zf.set_0 | apply zf.set_1 | apply zf.set_2) | exact HI0.out)⟩, ⟨by repeat (first | (with_reducible first | exact HK.out | apply zl.set_ | apply zI | apply zO | apply zQ) | exact HK.out)⟩, ⟨by repeat (first | (with_reducible first | exact HB.out | apply zc | apply zb | apply zd | refine zh ?_ (zf.ge HI0.out)) | exact HB.out)⟩⟩
  ·rw [if_neg c7] at H
   have c7b0 : (t560 == 0) = false := beq_eq_false_iff_ne.mpr c7
   have c7b1 : (t560 != 0) = true := bne_iff_ne.mpr c7
   (first | rw [c7b0] | (simp only [zx, zz]; rw [c7b0]) | skip)
   have H' := za.mk H
   clear H
   obtain ⟨HGz10, hgz10⟩ := HI0.out
   have hcz10_0 := yd HGz10
   have hcz10_1 := yc HGz10
   have hcz10_2 := ye HGz10
   have hfz10_0 := ze HGz10 0
   have hfz10_1 := ze HGz10 1
   have hfz10_2 := ze HGz10 2
   clear HGz10 hgz10
   go_wp2
   go_meet
   case rel => exact ⟨_, (false), (by first | rfl | (simp; done) | (simp [*]; done)), H', ⟨by first | omega | exact Nat.le_refl _⟩, ⟨by repeat (first | (with_reducible first | exact HI0.out | apply zf.alloc | apply zf.drewN | apply zf.drew | apply zf.set_0 | apply zf.set_1 | apply zf.set_2) | exact HI0.out)⟩, ⟨by repeat (first | (with_reducible first | exact HK.out | apply zl.set_ | apply zI | apply zO | apply zQ) | exact HK.out)⟩, ⟨by repeat (first | (with_reducible first | exact HB.out | apply zc | apply zb | apply zd | refine zh ?_ (zf.ge HI0.out)) | exact HB.out)⟩⟩
 case rest =>
  clear HC5
  try clear p2
  try clear c6
  try clear c7
  try clear c7b0
  try clear c7b1
  try clear c9
  try clear hcz10_0
  try clear hcz10_1
  try clear hcz10_2
  try clear hcz9_0
  try clear hcz9_1
  try clear hcz9_2
  try clear hfz10_0
  try clear hfz10_1
  try clear hfz10_2
  try clear hfz9_0
  try clear hfz9_1
  try clear hfz9_2
  obtain ⟨kq, x22_4, rfl, HA, HJ4, HI0, HK, HB⟩ := hcut
  cases kq with
  | zero => exact absurd HA.out (by simp [zm.j0])
  | succ kj4 =>
   have H := HA.out
   clear HA
   simp only [zm.j0] at H
   have HC11 := za.mk H
   clear H
   go_upto_if 22 with (fail)
   go_cut [] (fun wc => ∃ (kq : Nat) (x1002_10 : Int), za (zm.j1 kq t557 t558 t559 x1002_10 = some (r1, r2, r3, r4)) ∧ za (kq ≤ kj4) ∧ za (zf w0 wc g t558 t559 x1002_10) ∧ za (zl w wc g none) ∧ za (Below w0.heap.size w0 wc))
   case first =>
    have H := HC11.out
    clear HC11
    by_cases c12 : x22_4 = true
    ·subst c12
     have H1 : (zm.j1 kj4 t557 t558 t559 6) = some (r1, r2, r3, r4) := by rw [if_pos rfl] at H; exact H
     clear H
     have H := H1
     clear H1
     have H' := za.mk H
     clear H
     obtain ⟨HGz13, hgz13⟩ := HI0.out
     have hcz13_0 := yd HGz13
     have hcz13_1 := yc HGz13
     have hcz13_2 := ye HGz13
     have hfz13_0 := ze HGz13 0
     have hfz13_1 := ze HGz13 1
     have hfz13_2 := ze HGz13 2
     clear HGz13 hgz13
     go_wp2
     go_meet
     case rel => exact ⟨_, (6), H', ⟨by have := HJ4.out; first | omega | exact Nat.le_refl _⟩, ⟨by repeat (first | (with_reducible first | exact HI0.out | apply zf.alloc | apply zf.drewN | apply zf.drew | apply zf.set_0 | apply zf.set_1 | apply zf.set_2) | exact HI0.out)⟩, ⟨by repeat (first | (with_reducible first | exact HK.out | apply zl.set_ | apply zI | apply zO | apply zQ) | exact HK.out)⟩, ⟨by repeat (first | (with_reducible first | exact HB.out | apply zc | apply zb | apply zd | refine zh ?_ (zf.ge HI0.out)) | exact HB.out)⟩⟩
    ·replace c12 := VA.mpr c12
     subst c12
     have H1 : (zm.j1 kj4 t557 t558 t559 t560) = some (r1, r2, r3, r4) := by rw [if_neg (show ¬ (false = true) by decide)] at H; exact H
     clear H
     have H := H1
     clear H1
     have H' := za.mk H
     clear H
     go_wp2
     go_meet
     case rel => exact ⟨_, (t560), H', ⟨by have := HJ4.out; first | omega | exact Nat.le_refl _⟩, ⟨by repeat (first | (with_reducible first | exact HI0.out | apply zf.alloc | apply zf.drewN | apply zf.drew | apply zf.set_0 | apply zf.set_1 | apply zf.set_2) | exact HI0.out)⟩, ⟨by repeat (first | (with_reducible first | exact HK.out | apply zl.set_ | apply zI | apply zO | apply zQ) | exact HK.out)⟩, ⟨by repeat (first | (with_reducible first | exact HB.out | apply zc | apply zb | apply zd | refine zh ?_ (zf.ge HI0.out)) | exact HB.out)⟩⟩
   case rest =>
    clear HC11
    try clear c1
    try clear p2
    try clear c6
    try clear c7
    try clear c7b0
    try clear c7b1
    try clear c9
    try clear c12
    try clear hcz10_0
    try clear hcz10_1
    try clear hcz10_2
    try clear hcz13_0
    try clear hcz13_1
    try clear hcz13_2
    try clear hcz9_0
    try clear hcz9_1
    try clear hcz9_2
    try clear hfz10_0
    try clear hfz10_1
    try clear hfz10_2
    try clear hfz13_0
    try clear hfz13_1
    try clear hfz13_2
    try clear hfz9_0
    try clear hfz9_1
    try clear hfz9_2
    try clear p2
    obtain ⟨kq, x1002_10, HA, HJ10, HI0, HK, HB⟩ := hcut
    cases kq with
    | zero => exact absurd HA.out (by simp [zm.j1])
    | succ kj10 =>
     have H := HA.out
     clear HA
     simp only [zm.j1] at H
     have H' := za.mk H
     clear H
     go_wp2
     go_loopg [8, 9] kj10 (fun kq v8 v9 w' => ∃ (x8_3 : List (S97)) (x9_3 : Int) (x1000_3 : ByteArray) (x1001_3 : Int) (x1002_3 : Int), v9 = .int .i64 x9_3 ∧ za (zm.l0 kq t557 x8_3 x9_3 x1000_3 x1001_3 x1002_3 = some (r1, r2, r3, r4)) ∧ za (kq ≤ kj10) ∧ za (Kd.R k97 97 w' w.heap.size (fun _ => True) v8 x8_3) ∧ za (zf w0 w' g x1000_3 x1001_3 x1002_3) ∧ za (zl w w' g none) ∧ za (Below w0.heap.size w0 w'))
     case atStart => exact ⟨(([] : List (S97))), (0), (t558), (t559), (x1002_10), (by first | rfl | (simp; done) | (simp [*]; done)), H', ⟨Nat.le_refl _⟩, ⟨by first | exact Kd.R_nil _ _ _ _ _ | exact Kd.N_nil _ _ _ _ _ | exact Kd.V_nil _ _ _ _ _ | exact Kd.Q_nil _ _ _ _ _ | exact Kd.S_nil _ _ _ _ _⟩, ⟨by repeat (first | (with_reducible first | exact HI0.out | apply zf.alloc | apply zf.drewN | apply zf.drew | apply zf.set_0 | apply zf.set_1 | apply zf.set_2) | exact HI0.out)⟩, ⟨by repeat (first | (with_reducible first | exact HK.out | apply zl.set_ | apply zI | apply zO | apply zQ) | exact HK.out)⟩, ⟨by repeat (first | (with_reducible first | exact HB.out | apply zc | apply zb | apply zd | refine zh ?_ (zf.ge HI0.out)) | exact HB.out)⟩⟩
     case round =>
      clear H'
      try clear c1
      try clear p2
      try clear c6
      try clear c7
      try clear c7b0
      try clear c7b1
      try clear c9
      try clear c12
      try clear hcz10_0
      try clear hcz10_1
      try clear hcz10_2
      try clear hcz13_0
      try clear hcz13_1
      try clear hcz13_2
      try clear hcz9_0
      try clear hcz9_1
      try clear hcz9_2
      try clear hfz10_0
      try clear hfz10_1
      try clear hfz10_2
      try clear hfz13_0
      try clear hfz13_1
      try clear hfz13_2
      try clear hfz9_0
      try clear hfz9_1
      try clear hfz9_2
      try clear p2
      obtain ⟨x8_3, x9_3, x1000_3, x1001_3, x1002_3, rfl, HA, HK3, HO_8, HI0, HK, HB⟩ := hrel
      cases gk with
      | zero => exact absurd HA.out (by simp [zm.l0])
      | succ k3 =>
       have H := HA.out
       clear HA
       simp only [zm.l0] at H
       by_cases c14 : x9_3 < t557
       ·rw [if_pos c14] at H
        have c14b0 : decide (x9_3 < t557) = true := decide_eq_true c14
        clear c14
        by_cases c15 : x1002_3 = 0
        ·rw [if_pos c15] at H
         have c15b0 : (x1002_3 == 0) = true := beq_iff_eq.mpr c15
         have c15b1 : (x1002_3 != 0) = false := bne_eq_false_iff_eq.mpr c15
         clear c15
         replace H := Vx.mp H
         obtain ⟨⟨t562, t563, t564, t565, t566⟩, A160, H⟩ := H
         replace H : (if x8_3.length < 8796093022208 then (zm.l0 k3 t557 (x8_3 ++ [(⟨t562, t563⟩ : S97)]) (wrap64 (x9_3 + 1)) t564 t565 t566) else (none)) = some (r1, r2, r3, r4) := H
         have A16 := za.mk A160
         clear A160
         by_cases c17 : x8_3.length < 8796093022208
         ·rw [if_pos c17] at H
          have LMc17 := za.mk c17
          clear c17
          obtain ⟨y567, hy567⟩ : ∃ y_ : List (S97), y_ = (x8_3 ++ [(⟨t562, t563⟩ : S97)]) := ⟨_, rfl⟩
          replace H : (zm.l0 k3 t557 y567 (wrap64 (x9_3 + 1)) t564 t565 t566) = some (r1, r2, r3, r4) := by first | (rw [hy567]; with_reducible exact H) | (have H2_ := (Option.bind_some _ _).symm.trans H; rw [hy567]; with_reducible exact H2_) | (have H2_ := (Option.bind_some _ _).symm.trans H; with_reducible exact H2_) | with_reducible exact H | (rw [hy567]; exact H) | exact H
          have Ny567 := za.mk hy567
          clear hy567
          have H' := za.mk H
          clear H
          obtain ⟨HGz18, hgz18⟩ := HI0.out
          have hcz18_0 := yd HGz18
          have hcz18_1 := yc HGz18
          have hcz18_2 := ye HGz18
          have hfz18_0 := ze HGz18 0
          have hfz18_1 := ze HGz18 1
          have hfz18_2 := ze HGz18 2
          clear HGz18 hgz18
          go_wp2_with (first | ((with_reducible refine zC (N := 41) rfl ?_); refine qo (some 41) rfl rfl Try.func78 (by kernel_rfl) rfl #[.pointer (some ⟨g, 0, none⟩)] rfl (by (try simp only [Vw, List.map_cons, List.map_nil]); first | done | rfl | (simp only [List.length_drop, List.length_take]; rfl)) ?_; (with_reducible refine (xq.calls k3 g x1000_3 x1001_3 x1002_3 t562 t563 t564 t565 t566 w0 _ ?side1 ?side2 A16.out).mono ?_); (case side1 => repeat (first | (with_reducible first | exact HI0.out | apply zf.alloc | apply zf.drewN | apply zf.drew | apply zf.set_0 | apply zf.set_1 | apply zf.set_2) | exact HI0.out)); (case side2 => repeat (first | (with_reducible first | exact HB.out | apply zc | apply zb | apply zd | refine zh ?_ (zf.ge HI0.out)) | exact HB.out)); rintro e w19 ⟨rfl, hi, hb, hk⟩; refine ⟨_, rfl, ?_⟩; have n0_ := za.mk (Kd.R_mono (Kd.R_keep (zf.apart (show zf w0 _ g x1000_3 x1001_3 x1002_3 from by repeat (first | (with_reducible first | exact HI0.out | apply zf.alloc | apply zf.drewN | apply zf.drew | apply zf.set_0 | apply zf.set_1 | apply zf.set_2) | exact HI0.out)) (by (with_reducible repeat (first | apply Kd.R_alloc | apply Kd.R_drewN | apply Kd.R_drew)); exact HO_8.out) (by decide)) hk (fun _ h => h.2)) (fun _ h => h.1)); have n1_ := za.mk (zl.trans (by repeat (first | (with_reducible first | exact HK.out | apply zl.set_ | apply zI | apply zO | apply zQ) | exact HK.out)) hk (.inl rfl)); have n2_ := za.mk (hb); have n3_ := za.mk (hi); clear HO_8; clear HK; clear HB; clear HI0; have HO_8 := n0_; have HK := n1_; have HB := n2_; have HI0 := n3_; clear n0_ n1_ n2_ n3_; (try clear hb); (try clear hb2); (try clear hk); (try clear hi)) | ((with_reducible refine xY (b := .append) (xs := #[.tmp 38, .tmp 42]) rfl ?_); at_builtin; refine Kd.R_append k97 w.heap.size rfl (.tmp 38) (.tmp 42) 43 97 (.agg #[(.int .i64 0), (.int .i64 0)]) 16 rfl Try.underlying43 Vh rfl (by decide) (by omega) u8 x8_3 (⟨t562, t563⟩ : S97) [.int .i64 t562, .int .i64 t563] (fun _ => True) (fun _ => False) rfl rfl ?aP (fun _ hk => hk.elim) ?aF ?aO (Below.refl _ _) ?aS ?aL ?_; (case aP => exact JT _ _ _ (⟨t562, t563⟩ : S97)); (case aF => exact (fun _ _ => trivial)); (case aO => exact (by (with_reducible repeat (first | apply Kd.R_alloc | apply Kd.R_drewN | apply Kd.R_drew)); exact HO_8.out)); (case aS => exact (xx (w := w) (g := g) (row := none) (by repeat (first | (with_reducible first | exact HK.out | apply zl.set_ | apply zI | apply zO | apply zQ) | exact HK.out)))); (case aL => have := LMc17.out; omega); intro v568 w20 ho hb hg hat; rw [← Ny567.out] at ho; have n0_ := za.mk (zf.grown (by repeat (first | (with_reducible first | exact HI0.out | apply zf.alloc | apply zf.drewN | apply zf.drew | apply zf.set_0 | apply zf.set_1 | apply zf.set_2) | exact HI0.out)) hg (zf.own_ne HI0.out HO_8.out (by decide))); have n1_ := za.mk (jg (by repeat (first | (with_reducible first | exact HB.out | apply zc | apply zb | apply zd | refine zh ?_ (zf.ge HI0.out)) | exact HB.out)) HL.out hb); have n2_ := za.mk (zl.trans (by repeat (first | (with_reducible first | exact HK.out | apply zl.set_ | apply zI | apply zO | apply zQ) | exact HK.out)) (zl.of_grown hg g) (Kd.R_base2 HO_8.out)); have n3_ := za.mk (ho); clear HI0; clear HB; clear HK; clear HO_8; have HI0 := n0_; have HB := n1_; have HK := n2_; have HO569 := n3_; clear n0_ n1_ n2_ n3_; clear ho hb hg hat))
          go_roundg k3
          case measure => have := HJ4.out; have := HJ10.out; have := HK3.out; omega
          case rel => exact ⟨(y567), (wrap64 (x9_3 + 1)), (t564), (t565), (t566), (by first | rfl | (simp; done) | (simp [*]; done)), H', ⟨by have := HJ4.out; have := HJ10.out; have := HK3.out; omega⟩, ⟨by (with_reducible repeat (first | apply Kd.R_alloc | apply Kd.R_drewN | apply Kd.R_drew)); exact HO569.out⟩, ⟨by repeat (first | (with_reducible first | exact HI0.out | apply zf.alloc | apply zf.drewN | apply zf.drew | apply zf.set_0 | apply zf.set_1 | apply zf.set_2) | exact HI0.out)⟩, ⟨by repeat (first | (with_reducible first | exact HK.out | apply zl.set_ | apply zI | apply zO | apply zQ) | exact HK.out)⟩, ⟨by repeat (first | (with_reducible first | exact HB.out | apply zc | apply zb | apply zd | refine zh ?_ (zf.ge HI0.out)) | exact HB.out)⟩⟩
         ·rw [if_neg c17] at H
          exact absurd H (by simp)
        ·rw [if_neg c15] at H
         have c15b0 : (x1002_3 == 0) = false := beq_eq_false_iff_ne.mpr c15
         have c15b1 : (x1002_3 != 0) = true := bne_iff_ne.mpr c15
         simp only [Option.some.injEq, Prod.mk.injEq] at H
         obtain ⟨rfl, rfl, rfl, rfl⟩ := H
         obtain ⟨HGz21, hgz21⟩ := HI0.out
         have hcz21_0 := yd HGz21
         have hcz21_1 := yc HGz21
         have hcz21_2 := ye HGz21
         have hfz21_0 := ze HGz21 0
         have hfz21_1 := ze HGz21 1
         have hfz21_2 := ze HGz21 2
         clear HGz21 hgz21
         go_wp2
         go_ret
         exact ⟨_, by first | rfl | (simp [zn, zo] <;> rfl) | (simp [*, zn, zo] <;> rfl), by (with_reducible repeat (first | apply Kd.R_alloc | apply Kd.R_drewN | apply Kd.R_drew)); exact HO_8.out, by repeat (first | (with_reducible first | exact HI0.out | apply zf.alloc | apply zf.drewN | apply zf.drew | apply zf.set_0 | apply zf.set_1 | apply zf.set_2) | exact HI0.out), by repeat (first | (with_reducible first | exact HB.out | apply zc | apply zb | apply zd | refine zh ?_ (zf.ge HI0.out)) | exact HB.out), by repeat (first | (with_reducible first | exact HK.out | apply zl.set_ | apply zI | apply zO | apply zQ) | exact HK.out)⟩
       ·rw [if_neg c14] at H
        have c14b0 : decide (x9_3 < t557) = false := decide_eq_false c14
        clear c14
        simp only [Option.some.injEq, Prod.mk.injEq] at H
        obtain ⟨rfl, rfl, rfl, rfl⟩ := H
        go_wp2
        go_ret
        exact ⟨_, by first | rfl | (simp [zn, zo] <;> rfl) | (simp [*, zn, zo] <;> rfl), by (with_reducible repeat (first | apply Kd.R_alloc | apply Kd.R_drewN | apply Kd.R_drew)); exact HO_8.out, by repeat (first | (with_reducible first | exact HI0.out | apply zf.alloc | apply zf.drewN | apply zf.drew | apply zf.set_0 | apply zf.set_1 | apply zf.set_2) | exact HI0.out), by repeat (first | (with_reducible first | exact HB.out | apply zc | apply zb | apply zd | refine zh ?_ (zf.ge HI0.out)) | exact HB.out), by repeat (first | (with_reducible first | exact HK.out | apply zl.set_ | apply zI | apply zO | apply zQ) | exact HK.out)⟩
def xc.f (k : Nat) (a0 : ByteArray) (a1 : Int) : Option (List S97 × Int × Int) := (zm.f k a0 a1 0 32).bind fun t => if t.2.2.2 = 0 then (z5.f k t.1).bind fun b => if b = true then some (t.1, t.2.2.1, 0) else some ([], 0, 6) else some ([], 0, t.2.2.2)
theorem xc.calls (k : Nat) (a0 : ByteArray) (a1 : Int) (r1 : List S97) (r2 : Int) (r3 : Int) (w : World) (h : xc.f k a0 a1 = some (r1, r2, r3)) :
  Calls Try.prog 31 #[.string a0, .int .i64 a1] w fun e w' => ∃ v0_ : Value, e = .returned (.tuple #[v0_, .int .i64 r2, .int .i64 r3]) ∧ Kd.R k97 97 w' w.heap.size (fun _ => True) v0_ r1 ∧ Below w.heap.size w w' := by
 unfold xc.f at h
 rw [Vx] at h
 obtain ⟨⟨x1, x2, x3, x4⟩, hx, h⟩ := h
 replace h : (if x4 = 0 then (z5.f k x1).bind fun b => if b = true then some (x1, x3, (0 : Int)) else some ([], 0, 6) else some ([], 0, x4)) = some (r1, r2, r3) := h
 have HX := za.mk hx
 clear hx
 by_cases c0 : x4 = 0
 ·subst c0
  rw [if_pos rfl, Vx] at h
  obtain ⟨b, hb, h⟩ := h
  have HOK := za.mk hb
  clear hb
  cases b with
  | true =>
   rw [if_pos rfl] at h
   simp only [Option.some.injEq, Prod.mk.injEq] at h
   obtain ⟨rfl, rfl, rfl⟩ := h
   go_enter Try.func31, Try.ntmps31
   go_wp2_with (first | (go_at_call 77; refine (zm.calls k w.heap.size a0 a1 0 32 x1 x2 x3 _ w _ (zf.new w w a0 a1 0 (Below.refl _ _)) (zc (Below.refl _ _) _) HX.out).mono ?_; rintro e w1 ⟨v0, rfl, hR, hI, hB, hK⟩; obtain ⟨A, c, rfl, hl, hC⟩ := Kd.R_reads hR; have HR := za.mk (zf.apart hI (Kd.R_lower hR (Below.size (zc (Below.refl w.heap.size w) _))) (by decide)); have HI := za.mk hI; have HB := za.mk hB; have HL := za.mk hl; have HC := za.mk hC; clear hR hI hB hK hl hC) | (go_at_call 76; refine (Zj k w.heap.size x2 x3 A c x1 w _ HI.out HB.out HC.out HL.out HOK.out).mono ?_; rintro e w2 ⟨rfl, hI2, hB2, hK2⟩; have HB2 := za.mk hB2; have HK2 := za.mk hK2; clear hI2 hB2 hK2))
   go_ret3
   exact ⟨_, rfl, Kd.R_mono (Kd.R_keep HR.out HK2.out (fun _ hk => hk.2)) (fun _ _ => trivial), HB2.out⟩
  | false =>
   rw [if_neg (by decide)] at h
   simp only [Option.some.injEq, Prod.mk.injEq] at h
   obtain ⟨rfl, rfl, rfl⟩ := h
   go_enter Try.func31, Try.ntmps31
   go_wp2_with (first | (go_at_call 77; refine (zm.calls k w.heap.size a0 a1 0 32 x1 x2 x3 _ w _ (zf.new w w a0 a1 0 (Below.refl _ _)) (zc (Below.refl _ _) _) HX.out).mono ?_; rintro e w1 ⟨v0, rfl, hR, hI, hB, hK⟩; obtain ⟨A, c, rfl, hl, hC⟩ := Kd.R_reads hR; have HR := za.mk (zf.apart hI (Kd.R_lower hR (Below.size (zc (Below.refl w.heap.size w) _))) (by decide)); have HI := za.mk hI; have HB := za.mk hB; have HL := za.mk hl; have HC := za.mk hC; clear hR hI hB hK hl hC) | (go_at_call 76; refine (vR k w.heap.size x2 x3 A c x1 w _ HI.out HB.out HC.out HL.out HOK.out).mono ?_; rintro e w2 ⟨rfl, hI2, hB2, hK2⟩; have HB2 := za.mk hB2; have HK2 := za.mk hK2; clear hI2 hB2 hK2))
   go_ret3
   exact ⟨_, rfl, Kd.R_nil _ _ _ _ _, HB2.out⟩
 ·rw [if_neg c0] at h
  simp only [Option.some.injEq, Prod.mk.injEq] at h
  obtain ⟨rfl, rfl, rfl⟩ := h
  have C0 := za.mk c0
  clear c0
  go_enter Try.func31, Try.ntmps31
  go_wp2_with (first | (go_at_call 77; refine (zm.calls k w.heap.size a0 a1 0 32 x1 x2 x3 _ w _ (zf.new w w a0 a1 0 (Below.refl _ _)) (zc (Below.refl _ _) _) HX.out).mono ?_; rintro e w1 ⟨v0, rfl, hR, hI, hB, hK⟩; obtain ⟨A, c, rfl, hl, hC⟩ := Kd.R_reads hR; have HR := za.mk (zf.apart hI (Kd.R_lower hR (Below.size (zc (Below.refl w.heap.size w) _))) (by decide)); have HI := za.mk hI; have HB := za.mk hB; have HL := za.mk hl; have HC := za.mk hC; clear hR hI hB hK hl hC) | (go_at_call 76; refine (ZD k w.heap.size x2 x3 A c x1 w _ x4 C0.out HI.out HB.out HC.out HL.out).mono ?_; rintro e w2 ⟨rfl, hI2, hB2, hK2⟩; have HB2 := za.mk hB2; have HK2 := za.mk hK2; clear hI2 hB2 hK2))
  go_ret3
  exact ⟨_, rfl, Kd.R_nil _ _ _ _ _, HB2.out⟩
def xv.f (k : Nat) (a0 : Int) (a1 : Int) (a2 : ByteArray) : Option (Bool) := (zK.f k a2).bind fun t406 => (if t406 = true then (some true) else (if a2.toList = ([42] : List UInt8) then (some true) else (if a2.toList = ([42, 42] : List UInt8) then (some (a0 == (wrap64 (a1 - 1)))) else (some false))))
theorem xv.calls (k : Nat) (a0 : Int) (a1 : Int) (a2 : ByteArray) (r : Bool) (w : World) (h : xv.f k a0 a1 a2 = some r) :
  Calls Try.prog 110 #[.int .i64 a0, .int .i64 a1, .string a2] w fun e w' => e = .returned (.bool r) ∧ zG w w' := by
 have H : ((zK.f k a2).bind fun t406 => (if t406 = true then (some true) else (if a2.toList = ([42] : List UInt8) then (some true) else (if a2.toList = ([42, 42] : List UInt8) then (some (a0 == (wrap64 (a1 - 1)))) else (some false))))) = some r := h
 clear h
 replace H := Vx.mp H
 obtain ⟨t406, A40, H⟩ := H
 replace H : (if t406 = true then (some true) else (if a2.toList = ([42] : List UInt8) then (some true) else (if a2.toList = ([42, 42] : List UInt8) then (some (a0 == (wrap64 (a1 - 1)))) else (some false)))) = some r := H
 have A4 := za.mk A40
 clear A40
 by_cases c5 : t406 = true
 ·subst c5
  have H1 : (some true) = some r := by rw [if_pos rfl] at H; exact H
  clear H
  have H := H1
  clear H1
  obtain rfl := Option.some.inj H
  go_enter Try.func110, Try.ntmps110
  go_wp2_with (first | ((with_reducible refine zL (f := 109) rfl ?_); refine z8 (some 8) rfl rfl Try.func109 (by kernel_rfl) rfl #[.string a2] rfl (by (try simp only [Vw, List.map_cons, List.map_nil]); first | done | rfl | (simp only [List.length_drop, List.length_take]; rfl)) ?_; (with_reducible refine (zK.calls k a2 true _ A4.out).mono ?_); rintro e w' ⟨rfl, ⟨nd, rfl⟩⟩; refine ⟨_, rfl, ?_⟩))
  go_ret
  exact ⟨by first | rfl | (simp; done) | (simp [*]; done), by repeat (first | exact zG.refl _ | apply zG.step)⟩
 ·replace c5 := VA.mpr c5
  subst c5
  have H1 : (if a2.toList = ([42] : List UInt8) then (some true) else (if a2.toList = ([42, 42] : List UInt8) then (some (a0 == (wrap64 (a1 - 1)))) else (some false))) = some r := by rw [if_neg (show ¬ (false = true) by decide)] at H; exact H
  clear H
  have H := H1
  clear H1
  by_cases c6 : a2.toList = ([42] : List UInt8)
  ·rw [if_pos c6] at H
   have c6b0 : (a2.toList == ([42] : List UInt8)) = true := beq_iff_eq.mpr c6
   have c6b1 : (a2.toList != ([42] : List UInt8)) = false := bne_eq_false_iff_eq.mpr c6
   clear c6
   obtain rfl := Option.some.inj H
   go_enter Try.func110, Try.ntmps110
   go_wp2_with (first | ((with_reducible refine zL (f := 109) rfl ?_); refine z8 (some 8) rfl rfl Try.func109 (by kernel_rfl) rfl #[.string a2] rfl (by (try simp only [Vw, List.map_cons, List.map_nil]); first | done | rfl | (simp only [List.length_drop, List.length_take]; rfl)) ?_; (with_reducible refine (zK.calls k a2 false _ A4.out).mono ?_); rintro e w' ⟨rfl, ⟨nd, rfl⟩⟩; refine ⟨_, rfl, ?_⟩))
   go_ret
   exact ⟨by first | rfl | (simp; done) | (simp [*]; done), by repeat (first | exact zG.refl _ | apply zG.step)⟩
  ·rw [if_neg c6] at H
   have c6b0 : (a2.toList == ([42] : List UInt8)) = false := beq_eq_false_iff_ne.mpr c6
   have c6b1 : (a2.toList != ([42] : List UInt8)) = true := bne_iff_ne.mpr c6
   by_cases c7 : a2.toList = ([42, 42] : List UInt8)
   ·rw [if_pos c7] at H
    have c7b0 : (a2.toList == ([42, 42] : List UInt8)) = true := beq_iff_eq.mpr c7
    have c7b1 : (a2.toList != ([42, 42] : List UInt8)) = false := bne_eq_false_iff_eq.mpr c7
    clear c7
    obtain rfl := Option.some.inj H
    go_enter Try.func110, Try.ntmps110
    go_wp2_with (first | ((with_reducible refine zL (f := 109) rfl ?_); refine z8 (some 8) rfl rfl Try.func109 (by kernel_rfl) rfl #[.string a2] rfl (by (try simp only [Vw, List.map_cons, List.map_nil]); first | done | rfl | (simp only [List.length_drop, List.length_take]; rfl)) ?_; (with_reducible refine (zK.calls k a2 false _ A4.out).mono ?_); rintro e w' ⟨rfl, ⟨nd, rfl⟩⟩; refine ⟨_, rfl, ?_⟩))
    go_ret
    exact ⟨by first | rfl | (simp; done) | (simp [*]; done), by repeat (first | exact zG.refl _ | apply zG.step)⟩
   ·rw [if_neg c7] at H
    have c7b0 : (a2.toList == ([42, 42] : List UInt8)) = false := beq_eq_false_iff_ne.mpr c7
    have c7b1 : (a2.toList != ([42, 42] : List UInt8)) = true := bne_iff_ne.mpr c7
    obtain rfl := Option.some.inj H
    go_enter Try.func110, Try.ntmps110
    go_wp2_with (first | ((with_reducible refine zL (f := 109) rfl ?_); refine z8 (some 8) rfl rfl Try.func109 (by kernel_rfl) rfl #[.string a2] rfl (by (try simp only [Vw, List.map_cons, List.map_nil]); first | done | rfl | (simp only [List.length_drop, List.length_take]; rfl)) ?_; (with_reducible refine (zK.calls k a2 false _ A4.out).mono ?_); rintro e w' ⟨rfl, ⟨nd, rfl⟩⟩; refine ⟨_, rfl, ?_⟩))
    go_ret
    exact ⟨by first | rfl | (simp; done) | (simp [*]; done), by repeat (first | exact zG.refl _ | apply zG.step)⟩
def zT.l0 : Nat → List ByteArray → List ByteArray → Int → Int → Option (Bool)
 | 0, _, _, _, _ => none
 | k + 1, x5, x13, x14, x15 => if x15 < x14 then (if 0 ≤ x15 then (if x15 < (x13.length : Int) then ((xv.f k x15 (x5.length : Int) (xr ByteArray.empty x13 x15)).bind fun t411 => (if t411 = true then (zT.l0 k x5 x13 x14 (wrap64 (x15 + 1))) else (some false))) else (none)) else (none)) else (some (decide ((x5.length : Int) ≤ 4)))
def zT.f (k : Nat) (a0 : ByteArray)  : Option (Bool) := if (a0.size : Int) > 32 then (some false) else ((z9.f k a0).bind fun t407 => (zT.l0 k t407 t407 (t407.length : Int) 0))
theorem zT.calls (k : Nat) (a0 : ByteArray)  (r : Bool) (w : World) (h : zT.f k a0 = some r) :
  Calls Try.prog 107 #[.string a0, .func (Fn.func 110) #[] #[]] w fun e w' => e = .returned (.bool r) ∧ Below w.heap.size w w' := by
 have HB := za.mk (Below.refl w.heap.size w)
 have H : (if (a0.size : Int) > 32 then (some false) else ((z9.f k a0).bind fun t407 => (zT.l0 k t407 t407 (t407.length : Int) 0))) = some r := h
 clear h
 by_cases c3 : (a0.size : Int) > 32
 ·rw [if_pos c3] at H
  have c3b0 : decide (32 < (a0.size : Int)) = true := decide_eq_true c3
  have c3b1 : decide (32 < a0.size) = true := decide_eq_true (by omega)
  clear c3
  obtain rfl := Option.some.inj H
  go_enter Try.func107, Try.ntmps107
  go_wp2
  go_ret
  exact ⟨by first | rfl | (simp [zn, zo] <;> rfl) | (simp [*, zn, zo] <;> rfl), by repeat (first | (with_reducible first | exact HB.out | apply zc | apply zb | apply zd) | exact HB.out)⟩
 ·rw [if_neg c3] at H
  have c3b0 : decide (32 < (a0.size : Int)) = false := decide_eq_false c3
  have c3b1 : decide (32 < a0.size) = false := decide_eq_false (by omega)
  clear c3
  replace H := Vx.mp H
  obtain ⟨t407, A40, H⟩ := H
  replace H : (zT.l0 k t407 t407 (t407.length : Int) 0) = some r := H
  have A4 := za.mk A40
  clear A40
  have H' := za.mk H
  clear H
  go_enter Try.func107, Try.ntmps107
  go_wp2_with (first | ((with_reducible refine zL (f := 114) rfl ?_); refine z8 (some 12) rfl rfl Try.func114 (by kernel_rfl) rfl #[.string a0] rfl (by (try simp only [Vw, List.map_cons, List.map_nil]); first | done | rfl | (simp only [List.length_drop, List.length_take]; rfl)) ?_; (with_reducible refine (z9.calls k a0 t407 _ A4.out).mono ?_); rintro e w5 ⟨v408, rfl, ho0, hb⟩; refine ⟨_, rfl, ?_⟩; have n0_ := za.mk (Kd.R_lower ho0 (zp (by repeat (first | (with_reducible first | exact HB.out | apply zc | apply zb | apply zd) | exact HB.out)))); have n1_ := za.mk (zi (by repeat (first | (with_reducible first | exact HB.out | apply zc | apply zb | apply zd) | exact HB.out)) hb); clear HB; have HO409 := n0_; have HB := n1_; clear n0_ n1_; (try clear hb); (try clear hb2); (try clear hk); (try clear hi); (try clear ho0); obtain ⟨Ao6, co6, eo6⟩ := Kd.R_slice HO409.out; subst eo6))
  go_loopg [15] k (fun kq v15 w' => ∃ (x15_1 : Int), v15 = .int .i64 x15_1 ∧ za (zT.l0 kq t407 t407 (t407.length : Int) x15_1 = some r) ∧ za (kq ≤ k) ∧ za (Kd.R Kd.string 9 w' w.heap.size (fun _ => True) (.slice Ao6 t407.length co6) t407) ∧ za (Kd.R Kd.string 9 w' w.heap.size (fun _ => True) (.slice Ao6 t407.length co6) t407) ∧ za (Below w.heap.size w w'))
  case atStart => exact ⟨(0), (by first | rfl | (simp; done) | (simp [*]; done)), H', ⟨Nat.le_refl _⟩, ⟨by (with_reducible repeat (first | apply Kd.R_alloc | apply Kd.R_drewN | apply Kd.R_drew)); exact HO409.out⟩, ⟨by (with_reducible repeat (first | apply Kd.R_alloc | apply Kd.R_drewN | apply Kd.R_drew)); exact HO409.out⟩, ⟨by repeat (first | (with_reducible first | exact HB.out | apply zc | apply zb | apply zd) | exact HB.out)⟩⟩
  case round =>
   clear H'
   try clear c1
   try clear p2
   try clear c3
   try clear c3b0
   try clear c3b1
   obtain ⟨x15_1, rfl, HA, HK1, HO_5, HO_13, HB⟩ := hrel
   cases gk with
   | zero => exact absurd HA.out (by simp [zT.l0])
   | succ k1 =>
    have H := HA.out
    clear HA
    simp only [zT.l0] at H
    by_cases c7 : x15_1 < (t407.length : Int)
    ·rw [if_pos c7] at H
     have c7b0 : decide (x15_1 < (t407.length : Int)) = true := decide_eq_true c7
     clear c7
     by_cases c8 : 0 ≤ x15_1
     ·rw [if_pos c8] at H
      have c8b0 : decide (0 ≤ x15_1) = true := decide_eq_true c8
      clear c8
      by_cases c9 : x15_1 < (t407.length : Int)
      ·rw [if_pos c9] at H
       have c9b0 : decide (x15_1 < (t407.length : Int)) = true := decide_eq_true c9
       clear c9
       replace H := Vx.mp H
       obtain ⟨t411, A100, H⟩ := H
       replace H : (if t411 = true then (zT.l0 k1 t407 t407 (t407.length : Int) (wrap64 (x15_1 + 1))) else (some false)) = some r := H
       have A10 := za.mk A100
       clear A100
       by_cases c11 : t411 = true
       ·subst c11
        have H1 : (zT.l0 k1 t407 t407 (t407.length : Int) (wrap64 (x15_1 + 1))) = some r := by rw [if_pos rfl] at H; exact H
        clear H
        have H := H1
        clear H1
        have H' := za.mk H
        clear H
        have p410 : 0 ≤ (x15_1 : Int) := of_decide_eq_true (by first | (with_reducible assumption) | assumption)
        have q410 : x15_1 < (t407.length : Int) := of_decide_eq_true (by first | (with_reducible assumption) | assumption)
        obtain ⟨ad410, e410, hx410_0⟩ := Kd.at_string (Kd.R_reads' HO_13.out).2.2 x15_1 p410 q410
        cases e410
        replace p410 := eq_true p410
        replace q410 := eq_true q410
        go_wp2_with (first | ((with_reducible refine zC (N := 25) rfl ?_); refine qo (some 25) rfl rfl Try.func110 (by kernel_rfl) rfl #[.int .i64 x15_1, .int .i64 (t407.length : Int), .string (xr ByteArray.empty t407 x15_1)] rfl (by (try simp only [Vw, List.map_cons, List.map_nil]); first | done | rfl | (simp only [List.length_drop, List.length_take]; rfl)) ?_; (with_reducible refine (xv.calls k1 x15_1 (t407.length : Int) (xr ByteArray.empty t407 x15_1) true _ A10.out).mono ?_); rintro e w' ⟨rfl, ⟨nd, rfl⟩⟩; refine ⟨_, rfl, ?_⟩))
        go_roundg k1
        case measure => have := HK1.out; omega
        case rel => exact ⟨(wrap64 (x15_1 + 1)), (by first | rfl | (simp; done) | (simp [*]; done)), H', ⟨by have := HK1.out; omega⟩, ⟨by (with_reducible repeat (first | apply Kd.R_alloc | apply Kd.R_drewN | apply Kd.R_drew)); exact HO_5.out⟩, ⟨by (with_reducible repeat (first | apply Kd.R_alloc | apply Kd.R_drewN | apply Kd.R_drew)); exact HO_13.out⟩, ⟨by repeat (first | (with_reducible first | exact HB.out | apply zc | apply zb | apply zd) | exact HB.out)⟩⟩
       ·replace c11 := VA.mpr c11
        subst c11
        have H1 : (some false) = some r := by rw [if_neg (show ¬ (false = true) by decide)] at H; exact H
        clear H
        have H := H1
        clear H1
        obtain rfl := Option.some.inj H
        have p410 : 0 ≤ (x15_1 : Int) := of_decide_eq_true (by first | (with_reducible assumption) | assumption)
        have q410 : x15_1 < (t407.length : Int) := of_decide_eq_true (by first | (with_reducible assumption) | assumption)
        obtain ⟨ad410, e410, hx410_0⟩ := Kd.at_string (Kd.R_reads' HO_13.out).2.2 x15_1 p410 q410
        cases e410
        replace p410 := eq_true p410
        replace q410 := eq_true q410
        go_wp2_with (first | ((with_reducible refine zC (N := 25) rfl ?_); refine qo (some 25) rfl rfl Try.func110 (by kernel_rfl) rfl #[.int .i64 x15_1, .int .i64 (t407.length : Int), .string (xr ByteArray.empty t407 x15_1)] rfl (by (try simp only [Vw, List.map_cons, List.map_nil]); first | done | rfl | (simp only [List.length_drop, List.length_take]; rfl)) ?_; (with_reducible refine (xv.calls k1 x15_1 (t407.length : Int) (xr ByteArray.empty t407 x15_1) false _ A10.out).mono ?_); rintro e w' ⟨rfl, ⟨nd, rfl⟩⟩; refine ⟨_, rfl, ?_⟩))
        go_ret
        exact ⟨by first | rfl | (simp [zn, zo] <;> rfl) | (simp [*, zn, zo] <;> rfl), by repeat (first | (with_reducible first | exact HB.out | apply zc | apply zb | apply zd) | exact HB.out)⟩
      ·rw [if_neg c9] at H
       exact absurd H (by simp)
     ·rw [if_neg c8] at H
      exact absurd H (by simp)
    ·rw [if_neg c7] at H
     have c7b0 : decide (x15_1 < (t407.length : Int)) = false := decide_eq_false c7
     clear c7
     obtain rfl := Option.some.inj H
     go_wp2
     go_ret
     exact ⟨by first | rfl | (simp [zn, zo] <;> rfl) | (simp [*, zn, zo] <;> rfl), by repeat (first | (with_reducible first | exact HB.out | apply zc | apply zb | apply zd) | exact HB.out)⟩
def xK.f (k : Nat) (a0 : ByteArray) : Option (Bool) := (zT.f k a0).bind fun t412 => (some t412)
theorem xK.calls (k : Nat) (a0 : ByteArray) (r : Bool) (w : World) (h : xK.f k a0 = some r) :
  Calls Try.prog 97 #[.string a0] w fun e w' => e = .returned (.bool r) ∧ Below w.heap.size w w' := by
 have HB := za.mk (Below.refl w.heap.size w)
 have H : ((zT.f k a0).bind fun t412 => (some t412)) = some r := h
 clear h
 replace H := Vx.mp H
 obtain ⟨t412, A20, H⟩ := H
 replace H : (some t412) = some r := H
 have A2 := za.mk A20
 clear A20
 obtain rfl := Option.some.inj H
 go_enter Try.func97, Try.ntmps97
 go_wp2_with (first | ((with_reducible refine zL (f := 107) rfl ?_); refine z8 (some 4) rfl rfl Try.func107 (by kernel_rfl) rfl #[.string a0, .func (Fn.func 110) #[] #[]] rfl (by (try simp only [Vw, List.map_cons, List.map_nil]); first | done | rfl | (simp only [List.length_drop, List.length_take]; rfl)) ?_; (with_reducible refine (zT.calls k a0 t412 _ A2.out).mono ?_); rintro e w3 ⟨rfl, hb⟩; refine ⟨_, rfl, ?_⟩; have n0_ := za.mk (zi (by repeat (first | (with_reducible first | exact HB.out | apply zc | apply zb | apply zd) | exact HB.out)) hb); clear HB; have HB := n0_; clear n0_; (try clear hb); (try clear hb2); (try clear hk); (try clear hi)))
 go_ret
 exact ⟨by first | rfl | (simp [zn, zo] <;> rfl) | (simp [*, zn, zo] <;> rfl), by repeat (first | (with_reducible first | exact HB.out | apply zc | apply zb | apply zd) | exact HB.out)⟩
def yG.l0 : Nat → List ByteArray → Int → Int → Option (Int × Int)
 | 0, _, _, _ => none
 | k + 1, x9, x10, x11 => if x11 < x10 then (if 0 ≤ x11 then (if x11 < (x9.length : Int) then ((xK.f k (xr ByteArray.empty x9 x11)).bind fun t414 => (if t414 = true then (yG.l0 k x9 x10 (wrap64 (x11 + 1))) else (some (x11, 6)))) else (none)) else (none)) else (some (0, 0))
def yG.f (k : Nat) (l0 : List ByteArray) : Option (Int × Int) := if (l0.length : Int) > 8 then (some (0, 4)) else (yG.l0 k l0 (l0.length : Int) 0)
theorem yG.calls (k : Nat) (A0 : Option Addr) (c0 : Nat) (l0 : List ByteArray) (r1 : Int) (r2 : Int) (w : World) (hr0 : Kd.C Kd.string w A0 l0.length l0) (hc0 : l0.length ≤ c0) (h : yG.f k l0 = some (r1, r2)) :
  Calls Try.prog 60 #[.slice A0 l0.length c0] w fun e w' => e = .returned (.tuple #[.int .i64 r1, .int .i64 r2]) ∧ Below w.heap.size w w' := by
 have HR0 := za.mk hr0
 have HC0 := za.mk hc0
 clear hr0 hc0
 have HB := za.mk (Below.refl w.heap.size w)
 have H : (if (l0.length : Int) > 8 then (some (0, 4)) else (yG.l0 k l0 (l0.length : Int) 0)) = some (r1, r2) := h
 clear h
 by_cases c2 : (l0.length : Int) > 8
 ·rw [if_pos c2] at H
  have c2b0 : decide (8 < (l0.length : Int)) = true := decide_eq_true c2
  have c2b1 : decide (8 < l0.length) = true := decide_eq_true (by omega)
  clear c2
  simp only [Option.some.injEq, Prod.mk.injEq] at H
  obtain ⟨rfl, rfl⟩ := H
  go_enter Try.func60, Try.ntmps60
  go_wp2
  go_ret2
  exact ⟨by first | rfl | (simp [zn, zo] <;> rfl) | (simp [*, zn, zo] <;> rfl), by repeat (first | (with_reducible first | exact HB.out | apply zc | apply zb | apply zd) | exact HB.out)⟩
 ·rw [if_neg c2] at H
  have c2b0 : decide (8 < (l0.length : Int)) = false := decide_eq_false c2
  have c2b1 : decide (8 < l0.length) = false := decide_eq_false (by omega)
  clear c2
  have H' := za.mk H
  clear H
  go_enter Try.func60, Try.ntmps60
  go_wp2
  go_loopg [11] k (fun kq v11 w' => ∃ (x11_1 : Int), v11 = .int .i64 x11_1 ∧ za (yG.l0 kq l0 (l0.length : Int) x11_1 = some (r1, r2)) ∧ za (kq ≤ k) ∧ za (Below w.heap.size w w'))
  case atStart => exact ⟨(0), (by first | rfl | (simp; done) | (simp [*]; done)), H', ⟨Nat.le_refl _⟩, ⟨by repeat (first | (with_reducible first | exact HB.out | apply zc | apply zb | apply zd) | exact HB.out)⟩⟩
  case round =>
   clear H'
   try clear c2
   try clear c2b0
   try clear c2b1
   try clear p2
   obtain ⟨x11_1, rfl, HA, HK1, HB⟩ := hrel
   cases gk with
   | zero => exact absurd HA.out (by simp [yG.l0])
   | succ k1 =>
    have H := HA.out
    clear HA
    simp only [yG.l0] at H
    by_cases c3 : x11_1 < (l0.length : Int)
    ·rw [if_pos c3] at H
     have c3b0 : decide (x11_1 < (l0.length : Int)) = true := decide_eq_true c3
     clear c3
     by_cases c4 : 0 ≤ x11_1
     ·rw [if_pos c4] at H
      have c4b0 : decide (0 ≤ x11_1) = true := decide_eq_true c4
      clear c4
      by_cases c5 : x11_1 < (l0.length : Int)
      ·rw [if_pos c5] at H
       have c5b0 : decide (x11_1 < (l0.length : Int)) = true := decide_eq_true c5
       clear c5
       replace H := Vx.mp H
       obtain ⟨t414, A60, H⟩ := H
       replace H : (if t414 = true then (yG.l0 k1 l0 (l0.length : Int) (wrap64 (x11_1 + 1))) else (some (x11_1, 6))) = some (r1, r2) := H
       have A6 := za.mk A60
       clear A60
       by_cases c7 : t414 = true
       ·subst c7
        have H1 : (yG.l0 k1 l0 (l0.length : Int) (wrap64 (x11_1 + 1))) = some (r1, r2) := by rw [if_pos rfl] at H; exact H
        clear H
        have H := H1
        clear H1
        have H' := za.mk H
        clear H
        have p413 : 0 ≤ (x11_1 : Int) := of_decide_eq_true (by first | (with_reducible assumption) | assumption)
        have q413 : x11_1 < (l0.length : Int) := of_decide_eq_true (by first | (with_reducible assumption) | assumption)
        obtain ⟨ad413, e413, hx413_0⟩ := Kd.at_string HR0.out x11_1 p413 q413
        cases e413
        replace hx413_0 := (HB.out.cell (Vy w _ hx413_0)).trans hx413_0
        replace p413 := eq_true p413
        replace q413 := eq_true q413
        go_wp2_with (first | ((with_reducible refine zL (f := 97) rfl ?_); refine z8 (some 17) rfl rfl Try.func97 (by kernel_rfl) rfl #[.string (xr ByteArray.empty l0 x11_1)] rfl (by (try simp only [Vw, List.map_cons, List.map_nil]); first | done | rfl | (simp only [List.length_drop, List.length_take]; rfl)) ?_; (with_reducible refine (xK.calls k1 (xr ByteArray.empty l0 x11_1) true _ A6.out).mono ?_); rintro e w8 ⟨rfl, hb⟩; refine ⟨_, rfl, ?_⟩; have n0_ := za.mk (zi (by repeat (first | (with_reducible first | exact HB.out | apply zc | apply zb | apply zd) | exact HB.out)) hb); clear HB; have HB := n0_; clear n0_; (try clear hb); (try clear hb2); (try clear hk); (try clear hi)))
        go_roundg k1
        case measure => have := HK1.out; omega
        case rel => exact ⟨(wrap64 (x11_1 + 1)), (by first | rfl | (simp; done) | (simp [*]; done)), H', ⟨by have := HK1.out; omega⟩, ⟨by repeat (first | (with_reducible first | exact HB.out | apply zc | apply zb | apply zd) | exact HB.out)⟩⟩
       ·replace c7 := VA.mpr c7
        subst c7
        have H1 : (some (x11_1, 6)) = some (r1, r2) := by rw [if_neg (show ¬ (false = true) by decide)] at H; exact H
        clear H
        have H := H1
        clear H1
        simp only [Option.some.injEq, Prod.mk.injEq] at H
        obtain ⟨rfl, rfl⟩ := H
        have p413 : 0 ≤ (x11_1 : Int) := of_decide_eq_true (by first | (with_reducible assumption) | assumption)
        have q413 : x11_1 < (l0.length : Int) := of_decide_eq_true (by first | (with_reducible assumption) | assumption)
        obtain ⟨ad413, e413, hx413_0⟩ := Kd.at_string HR0.out x11_1 p413 q413
        cases e413
        replace hx413_0 := (HB.out.cell (Vy w _ hx413_0)).trans hx413_0
        replace p413 := eq_true p413
        replace q413 := eq_true q413
        go_wp2_with (first | ((with_reducible refine zL (f := 97) rfl ?_); refine z8 (some 17) rfl rfl Try.func97 (by kernel_rfl) rfl #[.string (xr ByteArray.empty l0 x11_1)] rfl (by (try simp only [Vw, List.map_cons, List.map_nil]); first | done | rfl | (simp only [List.length_drop, List.length_take]; rfl)) ?_; (with_reducible refine (xK.calls k1 (xr ByteArray.empty l0 x11_1) false _ A6.out).mono ?_); rintro e w9 ⟨rfl, hb⟩; refine ⟨_, rfl, ?_⟩; have n0_ := za.mk (zi (by repeat (first | (with_reducible first | exact HB.out | apply zc | apply zb | apply zd) | exact HB.out)) hb); clear HB; have HB := n0_; clear n0_; (try clear hb); (try clear hb2); (try clear hk); (try clear hi)))
        go_ret2
        exact ⟨by first | rfl | (simp [zn, zo] <;> rfl) | (simp [*, zn, zo] <;> rfl), by repeat (first | (with_reducible first | exact HB.out | apply zc | apply zb | apply zd) | exact HB.out)⟩
      ·rw [if_neg c5] at H
       exact absurd H (by simp)
     ·rw [if_neg c4] at H
      exact absurd H (by simp)
    ·rw [if_neg c3] at H
     have c3b0 : decide (x11_1 < (l0.length : Int)) = false := decide_eq_false c3
     clear c3
     simp only [Option.some.injEq, Prod.mk.injEq] at H
     obtain ⟨rfl, rfl⟩ := H
     go_wp2
     go_ret2
     exact ⟨by first | rfl | (simp [zn, zo] <;> rfl) | (simp [*, zn, zo] <;> rfl), by repeat (first | (with_reducible first | exact HB.out | apply zc | apply zb | apply zd) | exact HB.out)⟩
def yZ.f (k : Nat) (l0 : List ByteArray) : Option (Bool) := (yG.f k l0).bind fun bt651 => (some (bt651.2 == 0))
theorem yZ.calls (k : Nat) (A0 : Option Addr) (c0 : Nat) (l0 : List ByteArray) (r : Bool) (w : World) (hr0 : Kd.C Kd.string w A0 l0.length l0) (hc0 : l0.length ≤ c0) (h : yZ.f k l0 = some r) :
  Calls Try.prog 85 #[.slice A0 l0.length c0] w fun e w' => e = .returned (.bool r) ∧ Below w.heap.size w w' := by
 have HR0 := za.mk hr0
 have HC0 := za.mk hc0
 clear hr0 hc0
 have HB := za.mk (Below.refl w.heap.size w)
 have H : ((yG.f k l0).bind fun bt651 => (some (bt651.2 == 0))) = some r := h
 clear h
 replace H := Vx.mp H
 obtain ⟨⟨t651, t652⟩, A20, H⟩ := H
 replace H : (some (t652 == 0)) = some r := H
 have A2 := za.mk A20
 clear A20
 obtain rfl := Option.some.inj H
 go_enter Try.func85, Try.ntmps85
 go_wp2_with (first | ((with_reducible refine zL (f := 60) rfl ?_); refine z8 (some 7) rfl rfl Try.func60 (by kernel_rfl) rfl #[.slice A0 l0.length c0] rfl (by (try simp only [Vw, List.map_cons, List.map_nil]); first | done | rfl | (simp only [List.length_drop, List.length_take]; rfl)) ?_; (with_reducible refine (yG.calls k _ _ l0 t651 t652 _ ?side1 ?side2 A2.out).mono ?_); (case side1 => repeat (first | exact HR0.out | (with_reducible refine Kd.C_alloc ?_ _) | (with_reducible refine Kd.C_drewN ?_ _) | (with_reducible refine Kd.C_drew ?_))); (case side2 => exact HC0.out); rintro e w3 ⟨rfl, hb⟩; refine ⟨_, rfl, ?_⟩; have n0_ := za.mk (zi (by repeat (first | (with_reducible first | exact HB.out | apply zc | apply zb | apply zd) | exact HB.out)) hb); clear HB; have HB := n0_; clear n0_; (try clear hb); (try clear hb2); (try clear hk); (try clear hi)))
 go_ret
 exact ⟨by first | rfl | (simp [zn, zo] <;> rfl) | (simp [*, zn, zo] <;> rfl), by repeat (first | (with_reducible first | exact HB.out | apply zc | apply zb | apply zd) | exact HB.out)⟩
theorem Yo (k g : Nat) (s0_0 : ByteArray) (s0_1 : Int) (A : Option Addr) (c : Nat) (l : List ByteArray) (w0 w : World) (er : Int) (he : er ≠ 0) (hI : zf w0 w g s0_0 s0_1 er) (hB : Below w0.heap.size w0 w) (hC : Kd.C Kd.string w A l.length l) (hl : l.length ≤ c) :
  Calls Try.prog 82 #[.pointer (some ⟨g, 0, none⟩), .slice A l.length c, .func (Fn.func 85) #[] #[]] w fun e w' => e = .returned (.tuple #[.slice none 0 0, .int .i64 0, .int .i64 er]) ∧ zf w0 w' g s0_0 s0_1 er ∧ Below w0.heap.size w0 w' ∧ zl w w' g none := by
 have HI := za.mk hI
 have HB := za.mk hB
 clear hI hB hC
 have e1 : (er == 0) = false := beq_eq_false_iff_ne.mpr he
 have e2 : (er != 0) = true := bne_iff_ne.mpr he
 have hc0 := yd HI.out.1
 have hc1 := yc HI.out.1
 have hc2 := ye HI.out.1
 have hf0 := ze HI.out.1 0
 have hf1 := ze HI.out.1 1
 have hf2 := ze HI.out.1 2
 go_enter Try.func82, Try.ntmps82
 go_wp2
 repeat (go_quiet (fail); try go_wp2)
 go_ret3
 exact ⟨rfl, by repeat (first | exact HI.out | apply zf.drewN | apply zf.drew), by repeat (first | exact HB.out | apply zb | apply zd), by repeat (first | exact zl.refl _ _ _ | apply zI | apply zO)⟩
theorem ZR (k g : Nat) (s0_0 : ByteArray) (s0_1 : Int) (A : Option Addr) (c : Nat) (l : List ByteArray) (w0 w : World) (hI : zf w0 w g s0_0 s0_1 0) (hB : Below w0.heap.size w0 w) (hC : Kd.C Kd.string w A l.length l) (hl : l.length ≤ c) (h : yZ.f k l = some true) :
  Calls Try.prog 82 #[.pointer (some ⟨g, 0, none⟩), .slice A l.length c, .func (Fn.func 85) #[] #[]] w fun e w' => e = .returned (.tuple #[.slice A l.length c, .int .i64 s0_1, .int .i64 0]) ∧ zf w0 w' g s0_0 s0_1 0 ∧ Below w0.heap.size w0 w' ∧ zl w w' g none := by
 have HI := za.mk hI
 have HB := za.mk hB
 have HX := za.mk h
 have HC := za.mk hC
 have HL := za.mk hl
 clear hI hB h hC hl
 have hc0 := yd HI.out.1
 have hc1 := yc HI.out.1
 have hc2 := ye HI.out.1
 have hf0 := ze HI.out.1 0
 have hf1 := ze HI.out.1 1
 have hf2 := ze HI.out.1 2
 go_enter Try.func82, Try.ntmps82
 go_wp2_with (first | (go_at_call 85; (with_reducible refine (yZ.calls k _ _ l true _ ?side1 ?side2 HX.out).mono ?_); (case side1 => exact HC.out); (case side2 => exact HL.out); rintro e w1 ⟨rfl, hb⟩; have HB2 := za.mk hb; have HI1 := za.mk (HI.out.below HB2.out); clear hb hc0 hc1 hc2 hf0 hf1 hf2; have hc0 := yd HI1.out.1; have hc1 := yc HI1.out.1; have hc2 := ye HI1.out.1; have hf0 := ze HI1.out.1 0; have hf1 := ze HI1.out.1 1; have hf2 := ze HI1.out.1 2))
 have HB3 := za.mk (zi HB.out HB2.out)
 have HK2 := za.mk (zl.of_below HB2.out g none)
 repeat (go_quiet (fail); try go_wp2)
 go_ret3
 exact ⟨rfl, by repeat (first | exact HI1.out | apply zf.drewN | apply zf.drew), by repeat (first | exact HB3.out | apply zb | apply zd), by repeat (first | exact HK2.out | apply zI | apply zO)⟩
theorem ZC (k g : Nat) (s0_0 : ByteArray) (s0_1 : Int) (A : Option Addr) (c : Nat) (l : List ByteArray) (w0 w : World) (hI : zf w0 w g s0_0 s0_1 0) (hB : Below w0.heap.size w0 w) (hC : Kd.C Kd.string w A l.length l) (hl : l.length ≤ c) (h : yZ.f k l = some false) :
  Calls Try.prog 82 #[.pointer (some ⟨g, 0, none⟩), .slice A l.length c, .func (Fn.func 85) #[] #[]] w fun e w' => e = .returned (.tuple #[.slice none 0 0, .int .i64 0, .int .i64 6]) ∧ zf w0 w' g s0_0 s0_1 6 ∧ Below w0.heap.size w0 w' ∧ zl w w' g none := by
 have HI := za.mk hI
 have HB := za.mk hB
 have HX := za.mk h
 have HC := za.mk hC
 have HL := za.mk hl
 clear hI hB h hC hl
 have hc0 := yd HI.out.1
 have hc1 := yc HI.out.1
 have hc2 := ye HI.out.1
 have hf0 := ze HI.out.1 0
 have hf1 := ze HI.out.1 1
 have hf2 := ze HI.out.1 2
 go_enter Try.func82, Try.ntmps82
 go_wp2_with (first | (go_at_call 85; (with_reducible refine (yZ.calls k _ _ l false _ ?side1 ?side2 HX.out).mono ?_); (case side1 => exact HC.out); (case side2 => exact HL.out); rintro e w1 ⟨rfl, hb⟩; have HB2 := za.mk hb; have HI1 := za.mk (HI.out.below HB2.out); clear hb hc0 hc1 hc2 hf0 hf1 hf2; have hc0 := yd HI1.out.1; have hc1 := yc HI1.out.1; have hc2 := ye HI1.out.1; have hf0 := ze HI1.out.1 0; have hf1 := ze HI1.out.1 1; have hf2 := ze HI1.out.1 2))
 have HI2 := za.mk (HI1.out.set_2 6)
 have HB3 := za.mk (zh (g := g) (j := 2) (v := .int .i64 6) (zi HB.out HB2.out) (zf.ge HI1.out))
 have HK2 := za.mk ((zl.of_below HB2.out g none).set_ 2 (.int .i64 6))
 repeat (go_quiet (fail); try go_wp2)
 go_ret3
 exact ⟨rfl, by repeat (first | exact HI2.out | apply zf.drewN | apply zf.drew), by repeat (first | exact HB3.out | apply zb | apply zd), by repeat (first | exact HK2.out | apply zI | apply zO)⟩
def xI.f (k : Nat) (s0_0 : ByteArray) (s0_1 : Int) (s0_2 : Int) : Option (ByteArray × ByteArray × Int × Int) := (yg.f k s0_0 s0_1 s0_2).bind fun bt635 => (some (bt635.1, bt635.2.1, bt635.2.2.1, bt635.2.2.2))
theorem xI.calls (k : Nat) (g : Nat) (s0_0 : ByteArray) (s0_1 : Int) (s0_2 : Int) (r1 : ByteArray) (r2 : ByteArray) (r3 : Int) (r4 : Int) (w0 w : World) (hI : zf w0 w g s0_0 s0_1 s0_2) (hB : Below w0.heap.size w0 w) (h : xI.f k s0_0 s0_1 s0_2 = some (r1, r2, r3, r4)) :
  Calls Try.prog 84 #[.pointer (some ⟨g, 0, none⟩)] w fun e w' => e = .returned (.string r1) ∧ zf w0 w' g r2 r3 r4 ∧ Below w0.heap.size w0 w' ∧ zl w w' g none := by
 have HI0 := za.mk hI
 have HK := za.mk (zl.refl w g none)
 have HL := za.mk hB.size
 clear hI
 have HW0 := za.mk hB.size
 have HB := za.mk hB
 clear hB
 have H : ((yg.f k s0_0 s0_1 s0_2).bind fun bt635 => (some (bt635.1, bt635.2.1, bt635.2.2.1, bt635.2.2.2))) = some (r1, r2, r3, r4) := h
 clear h
 replace H := Vx.mp H
 obtain ⟨⟨t635, t636, t637, t638⟩, A20, H⟩ := H
 replace H : (some (t635, t636, t637, t638)) = some (r1, r2, r3, r4) := H
 have A2 := za.mk A20
 clear A20
 simp only [Option.some.injEq, Prod.mk.injEq] at H
 obtain ⟨rfl, rfl, rfl, rfl⟩ := H
 go_enter Try.func84, Try.ntmps84
 go_wp2_with (first | ((with_reducible refine zL (f := 67) rfl ?_); refine z8 (some 4) rfl rfl Try.func67 (by kernel_rfl) rfl #[.pointer (some ⟨g, 0, none⟩)] rfl (by (try simp only [Vw, List.map_cons, List.map_nil]); first | done | rfl | (simp only [List.length_drop, List.length_take]; rfl)) ?_; (with_reducible refine (yg.calls k g s0_0 s0_1 s0_2 t635 t636 t637 t638 w0 _ ?side1 ?side2 A2.out).mono ?_); (case side1 => repeat (first | (with_reducible first | exact HI0.out | apply zf.alloc | apply zf.drewN | apply zf.drew | apply zf.set_0 | apply zf.set_1 | apply zf.set_2) | exact HI0.out)); (case side2 => repeat (first | (with_reducible first | exact HB.out | apply zc | apply zb | apply zd | refine zh ?_ (zf.ge HI0.out)) | exact HB.out)); rintro e w3 ⟨rfl, hi, hb, hk⟩; refine ⟨_, rfl, ?_⟩; have n0_ := za.mk (zl.trans (by repeat (first | (with_reducible first | exact HK.out | apply zl.set_ | apply zI | apply zO | apply zQ) | exact HK.out)) hk (.inl rfl)); have n1_ := za.mk (hb); have n2_ := za.mk (hi); clear HK; clear HB; clear HI0; have HK := n0_; have HB := n1_; have HI0 := n2_; clear n0_ n1_ n2_; (try clear hb); (try clear hb2); (try clear hk); (try clear hi)))
 go_ret
 exact ⟨by first | rfl | (simp [zn, zo] <;> rfl) | (simp [*, zn, zo] <;> rfl), by repeat (first | (with_reducible first | exact HI0.out | apply zf.alloc | apply zf.drewN | apply zf.drew | apply zf.set_0 | apply zf.set_1 | apply zf.set_2) | exact HI0.out), by repeat (first | (with_reducible first | exact HB.out | apply zc | apply zb | apply zd | refine zh ?_ (zf.ge HI0.out)) | exact HB.out), by repeat (first | (with_reducible first | exact HK.out | apply zl.set_ | apply zI | apply zO | apply zQ) | exact HK.out)⟩
mutual
def zj.j0 : Nat → Int → Bool → ByteArray → Int → Int → Option (List ByteArray × ByteArray × Int × Int)
 | 0, _, _, _, _, _ => none
 | k + 1, x7, x22, x1000, x1001, x1002 => if x22 = true then (zj.j1 k x7 x1000 x1001 6) else (zj.j1 k x7 x1000 x1001 x1002)
def zj.j1 : Nat → Int → ByteArray → Int → Int → Option (List ByteArray × ByteArray × Int × Int)
 | 0, _, _, _, _ => none
 | k + 1, x7, x1000, x1001, x1002 => zj.l0 k x7 ([] : List ByteArray) 0 x1000 x1001 x1002
def zj.l0 : Nat → Int → List ByteArray → Int → ByteArray → Int → Int → Option (List ByteArray × ByteArray × Int × Int)
 | 0, _, _, _, _, _, _ => none
 | k + 1, x7, x8, x9, x1000, x1001, x1002 => if x9 < x7 then (if x1002 = 0 then ((xI.f k x1000 x1001 x1002).bind fun bt644 => (if x8.length < 8796093022208 then (zj.l0 k x7 (x8 ++ [bt644.1]) (wrap64 (x9 + 1)) bt644.2.1 bt644.2.2.1 bt644.2.2.2) else (none))) else (some (x8, x1000, x1001, x1002))) else (some (x8, x1000, x1001, x1002))
end
def zj.f (k : Nat) (s0_0 : ByteArray) (s0_1 : Int) (s0_2 : Int) (a1 : Int)  : Option (List ByteArray × ByteArray × Int × Int) := (zw.f k s0_0 s0_1 s0_2).bind fun bt639 => (if bt639.2.2.2 = 0 then ((zB.f bt639.1 0 a1).bind fun t643 => (zj.j0 k bt639.1 (!t643) bt639.2.1 bt639.2.2.1 bt639.2.2.2)) else (zj.j0 k bt639.1 false bt639.2.1 bt639.2.2.1 bt639.2.2.2))
theorem zj.calls (k : Nat) (g : Nat) (s0_0 : ByteArray) (s0_1 : Int) (s0_2 : Int) (a1 : Int)  (r1 : List ByteArray) (r2 : ByteArray) (r3 : Int) (r4 : Int) (w0 w : World) (hI : zf w0 w g s0_0 s0_1 s0_2) (hB : Below w0.heap.size w0 w) (h : zj.f k s0_0 s0_1 s0_2 a1 = some (r1, r2, r3, r4)) :
  Calls Try.prog 83 #[.pointer (some ⟨g, 0, none⟩), .int .i64 a1, .func (Fn.func 84) #[] #[]] w fun e w' => ∃ v0_ : Value, e = .returned (v0_) ∧ Kd.R Kd.string 9 w' w.heap.size (fun _ => True) v0_ r1 ∧ zf w0 w' g r2 r3 r4 ∧ Below w0.heap.size w0 w' ∧ zl w w' g none := by
 have HI0 := za.mk hI
 have HK := za.mk (zl.refl w g none)
 have HL := za.mk hB.size
 clear hI
 have HW0 := za.mk hB.size
 have HB := za.mk hB
 clear hB
 have H : ((zw.f k s0_0 s0_1 s0_2).bind fun bt639 => (if bt639.2.2.2 = 0 then ((zB.f bt639.1 0 a1).bind fun t643 => (zj.j0 k bt639.1 (!t643) bt639.2.1 bt639.2.2.1 bt639.2.2.2)) else (zj.j0 k bt639.1 false bt639.2.1 bt639.2.2.1 bt639.2.2.2))) = some (r1, r2, r3, r4) := h
 clear h
 replace H := Vx.mp H
 obtain ⟨⟨t639, t640, t641, t642⟩, A40, H⟩ := H
 replace H : (if t642 = 0 then ((zB.f t639 0 a1).bind fun t643 => (zj.j0 k t639 (!t643) t640 t641 t642)) else (zj.j0 k t639 false t640 t641 t642)) = some (r1, r2, r3, r4) := H
 have A4 := za.mk A40
 clear A40
 have HC5 := za.mk H
 clear H
 go_enter Try.func83, Try.ntmps83
 go_upto_region 2 with (first | ((with_reducible refine zL (f := 66) rfl ?_); refine z8 (some 11) rfl rfl Try.func66 (by kernel_rfl) rfl #[.pointer (some ⟨g, 0, none⟩)] rfl (by (try simp only [Vw, List.map_cons, List.map_nil]); first | done | rfl | (simp only [List.length_drop, List.length_take]; rfl)) ?_; (with_reducible refine (zw.calls k g s0_0 s0_1 s0_2 t639 t640 t641 t642 w0 _ ?side1 ?side2 A4.out).mono ?_); (case side1 => repeat (first | (with_reducible first | exact HI0.out | apply zf.alloc | apply zf.drewN | apply zf.drew | apply zf.set_0 | apply zf.set_1 | apply zf.set_2) | exact HI0.out)); (case side2 => repeat (first | (with_reducible first | exact HB.out | apply zc | apply zb | apply zd | refine zh ?_ (zf.ge HI0.out)) | exact HB.out)); rintro e w6 ⟨rfl, hi, hb, hk⟩; refine ⟨_, rfl, ?_⟩; have n0_ := za.mk (zl.trans (by repeat (first | (with_reducible first | exact HK.out | apply zl.set_ | apply zI | apply zO | apply zQ) | exact HK.out)) hk (.inl rfl)); have n1_ := za.mk (hb); have n2_ := za.mk (hi); clear HK; clear HB; clear HI0; have HK := n0_; have HB := n1_; have HI0 := n2_; clear n0_ n1_ n2_; (try clear hb); (try clear hb2); (try clear hk); (try clear hi)))
 (try simp only [Act.put, Vt, Vu, Vv])
 go_cut [22] (fun v22 wc => ∃ (kq : Nat) (x22_4 : Bool), v22 = .bool x22_4 ∧ za (zj.j0 kq t639 x22_4 t640 t641 t642 = some (r1, r2, r3, r4)) ∧ za (kq ≤ k) ∧ za (zf w0 wc g t640 t641 t642) ∧ za (zl w wc g none) ∧ za (Below w0.heap.size w0 wc))
 case first =>
  have H := HC5.out
  clear HC5
  by_cases c7 : t642 = 0
  ·rw [if_pos c7] at H
   have c7b0 : (t642 == 0) = true := beq_iff_eq.mpr c7
   have c7b1 : (t642 != 0) = false := bne_eq_false_iff_eq.mpr c7
   clear c7
   (first | rw [c7b0] | (simp only [zx, zz]; rw [c7b0]) | skip)
   replace H := Vx.mp H
   obtain ⟨t643, A80, H⟩ := H
   replace H : (zj.j0 k t639 (!t643) t640 t641 t642) = some (r1, r2, r3, r4) := H
   have A8 := za.mk A80
   clear A80
   have H' := za.mk H
   clear H
   obtain ⟨HGz9, hgz9⟩ := HI0.out
   have hcz9_0 := yd HGz9
   have hcz9_1 := yc HGz9
   have hcz9_2 := ye HGz9
   have hfz9_0 := ze HGz9 0
   have hfz9_1 := ze HGz9 1
   have hfz9_2 := ze HGz9 2
   clear HGz9 hgz9
   go_wp2_with (first | (go_at_call 90; (with_reducible refine (zB.calls t639 0 a1 t643 _ A8.out).mono ?_); rintro e w' ⟨rfl, ⟨nd, rfl⟩⟩))
   go_meet
   case rel => exact ⟨_, (!t643), (by first | rfl | (simp; done) | (simp [*]; done)), H', ⟨by first | omega | exact Nat.le_refl _⟩, ⟨by repeat (first | (with_reducible first | exact HI0.out | apply zf.alloc | apply zf.drewN | apply zf.drew | apply zf.set_0 | apply zf.set_1 | apply zf.set_2) | exact HI0.out)⟩, ⟨by repeat (first | (with_reducible first | exact HK.out | apply zl.set_ | apply zI | apply zO | apply zQ) | exact HK.out)⟩, ⟨by repeat (first | (with_reducible first | exact HB.out | apply zc | apply zb | apply zd | refine zh ?_ (zf.ge HI0.out)) | exact HB.out)⟩⟩
  ·rw [if_neg c7] at H
   have c7b0 : (t642 == 0) = false := beq_eq_false_iff_ne.mpr c7
   have c7b1 : (t642 != 0) = true := bne_iff_ne.mpr c7
   (first | rw [c7b0] | (simp only [zx, zz]; rw [c7b0]) | skip)
   have H' := za.mk H
   clear H
   obtain ⟨HGz10, hgz10⟩ := HI0.out
   have hcz10_0 := yd HGz10
   have hcz10_1 := yc HGz10
   have hcz10_2 := ye HGz10
   have hfz10_0 := ze HGz10 0
   have hfz10_1 := ze HGz10 1
   have hfz10_2 := ze HGz10 2
   clear HGz10 hgz10
   go_wp2
   go_meet
   case rel => exact ⟨_, (false), (by first | rfl | (simp; done) | (simp [*]; done)), H', ⟨by first | omega | exact Nat.le_refl _⟩, ⟨by repeat (first | (with_reducible first | exact HI0.out | apply zf.alloc | apply zf.drewN | apply zf.drew | apply zf.set_0 | apply zf.set_1 | apply zf.set_2) | exact HI0.out)⟩, ⟨by repeat (first | (with_reducible first | exact HK.out | apply zl.set_ | apply zI | apply zO | apply zQ) | exact HK.out)⟩, ⟨by repeat (first | (with_reducible first | exact HB.out | apply zc | apply zb | apply zd | refine zh ?_ (zf.ge HI0.out)) | exact HB.out)⟩⟩
 case rest =>
  clear HC5
  try clear p2
  try clear c6
  try clear c7
  try clear c7b0
  try clear c7b1
  try clear c9
  try clear hcz10_0
  try clear hcz10_1
  try clear hcz10_2
  try clear hcz9_0
  try clear hcz9_1
  try clear hcz9_2
  try clear hfz10_0
  try clear hfz10_1
  try clear hfz10_2
  try clear hfz9_0
  try clear hfz9_1
  try clear hfz9_2
  obtain ⟨kq, x22_4, rfl, HA, HJ4, HI0, HK, HB⟩ := hcut
  cases kq with
  | zero => exact absurd HA.out (by simp [zj.j0])
  | succ kj4 =>
   have H := HA.out
   clear HA
   simp only [zj.j0] at H
   have HC11 := za.mk H
   clear H
   go_upto_if 22 with (fail)
   go_cut [] (fun wc => ∃ (kq : Nat) (x1002_10 : Int), za (zj.j1 kq t639 t640 t641 x1002_10 = some (r1, r2, r3, r4)) ∧ za (kq ≤ kj4) ∧ za (zf w0 wc g t640 t641 x1002_10) ∧ za (zl w wc g none) ∧ za (Below w0.heap.size w0 wc))
   case first =>
    have H := HC11.out
    clear HC11
    by_cases c12 : x22_4 = true
    ·subst c12
     have H1 : (zj.j1 kj4 t639 t640 t641 6) = some (r1, r2, r3, r4) := by rw [if_pos rfl] at H; exact H
     clear H
     have H := H1
     clear H1
     have H' := za.mk H
     clear H
     obtain ⟨HGz13, hgz13⟩ := HI0.out
     have hcz13_0 := yd HGz13
     have hcz13_1 := yc HGz13
     have hcz13_2 := ye HGz13
     have hfz13_0 := ze HGz13 0
     have hfz13_1 := ze HGz13 1
     have hfz13_2 := ze HGz13 2
     clear HGz13 hgz13
     go_wp2
     go_meet
     case rel => exact ⟨_, (6), H', ⟨by have := HJ4.out; first | omega | exact Nat.le_refl _⟩, ⟨by repeat (first | (with_reducible first | exact HI0.out | apply zf.alloc | apply zf.drewN | apply zf.drew | apply zf.set_0 | apply zf.set_1 | apply zf.set_2) | exact HI0.out)⟩, ⟨by repeat (first | (with_reducible first | exact HK.out | apply zl.set_ | apply zI | apply zO | apply zQ) | exact HK.out)⟩, ⟨by repeat (first | (with_reducible first | exact HB.out | apply zc | apply zb | apply zd | refine zh ?_ (zf.ge HI0.out)) | exact HB.out)⟩⟩
    ·replace c12 := VA.mpr c12
     subst c12
     have H1 : (zj.j1 kj4 t639 t640 t641 t642) = some (r1, r2, r3, r4) := by rw [if_neg (show ¬ (false = true) by decide)] at H; exact H
     clear H
     have H := H1
     clear H1
     have H' := za.mk H
     clear H
     go_wp2
     go_meet
     case rel => exact ⟨_, (t642), H', ⟨by have := HJ4.out; first | omega | exact Nat.le_refl _⟩, ⟨by repeat (first | (with_reducible first | exact HI0.out | apply zf.alloc | apply zf.drewN | apply zf.drew | apply zf.set_0 | apply zf.set_1 | apply zf.set_2) | exact HI0.out)⟩, ⟨by repeat (first | (with_reducible first | exact HK.out | apply zl.set_ | apply zI | apply zO | apply zQ) | exact HK.out)⟩, ⟨by repeat (first | (with_reducible first | exact HB.out | apply zc | apply zb | apply zd | refine zh ?_ (zf.ge HI0.out)) | exact HB.out)⟩⟩
   case rest =>
    clear HC11
    try clear c1
    try clear p2
    try clear c6
    try clear c7
    try clear c7b0
    try clear c7b1
    try clear c9
    try clear c12
    try clear hcz10_0
    try clear hcz10_1
    try clear hcz10_2
    try clear hcz13_0
    try clear hcz13_1
    try clear hcz13_2
    try clear hcz9_0
    try clear hcz9_1
    try clear hcz9_2
    try clear hfz10_0
    try clear hfz10_1
    try clear hfz10_2
    try clear hfz13_0
    try clear hfz13_1
    try clear hfz13_2
    try clear hfz9_0
    try clear hfz9_1
    try clear hfz9_2
    try clear p2
    obtain ⟨kq, x1002_10, HA, HJ10, HI0, HK, HB⟩ := hcut
    cases kq with
    | zero => exact absurd HA.out (by simp [zj.j1])
    | succ kj10 =>
     have H := HA.out
     clear HA
     simp only [zj.j1] at H
     have H' := za.mk H
     clear H
     go_wp2
     go_loopg [8, 9] kj10 (fun kq v8 v9 w' => ∃ (x8_3 : List ByteArray) (x9_3 : Int) (x1000_3 : ByteArray) (x1001_3 : Int) (x1002_3 : Int), v9 = .int .i64 x9_3 ∧ za (zj.l0 kq t639 x8_3 x9_3 x1000_3 x1001_3 x1002_3 = some (r1, r2, r3, r4)) ∧ za (kq ≤ kj10) ∧ za (Kd.R Kd.string 9 w' w.heap.size (fun _ => True) v8 x8_3) ∧ za (zf w0 w' g x1000_3 x1001_3 x1002_3) ∧ za (zl w w' g none) ∧ za (Below w0.heap.size w0 w'))
     case atStart => exact ⟨(([] : List ByteArray)), (0), (t640), (t641), (x1002_10), (by first | rfl | (simp; done) | (simp [*]; done)), H', ⟨Nat.le_refl _⟩, ⟨by first | exact Kd.R_nil _ _ _ _ _ | exact Kd.N_nil _ _ _ _ _ | exact Kd.V_nil _ _ _ _ _ | exact Kd.Q_nil _ _ _ _ _ | exact Kd.S_nil _ _ _ _ _⟩, ⟨by repeat (first | (with_reducible first | exact HI0.out | apply zf.alloc | apply zf.drewN | apply zf.drew | apply zf.set_0 | apply zf.set_1 | apply zf.set_2) | exact HI0.out)⟩, ⟨by repeat (first | (with_reducible first | exact HK.out | apply zl.set_ | apply zI | apply zO | apply zQ) | exact HK.out)⟩, ⟨by repeat (first | (with_reducible first | exact HB.out | apply zc | apply zb | apply zd | refine zh ?_ (zf.ge HI0.out)) | exact HB.out)⟩⟩
     case round =>
      clear H'
      try clear c1
      try clear p2
      try clear c6
      try clear c7
      try clear c7b0
      try clear c7b1
      try clear c9
      try clear c12
      try clear hcz10_0
      try clear hcz10_1
      try clear hcz10_2
      try clear hcz13_0
      try clear hcz13_1
      try clear hcz13_2
      try clear hcz9_0
      try clear hcz9_1
      try clear hcz9_2
      try clear hfz10_0
      try clear hfz10_1
      try clear hfz10_2
      try clear hfz13_0
      try clear hfz13_1
      try clear hfz13_2
      try clear hfz9_0
      try clear hfz9_1
      try clear hfz9_2
      try clear p2
      obtain ⟨x8_3, x9_3, x1000_3, x1001_3, x1002_3, rfl, HA, HK3, HO_8, HI0, HK, HB⟩ := hrel
      cases gk with
      | zero => exact absurd HA.out (by simp [zj.l0])
      | succ k3 =>
       have H := HA.out
       clear HA
       simp only [zj.l0] at H
       by_cases c14 : x9_3 < t639
       ·rw [if_pos c14] at H
        have c14b0 : decide (x9_3 < t639) = true := decide_eq_true c14
        clear c14
        by_cases c15 : x1002_3 = 0
        ·rw [if_pos c15] at H
         have c15b0 : (x1002_3 == 0) = true := beq_iff_eq.mpr c15
         have c15b1 : (x1002_3 != 0) = false := bne_eq_false_iff_eq.mpr c15
         clear c15
         replace H := Vx.mp H
         obtain ⟨⟨t644, t645, t646, t647⟩, A160, H⟩ := H
         replace H : (if x8_3.length < 8796093022208 then (zj.l0 k3 t639 (x8_3 ++ [t644]) (wrap64 (x9_3 + 1)) t645 t646 t647) else (none)) = some (r1, r2, r3, r4) := H
         have A16 := za.mk A160
         clear A160
         by_cases c17 : x8_3.length < 8796093022208
         ·rw [if_pos c17] at H
          have LMc17 := za.mk c17
          clear c17
          obtain ⟨y648, hy648⟩ : ∃ y_ : List ByteArray, y_ = (x8_3 ++ [t644]) := ⟨_, rfl⟩
          replace H : (zj.l0 k3 t639 y648 (wrap64 (x9_3 + 1)) t645 t646 t647) = some (r1, r2, r3, r4) := by first | (rw [hy648]; with_reducible exact H) | (have H2_ := (Option.bind_some _ _).symm.trans H; rw [hy648]; with_reducible exact H2_) | (have H2_ := (Option.bind_some _ _).symm.trans H; with_reducible exact H2_) | with_reducible exact H | (rw [hy648]; exact H) | exact H
          have Ny648 := za.mk hy648
          clear hy648
          have H' := za.mk H
          clear H
          obtain ⟨HGz18, hgz18⟩ := HI0.out
          have hcz18_0 := yd HGz18
          have hcz18_1 := yc HGz18
          have hcz18_2 := ye HGz18
          have hfz18_0 := ze HGz18 0
          have hfz18_1 := ze HGz18 1
          have hfz18_2 := ze HGz18 2
          clear HGz18 hgz18
          go_wp2_with (first | ((with_reducible refine zC (N := 41) rfl ?_); refine qo (some 41) rfl rfl Try.func84 (by kernel_rfl) rfl #[.pointer (some ⟨g, 0, none⟩)] rfl (by (try simp only [Vw, List.map_cons, List.map_nil]); first | done | rfl | (simp only [List.length_drop, List.length_take]; rfl)) ?_; (with_reducible refine (xI.calls k3 g x1000_3 x1001_3 x1002_3 t644 t645 t646 t647 w0 _ ?side1 ?side2 A16.out).mono ?_); (case side1 => repeat (first | (with_reducible first | exact HI0.out | apply zf.alloc | apply zf.drewN | apply zf.drew | apply zf.set_0 | apply zf.set_1 | apply zf.set_2) | exact HI0.out)); (case side2 => repeat (first | (with_reducible first | exact HB.out | apply zc | apply zb | apply zd | refine zh ?_ (zf.ge HI0.out)) | exact HB.out)); rintro e w19 ⟨rfl, hi, hb, hk⟩; refine ⟨_, rfl, ?_⟩; have n0_ := za.mk (Kd.R_mono (Kd.R_keep (zf.apart (show zf w0 _ g x1000_3 x1001_3 x1002_3 from by repeat (first | (with_reducible first | exact HI0.out | apply zf.alloc | apply zf.drewN | apply zf.drew | apply zf.set_0 | apply zf.set_1 | apply zf.set_2) | exact HI0.out)) (by (with_reducible repeat (first | apply Kd.R_alloc | apply Kd.R_drewN | apply Kd.R_drew)); exact HO_8.out) (by decide)) hk (fun _ h => h.2)) (fun _ h => h.1)); have n1_ := za.mk (zl.trans (by repeat (first | (with_reducible first | exact HK.out | apply zl.set_ | apply zI | apply zO | apply zQ) | exact HK.out)) hk (.inl rfl)); have n2_ := za.mk (hb); have n3_ := za.mk (hi); clear HO_8; clear HK; clear HB; clear HI0; have HO_8 := n0_; have HK := n1_; have HB := n2_; have HI0 := n3_; clear n0_ n1_ n2_ n3_; (try clear hb); (try clear hb2); (try clear hk); (try clear hi)) | ((with_reducible refine xY (b := .append) (xs := #[.tmp 38, .tmp 42]) rfl ?_); at_builtin; refine Kd.R_append Kd.string w.heap.size rfl (.tmp 38) (.tmp 42) 44 9 (.string ⟨#[]⟩) 16 rfl Try.underlying44 Ql rfl (by decide) (by omega) u8 x8_3 t644 [.string t644] (fun _ => True) (fun _ => False) rfl rfl ?aP (fun _ hk => hk.elim) ?aF ?aO (Below.refl _ _) ?aS ?aL ?_; (case aP => exact rfl); (case aF => exact (fun _ _ => trivial)); (case aO => exact (by (with_reducible repeat (first | apply Kd.R_alloc | apply Kd.R_drewN | apply Kd.R_drew)); exact HO_8.out)); (case aS => exact (xx (w := w) (g := g) (row := none) (by repeat (first | (with_reducible first | exact HK.out | apply zl.set_ | apply zI | apply zO | apply zQ) | exact HK.out)))); (case aL => have := LMc17.out; omega); intro v649 w20 ho hb hg hat; rw [← Ny648.out] at ho; have n0_ := za.mk (zf.grown (by repeat (first | (with_reducible first | exact HI0.out | apply zf.alloc | apply zf.drewN | apply zf.drew | apply zf.set_0 | apply zf.set_1 | apply zf.set_2) | exact HI0.out)) hg (zf.own_ne HI0.out HO_8.out (by decide))); have n1_ := za.mk (jg (by repeat (first | (with_reducible first | exact HB.out | apply zc | apply zb | apply zd | refine zh ?_ (zf.ge HI0.out)) | exact HB.out)) HL.out hb); have n2_ := za.mk (zl.trans (by repeat (first | (with_reducible first | exact HK.out | apply zl.set_ | apply zI | apply zO | apply zQ) | exact HK.out)) (zl.of_grown hg g) (Kd.R_base2 HO_8.out)); have n3_ := za.mk (ho); clear HI0; clear HB; clear HK; clear HO_8; have HI0 := n0_; have HB := n1_; have HK := n2_; have HO650 := n3_; clear n0_ n1_ n2_ n3_; clear ho hb hg hat))
          go_roundg k3
          case measure => have := HJ4.out; have := HJ10.out; have := HK3.out; omega
          case rel => exact ⟨(y648), (wrap64 (x9_3 + 1)), (t645), (t646), (t647), (by first | rfl | (simp; done) | (simp [*]; done)), H', ⟨by have := HJ4.out; have := HJ10.out; have := HK3.out; omega⟩, ⟨by (with_reducible repeat (first | apply Kd.R_alloc | apply Kd.R_drewN | apply Kd.R_drew)); exact HO650.out⟩, ⟨by repeat (first | (with_reducible first | exact HI0.out | apply zf.alloc | apply zf.drewN | apply zf.drew | apply zf.set_0 | apply zf.set_1 | apply zf.set_2) | exact HI0.out)⟩, ⟨by repeat (first | (with_reducible first | exact HK.out | apply zl.set_ | apply zI | apply zO | apply zQ) | exact HK.out)⟩, ⟨by repeat (first | (with_reducible first | exact HB.out | apply zc | apply zb | apply zd | refine zh ?_ (zf.ge HI0.out)) | exact HB.out)⟩⟩
         ·rw [if_neg c17] at H
          exact absurd H (by simp)
        ·rw [if_neg c15] at H
         have c15b0 : (x1002_3 == 0) = false := beq_eq_false_iff_ne.mpr c15
         have c15b1 : (x1002_3 != 0) = true := bne_iff_ne.mpr c15
         simp only [Option.some.injEq, Prod.mk.injEq] at H
         obtain ⟨rfl, rfl, rfl, rfl⟩ := H
         obtain ⟨HGz21, hgz21⟩ := HI0.out
         have hcz21_0 := yd HGz21
         have hcz21_1 := yc HGz21
         have hcz21_2 := ye HGz21
         have hfz21_0 := ze HGz21 0
         have hfz21_1 := ze HGz21 1
         have hfz21_2 := ze HGz21 2
         clear HGz21 hgz21
         go_wp2
         go_ret
         exact ⟨_, by first | rfl | (simp [zn, zo] <;> rfl) | (simp [*, zn, zo] <;> rfl), by (with_reducible repeat (first | apply Kd.R_alloc | apply Kd.R_drewN | apply Kd.R_drew)); exact HO_8.out, by repeat (first | (with_reducible first | exact HI0.out | apply zf.alloc | apply zf.drewN | apply zf.drew | apply zf.set_0 | apply zf.set_1 | apply zf.set_2) | exact HI0.out), by repeat (first | (with_reducible first | exact HB.out | apply zc | apply zb | apply zd | refine zh ?_ (zf.ge HI0.out)) | exact HB.out), by repeat (first | (with_reducible first | exact HK.out | apply zl.set_ | apply zI | apply zO | apply zQ) | exact HK.out)⟩
       ·rw [if_neg c14] at H
        have c14b0 : decide (x9_3 < t639) = false := decide_eq_false c14
        clear c14
        simp only [Option.some.injEq, Prod.mk.injEq] at H
        obtain ⟨rfl, rfl, rfl, rfl⟩ := H
        go_wp2
        go_ret
        exact ⟨_, by first | rfl | (simp [zn, zo] <;> rfl) | (simp [*, zn, zo] <;> rfl), by (with_reducible repeat (first | apply Kd.R_alloc | apply Kd.R_drewN | apply Kd.R_drew)); exact HO_8.out, by repeat (first | (with_reducible first | exact HI0.out | apply zf.alloc | apply zf.drewN | apply zf.drew | apply zf.set_0 | apply zf.set_1 | apply zf.set_2) | exact HI0.out), by repeat (first | (with_reducible first | exact HB.out | apply zc | apply zb | apply zd | refine zh ?_ (zf.ge HI0.out)) | exact HB.out), by repeat (first | (with_reducible first | exact HK.out | apply zl.set_ | apply zI | apply zO | apply zQ) | exact HK.out)⟩
def xl.f (k : Nat) (a0 : ByteArray) (a1 : Int) : Option (List ByteArray × Int × Int) := (zj.f k a0 a1 0 8).bind fun t => if t.2.2.2 = 0 then (yZ.f k t.1).bind fun b => if b = true then some (t.1, t.2.2.1, 0) else some ([], 0, 6) else some ([], 0, t.2.2.2)
theorem xl.calls (k : Nat) (a0 : ByteArray) (a1 : Int) (r1 : List ByteArray) (r2 : Int) (r3 : Int) (w : World) (h : xl.f k a0 a1 = some (r1, r2, r3)) :
  Calls Try.prog 36 #[.string a0, .int .i64 a1] w fun e w' => ∃ v0_ : Value, e = .returned (.tuple #[v0_, .int .i64 r2, .int .i64 r3]) ∧ Kd.R Kd.string 9 w' w.heap.size (fun _ => True) v0_ r1 ∧ Below w.heap.size w w' := by
 unfold xl.f at h
 rw [Vx] at h
 obtain ⟨⟨x1, x2, x3, x4⟩, hx, h⟩ := h
 replace h : (if x4 = 0 then (yZ.f k x1).bind fun b => if b = true then some (x1, x3, (0 : Int)) else some ([], 0, 6) else some ([], 0, x4)) = some (r1, r2, r3) := h
 have HX := za.mk hx
 clear hx
 by_cases c0 : x4 = 0
 ·subst c0
  rw [if_pos rfl, Vx] at h
  obtain ⟨b, hb, h⟩ := h
  have HOK := za.mk hb
  clear hb
  cases b with
  | true =>
   rw [if_pos rfl] at h
   simp only [Option.some.injEq, Prod.mk.injEq] at h
   obtain ⟨rfl, rfl, rfl⟩ := h
   go_enter Try.func36, Try.ntmps36
   go_wp2_with (first | (go_at_call 83; refine (zj.calls k w.heap.size a0 a1 0 8 x1 x2 x3 _ w _ (zf.new w w a0 a1 0 (Below.refl _ _)) (zc (Below.refl _ _) _) HX.out).mono ?_; rintro e w1 ⟨v0, rfl, hR, hI, hB, hK⟩; obtain ⟨A, c, rfl, hl, hC⟩ := Kd.R_reads hR; have HR := za.mk (zf.apart hI (Kd.R_lower hR (Below.size (zc (Below.refl w.heap.size w) _))) (by decide)); have HI := za.mk hI; have HB := za.mk hB; have HL := za.mk hl; have HC := za.mk hC; clear hR hI hB hK hl hC) | (go_at_call 82; refine (ZR k w.heap.size x2 x3 A c x1 w _ HI.out HB.out HC.out HL.out HOK.out).mono ?_; rintro e w2 ⟨rfl, hI2, hB2, hK2⟩; have HB2 := za.mk hB2; have HK2 := za.mk hK2; clear hI2 hB2 hK2))
   go_ret3
   exact ⟨_, rfl, Kd.R_mono (Kd.R_keep HR.out HK2.out (fun _ hk => hk.2)) (fun _ _ => trivial), HB2.out⟩
  | false =>
   rw [if_neg (by decide)] at h
   simp only [Option.some.injEq, Prod.mk.injEq] at h
   obtain ⟨rfl, rfl, rfl⟩ := h
   go_enter Try.func36, Try.ntmps36
   go_wp2_with (first | (go_at_call 83; refine (zj.calls k w.heap.size a0 a1 0 8 x1 x2 x3 _ w _ (zf.new w w a0 a1 0 (Below.refl _ _)) (zc (Below.refl _ _) _) HX.out).mono ?_; rintro e w1 ⟨v0, rfl, hR, hI, hB, hK⟩; obtain ⟨A, c, rfl, hl, hC⟩ := Kd.R_reads hR; have HR := za.mk (zf.apart hI (Kd.R_lower hR (Below.size (zc (Below.refl w.heap.size w) _))) (by decide)); have HI := za.mk hI; have HB := za.mk hB; have HL := za.mk hl; have HC := za.mk hC; clear hR hI hB hK hl hC) | (go_at_call 82; refine (ZC k w.heap.size x2 x3 A c x1 w _ HI.out HB.out HC.out HL.out HOK.out).mono ?_; rintro e w2 ⟨rfl, hI2, hB2, hK2⟩; have HB2 := za.mk hB2; have HK2 := za.mk hK2; clear hI2 hB2 hK2))
   go_ret3
   exact ⟨_, rfl, Kd.R_nil _ _ _ _ _, HB2.out⟩
 ·rw [if_neg c0] at h
  simp only [Option.some.injEq, Prod.mk.injEq] at h
  obtain ⟨rfl, rfl, rfl⟩ := h
  have C0 := za.mk c0
  clear c0
  go_enter Try.func36, Try.ntmps36
  go_wp2_with (first | (go_at_call 83; refine (zj.calls k w.heap.size a0 a1 0 8 x1 x2 x3 _ w _ (zf.new w w a0 a1 0 (Below.refl _ _)) (zc (Below.refl _ _) _) HX.out).mono ?_; rintro e w1 ⟨v0, rfl, hR, hI, hB, hK⟩; obtain ⟨A, c, rfl, hl, hC⟩ := Kd.R_reads hR; have HR := za.mk (zf.apart hI (Kd.R_lower hR (Below.size (zc (Below.refl w.heap.size w) _))) (by decide)); have HI := za.mk hI; have HB := za.mk hB; have HL := za.mk hl; have HC := za.mk hC; clear hR hI hB hK hl hC) | (go_at_call 82; refine (Yo k w.heap.size x2 x3 A c x1 w _ x4 C0.out HI.out HB.out HC.out HL.out).mono ?_; rintro e w2 ⟨rfl, hI2, hB2, hK2⟩; have HB2 := za.mk hB2; have HK2 := za.mk hK2; clear hI2 hB2 hK2))
  go_ret3
  exact ⟨_, rfl, Kd.R_nil _ _ _ _ _, HB2.out⟩
def vq (fr : Nat × Nat) (n : Nat) : Prop := fr = (0, 0) ∨ n ≤ fr.1
theorem vq.off {fr : Nat × Nat} {n j : Nat} (h : vq fr n) (hj : j < n) : (decide (fr.1 ≤ j) && decide (j < fr.2)) = false := by
 rcases h with rfl | h
 ·simp
 ·simp; omega
theorem vq.frozen {w : World} {g j : Nat} {cur : Array Value} {t : TypeId} {fr : Nat × Nat} (hg : w.heap[g]? = some (.cells cur t fr)) (h : vq fr cur.size) (hj : j < cur.size) : w.frozen? ⟨g, j, none⟩ = false := by
 obtain ⟨lo, hi⟩ := fr
 have := h.off hj
 simpa [World.frozen?, hg] using this
theorem jR {P : Program} (g o : Nat) (t : TypeId) (fr : Nat × Nat) : ∀ (vs : List Value) (i : Nat) (cur : Array Value) (w : World), w.heap[g]? = some (.cells cur t fr) → vq fr cur.size → o + i + vs.length ≤ cur.size → (∀ v ∈ vs, v.oneCell' = true) →
  (storeCells ⟨g, o, none⟩ vs i).run P w = .ok () (w.setRow g (cur.toList.take (o + i) ++ vs ++ cur.toList.drop (o + i + vs.length)).toArray)
 | [], i, cur, w, hg, _, _, _ => by
  simp only [storeCells, List.append_nil, List.length_nil, Nat.add_zero, List.take_append_drop, Array.toArray_toList]
  rw [setRow_self w g cur t fr hg]
  rfl
 | v :: rest, i, cur, w, hg, hm, hl, h1 => by
  have hi : o + i < cur.size := by simp at hl; omega
  have hadd : (⟨g, o, none⟩ : Addr).add i = ⟨g, o + i, none⟩ := by unfold Addr.add; split <;> simp_all
  have hcell : w.cell? ⟨g, o + i, none⟩ = some cur[o + i] := by simp [World.cell?, hg, hi]
  have hfro : w.frozen? ⟨g, o + i, none⟩ = false := hm.frozen hg hi
  have hst : (store ((⟨g, o, none⟩ : Addr).add i) v).run P w = .ok () (w.setRow g (cur.setIfInBounds (o + i) v)) := by
   rw [hadd, run_store P w _ v _ (h1 v (by simp)), hcell]
   simp [hfro, setCell_eq_setRow w g (o + i) cur t fr v hg]
  have ih := jR (P := P) g o t fr rest (i + 1) (cur.setIfInBounds (o + i) v) (w.setRow g (cur.setIfInBounds (o + i) v)) (setRow_heap w g cur _ t _ hg) (by simpa using hm) (by simp at hl ⊢; omega) (fun x hx => h1 x (by simp [hx]))
  simp only [storeCells, Sem.run_bind, hst, Result.andThen_ok, ih, setRow_setRow]
  congr 3
  have e := list_seg_step cur.toList (o + i) v rest (by simp at hl ⊢; omega)
  simpa [Array.toList_setIfInBounds, Nat.add_assoc] using e
def xj (w : World) (base : Nat) (e : TypeId) (v : Value) (xs : List Value) : Prop :=
 (v = .slice none 0 0 ∧ xs = []) ∨
 ∃ g cap cur fr, v = .slice (some ⟨g, 0, none⟩) xs.length cap ∧ base ≤ g ∧ w.heap[g]? = some (.cells cur e fr) ∧ vq fr cur.size ∧ xs.length ≤ cap ∧ cap ≤ maxLen ∧ cur.size = cap ∧ cur.toList.take xs.length = xs
theorem xj.nil (w : World) (base : Nat) (e : TypeId) : xj w base e (.slice none 0 0) [] := .inl ⟨rfl, rfl⟩
theorem xj.of_own {w : World} {base n : Nat} {e : TypeId} {v : Value} {xs : List Value} (h : w.ownsRow base e 1 v n xs) : xj w base e v xs := by
 have hl : xs.length = n := by simpa using h.1
 subst hl
 rcases h.2 with ⟨rfl, h0⟩ | ⟨g, cap, cur, rfl, hb, hg, h1, h2, h3, h4⟩
 ·exact .inl ⟨rfl, List.eq_nil_of_length_eq_zero h0⟩
 ·exact .inr ⟨g, cap, cur, (0, 0), rfl, hb, hg, .inl rfl, h1, h2, by simpa using h3, by simpa using h4⟩
theorem xj.kept {w w' : World} {base : Nat} {e : TypeId} {v : Value} {xs : List Value} {row : Option Nat} (h : xj w base e v xs) (hg : w.grownBy w' row) (hne : v.ownBlock = none ∨ v.ownBlock ≠ row) : xj w' base e v xs := by
 rcases h with h | ⟨g, cap, cur, fr, rfl, hb, hgg, rest⟩
 ·exact .inl h
 ·refine .inr ⟨g, cap, cur, fr, rfl, hb, ?_, rest⟩
  rw [hg.block g (Array.getElem?_eq_some_iff.1 hgg).1 (by simpa [Value.ownBlock] using hne)]
  exact hgg
theorem xj.below {w w' : World} {base : Nat} {e : TypeId} {v : Value} {xs : List Value} (h : xj w base e v xs) (hb : Below w.heap.size w w') : xj w' base e v xs :=
 h.kept (jm hb none) (by cases v.ownBlock <;> simp)
theorem xj.base_le {w : World} {base : Nat} {e : TypeId} {v : Value} {xs : List Value} (h : xj w base e v xs) (k : Nat) (hk : v.ownBlock = some k) : base ≤ k := by
 rcases h with ⟨rfl, _⟩ | ⟨g, cap, cur, fr, rfl, hb, _⟩
 ·simp [Value.ownBlock] at hk
 ·have : g = k := by simpa [Value.ownBlock] using hk
  omega
theorem xj.cells {w : World} {base : Nat} {e : TypeId} {v : Value} {xs : List Value} (h : xj w base e v xs) {g : Nat} (hg : v.ownBlock = some g) : ∀ j u, xs[j]? = some u → w.cell? ((⟨g, 0, none⟩ : Addr).add j) = some u := by
 intro j u hu
 rcases h with ⟨rfl, _⟩ | ⟨g', cap, cur, fr, rfl, _, hgg, _, _, _, _, htake⟩
 ·simp [Value.ownBlock] at hg
 ·simp [Value.ownBlock] at hg
  subst hg
  rw [vP, cell_of_row w g' j cur e fr hgg]
  rw [← htake, List.getElem?_take] at hu
  split at hu
  ·simpa using hu
  ·cases hu
theorem xj.of_bytes (w : World) (base : Nat) (e : TypeId) (s : ByteArray) (hb : base ≤ w.heap.size) (hs : s.size ≤ maxLen) :
  xj (Lib.bytesWorld w e s) base e (.slice (some ⟨w.heap.size, 0, none⟩) s.size (grownCap w s.size 0 e)) (Lib.strCells s) := by
 have hge := grownCap_ge w s.size 0 e
 have hle := grownCap_le_maxLen w s.size 0 e hs
 have hsz : (Lib.bytesCells w e s).size = grownCap w s.size 0 e := by
  simp [Lib.bytesCells]
  show s.size + _ = _
  omega
 refine .inr ⟨w.heap.size, grownCap w s.size 0 e, Lib.bytesCells w e s, _, by rw [Lib.strCells_length], hb, Lib.bytesWorld_at_new w e s, .inr (Nat.le_refl _), by rw [Lib.strCells_length]; exact hge, hle, hsz, ?_⟩
 have h1 : (Lib.bytesCells w e s).toList = Lib.strCells s ++ List.replicate (grownCap w s.size 0 e - s.size) (.int .u8 0) := by
  simp [Lib.bytesCells, Lib.strCells]
 rw [h1]
 exact List.take_left
section
variable {P : Program} (w : World)
theorem vM (base : Nat) (t u ty e : TypeId) (i : TypeInfo) (ht : P.underlying t = some (.slice e)) (hu : P.underlying u = some .string) (hi : P.info? e = some i) (hz : i.zero = some (.int .u8 0))
  (hsize : i.size = 1) (hby : i.bytes = 1)
  (v : Value) (xs : List Value) (hown : xj w base e v xs) (s : ByteArray)
  (hbytes : xs.length + s.size ≤ 140737488355328) (hbase : base ≤ w.heap.size) :
  ∃ v' w', (Builtin.append_ #[t, u] ty #[v, .string s]).run P w = .ok v' w' ∧ xj w' base e v' (xs ++ Lib.strCells s) ∧ w.grownBy w' v.ownBlock := by
 rcases hown with ⟨rfl, rfl⟩ | ⟨g, cap, cur, fr, rfl, hbg, hg, hfr, hnc, hcm, hcs, htake⟩
 ·obtain ⟨v', w', hr, ho, hgr, _⟩ := Lib.run_append_own_string (P := P) w base t u ty e i ht hu hi hz hsize hby (.slice none 0 0) 0 [] (World.ownsRow_nil w base e 1) s (by simp only [maxLen]; simp at hbytes; omega) (by simpa using hbytes) hbase
  exact ⟨v', w', hr, xj.of_own ho, hgr⟩
 ·by_cases hroom : xs.length + s.size ≤ cap
  ·have hf := Lib.run_firstCells_string (P := P) w 1 s
   have hst := jR (P := P) g xs.length e fr (Lib.strCells s) 0 cur w hg hfr (by rw [Lib.strCells_length]; omega) (Lib.strCells_oneCell s)
   simp only [Nat.add_zero] at hst
   refine ⟨.slice (some ⟨g, 0, none⟩) (xs.length + s.size) cap, w.setRow g (cur.toList.take xs.length ++ Lib.strCells s ++ cur.toList.drop (xs.length + (Lib.strCells s).length)).toArray, ?_, ?_, ?_⟩
   ·simp [Builtin.append_, run_underlying ht, run_underlying hu, sizeOf, typeInfo, hi, hsize, Builtin.lenOf, hroom, hf, Addr.add_lit, hst]
   ·have hsz : (cur.toList.take xs.length ++ Lib.strCells s ++ cur.toList.drop (xs.length + (Lib.strCells s).length)).toArray.size = cur.size := by
     simp only [List.size_toArray, VB, List.length_take, List.length_drop, Array.length_toList, Lib.strCells_length]
     omega
    refine .inr ⟨g, cap, _, fr, by rw [VB, Lib.strCells_length], hbg, setRow_heap w g cur _ e fr hg, by rw [hsz]; exact hfr, by rw [VB, Lib.strCells_length]; exact hroom, hcm, by rw [hsz]; exact hcs, ?_⟩
    rw [htake]
    exact List.take_left
   ·exact ⟨rfl, rfl, rfl, by simp, fun k _ hk => setRow_other w g k _ (fun e => hk (by simp [Value.ownBlock, e]))⟩
  ·have holds : ∀ j u, xs[j]? = some u → w.cell? ((⟨g, 0, none⟩ : Addr).add j) = some u := xj.cells (base := base) (.inr ⟨g, cap, cur, fr, rfl, hbg, hg, hfr, hnc, hcm, hcs, htake⟩) (g := g) rfl
   have hr := Lib.run_append_grow_string (P := P) w t u ty e i (.int .u8 0) ht hu hi hz ⟨g, 0, none⟩ xs.length cap xs (by rw [hsize, Nat.mul_one]) holds s (by omega) (by omega) (by rw [hby]; exact growslice_fits (by omega) (by omega))
   refine ⟨_, _, hr, ?_, ⟨rfl, rfl, rfl, by simp, fun k hk _ => heap_alloc_old w.drew _ hk⟩⟩
   have hge := grownCap_ge w (xs.length + s.size) cap e
   have hz1 : (Value.int IntKind.u8 0).cells.size = 1 := rfl
   refine .inr ⟨w.heap.size, _, _, (0, 0), by rw [VB, Lib.strCells_length], hbase, heap_alloc_new w.drew _, .inl rfl, by rw [VB, Lib.strCells_length]; exact hge, grownCap_le_maxLen w _ _ e (by simp only [maxLen]; omega), ?_, ?_⟩
   ·simp only [Array.size_append, List.size_toArray, size_zeroCells, hz1, Lib.strCells_length]
    omega
   ·simp only [Array.toList_append, List.append_assoc]
    rw [← List.append_assoc]
    exact List.take_left
variable {ops : Array Oper} {rest : List Oper} {o : Oper} {a : Act} {Q : Exit → Act → World → Prop}
theorem qT (hgd : o.guard = none) (sl x : Operand) (t u : TypeId)
  (ho : o.op = .call { callee := .builtin .append, args := #[sl, x], argTypes := #[t, u] })
  (base : Nat) (e : TypeId) (i : TypeInfo) (ht : P.underlying t = some (.slice e)) (hu : P.underlying u = some .string) (hi : P.info? e = some i) (hz : i.zero = some (.int .u8 0))
  (hsize : i.size = 1) (hby : i.bytes = 1)
  (v : Value) (xs : List Value) (hs : a.eval sl = v) (hown : xj w base e v xs) (s : ByteArray) (hx : a.eval x = .string s)
  (hbytes : xs.length + s.size ≤ 140737488355328) (hbase : base ≤ w.heap.size)
  (h : ∀ v' w', xj w' base e v' (xs ++ Lib.strCells s) → w.grownBy w' v.ownBlock → wpList P ops Q rest (a.put o.dst v') w') : wpList P ops Q (o :: rest) a w := by
 refine wpList_plain hgd fun K hK => ?_
 obtain ⟨v', w', hr, h2, h3⟩ := vM (P := P) w base t u o.type e i ht hu hi hz hsize hby v xs hown s hbytes hbase
 unfold Oper.wp execOp
 simp only [ho, resolve, invoke, builtin, Sem.run_bind, Sem.run_pure, Result.andThen_ok, Vw, List.map_cons, List.map_nil, hs, hx, hr]
 exact hK _ _ (h v' w' h2 h3)
end
theorem xj.to_string {P : Program} {w : World} {base : Nat} {src dst e e' : TypeId} {v : Value} {xs : List Int} (hs : P.underlying src = some (.slice e')) (he : P.underlying e' = some (.int .u8)) (hd : P.underlying dst = some .string)
  (h : xj w base e v (xo .u8 xs)) : (convert src dst v).run P w = .ok (.string (strOfNums xs)) w := by
 have hl : (xo .u8 xs).length = xs.length := qD _ _
 rcases h with ⟨rfl, h0⟩ | ⟨g, cap, cur, fr, rfl, hb, hg, hfr, hnc, hcm, hcs, htake⟩
 ·obtain rfl : xs = [] := by cases xs with | nil => rfl | cons x xs => simp [xo] at h0
  exact run_convert_bytes_nil w src e' hs he 0 0 dst hd
 ·rw [hl]
  refine run_convert_bytes_arg w src e' hs he g 0 xs.length cap xs rfl (fun i hi => ?_) dst hd
  have hc := xj.cells (base := base) (e := e) (v := .slice (some ⟨g, 0, none⟩) (xo .u8 xs).length cap) (.inr ⟨g, cap, cur, fr, rfl, hb, hg, hfr, hnc, hcm, hcs, htake⟩) (g := g) rfl i (.int .u8 (xs.getD i 0)) (by simp [xo, List.getElem?_eq_getElem (show i < xs.length by omega), List.getD_eq_getElem?_getD])
  have ha : (⟨g, 0, none⟩ : Addr).add i = ⟨g, 0 + i, none⟩ := by unfold Addr.add; split <;> simp_all
  rwa [ha] at hc
theorem qW (s : ByteArray) : Lib.strCells s = xo .u8 (bytesOf s) := by simp [Lib.strCells, xo, bytesOf]
theorem xj.at_ {w : World} {base : Nat} {e : TypeId} {v : Value} {xs : List Int} (h : xj w base e v (xo .u8 xs)) (i : Nat) (hi : i < xs.length) :
  ∃ g cap, v = .slice (some ⟨g, 0, none⟩) xs.length cap ∧ base ≤ g ∧ w.cell? ⟨g, i, none⟩ = some (.int .u8 (xs.getD i 0)) ∧ w.frozen? ⟨g, i, none⟩ = false := by
 have hl : (xo .u8 xs).length = xs.length := qD _ _
 have hcell := fun g => h.cells (g := g)
 rcases h with ⟨rfl, h0⟩ | ⟨g, cap, cur, fr, rfl, hb, hg, hfr, hnc, hcm, hcs, htake⟩
 ·rw [h0] at hl; simp at hl; omega
 ·have hc := hcell g rfl i (.int .u8 (xs.getD i 0)) (by simp [xo, List.getElem?_eq_getElem hi, List.getD_eq_getElem?_getD])
  rw [vP] at hc
  exact ⟨g, cap, by rw [hl], hb, hc, hfr.frozen hg (by omega)⟩
theorem xj.set_ {w : World} {base g cap : Nat} {e : TypeId} {n : Nat} {xs : List Int} (h : xj w base e (.slice (some ⟨g, 0, none⟩) n cap) (xo .u8 xs)) (i : Nat) (hi : i < xs.length) (x : Int) :
  xj (w.setCell ⟨g, i, none⟩ (.int .u8 x)) base e (.slice (some ⟨g, 0, none⟩) n cap) (xo .u8 (xs.set i x)) := by
 have hl : (xo .u8 xs).length = xs.length := qD _ _
 have hl2 : (xo .u8 (xs.set i x)).length = xs.length := by rw [qD, List.length_set]
 rcases h with ⟨h0, _⟩ | ⟨g', cap', cur, fr, he, hb, hg, hfr, hnc, hcm, hcs, htake⟩
 ·simp at h0
 ·simp only [Value.slice.injEq, Option.some.injEq, Addr.mk.injEq, and_true] at he
  obtain ⟨rfl, rfl, rfl⟩ := he
  refine .inr ⟨g, cap, cur.setIfInBounds i (.int .u8 x), fr, by rw [hl, hl2], hb, ?_, by simpa using hfr, by omega, hcm, by simpa using hcs, ?_⟩
  ·rw [setCell_eq_setRow w g i cur e fr _ hg]
   exact setRow_heap w g cur _ e fr hg
  ·rw [hl2, Array.toList_setIfInBounds, List.take_set]
   rw [hl] at htake
   rw [htake]
   simp [xo, List.map_set]
def zig (n : Int) : Nat := if n < 0 then (-2 * n - 1).toNat else (2 * n).toNat
def qa : Nat → Nat → List Nat
 | 0, _ => []
 | f + 1, u => if u < 128 then [u] else (u % 128 + 128) :: qa f (u / 128)
def qy (l : List Nat) : List Int := l.map fun (n : Nat) => (n : Int)
def yo (n : Int) : ByteArray := strOfNums (qy (qa 10 (zig n)))
theorem Q8 (n : Int) (h0 : -9223372036854775808 ≤ n) (h1 : n ≤ 9223372036854775807) : zig n < 18446744073709551616 := by
 unfold zig
 split <;> omega
def yv.f (a0 : Int) : Option ByteArray := if -9223372036854775808 ≤ a0 ∧ a0 ≤ 9223372036854775807 then some (yo a0) else none
theorem Q5 (x : Nat) (hx : x < 18446744073709551616) : Go.bits .xor .u64 18446744073709551615 (x : Int) = 18446744073709551615 - (x : Int) := by
 have h64 : (18446744073709551615 ^^^ x : Nat) = 18446744073709551615 - x := by
  have : (18446744073709551615 : Nat) = 2 ^ 64 - 1 := rfl
  rw [this]
  apply Nat.eq_of_testBit_eq
  intro j
  rw [Nat.testBit_xor, Nat.testBit_two_pow_sub_one, Nat.sub_sub, Nat.add_comm 1 x, Nat.testBit_two_pow_sub_succ (by omega)]
  by_cases hj : j < 64
  ·simp [hj]
  ·have : x.testBit j = false := Nat.testBit_lt_two_pow (Nat.lt_of_lt_of_le hx (Nat.pow_le_pow_right (n := 2) (i := 64) (j := j) (by decide) (by omega)))
   simp [hj, this]
 have e1 : (18446744073709551615 : Int) = ((18446744073709551615 : Nat) : Int) := rfl
 unfold Go.bits
 rw [e1]
 simp only [BitVec.ofInt_natCast, BitVec.toNat_xor, BitVec.toNat_ofNat]
 have e2 : x % 2 ^ IntKind.u64.bits = x := Nat.mod_eq_of_lt hx
 have e3 : 18446744073709551615 % 2 ^ IntKind.u64.bits = 18446744073709551615 := by decide
 rw [e2, e3, h64]
 have : IntKind.u64.wrap ((18446744073709551615 - x : Nat) : Int) = ((18446744073709551615 - x : Nat) : Int) := by
  simp [IntKind.wrap, IntKind.bits, IntKind.signed]
  omega
 rw [this]
 omega
theorem JO (u : Nat) : Go.bits .or .u8 ((u : Int) % 256) 128 = ((u % 128 + 128 : Nat) : Int) := by
 have h := (bits_nat .u8 8 (by decide) wraps_u8 (u % 256) 128 (by omega) (by omega)).2
 have e : ((u % 256 : Nat) : Int) = (u : Int) % 256 := by omega
 rw [e] at h
 have e2 : ((128 : Nat) : Int) = 128 := rfl
 rw [e2] at h
 rw [h]
 have h2 : u % 256 ||| 128 = u % 128 + 128 := by
  have h3 : u % 128 + 128 = 128 ||| u % 128 := by
   have := Nat.two_pow_add_eq_or_of_lt (i := 7) (show u % 128 < 2 ^ 7 by omega) 1
   rw [Nat.mul_one] at this
   have e7 : (2 : Nat) ^ 7 = 128 := rfl
   rw [e7] at this
   omega
  rw [h3]
  apply Nat.eq_of_testBit_eq
  intro j
  rw [Nat.testBit_or, Nat.testBit_or]
  have e256 : (256 : Nat) = 2 ^ 8 := rfl
  have e128 : (128 : Nat) = 2 ^ 7 := rfl
  rw [e256, e128, Nat.testBit_mod_two_pow, Nat.testBit_mod_two_pow, Nat.testBit_two_pow]
  by_cases h7 : j = 7
  ·subst h7; simp
  ·by_cases hj : j < 7
   ·simp [hj, show j < 8 by omega, Bool.or_comm]
   ·simp [hj, show ¬ j < 8 by omega]
 rw [h2]
def u8s (t : List Int) : Array Value := (t.map (Value.int .u8)).toArray
def qv (pre : List Nat) : List Int := qy pre ++ List.replicate (10 - pre.length) 0
theorem jv (pre : List Nat) (h : pre.length ≤ 10) : (qv pre).length = 10 := by simp [qv, qy]; omega
theorem vv (pre : List Nat) (x : Nat) (h : pre.length < 10) : (u8s (qv pre)).setIfInBounds pre.length (.int .u8 (x : Int)) = u8s (qv (pre ++ [x])) := by
 have e : (qv pre).set pre.length (x : Int) = qv (pre ++ [x]) := by
  have h2 : (qy pre).length = pre.length := by simp [qy]
  have h3 : 10 - pre.length = (10 - (pre.length + 1)) + 1 := by omega
  unfold qv
  rw [List.set_append_right _ _ (by omega), h2, Nat.sub_self, h3, List.replicate_succ, Vu]
  simp [qy]
 rw [← e]
 simp [u8s, List.map_set]
theorem vw {w : World} {b T : Nat} {t : List Int} (hb : w.heap[b]? = some (.cells (u8s t) T (0, 0))) (i : Nat) (hi : i < t.length) : w.cell? ⟨b, i, none⟩ = some (.int .u8 (t.getD i 0)) := by
 rw [cell_of_row w b i _ T _ hb]
 simp [u8s, hi]
theorem Xe : u8s (qv []) = #[.int .u8 0, .int .u8 0, .int .u8 0, .int .u8 0, .int .u8 0, .int .u8 0, .int .u8 0, .int .u8 0, .int .u8 0, .int .u8 0] := by
 simp [u8s, qv, qy, List.replicate_succ]
theorem qX (n : Int) : IntKind.u64.wrap n = n % 18446744073709551616 := by simp [IntKind.wrap, IntKind.bits, IntKind.signed]
theorem J2 (n : Int) (h0 : ¬ n < 0) (h1 : n ≤ 9223372036854775807) : IntKind.u64.wrap (IntKind.u64.wrap n * 2) = ((zig n : Nat) : Int) := by
 rw [qX, qX, zig, if_neg h0]
 omega
theorem Va (n : Int) (h0 : n < 0) (h1 : -9223372036854775808 ≤ n) : Go.bits .xor .u64 IntKind.u64.max (IntKind.u64.wrap (IntKind.u64.wrap n * 2)) = ((zig n : Nat) : Int) := by
 have e : IntKind.u64.wrap (IntKind.u64.wrap n * 2) = (((2 * n + 18446744073709551616).toNat : Nat) : Int) := by
  rw [qX, qX]
  omega
 have e2 : IntKind.u64.max = 18446744073709551615 := rfl
 rw [e, e2, Q5 _ (by omega), zig, if_pos h0]
 omega
def Yk (u m : Nat) : Prop := u < 2 ^ (64 - 7 * m)
theorem Yk.next {u m : Nat} (h : Yk u m) (hu : 128 ≤ u) : m ≤ 8 ∧ Yk (u / 128) (m + 1) := by
 unfold Yk at *
 have hm : m ≤ 8 := by
  rcases Nat.lt_or_ge m 9 with h9 | h9
  ·omega
  ·have : 2 ^ (64 - 7 * m) ≤ 2 ^ 1 := Nat.pow_le_pow_right (by decide) (by omega)
   omega
 refine ⟨hm, ?_⟩
 have e : 64 - 7 * m = (64 - 7 * (m + 1)) + 7 := by omega
 rw [e, Nat.pow_add] at h
 have : u / 128 < 2 ^ (64 - 7 * (m + 1)) := Nat.div_lt_of_lt_mul (by rw [Nat.mul_comm]; exact h)
 exact this
theorem vl (f u : Nat) (h : 128 ≤ u) : qa (f + 1) u = (u % 128 + 128) :: qa f (u / 128) := by rw [qa, if_neg (by omega)]
theorem j8 (f u : Nat) (h : u < 128) : qa (f + 1) u = [u] := by rw [qa, if_pos h]
theorem YQ : Try.prog.arrayLen 141 = 10 := by kernel_rfl
theorem Qs (W : World) : (sizeOf (Try.prog.elem 141)).run Try.prog W = .ok 1 W := by kernel_rfl
theorem YF (g m : Nat) (hm : m < 10) (W : World) : (Instr.sliceAt 141 (.pointer (some ⟨g, 0, none⟩)) none (some (.int .i64 ((m : Int) + 1))) none).run Try.prog W = .ok (.slice (some ⟨g, 0, none⟩) (m + 1) 10) W := by
 have h := run_sliceAt_array_h (P := Try.prog) W 141 ⟨g, 0, none⟩ Try.underlying141 .i64 ((m : Int) + 1) (by omega) (by rw [YQ]; omega)
 have e : ((m : Int) + 1).toNat = m + 1 := by omega
 rw [h, YQ, e, Qs]
 simp [slicedAt]
 exact vP g 0
set_option maxHeartbeats 2000000 in
theorem yv.calls (a0 : Int) (r : ByteArray) (w : World) (h : yv.f a0 = some r) :
  Calls Try.prog 87 #[.int .i64 a0] w fun e w' => e = .returned (.string r) ∧ Below w.heap.size w w' := by
 unfold yv.f at h
 split at h
 case isFalse => cases h
 case isTrue hr =>
 obtain rfl := Option.some.inj h
 have HR := za.mk hr
 have HZ := za.mk (Q8 a0 hr.1 hr.2)
 have HP := za.mk (fun h => J2 a0 h hr.2)
 have HN := za.mk (fun h => Va a0 h hr.1)
 clear hr h
 unfold yo
 generalize zig a0 = z at HZ HP HN
 by_cases hn : a0 < 0
 ·have HE := za.mk (HN.out hn)
  go_enter Try.func87, Try.ntmps87
  go_wp2
  rw [HE.out]
  clear HE HN HP HR
  rw [← Xe]
  have HB0 := za.mk (zc (Below.refl w.heap.size w) (.cells (u8s (qv [])) 141))
  go_loopg [3, 5] 10 (fun kq v3 v5 wr => ∃ (u : Nat) (pre : List Nat), v3 = .int .u64 u ∧ v5 = .int .i64 pre.length ∧ za (pre.length + kq = 10 ∧ 1 ≤ kq ∧ Yk u pre.length) ∧ za (qa 10 z = pre ++ qa kq u) ∧ za (wr.heap[w.heap.size]? = some (.cells (u8s (qv pre)) 141 (0, 0))) ∧ za (Below w.heap.size w wr))
  case atStart => exact ⟨z, [], rfl, rfl, ⟨rfl, by decide, HZ.out⟩, ⟨rfl⟩, ⟨heap_alloc_new w _⟩, HB0⟩
  case round =>
   clear HB0 HZ
   obtain ⟨u, pre, rfl, rfl, HK, HD, HO, HW⟩ := hrel
   obtain ⟨kq, rfl⟩ : ∃ m, gk = m + 1 := ⟨gk - 1, by have := HK.out; omega⟩
   obtain ⟨m, hm⟩ : ∃ m, m = pre.length := ⟨_, rfl⟩
   rw [← hm]
   have hm10 : m < 10 := by have := HK.out; omega
   have hc2 := vw HO.out m (by rw [jv pre (by omega)]; exact hm10)
   have hf2 := ze HO.out m
   have HMm := za.mk hm
   clear hm
   by_cases hu : 128 ≤ u
   ·have HV : za (Go.bits .or .u8 ((u : Int) % 256) 128 = ((u % 128 + 128 : Nat) : Int)) := ⟨JO u⟩
    go_wp2
    have hroom := HK.out.2.2.next hu
    have HO1 : za ((wr.setCell ⟨w.heap.size, m, none⟩ (.int .u8 (Go.bits .or .u8 ((u : Int) % 256) 128))).heap[w.heap.size]? = some (.cells (u8s (qv (pre ++ [u % 128 + 128]))) 141 (0, 0))) := ⟨by
     rw [HV.out, HMm.out, ← vv pre _ (by rw [← HMm.out]; exact hm10)]
     exact q3 HO.out _ _⟩
    have HW1 : za (Below w.heap.size w (wr.setCell ⟨w.heap.size, m, none⟩ (.int .u8 (Go.bits .or .u8 ((u : Int) % 256) 128)))) := ⟨zh HW.out (Nat.le_refl _)⟩
    have hlen : (pre ++ [u % 128 + 128]).length = m + 1 := by rw [VB, ← HMm.out]; rfl
    have hk1 : 1 ≤ kq := by have := HK.out; have := HMm.out; omega
    obtain ⟨k2, rfl⟩ : ∃ k2, kq = k2 + 1 := ⟨kq - 1, by omega⟩
    go_roundg (k2 + 1)
    case measure => omega
    case rel => exact ⟨u / 128, pre ++ [u % 128 + 128], by go_num, by rw [hlen]; go_num, ⟨by rw [hlen]; have := HK.out; have := HMm.out; omega, by omega, by rw [hlen, HMm.out]; exact hroom.2⟩, ⟨by rw [HD.out, vl _ _ hu, List.append_assoc]; rfl⟩, HO1, HW1⟩
   ·have hsl := YF w.heap.size m hm10 (wr.setCell ⟨w.heap.size, m, none⟩ (.int .u8 (u : Int)))
    have hcs : (convert 74 9 (.slice (some ⟨w.heap.size, 0, none⟩) (m + 1) 10)).run Try.prog (wr.setCell ⟨w.heap.size, m, none⟩ (.int .u8 (u : Int))) = .ok (.string (strOfNums (qy (pre ++ [u])))) (wr.setCell ⟨w.heap.size, m, none⟩ (.int .u8 (u : Int))) := by
     have hlen : (pre ++ [u]).length = m + 1 := by rw [VB, ← HMm.out]; rfl
     refine run_convert_bytes_arg _ 74 5 Try.underlying74 Try.underlying5 w.heap.size 0 (m + 1) 10 (qy (pre ++ [u])) (by rw [qy, List.length_map, hlen]) (fun i hi => ?_) 9 Try.underlying9
     have hb : (wr.setCell ⟨w.heap.size, m, none⟩ (.int .u8 (u : Int))).heap[w.heap.size]? = some (.cells (u8s (qv (pre ++ [u]))) 141 (0, 0)) := by
      rw [HMm.out, ← vv pre u (by rw [← HMm.out]; exact hm10)]
      exact q3 HO.out _ _
     rw [Nat.zero_add, vw hb i (by rw [jv _ (by omega)]; omega)]
     congr 2
     simp only [List.getD_eq_getElem?_getD, qv]
     rw [List.getElem?_append_left (by rw [qy, List.length_map, hlen]; exact hi)]
    have HU := za.mk hu
    have HC := za.mk hcs
    clear hcs
    have hcs := HC.out
    go_wp2
    go_ret
    refine ⟨XV ?_, zh HW.out (Nat.le_refl _)⟩
    rw [HD.out, j8 _ _ (by have := HU.out; omega)]
 ·have HE := za.mk (HP.out hn)
  go_enter Try.func87, Try.ntmps87
  go_wp2
  rw [HE.out]
  clear HE HN HP HR
  rw [← Xe]
  have HB0 := za.mk (zc (Below.refl w.heap.size w) (.cells (u8s (qv [])) 141))
  go_loopg [3, 5] 10 (fun kq v3 v5 wr => ∃ (u : Nat) (pre : List Nat), v3 = .int .u64 u ∧ v5 = .int .i64 pre.length ∧ za (pre.length + kq = 10 ∧ 1 ≤ kq ∧ Yk u pre.length) ∧ za (qa 10 z = pre ++ qa kq u) ∧ za (wr.heap[w.heap.size]? = some (.cells (u8s (qv pre)) 141 (0, 0))) ∧ za (Below w.heap.size w wr))
  case atStart => exact ⟨z, [], rfl, rfl, ⟨rfl, by decide, HZ.out⟩, ⟨rfl⟩, ⟨heap_alloc_new w _⟩, HB0⟩
  case round =>
   clear HB0 HZ
   obtain ⟨u, pre, rfl, rfl, HK, HD, HO, HW⟩ := hrel
   obtain ⟨kq, rfl⟩ : ∃ m, gk = m + 1 := ⟨gk - 1, by have := HK.out; omega⟩
   obtain ⟨m, hm⟩ : ∃ m, m = pre.length := ⟨_, rfl⟩
   rw [← hm]
   have hm10 : m < 10 := by have := HK.out; omega
   have hc2 := vw HO.out m (by rw [jv pre (by omega)]; exact hm10)
   have hf2 := ze HO.out m
   have HMm := za.mk hm
   clear hm
   by_cases hu : 128 ≤ u
   ·have HV : za (Go.bits .or .u8 ((u : Int) % 256) 128 = ((u % 128 + 128 : Nat) : Int)) := ⟨JO u⟩
    go_wp2
    have hroom := HK.out.2.2.next hu
    have HO1 : za ((wr.setCell ⟨w.heap.size, m, none⟩ (.int .u8 (Go.bits .or .u8 ((u : Int) % 256) 128))).heap[w.heap.size]? = some (.cells (u8s (qv (pre ++ [u % 128 + 128]))) 141 (0, 0))) := ⟨by
     rw [HV.out, HMm.out, ← vv pre _ (by rw [← HMm.out]; exact hm10)]
     exact q3 HO.out _ _⟩
    have HW1 : za (Below w.heap.size w (wr.setCell ⟨w.heap.size, m, none⟩ (.int .u8 (Go.bits .or .u8 ((u : Int) % 256) 128)))) := ⟨zh HW.out (Nat.le_refl _)⟩
    have hlen : (pre ++ [u % 128 + 128]).length = m + 1 := by rw [VB, ← HMm.out]; rfl
    have hk1 : 1 ≤ kq := by have := HK.out; have := HMm.out; omega
    obtain ⟨k2, rfl⟩ : ∃ k2, kq = k2 + 1 := ⟨kq - 1, by omega⟩
    go_roundg (k2 + 1)
    case measure => omega
    case rel => exact ⟨u / 128, pre ++ [u % 128 + 128], by go_num, by rw [hlen]; go_num, ⟨by rw [hlen]; have := HK.out; have := HMm.out; omega, by omega, by rw [hlen, HMm.out]; exact hroom.2⟩, ⟨by rw [HD.out, vl _ _ hu, List.append_assoc]; rfl⟩, HO1, HW1⟩
   ·have hsl := YF w.heap.size m hm10 (wr.setCell ⟨w.heap.size, m, none⟩ (.int .u8 (u : Int)))
    have hcs : (convert 74 9 (.slice (some ⟨w.heap.size, 0, none⟩) (m + 1) 10)).run Try.prog (wr.setCell ⟨w.heap.size, m, none⟩ (.int .u8 (u : Int))) = .ok (.string (strOfNums (qy (pre ++ [u])))) (wr.setCell ⟨w.heap.size, m, none⟩ (.int .u8 (u : Int))) := by
     have hlen : (pre ++ [u]).length = m + 1 := by rw [VB, ← HMm.out]; rfl
     refine run_convert_bytes_arg _ 74 5 Try.underlying74 Try.underlying5 w.heap.size 0 (m + 1) 10 (qy (pre ++ [u])) (by rw [qy, List.length_map, hlen]) (fun i hi => ?_) 9 Try.underlying9
     have hb : (wr.setCell ⟨w.heap.size, m, none⟩ (.int .u8 (u : Int))).heap[w.heap.size]? = some (.cells (u8s (qv (pre ++ [u]))) 141 (0, 0)) := by
      rw [HMm.out, ← vv pre u (by rw [← HMm.out]; exact hm10)]
      exact q3 HO.out _ _
     rw [Nat.zero_add, vw hb i (by rw [jv _ (by omega)]; omega)]
     congr 2
     simp only [List.getD_eq_getElem?_getD, qv]
     rw [List.getElem?_append_left (by rw [qy, List.length_map, hlen]; exact hi)]
    have HU := za.mk hu
    have HC := za.mk hcs
    clear hcs
    have hcs := HC.out
    go_wp2
    go_ret
    refine ⟨XV ?_, zh HW.out (Nat.le_refl _)⟩
    rw [HD.out, j8 _ _ (by have := HU.out; omega)]
def qJ {α : Type} (T : α → Option (ByteArray × Int)) : List α → List Int → Option (ByteArray × Int)
 | [], acc => some (strOfNums acc, 0)
 | x :: l, acc => (T x).bind fun r => if r.2 = 0 then (if acc.length + r.1.size ≤ 140737488355328 then qJ T l (acc ++ bytesOf r.1) else none) else some (⟨#[]⟩, r.2)
theorem X5 (l : List Int) (i : Nat) (h : i < l.length) : rd l (i : Int) = l[i] := by simp [rd, h]
theorem XU (l : List ByteArray) (i : Nat) (h : i < l.length) : xr ByteArray.empty l (i : Int) = l[i] := by simp [xr, h]
theorem Z2 (xs : List Int) (s : ByteArray) : xo .u8 xs ++ Lib.strCells s = xo .u8 (xs ++ bytesOf s) := by rw [qW, Zp]
theorem JN : (Try.prog.info? 5).map (fun i => (i.zero, i.size, i.bytes)) = some (some (.int .u8 0), 1, 1) := by kernel_rfl
theorem XQ (f : Nat) : ∀ u, (qa f u).length ≤ f := by
 induction f with
 | zero => intro u; simp [qa]
 | succ f ih =>
  intro u
  rw [qa]
  split
  ·simp
  ·have := ih (u / 128)
   simp only [List.length_cons]
   omega
theorem yk (n : Int) : (yo n).size ≤ 10 := by
 unfold yo
 rw [strOfNums_size, qy, List.length_map]
 exact XQ 10 _
end Go.Proofs.Ytbfehjncllkogaa.Q
