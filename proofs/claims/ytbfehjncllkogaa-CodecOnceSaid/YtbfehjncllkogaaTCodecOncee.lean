/- Texts of this session laid together (shrink.py): what the claim's law rests on. -/
import Derived.Below
import Derived.Deep.Draws
import Derived.Deep.AppendLies
import Derived.Maps.AppendAt
import Derived.OwnWalk
import Derived.Laws.BytesArg
import Derived.Laws.MakeOwn
import Derived.Laws.OwnMore
import Derived.Deep.OwnRows
import Derived.Tactics
import Derived.Lib.ConvBytes
import Derived.Laws.Slices
import Derived.WalkKit
import Derived.KernelRfl
import Derived.RowKit3
import Derived.Deep.LoopGhost
import Derived.Deep.QuietTactic
import Derived.BigQuiet
import Derived.WideLaws
import Derived.Deep.DeepCutAuto
import Derived.Deep.CutBlock
import Derived.Deep.RegionHeld3
import Derived.Laws.Rows
import Derived.Lib.AppendStr
import Derived.ArgAppend
import Derived.Laws.IdiomCopy
import Derived.RowKit
import Derived.OrdersHeld
import Derived.Laws.BitsLemmas
import Derived.Laws.StructEq
import Derived.Test.YtbfehjncllkogaaProg
import Derived.WalkMore
import Derived.Lib.Strings
import Derived.Outline
import Derived.Test.YtbfehjncllkogaaTCodecOnced
set_option linter.unusedVariables false
set_option linter.unusedSimpArgs false
set_option maxRecDepth 100000
set_option maxHeartbeats 8000000
namespace Go.Proofs.Ytbfehjncllkogaa.Q
open Go.RowKit Go.Proofs.YtbfehjncllkogaaW.PrintWords Go.Proofs.YtbfehjncllkogaaW.PrintLast Go.Proofs.YtbfehjncllkogaaW.PrintMore
attribute [local go_sem] max2_int min2_int max_two min_two max_three min_three max_four min_four
def codec_verdicts.l0 : Nat → List (S97) → List (S97) → Int → Int → Option (Bool)
 | 0, _, _, _, _ => none
 | k + 1, x0, x5, x6, x7 => if x7 < x6 then (if 0 ≤ x7 then (if x7 < (x5.length : Int) then ((codec_within.f ((rd_T97 x5 x7).f0) 1 1099511627776).bind fun t379 => (if t379 = true then ((codec_within.f ((rd_T97 x5 x7).f1) 0 63).bind fun t380 => (if t380 = true then (if x7 > 0 then (if 0 ≤ (wrap64 (x7 - 1)) then (if (wrap64 (x7 - 1)) < (x0.length : Int) then (if ((rd_T97 x5 x7).f0) ≤ ((rd_T97 x0 (wrap64 (x7 - 1))).f0) then (some false) else (codec_verdicts.l0 k x0 x5 x6 (wrap64 (x7 + 1)))) else (none)) else (none)) else (codec_verdicts.l0 k x0 x5 x6 (wrap64 (x7 + 1)))) else (some false))) else (some false))) else (none)) else (none)) else (some (decide ((x0.length : Int) ≤ 32)))
def codec_verdicts.f (k : Nat) (l0 : List (S97)) : Option (Bool) := codec_verdicts.l0 k l0 l0 (l0.length : Int) 0
theorem codec_verdicts.calls (k : Nat) (A0 : Option Addr) (c0 : Nat) (l0 : List (S97)) (r : Bool) (w : World) (hr0 : Kd.C k97 w A0 l0.length l0) (hc0 : l0.length ≤ c0) (h : codec_verdicts.f k l0 = some r) :
  Calls Try.prog 57 #[.slice A0 l0.length c0] w fun e w' => e = .returned (.bool r) ∧ Below w.heap.size w w' := by
 have hu97 := Try.underlying97
 have HR0 := Aside0.mk hr0
 have HC0 := Aside0.mk hc0
 clear hr0 hc0
 have HB := Aside0.mk (Below.refl w.heap.size w)
 have H : (codec_verdicts.l0 k l0 l0 (l0.length : Int) 0) = some r := h
 clear h
 have H' := Aside0.mk H
 clear H
 go_enter Try.func57, Try.ntmps57
 go_wp2
 repeat (go_quiet (fail); try go_wp2)
 go_loopg [7] k (fun kq v7 w' => ∃ (x7_1 : Int), v7 = .int .i64 x7_1 ∧ Aside0 (codec_verdicts.l0 kq l0 l0 (l0.length : Int) x7_1 = some r) ∧ Aside0 (kq ≤ k) ∧ Aside0 (Below w.heap.size w w'))
 case atStart => exact ⟨(0), (by first | rfl | (simp; done) | (simp [*]; done)), H', ⟨Nat.le_refl _⟩, ⟨by repeat (first | (with_reducible first | exact HB.out | apply below_alloc | apply pw_below_drewN | apply below_drew1) | exact HB.out)⟩⟩
 case round =>
  clear H'
  obtain ⟨x7_1, rfl, HA, HK1, HB⟩ := hrel
  cases gk with
  | zero => exact absurd HA.out (by simp [codec_verdicts.l0])
  | succ k1 =>
   have H := HA.out
   clear HA
   simp only [codec_verdicts.l0] at H
   by_cases c2 : x7_1 < (l0.length : Int)
   ·rw [if_pos c2] at H
    have c2b0 : decide (x7_1 < (l0.length : Int)) = true := decide_eq_true c2
    clear c2
    by_cases c3 : 0 ≤ x7_1
    ·rw [if_pos c3] at H
     have c3b0 : decide (0 ≤ x7_1) = true := decide_eq_true c3
     clear c3
     by_cases c4 : x7_1 < (l0.length : Int)
     ·rw [if_pos c4] at H
      have c4b0 : decide (x7_1 < (l0.length : Int)) = true := decide_eq_true c4
      clear c4
      replace H := Option.bind_eq_some_iff.mp H
      obtain ⟨t379, A50, H⟩ := H
      replace H : (if t379 = true then ((codec_within.f ((rd_T97 l0 x7_1).f1) 0 63).bind fun t380 => (if t380 = true then (if x7_1 > 0 then (if 0 ≤ (wrap64 (x7_1 - 1)) then (if (wrap64 (x7_1 - 1)) < (l0.length : Int) then (if ((rd_T97 l0 x7_1).f0) ≤ ((rd_T97 l0 (wrap64 (x7_1 - 1))).f0) then (some false) else (codec_verdicts.l0 k1 l0 l0 (l0.length : Int) (wrap64 (x7_1 + 1)))) else (none)) else (none)) else (codec_verdicts.l0 k1 l0 l0 (l0.length : Int) (wrap64 (x7_1 + 1)))) else (some false))) else (some false)) = some r := H
      have A5 := Aside0.mk A50
      clear A50
      by_cases c6 : t379 = true
      ·subst c6
       have H1 : ((codec_within.f ((rd_T97 l0 x7_1).f1) 0 63).bind fun t380 => (if t380 = true then (if x7_1 > 0 then (if 0 ≤ (wrap64 (x7_1 - 1)) then (if (wrap64 (x7_1 - 1)) < (l0.length : Int) then (if ((rd_T97 l0 x7_1).f0) ≤ ((rd_T97 l0 (wrap64 (x7_1 - 1))).f0) then (some false) else (codec_verdicts.l0 k1 l0 l0 (l0.length : Int) (wrap64 (x7_1 + 1)))) else (none)) else (none)) else (codec_verdicts.l0 k1 l0 l0 (l0.length : Int) (wrap64 (x7_1 + 1)))) else (some false))) = some r := by rw [if_pos rfl] at H; exact H
       clear H
       have H := H1
       clear H1
       replace H := Option.bind_eq_some_iff.mp H
       obtain ⟨t380, A70, H⟩ := H
       replace H : (if t380 = true then (if x7_1 > 0 then (if 0 ≤ (wrap64 (x7_1 - 1)) then (if (wrap64 (x7_1 - 1)) < (l0.length : Int) then (if ((rd_T97 l0 x7_1).f0) ≤ ((rd_T97 l0 (wrap64 (x7_1 - 1))).f0) then (some false) else (codec_verdicts.l0 k1 l0 l0 (l0.length : Int) (wrap64 (x7_1 + 1)))) else (none)) else (none)) else (codec_verdicts.l0 k1 l0 l0 (l0.length : Int) (wrap64 (x7_1 + 1)))) else (some false)) = some r := H
       have A7 := Aside0.mk A70
       clear A70
       by_cases c8 : t380 = true
       ·subst c8
        have H1 : (if x7_1 > 0 then (if 0 ≤ (wrap64 (x7_1 - 1)) then (if (wrap64 (x7_1 - 1)) < (l0.length : Int) then (if ((rd_T97 l0 x7_1).f0) ≤ ((rd_T97 l0 (wrap64 (x7_1 - 1))).f0) then (some false) else (codec_verdicts.l0 k1 l0 l0 (l0.length : Int) (wrap64 (x7_1 + 1)))) else (none)) else (none)) else (codec_verdicts.l0 k1 l0 l0 (l0.length : Int) (wrap64 (x7_1 + 1)))) = some r := by rw [if_pos rfl] at H; exact H
        clear H
        have H := H1
        clear H1
        by_cases c9 : x7_1 > 0
        ·rw [if_pos c9] at H
         have c9b0 : decide (0 < x7_1) = true := decide_eq_true c9
         clear c9
         obtain ⟨ji10, hji10⟩ : ∃ j_ : Int, (wrap64 (x7_1 - 1)) = j_ := ⟨_, rfl⟩
         replace H : (if 0 ≤ (ji10) then (if (ji10) < (l0.length : Int) then (if ((rd_T97 l0 x7_1).f0) ≤ ((rd_T97 l0 (ji10)).f0) then (some false) else (codec_verdicts.l0 k1 l0 l0 (l0.length : Int) (wrap64 (x7_1 + 1)))) else (none)) else (none)) = some r := by first | (rw [hji10] at H; exact H) | (simp only [hji10] at H ⊢; exact H)
         (try rw [hji10] at A5)
         (try rw [hji10] at A7)
         have hji10w : (IntKind.i64.wrap (x7_1 - 1)) = ji10 := (i64_w _).trans hji10
         by_cases c11 : 0 ≤ (ji10)
         ·rw [if_pos c11] at H
          have c11b0 : decide (0 ≤ (ji10)) = true := decide_eq_true c11
          clear c11
          by_cases c12 : (ji10) < (l0.length : Int)
          ·rw [if_pos c12] at H
           have c12b0 : decide ((ji10) < (l0.length : Int)) = true := decide_eq_true c12
           clear c12
           by_cases c13 : ((rd_T97 l0 x7_1).f0) ≤ ((rd_T97 l0 (ji10)).f0)
           ·rw [if_pos c13] at H
            have c13b0 : decide (((rd_T97 l0 x7_1).f0) ≤ ((rd_T97 l0 (ji10)).f0)) = true := decide_eq_true c13
            clear c13
            obtain rfl := Option.some.inj H
            have p377 : 0 ≤ (x7_1 : Int) := of_decide_eq_true (by first | (with_reducible assumption) | assumption)
            have q377 : x7_1 < (l0.length : Int) := of_decide_eq_true (by first | (with_reducible assumption) | assumption)
            obtain ⟨ad377, e377, hx377_0, hx377_1⟩ := at_T97 HR0.out x7_1 p377 q377
            cases e377
            replace hx377_0 := (HB.out.cell (World.block_lt_of_cell? w _ hx377_0)).trans hx377_0
            replace hx377_1 := (HB.out.cell (World.block_lt_of_cell? w _ hx377_1)).trans hx377_1
            replace p377 := eq_true p377
            replace q377 := eq_true q377
            go_wp2_with (first | ((with_reducible refine gate_dst (N := 4) rfl ?_); refine box_event ?hg (N := 4) ?hd (cs := #[.int .i64 0, .int .i64 0]) (t := 97) ?hr ?_; (case hd => rfl); (case hg => rfl); (case hr => first | (go_simp; done) | (go_simp; rfl)); intro gb378 hg w14 hbox hb; have n0_ := Aside0.mk (below_step (by repeat (first | (with_reducible first | exact HB.out | apply below_alloc | apply pw_below_drewN | apply below_drew1) | exact HB.out)) hb); have n1_ := Aside0.mk (hbox); have n2_ := Aside0.mk ((by rw [hg]; exact (below_size (by repeat (first | (with_reducible first | exact HB.out | apply below_alloc | apply pw_below_drewN | apply below_drew1) | exact HB.out))) : w.heap.size ≤ gb378)); have n3_ := Aside0.mk ((by rw [hg]; exact (below_size (by repeat (first | (with_reducible first | exact HB.out | apply below_alloc | apply pw_below_drewN | apply below_drew1) | exact HB.out))) : w.heap.size ≤ gb378)); clear HB; have HB := n0_; have BK378 := n1_; have GW378 := n2_; have GE378 := n3_; clear n0_ n1_ n2_ n3_; clear hb hbox hg; have hcz15_0 : w14.cell? ⟨gb378, 0, none⟩ = some (.int .i64 0) := (blk_cell BK378.out 0).trans rfl; have hcz15_1 : w14.cell? ⟨gb378, 1, none⟩ = some (.int .i64 0) := (blk_cell BK378.out 1).trans rfl; have hfz15_0 := blk_frozen BK378.out 0; have hfz15_1 := blk_frozen BK378.out 1) | (go_at_call 90; (with_reducible refine (codec_within.calls ((rd_T97 l0 x7_1).f0) 1 1099511627776 true _ A5.out).mono ?_); rintro e w' ⟨rfl, ⟨nd, rfl⟩⟩; (try first | exact ⟨rfl, _, World.drewN_drewN _ _ _⟩ | exact ⟨rfl, _, Eq.trans (World.drewN_drewN _ _ _) (congrArg (World.drewN _) (Nat.add_assoc _ _ _))⟩)) | (go_at_call 90; (with_reducible refine (codec_within.calls ((rd_T97 l0 x7_1).f1) 0 63 true _ A7.out).mono ?_); rintro e w' ⟨rfl, ⟨nd, rfl⟩⟩; (try first | exact ⟨rfl, _, World.drewN_drewN _ _ _⟩ | exact ⟨rfl, _, Eq.trans (World.drewN_drewN _ _ _) (congrArg (World.drewN _) (Nat.add_assoc _ _ _))⟩); have p381 : 0 ≤ ((ji10) : Int) := of_decide_eq_true (by first | (with_reducible assumption) | assumption); have q381 : (ji10) < (l0.length : Int) := of_decide_eq_true (by first | (with_reducible assumption) | assumption); obtain ⟨ad381, e381, hx381_0, hx381_1⟩ := at_T97 HR0.out (ji10) p381 q381; obtain rfl : ad377 = ad381 := (by injection e381); have hn381_0 : ad377.block ≠ gb378 := Nat.ne_of_lt (Nat.lt_of_lt_of_le (by have := World.block_lt_of_cell? _ _ hx381_0; first | rwa [add_block] at this | exact this) GW378.out); have hn381_1 : ad377.block ≠ gb378 := Nat.ne_of_lt (Nat.lt_of_lt_of_le (by have := World.block_lt_of_cell? _ _ hx381_0; first | rwa [add_block] at this | exact this) GW378.out); replace hx381_0 := (HB.out.cell (World.block_lt_of_cell? w _ hx381_0)).trans hx381_0; replace hx381_1 := (HB.out.cell (World.block_lt_of_cell? w _ hx381_1)).trans hx381_1; replace hx381_0 := (cell_far (p := ⟨gb378, 0, none⟩) (by first | (rw [add_block]; exact hn381_0) | (show (Addr.add _ _).block ≠ _; rw [add_block]; exact hn381_0) | exact hn381_0) (.int .i64 ((rd_T97 l0 x7_1).f0))).trans hx381_0; replace hx381_1 := (cell_far (p := ⟨gb378, 0, none⟩) (by first | (rw [add_block]; exact hn381_0) | (show (Addr.add _ _).block ≠ _; rw [add_block]; exact hn381_0) | exact hn381_0) (.int .i64 ((rd_T97 l0 x7_1).f0))).trans hx381_1; replace hx381_0 := (cell_far (p := ⟨gb378, 1, none⟩) (by first | (rw [add_block]; exact hn381_1) | (show (Addr.add _ _).block ≠ _; rw [add_block]; exact hn381_1) | exact hn381_1) (.int .i64 ((rd_T97 l0 x7_1).f1))).trans hx381_0; replace hx381_1 := (cell_far (p := ⟨gb378, 1, none⟩) (by first | (rw [add_block]; exact hn381_1) | (show (Addr.add _ _).block ≠ _; rw [add_block]; exact hn381_1) | exact hn381_1) (.int .i64 ((rd_T97 l0 x7_1).f1))).trans hx381_1; (try have hy381_0 := fun (n_ : Nat) => (show ((((w14.drewN n_).setCell ⟨gb378, 0, none⟩ (.int .i64 ((rd_T97 l0 x7_1).f0))).setCell ⟨gb378, 1, none⟩ (.int .i64 ((rd_T97 l0 x7_1).f1)))).cell? _ = some _ from hx381_0)); (try have hy381_1 := fun (n_ : Nat) => (show ((((w14.drewN n_).setCell ⟨gb378, 0, none⟩ (.int .i64 ((rd_T97 l0 x7_1).f0))).setCell ⟨gb378, 1, none⟩ (.int .i64 ((rd_T97 l0 x7_1).f1)))).cell? _ = some _ from hx381_1)); clear hn381_0; clear hn381_1; replace p381 := eq_true p381; replace q381 := eq_true q381))
            repeat (go_quiet (first | ((with_reducible refine gate_dst (N := 4) rfl ?_); refine box_event ?hg (N := 4) ?hd (cs := #[.int .i64 0, .int .i64 0]) (t := 97) ?hr ?_; (case hd => rfl); (case hg => rfl); (case hr => first | (go_simp; done) | (go_simp; rfl)); intro gb378 hg w14 hbox hb; have n0_ := Aside0.mk (below_step (by repeat (first | (with_reducible first | exact HB.out | apply below_alloc | apply pw_below_drewN | apply below_drew1) | exact HB.out)) hb); have n1_ := Aside0.mk (hbox); have n2_ := Aside0.mk ((by rw [hg]; exact (below_size (by repeat (first | (with_reducible first | exact HB.out | apply below_alloc | apply pw_below_drewN | apply below_drew1) | exact HB.out))) : w.heap.size ≤ gb378)); have n3_ := Aside0.mk ((by rw [hg]; exact (below_size (by repeat (first | (with_reducible first | exact HB.out | apply below_alloc | apply pw_below_drewN | apply below_drew1) | exact HB.out))) : w.heap.size ≤ gb378)); clear HB; have HB := n0_; have BK378 := n1_; have GW378 := n2_; have GE378 := n3_; clear n0_ n1_ n2_ n3_; clear hb hbox hg; have hcz15_0 : w14.cell? ⟨gb378, 0, none⟩ = some (.int .i64 0) := (blk_cell BK378.out 0).trans rfl; have hcz15_1 : w14.cell? ⟨gb378, 1, none⟩ = some (.int .i64 0) := (blk_cell BK378.out 1).trans rfl; have hfz15_0 := blk_frozen BK378.out 0; have hfz15_1 := blk_frozen BK378.out 1) | (go_at_call 90; (with_reducible refine (codec_within.calls ((rd_T97 l0 x7_1).f0) 1 1099511627776 true _ A5.out).mono ?_); rintro e w' ⟨rfl, ⟨nd, rfl⟩⟩; (try first | exact ⟨rfl, _, World.drewN_drewN _ _ _⟩ | exact ⟨rfl, _, Eq.trans (World.drewN_drewN _ _ _) (congrArg (World.drewN _) (Nat.add_assoc _ _ _))⟩)) | (go_at_call 90; (with_reducible refine (codec_within.calls ((rd_T97 l0 x7_1).f1) 0 63 true _ A7.out).mono ?_); rintro e w' ⟨rfl, ⟨nd, rfl⟩⟩; (try first | exact ⟨rfl, _, World.drewN_drewN _ _ _⟩ | exact ⟨rfl, _, Eq.trans (World.drewN_drewN _ _ _) (congrArg (World.drewN _) (Nat.add_assoc _ _ _))⟩); have p381 : 0 ≤ ((ji10) : Int) := of_decide_eq_true (by first | (with_reducible assumption) | assumption); have q381 : (ji10) < (l0.length : Int) := of_decide_eq_true (by first | (with_reducible assumption) | assumption); obtain ⟨ad381, e381, hx381_0, hx381_1⟩ := at_T97 HR0.out (ji10) p381 q381; obtain rfl : ad377 = ad381 := (by injection e381); have hn381_0 : ad377.block ≠ gb378 := Nat.ne_of_lt (Nat.lt_of_lt_of_le (by have := World.block_lt_of_cell? _ _ hx381_0; first | rwa [add_block] at this | exact this) GW378.out); have hn381_1 : ad377.block ≠ gb378 := Nat.ne_of_lt (Nat.lt_of_lt_of_le (by have := World.block_lt_of_cell? _ _ hx381_0; first | rwa [add_block] at this | exact this) GW378.out); replace hx381_0 := (HB.out.cell (World.block_lt_of_cell? w _ hx381_0)).trans hx381_0; replace hx381_1 := (HB.out.cell (World.block_lt_of_cell? w _ hx381_1)).trans hx381_1; replace hx381_0 := (cell_far (p := ⟨gb378, 0, none⟩) (by first | (rw [add_block]; exact hn381_0) | (show (Addr.add _ _).block ≠ _; rw [add_block]; exact hn381_0) | exact hn381_0) (.int .i64 ((rd_T97 l0 x7_1).f0))).trans hx381_0; replace hx381_1 := (cell_far (p := ⟨gb378, 0, none⟩) (by first | (rw [add_block]; exact hn381_0) | (show (Addr.add _ _).block ≠ _; rw [add_block]; exact hn381_0) | exact hn381_0) (.int .i64 ((rd_T97 l0 x7_1).f0))).trans hx381_1; replace hx381_0 := (cell_far (p := ⟨gb378, 1, none⟩) (by first | (rw [add_block]; exact hn381_1) | (show (Addr.add _ _).block ≠ _; rw [add_block]; exact hn381_1) | exact hn381_1) (.int .i64 ((rd_T97 l0 x7_1).f1))).trans hx381_0; replace hx381_1 := (cell_far (p := ⟨gb378, 1, none⟩) (by first | (rw [add_block]; exact hn381_1) | (show (Addr.add _ _).block ≠ _; rw [add_block]; exact hn381_1) | exact hn381_1) (.int .i64 ((rd_T97 l0 x7_1).f1))).trans hx381_1; (try have hy381_0 := fun (n_ : Nat) => (show ((((w14.drewN n_).setCell ⟨gb378, 0, none⟩ (.int .i64 ((rd_T97 l0 x7_1).f0))).setCell ⟨gb378, 1, none⟩ (.int .i64 ((rd_T97 l0 x7_1).f1)))).cell? _ = some _ from hx381_0)); (try have hy381_1 := fun (n_ : Nat) => (show ((((w14.drewN n_).setCell ⟨gb378, 0, none⟩ (.int .i64 ((rd_T97 l0 x7_1).f0))).setCell ⟨gb378, 1, none⟩ (.int .i64 ((rd_T97 l0 x7_1).f1)))).cell? _ = some _ from hx381_1)); clear hn381_0; clear hn381_1; replace p381 := eq_true p381; replace q381 := eq_true q381)); try go_wp2_with (first | ((with_reducible refine gate_dst (N := 4) rfl ?_); refine box_event ?hg (N := 4) ?hd (cs := #[.int .i64 0, .int .i64 0]) (t := 97) ?hr ?_; (case hd => rfl); (case hg => rfl); (case hr => first | (go_simp; done) | (go_simp; rfl)); intro gb378 hg w14 hbox hb; have n0_ := Aside0.mk (below_step (by repeat (first | (with_reducible first | exact HB.out | apply below_alloc | apply pw_below_drewN | apply below_drew1) | exact HB.out)) hb); have n1_ := Aside0.mk (hbox); have n2_ := Aside0.mk ((by rw [hg]; exact (below_size (by repeat (first | (with_reducible first | exact HB.out | apply below_alloc | apply pw_below_drewN | apply below_drew1) | exact HB.out))) : w.heap.size ≤ gb378)); have n3_ := Aside0.mk ((by rw [hg]; exact (below_size (by repeat (first | (with_reducible first | exact HB.out | apply below_alloc | apply pw_below_drewN | apply below_drew1) | exact HB.out))) : w.heap.size ≤ gb378)); clear HB; have HB := n0_; have BK378 := n1_; have GW378 := n2_; have GE378 := n3_; clear n0_ n1_ n2_ n3_; clear hb hbox hg; have hcz15_0 : w14.cell? ⟨gb378, 0, none⟩ = some (.int .i64 0) := (blk_cell BK378.out 0).trans rfl; have hcz15_1 : w14.cell? ⟨gb378, 1, none⟩ = some (.int .i64 0) := (blk_cell BK378.out 1).trans rfl; have hfz15_0 := blk_frozen BK378.out 0; have hfz15_1 := blk_frozen BK378.out 1) | (go_at_call 90; (with_reducible refine (codec_within.calls ((rd_T97 l0 x7_1).f0) 1 1099511627776 true _ A5.out).mono ?_); rintro e w' ⟨rfl, ⟨nd, rfl⟩⟩; (try first | exact ⟨rfl, _, World.drewN_drewN _ _ _⟩ | exact ⟨rfl, _, Eq.trans (World.drewN_drewN _ _ _) (congrArg (World.drewN _) (Nat.add_assoc _ _ _))⟩)) | (go_at_call 90; (with_reducible refine (codec_within.calls ((rd_T97 l0 x7_1).f1) 0 63 true _ A7.out).mono ?_); rintro e w' ⟨rfl, ⟨nd, rfl⟩⟩; (try first | exact ⟨rfl, _, World.drewN_drewN _ _ _⟩ | exact ⟨rfl, _, Eq.trans (World.drewN_drewN _ _ _) (congrArg (World.drewN _) (Nat.add_assoc _ _ _))⟩); have p381 : 0 ≤ ((ji10) : Int) := of_decide_eq_true (by first | (with_reducible assumption) | assumption); have q381 : (ji10) < (l0.length : Int) := of_decide_eq_true (by first | (with_reducible assumption) | assumption); obtain ⟨ad381, e381, hx381_0, hx381_1⟩ := at_T97 HR0.out (ji10) p381 q381; obtain rfl : ad377 = ad381 := (by injection e381); have hn381_0 : ad377.block ≠ gb378 := Nat.ne_of_lt (Nat.lt_of_lt_of_le (by have := World.block_lt_of_cell? _ _ hx381_0; first | rwa [add_block] at this | exact this) GW378.out); have hn381_1 : ad377.block ≠ gb378 := Nat.ne_of_lt (Nat.lt_of_lt_of_le (by have := World.block_lt_of_cell? _ _ hx381_0; first | rwa [add_block] at this | exact this) GW378.out); replace hx381_0 := (HB.out.cell (World.block_lt_of_cell? w _ hx381_0)).trans hx381_0; replace hx381_1 := (HB.out.cell (World.block_lt_of_cell? w _ hx381_1)).trans hx381_1; replace hx381_0 := (cell_far (p := ⟨gb378, 0, none⟩) (by first | (rw [add_block]; exact hn381_0) | (show (Addr.add _ _).block ≠ _; rw [add_block]; exact hn381_0) | exact hn381_0) (.int .i64 ((rd_T97 l0 x7_1).f0))).trans hx381_0; replace hx381_1 := (cell_far (p := ⟨gb378, 0, none⟩) (by first | (rw [add_block]; exact hn381_0) | (show (Addr.add _ _).block ≠ _; rw [add_block]; exact hn381_0) | exact hn381_0) (.int .i64 ((rd_T97 l0 x7_1).f0))).trans hx381_1; replace hx381_0 := (cell_far (p := ⟨gb378, 1, none⟩) (by first | (rw [add_block]; exact hn381_1) | (show (Addr.add _ _).block ≠ _; rw [add_block]; exact hn381_1) | exact hn381_1) (.int .i64 ((rd_T97 l0 x7_1).f1))).trans hx381_0; replace hx381_1 := (cell_far (p := ⟨gb378, 1, none⟩) (by first | (rw [add_block]; exact hn381_1) | (show (Addr.add _ _).block ≠ _; rw [add_block]; exact hn381_1) | exact hn381_1) (.int .i64 ((rd_T97 l0 x7_1).f1))).trans hx381_1; (try have hy381_0 := fun (n_ : Nat) => (show ((((w14.drewN n_).setCell ⟨gb378, 0, none⟩ (.int .i64 ((rd_T97 l0 x7_1).f0))).setCell ⟨gb378, 1, none⟩ (.int .i64 ((rd_T97 l0 x7_1).f1)))).cell? _ = some _ from hx381_0)); (try have hy381_1 := fun (n_ : Nat) => (show ((((w14.drewN n_).setCell ⟨gb378, 0, none⟩ (.int .i64 ((rd_T97 l0 x7_1).f0))).setCell ⟨gb378, 1, none⟩ (.int .i64 ((rd_T97 l0 x7_1).f1)))).cell? _ = some _ from hx381_1)); clear hn381_0; clear hn381_1; replace p381 := eq_true p381; replace q381 := eq_true q381)))
            go_ret
            exact ⟨by first | rfl | (simp [errW_none, errW_some] <;> rfl) | (simp only [← hji10]; first | rfl | (simp [errW_none, errW_some] <;> rfl)) | (simp [*, errW_none, errW_some] <;> rfl), by repeat (first | (with_reducible first | exact HB.out | apply below_alloc | apply pw_below_drewN | apply below_drew1 | refine below_set ?_ GE378.out) | exact HB.out)⟩
           ·rw [if_neg c13] at H
            have c13b0 : decide (((rd_T97 l0 x7_1).f0) ≤ ((rd_T97 l0 (ji10)).f0)) = false := decide_eq_false c13
            clear c13
            have H' := Aside0.mk H
            clear H
            have p377 : 0 ≤ (x7_1 : Int) := of_decide_eq_true (by first | (with_reducible assumption) | assumption)
            have q377 : x7_1 < (l0.length : Int) := of_decide_eq_true (by first | (with_reducible assumption) | assumption)
            obtain ⟨ad377, e377, hx377_0, hx377_1⟩ := at_T97 HR0.out x7_1 p377 q377
            cases e377
            replace hx377_0 := (HB.out.cell (World.block_lt_of_cell? w _ hx377_0)).trans hx377_0
            replace hx377_1 := (HB.out.cell (World.block_lt_of_cell? w _ hx377_1)).trans hx377_1
            replace p377 := eq_true p377
            replace q377 := eq_true q377
            go_wp2_with (first | ((with_reducible refine gate_dst (N := 4) rfl ?_); refine box_event ?hg (N := 4) ?hd (cs := #[.int .i64 0, .int .i64 0]) (t := 97) ?hr ?_; (case hd => rfl); (case hg => rfl); (case hr => first | (go_simp; done) | (go_simp; rfl)); intro gb378 hg w16 hbox hb; have n0_ := Aside0.mk (below_step (by repeat (first | (with_reducible first | exact HB.out | apply below_alloc | apply pw_below_drewN | apply below_drew1) | exact HB.out)) hb); have n1_ := Aside0.mk (hbox); have n2_ := Aside0.mk ((by rw [hg]; exact (below_size (by repeat (first | (with_reducible first | exact HB.out | apply below_alloc | apply pw_below_drewN | apply below_drew1) | exact HB.out))) : w.heap.size ≤ gb378)); have n3_ := Aside0.mk ((by rw [hg]; exact (below_size (by repeat (first | (with_reducible first | exact HB.out | apply below_alloc | apply pw_below_drewN | apply below_drew1) | exact HB.out))) : w.heap.size ≤ gb378)); clear HB; have HB := n0_; have BK378 := n1_; have GW378 := n2_; have GE378 := n3_; clear n0_ n1_ n2_ n3_; clear hb hbox hg; have hcz17_0 : w16.cell? ⟨gb378, 0, none⟩ = some (.int .i64 0) := (blk_cell BK378.out 0).trans rfl; have hcz17_1 : w16.cell? ⟨gb378, 1, none⟩ = some (.int .i64 0) := (blk_cell BK378.out 1).trans rfl; have hfz17_0 := blk_frozen BK378.out 0; have hfz17_1 := blk_frozen BK378.out 1) | (go_at_call 90; (with_reducible refine (codec_within.calls ((rd_T97 l0 x7_1).f0) 1 1099511627776 true _ A5.out).mono ?_); rintro e w' ⟨rfl, ⟨nd, rfl⟩⟩; (try first | exact ⟨rfl, _, World.drewN_drewN _ _ _⟩ | exact ⟨rfl, _, Eq.trans (World.drewN_drewN _ _ _) (congrArg (World.drewN _) (Nat.add_assoc _ _ _))⟩)) | (go_at_call 90; (with_reducible refine (codec_within.calls ((rd_T97 l0 x7_1).f1) 0 63 true _ A7.out).mono ?_); rintro e w' ⟨rfl, ⟨nd, rfl⟩⟩; (try first | exact ⟨rfl, _, World.drewN_drewN _ _ _⟩ | exact ⟨rfl, _, Eq.trans (World.drewN_drewN _ _ _) (congrArg (World.drewN _) (Nat.add_assoc _ _ _))⟩); have p381 : 0 ≤ ((ji10) : Int) := of_decide_eq_true (by first | (with_reducible assumption) | assumption); have q381 : (ji10) < (l0.length : Int) := of_decide_eq_true (by first | (with_reducible assumption) | assumption); obtain ⟨ad381, e381, hx381_0, hx381_1⟩ := at_T97 HR0.out (ji10) p381 q381; obtain rfl : ad377 = ad381 := (by injection e381); have hn381_0 : ad377.block ≠ gb378 := Nat.ne_of_lt (Nat.lt_of_lt_of_le (by have := World.block_lt_of_cell? _ _ hx381_0; first | rwa [add_block] at this | exact this) GW378.out); have hn381_1 : ad377.block ≠ gb378 := Nat.ne_of_lt (Nat.lt_of_lt_of_le (by have := World.block_lt_of_cell? _ _ hx381_0; first | rwa [add_block] at this | exact this) GW378.out); replace hx381_0 := (HB.out.cell (World.block_lt_of_cell? w _ hx381_0)).trans hx381_0; replace hx381_1 := (HB.out.cell (World.block_lt_of_cell? w _ hx381_1)).trans hx381_1; replace hx381_0 := (cell_far (p := ⟨gb378, 0, none⟩) (by first | (rw [add_block]; exact hn381_0) | (show (Addr.add _ _).block ≠ _; rw [add_block]; exact hn381_0) | exact hn381_0) (.int .i64 ((rd_T97 l0 x7_1).f0))).trans hx381_0; replace hx381_1 := (cell_far (p := ⟨gb378, 0, none⟩) (by first | (rw [add_block]; exact hn381_0) | (show (Addr.add _ _).block ≠ _; rw [add_block]; exact hn381_0) | exact hn381_0) (.int .i64 ((rd_T97 l0 x7_1).f0))).trans hx381_1; replace hx381_0 := (cell_far (p := ⟨gb378, 1, none⟩) (by first | (rw [add_block]; exact hn381_1) | (show (Addr.add _ _).block ≠ _; rw [add_block]; exact hn381_1) | exact hn381_1) (.int .i64 ((rd_T97 l0 x7_1).f1))).trans hx381_0; replace hx381_1 := (cell_far (p := ⟨gb378, 1, none⟩) (by first | (rw [add_block]; exact hn381_1) | (show (Addr.add _ _).block ≠ _; rw [add_block]; exact hn381_1) | exact hn381_1) (.int .i64 ((rd_T97 l0 x7_1).f1))).trans hx381_1; (try have hy381_0 := fun (n_ : Nat) => (show ((((w16.drewN n_).setCell ⟨gb378, 0, none⟩ (.int .i64 ((rd_T97 l0 x7_1).f0))).setCell ⟨gb378, 1, none⟩ (.int .i64 ((rd_T97 l0 x7_1).f1)))).cell? _ = some _ from hx381_0)); (try have hy381_1 := fun (n_ : Nat) => (show ((((w16.drewN n_).setCell ⟨gb378, 0, none⟩ (.int .i64 ((rd_T97 l0 x7_1).f0))).setCell ⟨gb378, 1, none⟩ (.int .i64 ((rd_T97 l0 x7_1).f1)))).cell? _ = some _ from hx381_1)); clear hn381_0; clear hn381_1; replace p381 := eq_true p381; replace q381 := eq_true q381))
            repeat (go_quiet (first | ((with_reducible refine gate_dst (N := 4) rfl ?_); refine box_event ?hg (N := 4) ?hd (cs := #[.int .i64 0, .int .i64 0]) (t := 97) ?hr ?_; (case hd => rfl); (case hg => rfl); (case hr => first | (go_simp; done) | (go_simp; rfl)); intro gb378 hg w16 hbox hb; have n0_ := Aside0.mk (below_step (by repeat (first | (with_reducible first | exact HB.out | apply below_alloc | apply pw_below_drewN | apply below_drew1) | exact HB.out)) hb); have n1_ := Aside0.mk (hbox); have n2_ := Aside0.mk ((by rw [hg]; exact (below_size (by repeat (first | (with_reducible first | exact HB.out | apply below_alloc | apply pw_below_drewN | apply below_drew1) | exact HB.out))) : w.heap.size ≤ gb378)); have n3_ := Aside0.mk ((by rw [hg]; exact (below_size (by repeat (first | (with_reducible first | exact HB.out | apply below_alloc | apply pw_below_drewN | apply below_drew1) | exact HB.out))) : w.heap.size ≤ gb378)); clear HB; have HB := n0_; have BK378 := n1_; have GW378 := n2_; have GE378 := n3_; clear n0_ n1_ n2_ n3_; clear hb hbox hg; have hcz17_0 : w16.cell? ⟨gb378, 0, none⟩ = some (.int .i64 0) := (blk_cell BK378.out 0).trans rfl; have hcz17_1 : w16.cell? ⟨gb378, 1, none⟩ = some (.int .i64 0) := (blk_cell BK378.out 1).trans rfl; have hfz17_0 := blk_frozen BK378.out 0; have hfz17_1 := blk_frozen BK378.out 1) | (go_at_call 90; (with_reducible refine (codec_within.calls ((rd_T97 l0 x7_1).f0) 1 1099511627776 true _ A5.out).mono ?_); rintro e w' ⟨rfl, ⟨nd, rfl⟩⟩; (try first | exact ⟨rfl, _, World.drewN_drewN _ _ _⟩ | exact ⟨rfl, _, Eq.trans (World.drewN_drewN _ _ _) (congrArg (World.drewN _) (Nat.add_assoc _ _ _))⟩)) | (go_at_call 90; (with_reducible refine (codec_within.calls ((rd_T97 l0 x7_1).f1) 0 63 true _ A7.out).mono ?_); rintro e w' ⟨rfl, ⟨nd, rfl⟩⟩; (try first | exact ⟨rfl, _, World.drewN_drewN _ _ _⟩ | exact ⟨rfl, _, Eq.trans (World.drewN_drewN _ _ _) (congrArg (World.drewN _) (Nat.add_assoc _ _ _))⟩); have p381 : 0 ≤ ((ji10) : Int) := of_decide_eq_true (by first | (with_reducible assumption) | assumption); have q381 : (ji10) < (l0.length : Int) := of_decide_eq_true (by first | (with_reducible assumption) | assumption); obtain ⟨ad381, e381, hx381_0, hx381_1⟩ := at_T97 HR0.out (ji10) p381 q381; obtain rfl : ad377 = ad381 := (by injection e381); have hn381_0 : ad377.block ≠ gb378 := Nat.ne_of_lt (Nat.lt_of_lt_of_le (by have := World.block_lt_of_cell? _ _ hx381_0; first | rwa [add_block] at this | exact this) GW378.out); have hn381_1 : ad377.block ≠ gb378 := Nat.ne_of_lt (Nat.lt_of_lt_of_le (by have := World.block_lt_of_cell? _ _ hx381_0; first | rwa [add_block] at this | exact this) GW378.out); replace hx381_0 := (HB.out.cell (World.block_lt_of_cell? w _ hx381_0)).trans hx381_0; replace hx381_1 := (HB.out.cell (World.block_lt_of_cell? w _ hx381_1)).trans hx381_1; replace hx381_0 := (cell_far (p := ⟨gb378, 0, none⟩) (by first | (rw [add_block]; exact hn381_0) | (show (Addr.add _ _).block ≠ _; rw [add_block]; exact hn381_0) | exact hn381_0) (.int .i64 ((rd_T97 l0 x7_1).f0))).trans hx381_0; replace hx381_1 := (cell_far (p := ⟨gb378, 0, none⟩) (by first | (rw [add_block]; exact hn381_0) | (show (Addr.add _ _).block ≠ _; rw [add_block]; exact hn381_0) | exact hn381_0) (.int .i64 ((rd_T97 l0 x7_1).f0))).trans hx381_1; replace hx381_0 := (cell_far (p := ⟨gb378, 1, none⟩) (by first | (rw [add_block]; exact hn381_1) | (show (Addr.add _ _).block ≠ _; rw [add_block]; exact hn381_1) | exact hn381_1) (.int .i64 ((rd_T97 l0 x7_1).f1))).trans hx381_0; replace hx381_1 := (cell_far (p := ⟨gb378, 1, none⟩) (by first | (rw [add_block]; exact hn381_1) | (show (Addr.add _ _).block ≠ _; rw [add_block]; exact hn381_1) | exact hn381_1) (.int .i64 ((rd_T97 l0 x7_1).f1))).trans hx381_1; (try have hy381_0 := fun (n_ : Nat) => (show ((((w16.drewN n_).setCell ⟨gb378, 0, none⟩ (.int .i64 ((rd_T97 l0 x7_1).f0))).setCell ⟨gb378, 1, none⟩ (.int .i64 ((rd_T97 l0 x7_1).f1)))).cell? _ = some _ from hx381_0)); (try have hy381_1 := fun (n_ : Nat) => (show ((((w16.drewN n_).setCell ⟨gb378, 0, none⟩ (.int .i64 ((rd_T97 l0 x7_1).f0))).setCell ⟨gb378, 1, none⟩ (.int .i64 ((rd_T97 l0 x7_1).f1)))).cell? _ = some _ from hx381_1)); clear hn381_0; clear hn381_1; replace p381 := eq_true p381; replace q381 := eq_true q381)); try go_wp2_with (first | ((with_reducible refine gate_dst (N := 4) rfl ?_); refine box_event ?hg (N := 4) ?hd (cs := #[.int .i64 0, .int .i64 0]) (t := 97) ?hr ?_; (case hd => rfl); (case hg => rfl); (case hr => first | (go_simp; done) | (go_simp; rfl)); intro gb378 hg w16 hbox hb; have n0_ := Aside0.mk (below_step (by repeat (first | (with_reducible first | exact HB.out | apply below_alloc | apply pw_below_drewN | apply below_drew1) | exact HB.out)) hb); have n1_ := Aside0.mk (hbox); have n2_ := Aside0.mk ((by rw [hg]; exact (below_size (by repeat (first | (with_reducible first | exact HB.out | apply below_alloc | apply pw_below_drewN | apply below_drew1) | exact HB.out))) : w.heap.size ≤ gb378)); have n3_ := Aside0.mk ((by rw [hg]; exact (below_size (by repeat (first | (with_reducible first | exact HB.out | apply below_alloc | apply pw_below_drewN | apply below_drew1) | exact HB.out))) : w.heap.size ≤ gb378)); clear HB; have HB := n0_; have BK378 := n1_; have GW378 := n2_; have GE378 := n3_; clear n0_ n1_ n2_ n3_; clear hb hbox hg; have hcz17_0 : w16.cell? ⟨gb378, 0, none⟩ = some (.int .i64 0) := (blk_cell BK378.out 0).trans rfl; have hcz17_1 : w16.cell? ⟨gb378, 1, none⟩ = some (.int .i64 0) := (blk_cell BK378.out 1).trans rfl; have hfz17_0 := blk_frozen BK378.out 0; have hfz17_1 := blk_frozen BK378.out 1) | (go_at_call 90; (with_reducible refine (codec_within.calls ((rd_T97 l0 x7_1).f0) 1 1099511627776 true _ A5.out).mono ?_); rintro e w' ⟨rfl, ⟨nd, rfl⟩⟩; (try first | exact ⟨rfl, _, World.drewN_drewN _ _ _⟩ | exact ⟨rfl, _, Eq.trans (World.drewN_drewN _ _ _) (congrArg (World.drewN _) (Nat.add_assoc _ _ _))⟩)) | (go_at_call 90; (with_reducible refine (codec_within.calls ((rd_T97 l0 x7_1).f1) 0 63 true _ A7.out).mono ?_); rintro e w' ⟨rfl, ⟨nd, rfl⟩⟩; (try first | exact ⟨rfl, _, World.drewN_drewN _ _ _⟩ | exact ⟨rfl, _, Eq.trans (World.drewN_drewN _ _ _) (congrArg (World.drewN _) (Nat.add_assoc _ _ _))⟩); have p381 : 0 ≤ ((ji10) : Int) := of_decide_eq_true (by first | (with_reducible assumption) | assumption); have q381 : (ji10) < (l0.length : Int) := of_decide_eq_true (by first | (with_reducible assumption) | assumption); obtain ⟨ad381, e381, hx381_0, hx381_1⟩ := at_T97 HR0.out (ji10) p381 q381; obtain rfl : ad377 = ad381 := (by injection e381); have hn381_0 : ad377.block ≠ gb378 := Nat.ne_of_lt (Nat.lt_of_lt_of_le (by have := World.block_lt_of_cell? _ _ hx381_0; first | rwa [add_block] at this | exact this) GW378.out); have hn381_1 : ad377.block ≠ gb378 := Nat.ne_of_lt (Nat.lt_of_lt_of_le (by have := World.block_lt_of_cell? _ _ hx381_0; first | rwa [add_block] at this | exact this) GW378.out); replace hx381_0 := (HB.out.cell (World.block_lt_of_cell? w _ hx381_0)).trans hx381_0; replace hx381_1 := (HB.out.cell (World.block_lt_of_cell? w _ hx381_1)).trans hx381_1; replace hx381_0 := (cell_far (p := ⟨gb378, 0, none⟩) (by first | (rw [add_block]; exact hn381_0) | (show (Addr.add _ _).block ≠ _; rw [add_block]; exact hn381_0) | exact hn381_0) (.int .i64 ((rd_T97 l0 x7_1).f0))).trans hx381_0; replace hx381_1 := (cell_far (p := ⟨gb378, 0, none⟩) (by first | (rw [add_block]; exact hn381_0) | (show (Addr.add _ _).block ≠ _; rw [add_block]; exact hn381_0) | exact hn381_0) (.int .i64 ((rd_T97 l0 x7_1).f0))).trans hx381_1; replace hx381_0 := (cell_far (p := ⟨gb378, 1, none⟩) (by first | (rw [add_block]; exact hn381_1) | (show (Addr.add _ _).block ≠ _; rw [add_block]; exact hn381_1) | exact hn381_1) (.int .i64 ((rd_T97 l0 x7_1).f1))).trans hx381_0; replace hx381_1 := (cell_far (p := ⟨gb378, 1, none⟩) (by first | (rw [add_block]; exact hn381_1) | (show (Addr.add _ _).block ≠ _; rw [add_block]; exact hn381_1) | exact hn381_1) (.int .i64 ((rd_T97 l0 x7_1).f1))).trans hx381_1; (try have hy381_0 := fun (n_ : Nat) => (show ((((w16.drewN n_).setCell ⟨gb378, 0, none⟩ (.int .i64 ((rd_T97 l0 x7_1).f0))).setCell ⟨gb378, 1, none⟩ (.int .i64 ((rd_T97 l0 x7_1).f1)))).cell? _ = some _ from hx381_0)); (try have hy381_1 := fun (n_ : Nat) => (show ((((w16.drewN n_).setCell ⟨gb378, 0, none⟩ (.int .i64 ((rd_T97 l0 x7_1).f0))).setCell ⟨gb378, 1, none⟩ (.int .i64 ((rd_T97 l0 x7_1).f1)))).cell? _ = some _ from hx381_1)); clear hn381_0; clear hn381_1; replace p381 := eq_true p381; replace q381 := eq_true q381)))
            go_roundg k1
            case measure => have := HK1.out; omega
            case rel => exact ⟨(wrap64 (x7_1 + 1)), (by first | rfl | (simp; done) | (simp [*]; done)), H', ⟨by have := HK1.out; omega⟩, ⟨by repeat (first | (with_reducible first | exact HB.out | apply below_alloc | apply pw_below_drewN | apply below_drew1 | refine below_set ?_ GE378.out) | exact HB.out)⟩⟩
          ·rw [if_neg c12] at H
           exact absurd H (by simp)
         ·rw [if_neg c11] at H
          exact absurd H (by simp)
        ·rw [if_neg c9] at H
         have c9b0 : decide (0 < x7_1) = false := decide_eq_false c9
         clear c9
         have H' := Aside0.mk H
         clear H
         have p377 : 0 ≤ (x7_1 : Int) := of_decide_eq_true (by first | (with_reducible assumption) | assumption)
         have q377 : x7_1 < (l0.length : Int) := of_decide_eq_true (by first | (with_reducible assumption) | assumption)
         obtain ⟨ad377, e377, hx377_0, hx377_1⟩ := at_T97 HR0.out x7_1 p377 q377
         cases e377
         replace hx377_0 := (HB.out.cell (World.block_lt_of_cell? w _ hx377_0)).trans hx377_0
         replace hx377_1 := (HB.out.cell (World.block_lt_of_cell? w _ hx377_1)).trans hx377_1
         replace p377 := eq_true p377
         replace q377 := eq_true q377
         go_wp2_with (first | ((with_reducible refine gate_dst (N := 4) rfl ?_); refine box_event ?hg (N := 4) ?hd (cs := #[.int .i64 0, .int .i64 0]) (t := 97) ?hr ?_; (case hd => rfl); (case hg => rfl); (case hr => first | (go_simp; done) | (go_simp; rfl)); intro gb378 hg w18 hbox hb; have n0_ := Aside0.mk (below_step (by repeat (first | (with_reducible first | exact HB.out | apply below_alloc | apply pw_below_drewN | apply below_drew1) | exact HB.out)) hb); have n1_ := Aside0.mk (hbox); have n2_ := Aside0.mk ((by rw [hg]; exact (below_size (by repeat (first | (with_reducible first | exact HB.out | apply below_alloc | apply pw_below_drewN | apply below_drew1) | exact HB.out))) : w.heap.size ≤ gb378)); have n3_ := Aside0.mk ((by rw [hg]; exact (below_size (by repeat (first | (with_reducible first | exact HB.out | apply below_alloc | apply pw_below_drewN | apply below_drew1) | exact HB.out))) : w.heap.size ≤ gb378)); clear HB; have HB := n0_; have BK378 := n1_; have GW378 := n2_; have GE378 := n3_; clear n0_ n1_ n2_ n3_; clear hb hbox hg; have hcz19_0 : w18.cell? ⟨gb378, 0, none⟩ = some (.int .i64 0) := (blk_cell BK378.out 0).trans rfl; have hcz19_1 : w18.cell? ⟨gb378, 1, none⟩ = some (.int .i64 0) := (blk_cell BK378.out 1).trans rfl; have hfz19_0 := blk_frozen BK378.out 0; have hfz19_1 := blk_frozen BK378.out 1) | (go_at_call 90; (with_reducible refine (codec_within.calls ((rd_T97 l0 x7_1).f0) 1 1099511627776 true _ A5.out).mono ?_); rintro e w' ⟨rfl, ⟨nd, rfl⟩⟩; (try first | exact ⟨rfl, _, World.drewN_drewN _ _ _⟩ | exact ⟨rfl, _, Eq.trans (World.drewN_drewN _ _ _) (congrArg (World.drewN _) (Nat.add_assoc _ _ _))⟩)) | (go_at_call 90; (with_reducible refine (codec_within.calls ((rd_T97 l0 x7_1).f1) 0 63 true _ A7.out).mono ?_); rintro e w' ⟨rfl, ⟨nd, rfl⟩⟩; (try first | exact ⟨rfl, _, World.drewN_drewN _ _ _⟩ | exact ⟨rfl, _, Eq.trans (World.drewN_drewN _ _ _) (congrArg (World.drewN _) (Nat.add_assoc _ _ _))⟩)))
         repeat (go_quiet (first | ((with_reducible refine gate_dst (N := 4) rfl ?_); refine box_event ?hg (N := 4) ?hd (cs := #[.int .i64 0, .int .i64 0]) (t := 97) ?hr ?_; (case hd => rfl); (case hg => rfl); (case hr => first | (go_simp; done) | (go_simp; rfl)); intro gb378 hg w18 hbox hb; have n0_ := Aside0.mk (below_step (by repeat (first | (with_reducible first | exact HB.out | apply below_alloc | apply pw_below_drewN | apply below_drew1) | exact HB.out)) hb); have n1_ := Aside0.mk (hbox); have n2_ := Aside0.mk ((by rw [hg]; exact (below_size (by repeat (first | (with_reducible first | exact HB.out | apply below_alloc | apply pw_below_drewN | apply below_drew1) | exact HB.out))) : w.heap.size ≤ gb378)); have n3_ := Aside0.mk ((by rw [hg]; exact (below_size (by repeat (first | (with_reducible first | exact HB.out | apply below_alloc | apply pw_below_drewN | apply below_drew1) | exact HB.out))) : w.heap.size ≤ gb378)); clear HB; have HB := n0_; have BK378 := n1_; have GW378 := n2_; have GE378 := n3_; clear n0_ n1_ n2_ n3_; clear hb hbox hg; have hcz19_0 : w18.cell? ⟨gb378, 0, none⟩ = some (.int .i64 0) := (blk_cell BK378.out 0).trans rfl; have hcz19_1 : w18.cell? ⟨gb378, 1, none⟩ = some (.int .i64 0) := (blk_cell BK378.out 1).trans rfl; have hfz19_0 := blk_frozen BK378.out 0; have hfz19_1 := blk_frozen BK378.out 1) | (go_at_call 90; (with_reducible refine (codec_within.calls ((rd_T97 l0 x7_1).f0) 1 1099511627776 true _ A5.out).mono ?_); rintro e w' ⟨rfl, ⟨nd, rfl⟩⟩; (try first | exact ⟨rfl, _, World.drewN_drewN _ _ _⟩ | exact ⟨rfl, _, Eq.trans (World.drewN_drewN _ _ _) (congrArg (World.drewN _) (Nat.add_assoc _ _ _))⟩)) | (go_at_call 90; (with_reducible refine (codec_within.calls ((rd_T97 l0 x7_1).f1) 0 63 true _ A7.out).mono ?_); rintro e w' ⟨rfl, ⟨nd, rfl⟩⟩; (try first | exact ⟨rfl, _, World.drewN_drewN _ _ _⟩ | exact ⟨rfl, _, Eq.trans (World.drewN_drewN _ _ _) (congrArg (World.drewN _) (Nat.add_assoc _ _ _))⟩))); try go_wp2_with (first | ((with_reducible refine gate_dst (N := 4) rfl ?_); refine box_event ?hg (N := 4) ?hd (cs := #[.int .i64 0, .int .i64 0]) (t := 97) ?hr ?_; (case hd => rfl); (case hg => rfl); (case hr => first | (go_simp; done) | (go_simp; rfl)); intro gb378 hg w18 hbox hb; have n0_ := Aside0.mk (below_step (by repeat (first | (with_reducible first | exact HB.out | apply below_alloc | apply pw_below_drewN | apply below_drew1) | exact HB.out)) hb); have n1_ := Aside0.mk (hbox); have n2_ := Aside0.mk ((by rw [hg]; exact (below_size (by repeat (first | (with_reducible first | exact HB.out | apply below_alloc | apply pw_below_drewN | apply below_drew1) | exact HB.out))) : w.heap.size ≤ gb378)); have n3_ := Aside0.mk ((by rw [hg]; exact (below_size (by repeat (first | (with_reducible first | exact HB.out | apply below_alloc | apply pw_below_drewN | apply below_drew1) | exact HB.out))) : w.heap.size ≤ gb378)); clear HB; have HB := n0_; have BK378 := n1_; have GW378 := n2_; have GE378 := n3_; clear n0_ n1_ n2_ n3_; clear hb hbox hg; have hcz19_0 : w18.cell? ⟨gb378, 0, none⟩ = some (.int .i64 0) := (blk_cell BK378.out 0).trans rfl; have hcz19_1 : w18.cell? ⟨gb378, 1, none⟩ = some (.int .i64 0) := (blk_cell BK378.out 1).trans rfl; have hfz19_0 := blk_frozen BK378.out 0; have hfz19_1 := blk_frozen BK378.out 1) | (go_at_call 90; (with_reducible refine (codec_within.calls ((rd_T97 l0 x7_1).f0) 1 1099511627776 true _ A5.out).mono ?_); rintro e w' ⟨rfl, ⟨nd, rfl⟩⟩; (try first | exact ⟨rfl, _, World.drewN_drewN _ _ _⟩ | exact ⟨rfl, _, Eq.trans (World.drewN_drewN _ _ _) (congrArg (World.drewN _) (Nat.add_assoc _ _ _))⟩)) | (go_at_call 90; (with_reducible refine (codec_within.calls ((rd_T97 l0 x7_1).f1) 0 63 true _ A7.out).mono ?_); rintro e w' ⟨rfl, ⟨nd, rfl⟩⟩; (try first | exact ⟨rfl, _, World.drewN_drewN _ _ _⟩ | exact ⟨rfl, _, Eq.trans (World.drewN_drewN _ _ _) (congrArg (World.drewN _) (Nat.add_assoc _ _ _))⟩))))
         go_roundg k1
         case measure => have := HK1.out; omega
         case rel => exact ⟨(wrap64 (x7_1 + 1)), (by first | rfl | (simp; done) | (simp [*]; done)), H', ⟨by have := HK1.out; omega⟩, ⟨by repeat (first | (with_reducible first | exact HB.out | apply below_alloc | apply pw_below_drewN | apply below_drew1 | refine below_set ?_ GE378.out) | exact HB.out)⟩⟩
       ·replace c8 := Bool.eq_false_iff.mpr c8
        subst c8
        have H1 : (some false) = some r := by rw [if_neg (show ¬ (false = true) by decide)] at H; exact H
        clear H
        have H := H1
        clear H1
        obtain rfl := Option.some.inj H
        have p377 : 0 ≤ (x7_1 : Int) := of_decide_eq_true (by first | (with_reducible assumption) | assumption)
        have q377 : x7_1 < (l0.length : Int) := of_decide_eq_true (by first | (with_reducible assumption) | assumption)
        obtain ⟨ad377, e377, hx377_0, hx377_1⟩ := at_T97 HR0.out x7_1 p377 q377
        cases e377
        replace hx377_0 := (HB.out.cell (World.block_lt_of_cell? w _ hx377_0)).trans hx377_0
        replace hx377_1 := (HB.out.cell (World.block_lt_of_cell? w _ hx377_1)).trans hx377_1
        replace p377 := eq_true p377
        replace q377 := eq_true q377
        go_wp2_with (first | ((with_reducible refine gate_dst (N := 4) rfl ?_); refine box_event ?hg (N := 4) ?hd (cs := #[.int .i64 0, .int .i64 0]) (t := 97) ?hr ?_; (case hd => rfl); (case hg => rfl); (case hr => first | (go_simp; done) | (go_simp; rfl)); intro gb378 hg w20 hbox hb; have n0_ := Aside0.mk (below_step (by repeat (first | (with_reducible first | exact HB.out | apply below_alloc | apply pw_below_drewN | apply below_drew1) | exact HB.out)) hb); have n1_ := Aside0.mk (hbox); have n2_ := Aside0.mk ((by rw [hg]; exact (below_size (by repeat (first | (with_reducible first | exact HB.out | apply below_alloc | apply pw_below_drewN | apply below_drew1) | exact HB.out))) : w.heap.size ≤ gb378)); have n3_ := Aside0.mk ((by rw [hg]; exact (below_size (by repeat (first | (with_reducible first | exact HB.out | apply below_alloc | apply pw_below_drewN | apply below_drew1) | exact HB.out))) : w.heap.size ≤ gb378)); clear HB; have HB := n0_; have BK378 := n1_; have GW378 := n2_; have GE378 := n3_; clear n0_ n1_ n2_ n3_; clear hb hbox hg; have hcz21_0 : w20.cell? ⟨gb378, 0, none⟩ = some (.int .i64 0) := (blk_cell BK378.out 0).trans rfl; have hcz21_1 : w20.cell? ⟨gb378, 1, none⟩ = some (.int .i64 0) := (blk_cell BK378.out 1).trans rfl; have hfz21_0 := blk_frozen BK378.out 0; have hfz21_1 := blk_frozen BK378.out 1) | (go_at_call 90; (with_reducible refine (codec_within.calls ((rd_T97 l0 x7_1).f0) 1 1099511627776 true _ A5.out).mono ?_); rintro e w' ⟨rfl, ⟨nd, rfl⟩⟩; (try first | exact ⟨rfl, _, World.drewN_drewN _ _ _⟩ | exact ⟨rfl, _, Eq.trans (World.drewN_drewN _ _ _) (congrArg (World.drewN _) (Nat.add_assoc _ _ _))⟩)) | (go_at_call 90; (with_reducible refine (codec_within.calls ((rd_T97 l0 x7_1).f1) 0 63 false _ A7.out).mono ?_); rintro e w' ⟨rfl, ⟨nd, rfl⟩⟩; (try first | exact ⟨rfl, _, World.drewN_drewN _ _ _⟩ | exact ⟨rfl, _, Eq.trans (World.drewN_drewN _ _ _) (congrArg (World.drewN _) (Nat.add_assoc _ _ _))⟩)))
        repeat (go_quiet (first | ((with_reducible refine gate_dst (N := 4) rfl ?_); refine box_event ?hg (N := 4) ?hd (cs := #[.int .i64 0, .int .i64 0]) (t := 97) ?hr ?_; (case hd => rfl); (case hg => rfl); (case hr => first | (go_simp; done) | (go_simp; rfl)); intro gb378 hg w20 hbox hb; have n0_ := Aside0.mk (below_step (by repeat (first | (with_reducible first | exact HB.out | apply below_alloc | apply pw_below_drewN | apply below_drew1) | exact HB.out)) hb); have n1_ := Aside0.mk (hbox); have n2_ := Aside0.mk ((by rw [hg]; exact (below_size (by repeat (first | (with_reducible first | exact HB.out | apply below_alloc | apply pw_below_drewN | apply below_drew1) | exact HB.out))) : w.heap.size ≤ gb378)); have n3_ := Aside0.mk ((by rw [hg]; exact (below_size (by repeat (first | (with_reducible first | exact HB.out | apply below_alloc | apply pw_below_drewN | apply below_drew1) | exact HB.out))) : w.heap.size ≤ gb378)); clear HB; have HB := n0_; have BK378 := n1_; have GW378 := n2_; have GE378 := n3_; clear n0_ n1_ n2_ n3_; clear hb hbox hg; have hcz21_0 : w20.cell? ⟨gb378, 0, none⟩ = some (.int .i64 0) := (blk_cell BK378.out 0).trans rfl; have hcz21_1 : w20.cell? ⟨gb378, 1, none⟩ = some (.int .i64 0) := (blk_cell BK378.out 1).trans rfl; have hfz21_0 := blk_frozen BK378.out 0; have hfz21_1 := blk_frozen BK378.out 1) | (go_at_call 90; (with_reducible refine (codec_within.calls ((rd_T97 l0 x7_1).f0) 1 1099511627776 true _ A5.out).mono ?_); rintro e w' ⟨rfl, ⟨nd, rfl⟩⟩; (try first | exact ⟨rfl, _, World.drewN_drewN _ _ _⟩ | exact ⟨rfl, _, Eq.trans (World.drewN_drewN _ _ _) (congrArg (World.drewN _) (Nat.add_assoc _ _ _))⟩)) | (go_at_call 90; (with_reducible refine (codec_within.calls ((rd_T97 l0 x7_1).f1) 0 63 false _ A7.out).mono ?_); rintro e w' ⟨rfl, ⟨nd, rfl⟩⟩; (try first | exact ⟨rfl, _, World.drewN_drewN _ _ _⟩ | exact ⟨rfl, _, Eq.trans (World.drewN_drewN _ _ _) (congrArg (World.drewN _) (Nat.add_assoc _ _ _))⟩))); try go_wp2_with (first | ((with_reducible refine gate_dst (N := 4) rfl ?_); refine box_event ?hg (N := 4) ?hd (cs := #[.int .i64 0, .int .i64 0]) (t := 97) ?hr ?_; (case hd => rfl); (case hg => rfl); (case hr => first | (go_simp; done) | (go_simp; rfl)); intro gb378 hg w20 hbox hb; have n0_ := Aside0.mk (below_step (by repeat (first | (with_reducible first | exact HB.out | apply below_alloc | apply pw_below_drewN | apply below_drew1) | exact HB.out)) hb); have n1_ := Aside0.mk (hbox); have n2_ := Aside0.mk ((by rw [hg]; exact (below_size (by repeat (first | (with_reducible first | exact HB.out | apply below_alloc | apply pw_below_drewN | apply below_drew1) | exact HB.out))) : w.heap.size ≤ gb378)); have n3_ := Aside0.mk ((by rw [hg]; exact (below_size (by repeat (first | (with_reducible first | exact HB.out | apply below_alloc | apply pw_below_drewN | apply below_drew1) | exact HB.out))) : w.heap.size ≤ gb378)); clear HB; have HB := n0_; have BK378 := n1_; have GW378 := n2_; have GE378 := n3_; clear n0_ n1_ n2_ n3_; clear hb hbox hg; have hcz21_0 : w20.cell? ⟨gb378, 0, none⟩ = some (.int .i64 0) := (blk_cell BK378.out 0).trans rfl; have hcz21_1 : w20.cell? ⟨gb378, 1, none⟩ = some (.int .i64 0) := (blk_cell BK378.out 1).trans rfl; have hfz21_0 := blk_frozen BK378.out 0; have hfz21_1 := blk_frozen BK378.out 1) | (go_at_call 90; (with_reducible refine (codec_within.calls ((rd_T97 l0 x7_1).f0) 1 1099511627776 true _ A5.out).mono ?_); rintro e w' ⟨rfl, ⟨nd, rfl⟩⟩; (try first | exact ⟨rfl, _, World.drewN_drewN _ _ _⟩ | exact ⟨rfl, _, Eq.trans (World.drewN_drewN _ _ _) (congrArg (World.drewN _) (Nat.add_assoc _ _ _))⟩)) | (go_at_call 90; (with_reducible refine (codec_within.calls ((rd_T97 l0 x7_1).f1) 0 63 false _ A7.out).mono ?_); rintro e w' ⟨rfl, ⟨nd, rfl⟩⟩; (try first | exact ⟨rfl, _, World.drewN_drewN _ _ _⟩ | exact ⟨rfl, _, Eq.trans (World.drewN_drewN _ _ _) (congrArg (World.drewN _) (Nat.add_assoc _ _ _))⟩))))
        go_ret
        exact ⟨by first | rfl | (simp [errW_none, errW_some] <;> rfl) | (simp [*, errW_none, errW_some] <;> rfl), by repeat (first | (with_reducible first | exact HB.out | apply below_alloc | apply pw_below_drewN | apply below_drew1 | refine below_set ?_ GE378.out) | exact HB.out)⟩
      ·replace c6 := Bool.eq_false_iff.mpr c6
       subst c6
       have H1 : (some false) = some r := by rw [if_neg (show ¬ (false = true) by decide)] at H; exact H
       clear H
       have H := H1
       clear H1
       obtain rfl := Option.some.inj H
       have p377 : 0 ≤ (x7_1 : Int) := of_decide_eq_true (by first | (with_reducible assumption) | assumption)
       have q377 : x7_1 < (l0.length : Int) := of_decide_eq_true (by first | (with_reducible assumption) | assumption)
       obtain ⟨ad377, e377, hx377_0, hx377_1⟩ := at_T97 HR0.out x7_1 p377 q377
       cases e377
       replace hx377_0 := (HB.out.cell (World.block_lt_of_cell? w _ hx377_0)).trans hx377_0
       replace hx377_1 := (HB.out.cell (World.block_lt_of_cell? w _ hx377_1)).trans hx377_1
       replace p377 := eq_true p377
       replace q377 := eq_true q377
       go_wp2_with (first | ((with_reducible refine gate_dst (N := 4) rfl ?_); refine box_event ?hg (N := 4) ?hd (cs := #[.int .i64 0, .int .i64 0]) (t := 97) ?hr ?_; (case hd => rfl); (case hg => rfl); (case hr => first | (go_simp; done) | (go_simp; rfl)); intro gb378 hg w22 hbox hb; have n0_ := Aside0.mk (below_step (by repeat (first | (with_reducible first | exact HB.out | apply below_alloc | apply pw_below_drewN | apply below_drew1) | exact HB.out)) hb); have n1_ := Aside0.mk (hbox); have n2_ := Aside0.mk ((by rw [hg]; exact (below_size (by repeat (first | (with_reducible first | exact HB.out | apply below_alloc | apply pw_below_drewN | apply below_drew1) | exact HB.out))) : w.heap.size ≤ gb378)); have n3_ := Aside0.mk ((by rw [hg]; exact (below_size (by repeat (first | (with_reducible first | exact HB.out | apply below_alloc | apply pw_below_drewN | apply below_drew1) | exact HB.out))) : w.heap.size ≤ gb378)); clear HB; have HB := n0_; have BK378 := n1_; have GW378 := n2_; have GE378 := n3_; clear n0_ n1_ n2_ n3_; clear hb hbox hg; have hcz23_0 : w22.cell? ⟨gb378, 0, none⟩ = some (.int .i64 0) := (blk_cell BK378.out 0).trans rfl; have hcz23_1 : w22.cell? ⟨gb378, 1, none⟩ = some (.int .i64 0) := (blk_cell BK378.out 1).trans rfl; have hfz23_0 := blk_frozen BK378.out 0; have hfz23_1 := blk_frozen BK378.out 1) | (go_at_call 90; (with_reducible refine (codec_within.calls ((rd_T97 l0 x7_1).f0) 1 1099511627776 false _ A5.out).mono ?_); rintro e w' ⟨rfl, ⟨nd, rfl⟩⟩; (try first | exact ⟨rfl, _, World.drewN_drewN _ _ _⟩ | exact ⟨rfl, _, Eq.trans (World.drewN_drewN _ _ _) (congrArg (World.drewN _) (Nat.add_assoc _ _ _))⟩)))
       repeat (go_quiet (first | ((with_reducible refine gate_dst (N := 4) rfl ?_); refine box_event ?hg (N := 4) ?hd (cs := #[.int .i64 0, .int .i64 0]) (t := 97) ?hr ?_; (case hd => rfl); (case hg => rfl); (case hr => first | (go_simp; done) | (go_simp; rfl)); intro gb378 hg w22 hbox hb; have n0_ := Aside0.mk (below_step (by repeat (first | (with_reducible first | exact HB.out | apply below_alloc | apply pw_below_drewN | apply below_drew1) | exact HB.out)) hb); have n1_ := Aside0.mk (hbox); have n2_ := Aside0.mk ((by rw [hg]; exact (below_size (by repeat (first | (with_reducible first | exact HB.out | apply below_alloc | apply pw_below_drewN | apply below_drew1) | exact HB.out))) : w.heap.size ≤ gb378)); have n3_ := Aside0.mk ((by rw [hg]; exact (below_size (by repeat (first | (with_reducible first | exact HB.out | apply below_alloc | apply pw_below_drewN | apply below_drew1) | exact HB.out))) : w.heap.size ≤ gb378)); clear HB; have HB := n0_; have BK378 := n1_; have GW378 := n2_; have GE378 := n3_; clear n0_ n1_ n2_ n3_; clear hb hbox hg; have hcz23_0 : w22.cell? ⟨gb378, 0, none⟩ = some (.int .i64 0) := (blk_cell BK378.out 0).trans rfl; have hcz23_1 : w22.cell? ⟨gb378, 1, none⟩ = some (.int .i64 0) := (blk_cell BK378.out 1).trans rfl; have hfz23_0 := blk_frozen BK378.out 0; have hfz23_1 := blk_frozen BK378.out 1) | (go_at_call 90; (with_reducible refine (codec_within.calls ((rd_T97 l0 x7_1).f0) 1 1099511627776 false _ A5.out).mono ?_); rintro e w' ⟨rfl, ⟨nd, rfl⟩⟩; (try first | exact ⟨rfl, _, World.drewN_drewN _ _ _⟩ | exact ⟨rfl, _, Eq.trans (World.drewN_drewN _ _ _) (congrArg (World.drewN _) (Nat.add_assoc _ _ _))⟩))); try go_wp2_with (first | ((with_reducible refine gate_dst (N := 4) rfl ?_); refine box_event ?hg (N := 4) ?hd (cs := #[.int .i64 0, .int .i64 0]) (t := 97) ?hr ?_; (case hd => rfl); (case hg => rfl); (case hr => first | (go_simp; done) | (go_simp; rfl)); intro gb378 hg w22 hbox hb; have n0_ := Aside0.mk (below_step (by repeat (first | (with_reducible first | exact HB.out | apply below_alloc | apply pw_below_drewN | apply below_drew1) | exact HB.out)) hb); have n1_ := Aside0.mk (hbox); have n2_ := Aside0.mk ((by rw [hg]; exact (below_size (by repeat (first | (with_reducible first | exact HB.out | apply below_alloc | apply pw_below_drewN | apply below_drew1) | exact HB.out))) : w.heap.size ≤ gb378)); have n3_ := Aside0.mk ((by rw [hg]; exact (below_size (by repeat (first | (with_reducible first | exact HB.out | apply below_alloc | apply pw_below_drewN | apply below_drew1) | exact HB.out))) : w.heap.size ≤ gb378)); clear HB; have HB := n0_; have BK378 := n1_; have GW378 := n2_; have GE378 := n3_; clear n0_ n1_ n2_ n3_; clear hb hbox hg; have hcz23_0 : w22.cell? ⟨gb378, 0, none⟩ = some (.int .i64 0) := (blk_cell BK378.out 0).trans rfl; have hcz23_1 : w22.cell? ⟨gb378, 1, none⟩ = some (.int .i64 0) := (blk_cell BK378.out 1).trans rfl; have hfz23_0 := blk_frozen BK378.out 0; have hfz23_1 := blk_frozen BK378.out 1) | (go_at_call 90; (with_reducible refine (codec_within.calls ((rd_T97 l0 x7_1).f0) 1 1099511627776 false _ A5.out).mono ?_); rintro e w' ⟨rfl, ⟨nd, rfl⟩⟩; (try first | exact ⟨rfl, _, World.drewN_drewN _ _ _⟩ | exact ⟨rfl, _, Eq.trans (World.drewN_drewN _ _ _) (congrArg (World.drewN _) (Nat.add_assoc _ _ _))⟩))))
       go_ret
       exact ⟨by first | rfl | (simp [errW_none, errW_some] <;> rfl) | (simp [*, errW_none, errW_some] <;> rfl), by repeat (first | (with_reducible first | exact HB.out | apply below_alloc | apply pw_below_drewN | apply below_drew1 | refine below_set ?_ GE378.out) | exact HB.out)⟩
     ·rw [if_neg c4] at H
      exact absurd H (by simp)
    ·rw [if_neg c3] at H
     exact absurd H (by simp)
   ·rw [if_neg c2] at H
    have c2b0 : decide (x7_1 < (l0.length : Int)) = false := decide_eq_false c2
    clear c2
    obtain rfl := Option.some.inj H
    go_wp2
    repeat (go_quiet (fail); try go_wp2)
    go_ret
    exact ⟨by first | rfl | (simp [errW_none, errW_some] <;> rfl) | (simp [*, errW_none, errW_some] <;> rfl), by repeat (first | (with_reducible first | exact HB.out | apply below_alloc | apply pw_below_drewN | apply below_drew1) | exact HB.out)⟩
theorem end_verdicts_err (k g : Nat) (s0_0 : ByteArray) (s0_1 : Int) (A : Option Addr) (c : Nat) (l : List S97) (w0 w : World) (er : Int) (he : er ≠ 0) (hI : IsS106 w0 w g s0_0 s0_1 er) (hB : Below w0.heap.size w0 w) (hC : Kd.C k97 w A l.length l) (hl : l.length ≤ c) :
  Calls Try.prog 76 #[.pointer (some ⟨g, 0, none⟩), .slice A l.length c, .func (Fn.func 57) #[] #[]] w fun e w' => e = .returned (.tuple #[.slice none 0 0, .int .i64 0, .int .i64 er]) ∧ IsS106 w0 w' g s0_0 s0_1 er ∧ Below w0.heap.size w0 w' ∧ KeepBut w w' g none := by
 have HI := Aside0.mk hI
 have HB := Aside0.mk hB
 clear hI hB hC
 have e1 : (er == 0) = false := beq_eq_false_iff_ne.mpr he
 have e2 : (er != 0) = true := bne_iff_ne.mpr he
 have hc0 := cellS106_0 HI.out.1
 have hc1 := cellS106_1 HI.out.1
 have hc2 := cellS106_2 HI.out.1
 have hf0 := blk_frozen HI.out.1 0
 have hf1 := blk_frozen HI.out.1 1
 have hf2 := blk_frozen HI.out.1 2
 go_enter Try.func76, Try.ntmps76
 go_wp2
 repeat (go_quiet (fail); try go_wp2)
 go_ret3
 exact ⟨rfl, by repeat (first | exact HI.out | apply IsS106.drewN | apply IsS106.drew), by repeat (first | exact HB.out | apply pw_below_drewN | apply below_drew1), by repeat (first | exact KeepBut.refl _ _ _ | apply keep_drewN | apply keep_drew)⟩
theorem end_verdicts_true (k g : Nat) (s0_0 : ByteArray) (s0_1 : Int) (A : Option Addr) (c : Nat) (l : List S97) (w0 w : World) (hI : IsS106 w0 w g s0_0 s0_1 0) (hB : Below w0.heap.size w0 w) (hC : Kd.C k97 w A l.length l) (hl : l.length ≤ c) (h : codec_verdicts.f k l = some true) :
  Calls Try.prog 76 #[.pointer (some ⟨g, 0, none⟩), .slice A l.length c, .func (Fn.func 57) #[] #[]] w fun e w' => e = .returned (.tuple #[.slice A l.length c, .int .i64 s0_1, .int .i64 0]) ∧ IsS106 w0 w' g s0_0 s0_1 0 ∧ Below w0.heap.size w0 w' ∧ KeepBut w w' g none := by
 have HI := Aside0.mk hI
 have HB := Aside0.mk hB
 have HX := Aside0.mk h
 have HC := Aside0.mk hC
 have HL := Aside0.mk hl
 clear hI hB h hC hl
 have hc0 := cellS106_0 HI.out.1
 have hc1 := cellS106_1 HI.out.1
 have hc2 := cellS106_2 HI.out.1
 have hf0 := blk_frozen HI.out.1 0
 have hf1 := blk_frozen HI.out.1 1
 have hf2 := blk_frozen HI.out.1 2
 go_enter Try.func76, Try.ntmps76
 go_wp2_with (first | (go_at_call 57; (with_reducible refine (codec_verdicts.calls k _ _ l true _ ?side1 ?side2 HX.out).mono ?_); (case side1 => exact HC.out); (case side2 => exact HL.out); rintro e w1 ⟨rfl, hb⟩; have HB2 := Aside0.mk hb; have HI1 := Aside0.mk (HI.out.below HB2.out); clear hb hc0 hc1 hc2 hf0 hf1 hf2; have hc0 := cellS106_0 HI1.out.1; have hc1 := cellS106_1 HI1.out.1; have hc2 := cellS106_2 HI1.out.1; have hf0 := blk_frozen HI1.out.1 0; have hf1 := blk_frozen HI1.out.1 1; have hf2 := blk_frozen HI1.out.1 2))
 have HB3 := Aside0.mk (below_step HB.out HB2.out)
 have HK2 := Aside0.mk (KeepBut.of_below HB2.out g none)
 repeat (go_quiet (fail); try go_wp2)
 go_ret3
 exact ⟨rfl, by repeat (first | exact HI1.out | apply IsS106.drewN | apply IsS106.drew), by repeat (first | exact HB3.out | apply pw_below_drewN | apply below_drew1), by repeat (first | exact HK2.out | apply keep_drewN | apply keep_drew)⟩
theorem end_verdicts_false (k g : Nat) (s0_0 : ByteArray) (s0_1 : Int) (A : Option Addr) (c : Nat) (l : List S97) (w0 w : World) (hI : IsS106 w0 w g s0_0 s0_1 0) (hB : Below w0.heap.size w0 w) (hC : Kd.C k97 w A l.length l) (hl : l.length ≤ c) (h : codec_verdicts.f k l = some false) :
  Calls Try.prog 76 #[.pointer (some ⟨g, 0, none⟩), .slice A l.length c, .func (Fn.func 57) #[] #[]] w fun e w' => e = .returned (.tuple #[.slice none 0 0, .int .i64 0, .int .i64 6]) ∧ IsS106 w0 w' g s0_0 s0_1 6 ∧ Below w0.heap.size w0 w' ∧ KeepBut w w' g none := by
 have HI := Aside0.mk hI
 have HB := Aside0.mk hB
 have HX := Aside0.mk h
 have HC := Aside0.mk hC
 have HL := Aside0.mk hl
 clear hI hB h hC hl
 have hc0 := cellS106_0 HI.out.1
 have hc1 := cellS106_1 HI.out.1
 have hc2 := cellS106_2 HI.out.1
 have hf0 := blk_frozen HI.out.1 0
 have hf1 := blk_frozen HI.out.1 1
 have hf2 := blk_frozen HI.out.1 2
 go_enter Try.func76, Try.ntmps76
 go_wp2_with (first | (go_at_call 57; (with_reducible refine (codec_verdicts.calls k _ _ l false _ ?side1 ?side2 HX.out).mono ?_); (case side1 => exact HC.out); (case side2 => exact HL.out); rintro e w1 ⟨rfl, hb⟩; have HB2 := Aside0.mk hb; have HI1 := Aside0.mk (HI.out.below HB2.out); clear hb hc0 hc1 hc2 hf0 hf1 hf2; have hc0 := cellS106_0 HI1.out.1; have hc1 := cellS106_1 HI1.out.1; have hc2 := cellS106_2 HI1.out.1; have hf0 := blk_frozen HI1.out.1 0; have hf1 := blk_frozen HI1.out.1 1; have hf2 := blk_frozen HI1.out.1 2))
 have HI2 := Aside0.mk (HI1.out.set_2 6)
 have HB3 := Aside0.mk (below_set (g := g) (j := 2) (v := .int .i64 6) (below_step HB.out HB2.out) (IsS106.ge HI1.out))
 have HK2 := Aside0.mk ((KeepBut.of_below HB2.out g none).set_ 2 (.int .i64 6))
 repeat (go_quiet (fail); try go_wp2)
 go_ret3
 exact ⟨rfl, by repeat (first | exact HI2.out | apply IsS106.drewN | apply IsS106.drew), by repeat (first | exact HB3.out | apply pw_below_drewN | apply below_drew1), by repeat (first | exact HK2.out | apply keep_drewN | apply keep_drew)⟩
def codec_ReadVerdicts_1.f (k : Nat) (s0_0 : ByteArray) (s0_1 : Int) (s0_2 : Int) : Option (Int × Int × ByteArray × Int × Int) := (codec_reader_number.f k s0_0 s0_1 s0_2).bind fun bt549 => ((codec_reader_number.f k bt549.2.1 bt549.2.2.1 bt549.2.2.2).bind fun bt553 => (some (bt549.1, bt553.1, bt553.2.1, bt553.2.2.1, bt553.2.2.2)))
theorem codec_ReadVerdicts_1.calls (k : Nat) (g : Nat) (s0_0 : ByteArray) (s0_1 : Int) (s0_2 : Int) (r1 : Int) (r2 : Int) (r3 : ByteArray) (r4 : Int) (r5 : Int) (w0 w : World) (hI : IsS106 w0 w g s0_0 s0_1 s0_2) (hB : Below w0.heap.size w0 w) (h : codec_ReadVerdicts_1.f k s0_0 s0_1 s0_2 = some (r1, r2, r3, r4, r5)) :
  Calls Try.prog 78 #[.pointer (some ⟨g, 0, none⟩)] w fun e w' => e = .returned (.agg #[.int .i64 r1, .int .i64 r2]) ∧ IsS106 w0 w' g r3 r4 r5 ∧ Below w0.heap.size w0 w' ∧ KeepBut w w' g none := by
 have hu97 := Try.underlying97
 have HI0 := Aside0.mk hI
 have HK := Aside0.mk (KeepBut.refl w g none)
 have HL := Aside0.mk hB.size
 clear hI
 have HW0 := Aside0.mk hB.size
 have HB := Aside0.mk hB
 clear hB
 have H : ((codec_reader_number.f k s0_0 s0_1 s0_2).bind fun bt549 => ((codec_reader_number.f k bt549.2.1 bt549.2.2.1 bt549.2.2.2).bind fun bt553 => (some (bt549.1, bt553.1, bt553.2.1, bt553.2.2.1, bt553.2.2.2)))) = some (r1, r2, r3, r4, r5) := h
 clear h
 replace H := Option.bind_eq_some_iff.mp H
 obtain ⟨⟨t549, t550, t551, t552⟩, A20, H⟩ := H
 replace H : ((codec_reader_number.f k t550 t551 t552).bind fun bt553 => (some (t549, bt553.1, bt553.2.1, bt553.2.2.1, bt553.2.2.2))) = some (r1, r2, r3, r4, r5) := H
 have A2 := Aside0.mk A20
 clear A20
 replace H := Option.bind_eq_some_iff.mp H
 obtain ⟨⟨t553, t554, t555, t556⟩, A30, H⟩ := H
 replace H : (some (t549, t553, t554, t555, t556)) = some (r1, r2, r3, r4, r5) := H
 have A3 := Aside0.mk A30
 clear A30
 simp only [Option.some.injEq, Prod.mk.injEq] at H
 obtain ⟨rfl, rfl, rfl, rfl, rfl⟩ := H
 go_enter Try.func78, Try.ntmps78
 go_wp2_with (first | ((with_reducible refine gate_dst (N := 2) rfl ?_); refine box_event ?hg (N := 2) ?hd (cs := #[.int .i64 0, .int .i64 0]) (t := 97) ?hr ?_; (case hd => rfl); (case hg => rfl); (case hr => first | (go_simp; done) | (go_simp; rfl)); intro gb548 hg w4 hbox hb; have n0_ := Aside0.mk (IsS106.below (by repeat (first | (with_reducible first | exact HI0.out | apply IsS106.alloc | apply IsS106.drewN | apply IsS106.drew | apply IsS106.set_0 | apply IsS106.set_1 | apply IsS106.set_2) | exact HI0.out)) hb); have n1_ := Aside0.mk (KeepBut.trans (by repeat (first | (with_reducible first | exact HK.out | apply KeepBut.set_ | apply keep_drewN | apply keep_drew | apply keep_alloc) | exact HK.out)) (KeepBut.of_below hb g none) (.inl rfl)); have n2_ := Aside0.mk (below_step (by repeat (first | (with_reducible first | exact HB.out | apply below_alloc | apply pw_below_drewN | apply below_drew1 | refine below_set ?_ (IsS106.ge HI0.out)) | exact HB.out)) hb); have n3_ := Aside0.mk (hbox); have n4_ := Aside0.mk ((by rw [hg]; exact (keep_size (w := w) (g := g) (row := none) (by repeat (first | (with_reducible first | exact HK.out | apply KeepBut.set_ | apply keep_drewN | apply keep_drew | apply keep_alloc) | exact HK.out))) : w.heap.size ≤ gb548)); have n5_ := Aside0.mk ((Nat.le_trans HW0.out (by rw [hg]; exact (keep_size (w := w) (g := g) (row := none) (by repeat (first | (with_reducible first | exact HK.out | apply KeepBut.set_ | apply keep_drewN | apply keep_drew | apply keep_alloc) | exact HK.out))) : w.heap.size ≤ gb548) : w0.heap.size ≤ gb548)); have n6_ := Aside0.mk ((by rw [hg]; exact Nat.ne_of_lt (IsS106.lt (show IsS106 w0 _ g s0_0 s0_1 s0_2 from by repeat (first | (with_reducible first | exact HI0.out | apply IsS106.alloc | apply IsS106.drewN | apply IsS106.drew | apply IsS106.set_0 | apply IsS106.set_1 | apply IsS106.set_2) | exact HI0.out))) : g ≠ gb548)); have n7_ := Aside0.mk ((by rw [hg]; exact Nat.ne_of_gt (IsS106.lt (show IsS106 w0 _ g s0_0 s0_1 s0_2 from by repeat (first | (with_reducible first | exact HI0.out | apply IsS106.alloc | apply IsS106.drewN | apply IsS106.drew | apply IsS106.set_0 | apply IsS106.set_1 | apply IsS106.set_2) | exact HI0.out))) : gb548 ≠ g)); clear HI0; clear HK; clear HB; have HI0 := n0_; have HK := n1_; have HB := n2_; have BK548 := n3_; have GW548 := n4_; have GE548 := n5_; have NB0_548 := n6_; have NB548_0 := n7_; clear n0_ n1_ n2_ n3_ n4_ n5_ n6_ n7_; clear hb hbox hg) | ((with_reducible refine gate_callee (f := 66) rfl ?_); refine goesL_ (some 4) rfl rfl Try.func66 (by kernel_rfl) rfl #[.pointer (some ⟨g, 0, none⟩)] rfl (by (try simp only [List.map_toArray, List.map_cons, List.map_nil]); first | done | rfl | (simp only [List.length_drop, List.length_take]; rfl)) ?_; (with_reducible refine (codec_reader_number.calls k g s0_0 s0_1 s0_2 t549 t550 t551 t552 w0 _ ?side1 ?side2 A2.out).mono ?_); (case side1 => repeat (first | (with_reducible first | exact HI0.out | apply IsS106.alloc | apply IsS106.drewN | apply IsS106.drew | apply IsS106.set_0 | apply IsS106.set_1 | apply IsS106.set_2 | refine IsS106.far ?_ NB0_548.out _) | exact HI0.out)); (case side2 => repeat (first | (with_reducible first | exact HB.out | apply below_alloc | apply pw_below_drewN | apply below_drew1 | refine below_set ?_ (IsS106.ge HI0.out) | refine below_set ?_ GE548.out) | exact HB.out)); rintro e w5 ⟨rfl, hi, hb, hk⟩; refine ⟨_, rfl, ?_⟩; have n0_ := Aside0.mk (KeepBut.blk hk (g' := gb548) (o := .cells #[.int .i64 0, .int .i64 0] 97 (0, 0)) (by (with_reducible repeat (first | refine blk_drewN ?_ _ | refine blk_drew ?_ | refine blk_alloc ?_ _)); exact BK548.out) NB548_0.out (by simp)); have n1_ := Aside0.mk (KeepBut.trans (by repeat (first | (with_reducible first | exact HK.out | apply KeepBut.set_ | apply keep_drewN | apply keep_drew | apply keep_alloc | refine keep_far ?_ GW548.out _) | exact HK.out)) hk (.inl rfl)); have n2_ := Aside0.mk (hb); have n3_ := Aside0.mk (hi); clear BK548; clear HK; clear HB; clear HI0; have BK548 := n0_; have HK := n1_; have HB := n2_; have HI0 := n3_; clear n0_ n1_ n2_ n3_; (try clear hb); (try clear hb2); (try clear hk); (try clear hi)) | ((with_reducible refine gate_callee (f := 66) rfl ?_); refine goesL_ (some 6) rfl rfl Try.func66 (by kernel_rfl) rfl #[.pointer (some ⟨g, 0, none⟩)] rfl (by (try simp only [List.map_toArray, List.map_cons, List.map_nil]); first | done | rfl | (simp only [List.length_drop, List.length_take]; rfl)) ?_; (with_reducible refine (codec_reader_number.calls k g t550 t551 t552 t553 t554 t555 t556 w0 _ ?side1 ?side2 A3.out).mono ?_); (case side1 => repeat (first | (with_reducible first | exact HI0.out | apply IsS106.alloc | apply IsS106.drewN | apply IsS106.drew | apply IsS106.set_0 | apply IsS106.set_1 | apply IsS106.set_2 | refine IsS106.far ?_ NB0_548.out _) | exact HI0.out)); (case side2 => repeat (first | (with_reducible first | exact HB.out | apply below_alloc | apply pw_below_drewN | apply below_drew1 | refine below_set ?_ (IsS106.ge HI0.out) | refine below_set ?_ GE548.out) | exact HB.out)); rintro e w6 ⟨rfl, hi, hb, hk⟩; refine ⟨_, rfl, ?_⟩; have n0_ := Aside0.mk (KeepBut.blk hk (g' := gb548) (o := .cells #[.int .i64 0, .int .i64 0] 97 (0, 0)) (by (with_reducible repeat (first | refine blk_drewN ?_ _ | refine blk_drew ?_ | refine blk_alloc ?_ _)); exact BK548.out) NB548_0.out (by simp)); have n1_ := Aside0.mk (KeepBut.trans (by repeat (first | (with_reducible first | exact HK.out | apply KeepBut.set_ | apply keep_drewN | apply keep_drew | apply keep_alloc | refine keep_far ?_ GW548.out _) | exact HK.out)) hk (.inl rfl)); have n2_ := Aside0.mk (hb); have n3_ := Aside0.mk (hi); clear BK548; clear HK; clear HB; clear HI0; have BK548 := n0_; have HK := n1_; have HB := n2_; have HI0 := n3_; clear n0_ n1_ n2_ n3_; (try clear hb); (try clear hb2); (try clear hk); (try clear hi); have hnb7 := NB548_0.out; have hnc7 := NB0_548.out; have hcz8_0 : w6.cell? ⟨gb548, 0, none⟩ = some (.int .i64 0) := (blk_cell BK548.out 0).trans rfl; have hcz8_1 : w6.cell? ⟨gb548, 1, none⟩ = some (.int .i64 0) := (blk_cell BK548.out 1).trans rfl; have hfz8_0 := blk_frozen BK548.out 0; have hfz8_1 := blk_frozen BK548.out 1))
 refine bodyPost_ret (results_cell_row rfl _ _ gb548 97 #[.int .i64 t549, .int .i64 t553] (0, 0) _ rfl (by (with_reducible repeat (first | refine blk_drewN ?_ _ | refine blk_drew ?_ | refine blk_alloc ?_ _)); refine blk_put (cs := #[.int .i64 t549, .int .i64 0]) ?_ 1 _ rfl; (with_reducible repeat (first | refine blk_drewN ?_ _ | refine blk_drew ?_ | refine blk_alloc ?_ _)); refine blk_put (cs := #[.int .i64 0, .int .i64 0]) ?_ 0 _ rfl; (with_reducible repeat (first | refine blk_drewN ?_ _ | refine blk_drew ?_ | refine blk_alloc ?_ _)); exact BK548.out) Try.underlying97 rfl (by kernel_rfl)) rfl ?_
 exact ⟨by first | rfl | (simp [errW_none, errW_some] <;> rfl) | (simp [*, errW_none, errW_some] <;> rfl), by repeat (first | (with_reducible first | exact HI0.out | apply IsS106.alloc | apply IsS106.drewN | apply IsS106.drew | apply IsS106.set_0 | apply IsS106.set_1 | apply IsS106.set_2 | refine IsS106.far ?_ NB0_548.out _) | exact HI0.out), by repeat (first | (with_reducible first | exact HB.out | apply below_alloc | apply pw_below_drewN | apply below_drew1 | refine below_set ?_ (IsS106.ge HI0.out) | refine below_set ?_ GE548.out) | exact HB.out), by repeat (first | (with_reducible first | exact HK.out | apply KeepBut.set_ | apply keep_drewN | apply keep_drew | apply keep_alloc | refine keep_far ?_ GW548.out _) | exact HK.out)⟩
mutual
def api_Verdict__by_codec_ReadVerdicts_1.j0 : Nat → Int → Bool → ByteArray → Int → Int → Option ((List (S97)) × ByteArray × Int × Int)
 | 0, _, _, _, _, _ => none
 | k + 1, x7, x22, x1000, x1001, x1002 => if x22 = true then (api_Verdict__by_codec_ReadVerdicts_1.j1 k x7 x1000 x1001 6) else (api_Verdict__by_codec_ReadVerdicts_1.j1 k x7 x1000 x1001 x1002)
def api_Verdict__by_codec_ReadVerdicts_1.j1 : Nat → Int → ByteArray → Int → Int → Option ((List (S97)) × ByteArray × Int × Int)
 | 0, _, _, _, _ => none
 | k + 1, x7, x1000, x1001, x1002 => api_Verdict__by_codec_ReadVerdicts_1.l0 k x7 ([] : List (S97)) 0 x1000 x1001 x1002
def api_Verdict__by_codec_ReadVerdicts_1.l0 : Nat → Int → List (S97) → Int → ByteArray → Int → Int → Option ((List (S97)) × ByteArray × Int × Int)
 | 0, _, _, _, _, _, _ => none
 | k + 1, x7, x8, x9, x1000, x1001, x1002 => if x9 < x7 then (if x1002 = 0 then ((codec_ReadVerdicts_1.f k x1000 x1001 x1002).bind fun bt562 => (if x8.length < 8796093022208 then (api_Verdict__by_codec_ReadVerdicts_1.l0 k x7 (x8 ++ [(⟨bt562.1, bt562.2.1⟩ : S97)]) (wrap64 (x9 + 1)) bt562.2.2.1 bt562.2.2.2.1 bt562.2.2.2.2) else (none))) else (some (x8, x1000, x1001, x1002))) else (some (x8, x1000, x1001, x1002))
end
def api_Verdict__by_codec_ReadVerdicts_1.f (k : Nat) (s0_0 : ByteArray) (s0_1 : Int) (s0_2 : Int) (a1 : Int)  : Option ((List (S97)) × ByteArray × Int × Int) := (codec_reader_number.f k s0_0 s0_1 s0_2).bind fun bt557 => (if bt557.2.2.2 = 0 then ((codec_within.f bt557.1 0 a1).bind fun t561 => (api_Verdict__by_codec_ReadVerdicts_1.j0 k bt557.1 (!t561) bt557.2.1 bt557.2.2.1 bt557.2.2.2)) else (api_Verdict__by_codec_ReadVerdicts_1.j0 k bt557.1 false bt557.2.1 bt557.2.2.1 bt557.2.2.2))
theorem api_Verdict__by_codec_ReadVerdicts_1.calls (k : Nat) (g : Nat) (s0_0 : ByteArray) (s0_1 : Int) (s0_2 : Int) (a1 : Int)  (r1 : List (S97)) (r2 : ByteArray) (r3 : Int) (r4 : Int) (w0 w : World) (hI : IsS106 w0 w g s0_0 s0_1 s0_2) (hB : Below w0.heap.size w0 w) (h : api_Verdict__by_codec_ReadVerdicts_1.f k s0_0 s0_1 s0_2 a1 = some (r1, r2, r3, r4)) :
  Calls Try.prog 77 #[.pointer (some ⟨g, 0, none⟩), .int .i64 a1, .func (Fn.func 78) #[] #[]] w fun e w' => ∃ v0_ : Value, e = .returned (v0_) ∧ Kd.R k97 97 w' w.heap.size (fun _ => True) v0_ r1 ∧ IsS106 w0 w' g r2 r3 r4 ∧ Below w0.heap.size w0 w' ∧ KeepBut w w' g none := by
 have HI0 := Aside0.mk hI
 have HK := Aside0.mk (KeepBut.refl w g none)
 have HL := Aside0.mk hB.size
 clear hI
 have HW0 := Aside0.mk hB.size
 have HB := Aside0.mk hB
 clear hB
 have H : ((codec_reader_number.f k s0_0 s0_1 s0_2).bind fun bt557 => (if bt557.2.2.2 = 0 then ((codec_within.f bt557.1 0 a1).bind fun t561 => (api_Verdict__by_codec_ReadVerdicts_1.j0 k bt557.1 (!t561) bt557.2.1 bt557.2.2.1 bt557.2.2.2)) else (api_Verdict__by_codec_ReadVerdicts_1.j0 k bt557.1 false bt557.2.1 bt557.2.2.1 bt557.2.2.2))) = some (r1, r2, r3, r4) := h
 clear h
 replace H := Option.bind_eq_some_iff.mp H
 obtain ⟨⟨t557, t558, t559, t560⟩, A40, H⟩ := H
 replace H : (if t560 = 0 then ((codec_within.f t557 0 a1).bind fun t561 => (api_Verdict__by_codec_ReadVerdicts_1.j0 k t557 (!t561) t558 t559 t560)) else (api_Verdict__by_codec_ReadVerdicts_1.j0 k t557 false t558 t559 t560)) = some (r1, r2, r3, r4) := H
 have A4 := Aside0.mk A40
 clear A40
 have HC5 := Aside0.mk H
 clear H
 go_enter Try.func77, Try.ntmps77
 go_upto_region 2 with (first | ((with_reducible refine gate_callee (f := 66) rfl ?_); refine goesL_ (some 11) rfl rfl Try.func66 (by kernel_rfl) rfl #[.pointer (some ⟨g, 0, none⟩)] rfl (by (try simp only [List.map_toArray, List.map_cons, List.map_nil]); first | done | rfl | (simp only [List.length_drop, List.length_take]; rfl)) ?_; (with_reducible refine (codec_reader_number.calls k g s0_0 s0_1 s0_2 t557 t558 t559 t560 w0 _ ?side1 ?side2 A4.out).mono ?_); (case side1 => repeat (first | (with_reducible first | exact HI0.out | apply IsS106.alloc | apply IsS106.drewN | apply IsS106.drew | apply IsS106.set_0 | apply IsS106.set_1 | apply IsS106.set_2) | exact HI0.out)); (case side2 => repeat (first | (with_reducible first | exact HB.out | apply below_alloc | apply pw_below_drewN | apply below_drew1 | refine below_set ?_ (IsS106.ge HI0.out)) | exact HB.out)); rintro e w6 ⟨rfl, hi, hb, hk⟩; refine ⟨_, rfl, ?_⟩; have n0_ := Aside0.mk (KeepBut.trans (by repeat (first | (with_reducible first | exact HK.out | apply KeepBut.set_ | apply keep_drewN | apply keep_drew | apply keep_alloc) | exact HK.out)) hk (.inl rfl)); have n1_ := Aside0.mk (hb); have n2_ := Aside0.mk (hi); clear HK; clear HB; clear HI0; have HK := n0_; have HB := n1_; have HI0 := n2_; clear n0_ n1_ n2_; (try clear hb); (try clear hb2); (try clear hk); (try clear hi)))
 (try simp only [Act.put, List.setIfInBounds_toArray, List.set_cons_zero, List.set_cons_succ])
 go_cut [22] (fun v22 wc => ∃ (kq : Nat) (x22_4 : Bool), v22 = .bool x22_4 ∧ Aside0 (api_Verdict__by_codec_ReadVerdicts_1.j0 kq t557 x22_4 t558 t559 t560 = some (r1, r2, r3, r4)) ∧ Aside0 (kq ≤ k) ∧ Aside0 (IsS106 w0 wc g t558 t559 t560) ∧ Aside0 (KeepBut w wc g none) ∧ Aside0 (Below w0.heap.size w0 wc))
 case first =>
  have H := HC5.out
  clear HC5
  by_cases c7 : t560 = 0
  ·rw [if_pos c7] at H
   have c7b0 : (t560 == 0) = true := beq_iff_eq.mpr c7
   have c7b1 : (t560 != 0) = false := bne_eq_false_iff_eq.mpr c7
   clear c7
   (first | rw [c7b0] | (simp only [i64_w, i32_w]; rw [c7b0]) | skip)
   replace H := Option.bind_eq_some_iff.mp H
   obtain ⟨t561, A80, H⟩ := H
   replace H : (api_Verdict__by_codec_ReadVerdicts_1.j0 k t557 (!t561) t558 t559 t560) = some (r1, r2, r3, r4) := H
   have A8 := Aside0.mk A80
   clear A80
   have H' := Aside0.mk H
   clear H
   obtain ⟨HGz9, hgz9⟩ := HI0.out
   have hcz9_0 := cellS106_0 HGz9
   have hcz9_1 := cellS106_1 HGz9
   have hcz9_2 := cellS106_2 HGz9
   have hfz9_0 := blk_frozen HGz9 0
   have hfz9_1 := blk_frozen HGz9 1
   have hfz9_2 := blk_frozen HGz9 2
   clear HGz9 hgz9
   go_wp2_with (first | (go_at_call 90; (with_reducible refine (codec_within.calls t557 0 a1 t561 _ A8.out).mono ?_); rintro e w' ⟨rfl, ⟨nd, rfl⟩⟩))
   go_meet
   case rel => exact ⟨_, (!t561), (by first | rfl | (simp; done) | (simp [*]; done)), H', ⟨by first | omega | exact Nat.le_refl _⟩, ⟨by repeat (first | (with_reducible first | exact HI0.out | apply IsS106.alloc | apply IsS106.drewN | apply IsS106.drew | apply IsS106.set_0 | apply IsS106.set_1 | apply IsS106.set_2) | exact HI0.out)⟩, ⟨by repeat (first | (with_reducible first | exact HK.out | apply KeepBut.set_ | apply keep_drewN | apply keep_drew | apply keep_alloc) | exact HK.out)⟩, ⟨by repeat (first | (with_reducible first | exact HB.out | apply below_alloc | apply pw_below_drewN | apply below_drew1 | refine below_set ?_ (IsS106.ge HI0.out)) | exact HB.out)⟩⟩
  ·rw [if_neg c7] at H
   have c7b0 : (t560 == 0) = false := beq_eq_false_iff_ne.mpr c7
   have c7b1 : (t560 != 0) = true := bne_iff_ne.mpr c7
   (first | rw [c7b0] | (simp only [i64_w, i32_w]; rw [c7b0]) | skip)
   have H' := Aside0.mk H
   clear H
   obtain ⟨HGz10, hgz10⟩ := HI0.out
   have hcz10_0 := cellS106_0 HGz10
   have hcz10_1 := cellS106_1 HGz10
   have hcz10_2 := cellS106_2 HGz10
   have hfz10_0 := blk_frozen HGz10 0
   have hfz10_1 := blk_frozen HGz10 1
   have hfz10_2 := blk_frozen HGz10 2
   clear HGz10 hgz10
   go_wp2
   go_meet
   case rel => exact ⟨_, (false), (by first | rfl | (simp; done) | (simp [*]; done)), H', ⟨by first | omega | exact Nat.le_refl _⟩, ⟨by repeat (first | (with_reducible first | exact HI0.out | apply IsS106.alloc | apply IsS106.drewN | apply IsS106.drew | apply IsS106.set_0 | apply IsS106.set_1 | apply IsS106.set_2) | exact HI0.out)⟩, ⟨by repeat (first | (with_reducible first | exact HK.out | apply KeepBut.set_ | apply keep_drewN | apply keep_drew | apply keep_alloc) | exact HK.out)⟩, ⟨by repeat (first | (with_reducible first | exact HB.out | apply below_alloc | apply pw_below_drewN | apply below_drew1 | refine below_set ?_ (IsS106.ge HI0.out)) | exact HB.out)⟩⟩
 case rest =>
  clear HC5
  try clear p2
  try clear c6
  try clear c7
  try clear c7b0
  try clear c7b1
  try clear c9
  try clear hcz10_0
  try clear hcz10_1
  try clear hcz10_2
  try clear hcz9_0
  try clear hcz9_1
  try clear hcz9_2
  try clear hfz10_0
  try clear hfz10_1
  try clear hfz10_2
  try clear hfz9_0
  try clear hfz9_1
  try clear hfz9_2
  obtain ⟨kq, x22_4, rfl, HA, HJ4, HI0, HK, HB⟩ := hcut
  cases kq with
  | zero => exact absurd HA.out (by simp [api_Verdict__by_codec_ReadVerdicts_1.j0])
  | succ kj4 =>
   have H := HA.out
   clear HA
   simp only [api_Verdict__by_codec_ReadVerdicts_1.j0] at H
   have HC11 := Aside0.mk H
   clear H
   go_upto_if 22 with (fail)
   go_cut [] (fun wc => ∃ (kq : Nat) (x1002_10 : Int), Aside0 (api_Verdict__by_codec_ReadVerdicts_1.j1 kq t557 t558 t559 x1002_10 = some (r1, r2, r3, r4)) ∧ Aside0 (kq ≤ kj4) ∧ Aside0 (IsS106 w0 wc g t558 t559 x1002_10) ∧ Aside0 (KeepBut w wc g none) ∧ Aside0 (Below w0.heap.size w0 wc))
   case first =>
    have H := HC11.out
    clear HC11
    by_cases c12 : x22_4 = true
    ·subst c12
     have H1 : (api_Verdict__by_codec_ReadVerdicts_1.j1 kj4 t557 t558 t559 6) = some (r1, r2, r3, r4) := by rw [if_pos rfl] at H; exact H
     clear H
     have H := H1
     clear H1
     have H' := Aside0.mk H
     clear H
     obtain ⟨HGz13, hgz13⟩ := HI0.out
     have hcz13_0 := cellS106_0 HGz13
     have hcz13_1 := cellS106_1 HGz13
     have hcz13_2 := cellS106_2 HGz13
     have hfz13_0 := blk_frozen HGz13 0
     have hfz13_1 := blk_frozen HGz13 1
     have hfz13_2 := blk_frozen HGz13 2
     clear HGz13 hgz13
     go_wp2
     go_meet
     case rel => exact ⟨_, (6), H', ⟨by have := HJ4.out; first | omega | exact Nat.le_refl _⟩, ⟨by repeat (first | (with_reducible first | exact HI0.out | apply IsS106.alloc | apply IsS106.drewN | apply IsS106.drew | apply IsS106.set_0 | apply IsS106.set_1 | apply IsS106.set_2) | exact HI0.out)⟩, ⟨by repeat (first | (with_reducible first | exact HK.out | apply KeepBut.set_ | apply keep_drewN | apply keep_drew | apply keep_alloc) | exact HK.out)⟩, ⟨by repeat (first | (with_reducible first | exact HB.out | apply below_alloc | apply pw_below_drewN | apply below_drew1 | refine below_set ?_ (IsS106.ge HI0.out)) | exact HB.out)⟩⟩
    ·replace c12 := Bool.eq_false_iff.mpr c12
     subst c12
     have H1 : (api_Verdict__by_codec_ReadVerdicts_1.j1 kj4 t557 t558 t559 t560) = some (r1, r2, r3, r4) := by rw [if_neg (show ¬ (false = true) by decide)] at H; exact H
     clear H
     have H := H1
     clear H1
     have H' := Aside0.mk H
     clear H
     go_wp2
     go_meet
     case rel => exact ⟨_, (t560), H', ⟨by have := HJ4.out; first | omega | exact Nat.le_refl _⟩, ⟨by repeat (first | (with_reducible first | exact HI0.out | apply IsS106.alloc | apply IsS106.drewN | apply IsS106.drew | apply IsS106.set_0 | apply IsS106.set_1 | apply IsS106.set_2) | exact HI0.out)⟩, ⟨by repeat (first | (with_reducible first | exact HK.out | apply KeepBut.set_ | apply keep_drewN | apply keep_drew | apply keep_alloc) | exact HK.out)⟩, ⟨by repeat (first | (with_reducible first | exact HB.out | apply below_alloc | apply pw_below_drewN | apply below_drew1 | refine below_set ?_ (IsS106.ge HI0.out)) | exact HB.out)⟩⟩
   case rest =>
    clear HC11
    try clear c1
    try clear p2
    try clear c6
    try clear c7
    try clear c7b0
    try clear c7b1
    try clear c9
    try clear c12
    try clear hcz10_0
    try clear hcz10_1
    try clear hcz10_2
    try clear hcz13_0
    try clear hcz13_1
    try clear hcz13_2
    try clear hcz9_0
    try clear hcz9_1
    try clear hcz9_2
    try clear hfz10_0
    try clear hfz10_1
    try clear hfz10_2
    try clear hfz13_0
    try clear hfz13_1
    try clear hfz13_2
    try clear hfz9_0
    try clear hfz9_1
    try clear hfz9_2
    try clear p2
    obtain ⟨kq, x1002_10, HA, HJ10, HI0, HK, HB⟩ := hcut
    cases kq with
    | zero => exact absurd HA.out (by simp [api_Verdict__by_codec_ReadVerdicts_1.j1])
    | succ kj10 =>
     have H := HA.out
     clear HA
     simp only [api_Verdict__by_codec_ReadVerdicts_1.j1] at H
     have H' := Aside0.mk H
     clear H
     go_wp2
     go_loopg [8, 9] kj10 (fun kq v8 v9 w' => ∃ (x8_3 : List (S97)) (x9_3 : Int) (x1000_3 : ByteArray) (x1001_3 : Int) (x1002_3 : Int), v9 = .int .i64 x9_3 ∧ Aside0 (api_Verdict__by_codec_ReadVerdicts_1.l0 kq t557 x8_3 x9_3 x1000_3 x1001_3 x1002_3 = some (r1, r2, r3, r4)) ∧ Aside0 (kq ≤ kj10) ∧ Aside0 (Kd.R k97 97 w' w.heap.size (fun _ => True) v8 x8_3) ∧ Aside0 (IsS106 w0 w' g x1000_3 x1001_3 x1002_3) ∧ Aside0 (KeepBut w w' g none) ∧ Aside0 (Below w0.heap.size w0 w'))
     case atStart => exact ⟨(([] : List (S97))), (0), (t558), (t559), (x1002_10), (by first | rfl | (simp; done) | (simp [*]; done)), H', ⟨Nat.le_refl _⟩, ⟨by first | exact Kd.R_nil _ _ _ _ _ | exact Kd.N_nil _ _ _ _ _ | exact Kd.V_nil _ _ _ _ _ | exact Kd.Q_nil _ _ _ _ _ | exact Kd.S_nil _ _ _ _ _⟩, ⟨by repeat (first | (with_reducible first | exact HI0.out | apply IsS106.alloc | apply IsS106.drewN | apply IsS106.drew | apply IsS106.set_0 | apply IsS106.set_1 | apply IsS106.set_2) | exact HI0.out)⟩, ⟨by repeat (first | (with_reducible first | exact HK.out | apply KeepBut.set_ | apply keep_drewN | apply keep_drew | apply keep_alloc) | exact HK.out)⟩, ⟨by repeat (first | (with_reducible first | exact HB.out | apply below_alloc | apply pw_below_drewN | apply below_drew1 | refine below_set ?_ (IsS106.ge HI0.out)) | exact HB.out)⟩⟩
     case round =>
      clear H'
      try clear c1
      try clear p2
      try clear c6
      try clear c7
      try clear c7b0
      try clear c7b1
      try clear c9
      try clear c12
      try clear hcz10_0
      try clear hcz10_1
      try clear hcz10_2
      try clear hcz13_0
      try clear hcz13_1
      try clear hcz13_2
      try clear hcz9_0
      try clear hcz9_1
      try clear hcz9_2
      try clear hfz10_0
      try clear hfz10_1
      try clear hfz10_2
      try clear hfz13_0
      try clear hfz13_1
      try clear hfz13_2
      try clear hfz9_0
      try clear hfz9_1
      try clear hfz9_2
      try clear p2
      obtain ⟨x8_3, x9_3, x1000_3, x1001_3, x1002_3, rfl, HA, HK3, HO_8, HI0, HK, HB⟩ := hrel
      cases gk with
      | zero => exact absurd HA.out (by simp [api_Verdict__by_codec_ReadVerdicts_1.l0])
      | succ k3 =>
       have H := HA.out
       clear HA
       simp only [api_Verdict__by_codec_ReadVerdicts_1.l0] at H
       by_cases c14 : x9_3 < t557
       ·rw [if_pos c14] at H
        have c14b0 : decide (x9_3 < t557) = true := decide_eq_true c14
        clear c14
        by_cases c15 : x1002_3 = 0
        ·rw [if_pos c15] at H
         have c15b0 : (x1002_3 == 0) = true := beq_iff_eq.mpr c15
         have c15b1 : (x1002_3 != 0) = false := bne_eq_false_iff_eq.mpr c15
         clear c15
         replace H := Option.bind_eq_some_iff.mp H
         obtain ⟨⟨t562, t563, t564, t565, t566⟩, A160, H⟩ := H
         replace H : (if x8_3.length < 8796093022208 then (api_Verdict__by_codec_ReadVerdicts_1.l0 k3 t557 (x8_3 ++ [(⟨t562, t563⟩ : S97)]) (wrap64 (x9_3 + 1)) t564 t565 t566) else (none)) = some (r1, r2, r3, r4) := H
         have A16 := Aside0.mk A160
         clear A160
         by_cases c17 : x8_3.length < 8796093022208
         ·rw [if_pos c17] at H
          have LMc17 := Aside0.mk c17
          clear c17
          obtain ⟨y567, hy567⟩ : ∃ y_ : List (S97), y_ = (x8_3 ++ [(⟨t562, t563⟩ : S97)]) := ⟨_, rfl⟩
          replace H : (api_Verdict__by_codec_ReadVerdicts_1.l0 k3 t557 y567 (wrap64 (x9_3 + 1)) t564 t565 t566) = some (r1, r2, r3, r4) := by first | (rw [hy567]; with_reducible exact H) | (have H2_ := (Option.bind_some _ _).symm.trans H; rw [hy567]; with_reducible exact H2_) | (have H2_ := (Option.bind_some _ _).symm.trans H; with_reducible exact H2_) | with_reducible exact H | (rw [hy567]; exact H) | exact H
          have Ny567 := Aside0.mk hy567
          clear hy567
          have H' := Aside0.mk H
          clear H
          obtain ⟨HGz18, hgz18⟩ := HI0.out
          have hcz18_0 := cellS106_0 HGz18
          have hcz18_1 := cellS106_1 HGz18
          have hcz18_2 := cellS106_2 HGz18
          have hfz18_0 := blk_frozen HGz18 0
          have hfz18_1 := blk_frozen HGz18 1
          have hfz18_2 := blk_frozen HGz18 2
          clear HGz18 hgz18
          go_wp2_with (first | ((with_reducible refine gate_dst (N := 41) rfl ?_); refine goesV_ (some 41) rfl rfl Try.func78 (by kernel_rfl) rfl #[.pointer (some ⟨g, 0, none⟩)] rfl (by (try simp only [List.map_toArray, List.map_cons, List.map_nil]); first | done | rfl | (simp only [List.length_drop, List.length_take]; rfl)) ?_; (with_reducible refine (codec_ReadVerdicts_1.calls k3 g x1000_3 x1001_3 x1002_3 t562 t563 t564 t565 t566 w0 _ ?side1 ?side2 A16.out).mono ?_); (case side1 => repeat (first | (with_reducible first | exact HI0.out | apply IsS106.alloc | apply IsS106.drewN | apply IsS106.drew | apply IsS106.set_0 | apply IsS106.set_1 | apply IsS106.set_2) | exact HI0.out)); (case side2 => repeat (first | (with_reducible first | exact HB.out | apply below_alloc | apply pw_below_drewN | apply below_drew1 | refine below_set ?_ (IsS106.ge HI0.out)) | exact HB.out)); rintro e w19 ⟨rfl, hi, hb, hk⟩; refine ⟨_, rfl, ?_⟩; have n0_ := Aside0.mk (Kd.R_mono (Kd.R_keep (IsS106.apart (show IsS106 w0 _ g x1000_3 x1001_3 x1002_3 from by repeat (first | (with_reducible first | exact HI0.out | apply IsS106.alloc | apply IsS106.drewN | apply IsS106.drew | apply IsS106.set_0 | apply IsS106.set_1 | apply IsS106.set_2) | exact HI0.out)) (by (with_reducible repeat (first | apply Kd.R_alloc | apply Kd.R_drewN | apply Kd.R_drew)); exact HO_8.out) (by decide)) hk (fun _ h => h.2)) (fun _ h => h.1)); have n1_ := Aside0.mk (KeepBut.trans (by repeat (first | (with_reducible first | exact HK.out | apply KeepBut.set_ | apply keep_drewN | apply keep_drew | apply keep_alloc) | exact HK.out)) hk (.inl rfl)); have n2_ := Aside0.mk (hb); have n3_ := Aside0.mk (hi); clear HO_8; clear HK; clear HB; clear HI0; have HO_8 := n0_; have HK := n1_; have HB := n2_; have HI0 := n3_; clear n0_ n1_ n2_ n3_; (try clear hb); (try clear hb2); (try clear hk); (try clear hi)) | ((with_reducible refine gate_builtin (b := .append) (xs := #[.tmp 38, .tmp 42]) rfl ?_); at_builtin; refine Kd.R_append k97 w.heap.size rfl (.tmp 38) (.tmp 42) 43 97 (.agg #[(.int .i64 0), (.int .i64 0)]) 16 rfl Try.underlying43 info97 rfl (by decide) (by omega) u8 x8_3 (⟨t562, t563⟩ : S97) [.int .i64 t562, .int .i64 t563] (fun _ => True) (fun _ => False) rfl rfl ?aP (fun _ hk => hk.elim) ?aF ?aO (Below.refl _ _) ?aS ?aL ?_; (case aP => exact k97_mkM _ _ _ (⟨t562, t563⟩ : S97)); (case aF => exact (fun _ _ => trivial)); (case aO => exact (by (with_reducible repeat (first | apply Kd.R_alloc | apply Kd.R_drewN | apply Kd.R_drew)); exact HO_8.out)); (case aS => exact (keep_size (w := w) (g := g) (row := none) (by repeat (first | (with_reducible first | exact HK.out | apply KeepBut.set_ | apply keep_drewN | apply keep_drew | apply keep_alloc) | exact HK.out)))); (case aL => have := LMc17.out; omega); intro v568 w20 ho hb hg hat; rw [← Ny567.out] at ho; have n0_ := Aside0.mk (IsS106.grown (by repeat (first | (with_reducible first | exact HI0.out | apply IsS106.alloc | apply IsS106.drewN | apply IsS106.drew | apply IsS106.set_0 | apply IsS106.set_1 | apply IsS106.set_2) | exact HI0.out)) hg (IsS106.own_ne HI0.out HO_8.out (by decide))); have n1_ := Aside0.mk (below_weaken (by repeat (first | (with_reducible first | exact HB.out | apply below_alloc | apply pw_below_drewN | apply below_drew1 | refine below_set ?_ (IsS106.ge HI0.out)) | exact HB.out)) HL.out hb); have n2_ := Aside0.mk (KeepBut.trans (by repeat (first | (with_reducible first | exact HK.out | apply KeepBut.set_ | apply keep_drewN | apply keep_drew | apply keep_alloc) | exact HK.out)) (KeepBut.of_grown hg g) (Kd.R_base2 HO_8.out)); have n3_ := Aside0.mk (ho); clear HI0; clear HB; clear HK; clear HO_8; have HI0 := n0_; have HB := n1_; have HK := n2_; have HO569 := n3_; clear n0_ n1_ n2_ n3_; clear ho hb hg hat))
          go_roundg k3
          case measure => have := HJ4.out; have := HJ10.out; have := HK3.out; omega
          case rel => exact ⟨(y567), (wrap64 (x9_3 + 1)), (t564), (t565), (t566), (by first | rfl | (simp; done) | (simp [*]; done)), H', ⟨by have := HJ4.out; have := HJ10.out; have := HK3.out; omega⟩, ⟨by (with_reducible repeat (first | apply Kd.R_alloc | apply Kd.R_drewN | apply Kd.R_drew)); exact HO569.out⟩, ⟨by repeat (first | (with_reducible first | exact HI0.out | apply IsS106.alloc | apply IsS106.drewN | apply IsS106.drew | apply IsS106.set_0 | apply IsS106.set_1 | apply IsS106.set_2) | exact HI0.out)⟩, ⟨by repeat (first | (with_reducible first | exact HK.out | apply KeepBut.set_ | apply keep_drewN | apply keep_drew | apply keep_alloc) | exact HK.out)⟩, ⟨by repeat (first | (with_reducible first | exact HB.out | apply below_alloc | apply pw_below_drewN | apply below_drew1 | refine below_set ?_ (IsS106.ge HI0.out)) | exact HB.out)⟩⟩
         ·rw [if_neg c17] at H
          exact absurd H (by simp)
        ·rw [if_neg c15] at H
         have c15b0 : (x1002_3 == 0) = false := beq_eq_false_iff_ne.mpr c15
         have c15b1 : (x1002_3 != 0) = true := bne_iff_ne.mpr c15
         simp only [Option.some.injEq, Prod.mk.injEq] at H
         obtain ⟨rfl, rfl, rfl, rfl⟩ := H
         obtain ⟨HGz21, hgz21⟩ := HI0.out
         have hcz21_0 := cellS106_0 HGz21
         have hcz21_1 := cellS106_1 HGz21
         have hcz21_2 := cellS106_2 HGz21
         have hfz21_0 := blk_frozen HGz21 0
         have hfz21_1 := blk_frozen HGz21 1
         have hfz21_2 := blk_frozen HGz21 2
         clear HGz21 hgz21
         go_wp2
         go_ret
         exact ⟨_, by first | rfl | (simp [errW_none, errW_some] <;> rfl) | (simp [*, errW_none, errW_some] <;> rfl), by (with_reducible repeat (first | apply Kd.R_alloc | apply Kd.R_drewN | apply Kd.R_drew)); exact HO_8.out, by repeat (first | (with_reducible first | exact HI0.out | apply IsS106.alloc | apply IsS106.drewN | apply IsS106.drew | apply IsS106.set_0 | apply IsS106.set_1 | apply IsS106.set_2) | exact HI0.out), by repeat (first | (with_reducible first | exact HB.out | apply below_alloc | apply pw_below_drewN | apply below_drew1 | refine below_set ?_ (IsS106.ge HI0.out)) | exact HB.out), by repeat (first | (with_reducible first | exact HK.out | apply KeepBut.set_ | apply keep_drewN | apply keep_drew | apply keep_alloc) | exact HK.out)⟩
       ·rw [if_neg c14] at H
        have c14b0 : decide (x9_3 < t557) = false := decide_eq_false c14
        clear c14
        simp only [Option.some.injEq, Prod.mk.injEq] at H
        obtain ⟨rfl, rfl, rfl, rfl⟩ := H
        go_wp2
        go_ret
        exact ⟨_, by first | rfl | (simp [errW_none, errW_some] <;> rfl) | (simp [*, errW_none, errW_some] <;> rfl), by (with_reducible repeat (first | apply Kd.R_alloc | apply Kd.R_drewN | apply Kd.R_drew)); exact HO_8.out, by repeat (first | (with_reducible first | exact HI0.out | apply IsS106.alloc | apply IsS106.drewN | apply IsS106.drew | apply IsS106.set_0 | apply IsS106.set_1 | apply IsS106.set_2) | exact HI0.out), by repeat (first | (with_reducible first | exact HB.out | apply below_alloc | apply pw_below_drewN | apply below_drew1 | refine below_set ?_ (IsS106.ge HI0.out)) | exact HB.out), by repeat (first | (with_reducible first | exact HK.out | apply KeepBut.set_ | apply keep_drewN | apply keep_drew | apply keep_alloc) | exact HK.out)⟩
def codec_ReadVerdicts.f (k : Nat) (a0 : ByteArray) (a1 : Int) : Option (List S97 × Int × Int) := (api_Verdict__by_codec_ReadVerdicts_1.f k a0 a1 0 32).bind fun t => if t.2.2.2 = 0 then (codec_verdicts.f k t.1).bind fun b => if b = true then some (t.1, t.2.2.1, 0) else some ([], 0, 6) else some ([], 0, t.2.2.2)
theorem codec_ReadVerdicts.calls (k : Nat) (a0 : ByteArray) (a1 : Int) (r1 : List S97) (r2 : Int) (r3 : Int) (w : World) (h : codec_ReadVerdicts.f k a0 a1 = some (r1, r2, r3)) :
  Calls Try.prog 31 #[.string a0, .int .i64 a1] w fun e w' => ∃ v0_ : Value, e = .returned (.tuple #[v0_, .int .i64 r2, .int .i64 r3]) ∧ Kd.R k97 97 w' w.heap.size (fun _ => True) v0_ r1 ∧ Below w.heap.size w w' := by
 unfold codec_ReadVerdicts.f at h
 rw [Option.bind_eq_some_iff] at h
 obtain ⟨⟨x1, x2, x3, x4⟩, hx, h⟩ := h
 replace h : (if x4 = 0 then (codec_verdicts.f k x1).bind fun b => if b = true then some (x1, x3, (0 : Int)) else some ([], 0, 6) else some ([], 0, x4)) = some (r1, r2, r3) := h
 have HX := Aside0.mk hx
 clear hx
 by_cases c0 : x4 = 0
 ·subst c0
  rw [if_pos rfl, Option.bind_eq_some_iff] at h
  obtain ⟨b, hb, h⟩ := h
  have HOK := Aside0.mk hb
  clear hb
  cases b with
  | true =>
   rw [if_pos rfl] at h
   simp only [Option.some.injEq, Prod.mk.injEq] at h
   obtain ⟨rfl, rfl, rfl⟩ := h
   go_enter Try.func31, Try.ntmps31
   go_wp2_with (first | (go_at_call 77; refine (api_Verdict__by_codec_ReadVerdicts_1.calls k w.heap.size a0 a1 0 32 x1 x2 x3 _ w _ (IsS106.new w w a0 a1 0 (Below.refl _ _)) (below_alloc (Below.refl _ _) _) HX.out).mono ?_; rintro e w1 ⟨v0, rfl, hR, hI, hB, hK⟩; obtain ⟨A, c, rfl, hl, hC⟩ := Kd.R_reads hR; have HR := Aside0.mk (IsS106.apart hI (Kd.R_lower hR (Below.size (below_alloc (Below.refl w.heap.size w) _))) (by decide)); have HI := Aside0.mk hI; have HB := Aside0.mk hB; have HL := Aside0.mk hl; have HC := Aside0.mk hC; clear hR hI hB hK hl hC) | (go_at_call 76; refine (end_verdicts_true k w.heap.size x2 x3 A c x1 w _ HI.out HB.out HC.out HL.out HOK.out).mono ?_; rintro e w2 ⟨rfl, hI2, hB2, hK2⟩; have HB2 := Aside0.mk hB2; have HK2 := Aside0.mk hK2; clear hI2 hB2 hK2))
   go_ret3
   exact ⟨_, rfl, Kd.R_mono (Kd.R_keep HR.out HK2.out (fun _ hk => hk.2)) (fun _ _ => trivial), HB2.out⟩
  | false =>
   rw [if_neg (by decide)] at h
   simp only [Option.some.injEq, Prod.mk.injEq] at h
   obtain ⟨rfl, rfl, rfl⟩ := h
   go_enter Try.func31, Try.ntmps31
   go_wp2_with (first | (go_at_call 77; refine (api_Verdict__by_codec_ReadVerdicts_1.calls k w.heap.size a0 a1 0 32 x1 x2 x3 _ w _ (IsS106.new w w a0 a1 0 (Below.refl _ _)) (below_alloc (Below.refl _ _) _) HX.out).mono ?_; rintro e w1 ⟨v0, rfl, hR, hI, hB, hK⟩; obtain ⟨A, c, rfl, hl, hC⟩ := Kd.R_reads hR; have HR := Aside0.mk (IsS106.apart hI (Kd.R_lower hR (Below.size (below_alloc (Below.refl w.heap.size w) _))) (by decide)); have HI := Aside0.mk hI; have HB := Aside0.mk hB; have HL := Aside0.mk hl; have HC := Aside0.mk hC; clear hR hI hB hK hl hC) | (go_at_call 76; refine (end_verdicts_false k w.heap.size x2 x3 A c x1 w _ HI.out HB.out HC.out HL.out HOK.out).mono ?_; rintro e w2 ⟨rfl, hI2, hB2, hK2⟩; have HB2 := Aside0.mk hB2; have HK2 := Aside0.mk hK2; clear hI2 hB2 hK2))
   go_ret3
   exact ⟨_, rfl, Kd.R_nil _ _ _ _ _, HB2.out⟩
 ·rw [if_neg c0] at h
  simp only [Option.some.injEq, Prod.mk.injEq] at h
  obtain ⟨rfl, rfl, rfl⟩ := h
  have C0 := Aside0.mk c0
  clear c0
  go_enter Try.func31, Try.ntmps31
  go_wp2_with (first | (go_at_call 77; refine (api_Verdict__by_codec_ReadVerdicts_1.calls k w.heap.size a0 a1 0 32 x1 x2 x3 _ w _ (IsS106.new w w a0 a1 0 (Below.refl _ _)) (below_alloc (Below.refl _ _) _) HX.out).mono ?_; rintro e w1 ⟨v0, rfl, hR, hI, hB, hK⟩; obtain ⟨A, c, rfl, hl, hC⟩ := Kd.R_reads hR; have HR := Aside0.mk (IsS106.apart hI (Kd.R_lower hR (Below.size (below_alloc (Below.refl w.heap.size w) _))) (by decide)); have HI := Aside0.mk hI; have HB := Aside0.mk hB; have HL := Aside0.mk hl; have HC := Aside0.mk hC; clear hR hI hB hK hl hC) | (go_at_call 76; refine (end_verdicts_err k w.heap.size x2 x3 A c x1 w _ x4 C0.out HI.out HB.out HC.out HL.out).mono ?_; rintro e w2 ⟨rfl, hI2, hB2, hK2⟩; have HB2 := Aside0.mk hB2; have HK2 := Aside0.mk hK2; clear hI2 hB2 hK2))
  go_ret3
  exact ⟨_, rfl, Kd.R_nil _ _ _ _ _, HB2.out⟩
def zig (n : Int) : Nat := if n < 0 then (-2 * n - 1).toNat else (2 * n).toNat
def digL : Nat → Nat → List Nat
 | 0, _ => []
 | f + 1, u => if u < 128 then [u] else (u % 128 + 128) :: digL f (u / 128)
def ints (l : List Nat) : List Int := l.map fun (n : Nat) => (n : Int)
def numB (n : Int) : ByteArray := strOfNums (ints (digL 10 (zig n)))
theorem zig_lt (n : Int) (h0 : -9223372036854775808 ≤ n) (h1 : n ≤ 9223372036854775807) : zig n < 18446744073709551616 := by
 unfold zig
 split <;> omega
def varint_Number.f (a0 : Int) : Option ByteArray := if -9223372036854775808 ≤ a0 ∧ a0 ≤ 9223372036854775807 then some (numB a0) else none
theorem xor_max64 (x : Nat) (hx : x < 18446744073709551616) : Go.bits .xor .u64 18446744073709551615 (x : Int) = 18446744073709551615 - (x : Int) := by
 have h64 : (18446744073709551615 ^^^ x : Nat) = 18446744073709551615 - x := by
  have : (18446744073709551615 : Nat) = 2 ^ 64 - 1 := rfl
  rw [this]
  apply Nat.eq_of_testBit_eq
  intro j
  rw [Nat.testBit_xor, Nat.testBit_two_pow_sub_one, Nat.sub_sub, Nat.add_comm 1 x, Nat.testBit_two_pow_sub_succ (by omega)]
  by_cases hj : j < 64
  ·simp [hj]
  ·have : x.testBit j = false := Nat.testBit_lt_two_pow (Nat.lt_of_lt_of_le hx (Nat.pow_le_pow_right (n := 2) (i := 64) (j := j) (by decide) (by omega)))
   simp [hj, this]
 have e1 : (18446744073709551615 : Int) = ((18446744073709551615 : Nat) : Int) := rfl
 unfold Go.bits
 rw [e1]
 simp only [BitVec.ofInt_natCast, BitVec.toNat_xor, BitVec.toNat_ofNat]
 have e2 : x % 2 ^ IntKind.u64.bits = x := Nat.mod_eq_of_lt hx
 have e3 : 18446744073709551615 % 2 ^ IntKind.u64.bits = 18446744073709551615 := by decide
 rw [e2, e3, h64]
 have : IntKind.u64.wrap ((18446744073709551615 - x : Nat) : Int) = ((18446744073709551615 - x : Nat) : Int) := by
  simp [IntKind.wrap, IntKind.bits, IntKind.signed]
  omega
 rw [this]
 omega
theorem or128 (u : Nat) : Go.bits .or .u8 ((u : Int) % 256) 128 = ((u % 128 + 128 : Nat) : Int) := by
 have h := (bits_nat .u8 8 (by decide) wraps_u8 (u % 256) 128 (by omega) (by omega)).2
 have e : ((u % 256 : Nat) : Int) = (u : Int) % 256 := by omega
 rw [e] at h
 have e2 : ((128 : Nat) : Int) = 128 := rfl
 rw [e2] at h
 rw [h]
 have h2 : u % 256 ||| 128 = u % 128 + 128 := by
  have h3 : u % 128 + 128 = 128 ||| u % 128 := by
   have := Nat.two_pow_add_eq_or_of_lt (i := 7) (show u % 128 < 2 ^ 7 by omega) 1
   rw [Nat.mul_one] at this
   have e7 : (2 : Nat) ^ 7 = 128 := rfl
   rw [e7] at this
   omega
  rw [h3]
  apply Nat.eq_of_testBit_eq
  intro j
  rw [Nat.testBit_or, Nat.testBit_or]
  have e256 : (256 : Nat) = 2 ^ 8 := rfl
  have e128 : (128 : Nat) = 2 ^ 7 := rfl
  rw [e256, e128, Nat.testBit_mod_two_pow, Nat.testBit_mod_two_pow, Nat.testBit_two_pow]
  by_cases h7 : j = 7
  ·subst h7; simp
  ·by_cases hj : j < 7
   ·simp [hj, show j < 8 by omega, Bool.or_comm]
   ·simp [hj, show ¬ j < 8 by omega]
 rw [h2]
def u8s (t : List Int) : Array Value := (t.map (Value.int .u8)).toArray
def tens (pre : List Nat) : List Int := ints pre ++ List.replicate (10 - pre.length) 0
theorem tens_length (pre : List Nat) (h : pre.length ≤ 10) : (tens pre).length = 10 := by simp [tens, ints]; omega
theorem tens_set (pre : List Nat) (x : Nat) (h : pre.length < 10) : (u8s (tens pre)).setIfInBounds pre.length (.int .u8 (x : Int)) = u8s (tens (pre ++ [x])) := by
 have e : (tens pre).set pre.length (x : Int) = tens (pre ++ [x]) := by
  have h2 : (ints pre).length = pre.length := by simp [ints]
  have h3 : 10 - pre.length = (10 - (pre.length + 1)) + 1 := by omega
  unfold tens
  rw [List.set_append_right _ _ (by omega), h2, Nat.sub_self, h3, List.replicate_succ, List.set_cons_zero]
  simp [ints]
 rw [← e]
 simp [u8s, List.map_set]
theorem u8s_cell {w : World} {b T : Nat} {t : List Int} (hb : w.heap[b]? = some (.cells (u8s t) T (0, 0))) (i : Nat) (hi : i < t.length) : w.cell? ⟨b, i, none⟩ = some (.int .u8 (t.getD i 0)) := by
 rw [cell_of_row w b i _ T _ hb]
 simp [u8s, hi]
theorem u8s_zero : u8s (tens []) = #[.int .u8 0, .int .u8 0, .int .u8 0, .int .u8 0, .int .u8 0, .int .u8 0, .int .u8 0, .int .u8 0, .int .u8 0, .int .u8 0] := by
 simp [u8s, tens, ints, List.replicate_succ]
theorem wrap_u64 (n : Int) : IntKind.u64.wrap n = n % 18446744073709551616 := by simp [IntKind.wrap, IntKind.bits, IntKind.signed]
theorem zig_pos (n : Int) (h0 : ¬ n < 0) (h1 : n ≤ 9223372036854775807) : IntKind.u64.wrap (IntKind.u64.wrap n * 2) = ((zig n : Nat) : Int) := by
 rw [wrap_u64, wrap_u64, zig, if_neg h0]
 omega
theorem zig_neg (n : Int) (h0 : n < 0) (h1 : -9223372036854775808 ≤ n) : Go.bits .xor .u64 IntKind.u64.max (IntKind.u64.wrap (IntKind.u64.wrap n * 2)) = ((zig n : Nat) : Int) := by
 have e : IntKind.u64.wrap (IntKind.u64.wrap n * 2) = (((2 * n + 18446744073709551616).toNat : Nat) : Int) := by
  rw [wrap_u64, wrap_u64]
  omega
 have e2 : IntKind.u64.max = 18446744073709551615 := rfl
 rw [e, e2, xor_max64 _ (by omega), zig, if_pos h0]
 omega
def Room (u m : Nat) : Prop := u < 2 ^ (64 - 7 * m)
theorem Room.next {u m : Nat} (h : Room u m) (hu : 128 ≤ u) : m ≤ 8 ∧ Room (u / 128) (m + 1) := by
 unfold Room at *
 have hm : m ≤ 8 := by
  rcases Nat.lt_or_ge m 9 with h9 | h9
  ·omega
  ·have : 2 ^ (64 - 7 * m) ≤ 2 ^ 1 := Nat.pow_le_pow_right (by decide) (by omega)
   omega
 refine ⟨hm, ?_⟩
 have e : 64 - 7 * m = (64 - 7 * (m + 1)) + 7 := by omega
 rw [e, Nat.pow_add] at h
 have : u / 128 < 2 ^ (64 - 7 * (m + 1)) := Nat.div_lt_of_lt_mul (by rw [Nat.mul_comm]; exact h)
 exact this
theorem digL_more (f u : Nat) (h : 128 ≤ u) : digL (f + 1) u = (u % 128 + 128) :: digL f (u / 128) := by rw [digL, if_neg (by omega)]
theorem digL_last (f u : Nat) (h : u < 128) : digL (f + 1) u = [u] := by rw [digL, if_pos h]
theorem array_len : Try.prog.arrayLen 141 = 10 := by kernel_rfl
theorem array_elem (W : World) : (sizeOf (Try.prog.elem 141)).run Try.prog W = .ok 1 W := by kernel_rfl
theorem slice_ten (g m : Nat) (hm : m < 10) (W : World) : (Instr.sliceAt 141 (.pointer (some ⟨g, 0, none⟩)) none (some (.int .i64 ((m : Int) + 1))) none).run Try.prog W = .ok (.slice (some ⟨g, 0, none⟩) (m + 1) 10) W := by
 have h := run_sliceAt_array_h (P := Try.prog) W 141 ⟨g, 0, none⟩ Try.underlying141 .i64 ((m : Int) + 1) (by omega) (by rw [array_len]; omega)
 have e : ((m : Int) + 1).toNat = m + 1 := by omega
 rw [h, array_len, e, array_elem]
 simp [slicedAt]
 exact add_plain g 0
set_option maxHeartbeats 2000000 in
theorem varint_Number.calls (a0 : Int) (r : ByteArray) (w : World) (h : varint_Number.f a0 = some r) :
  Calls Try.prog 87 #[.int .i64 a0] w fun e w' => e = .returned (.string r) ∧ Below w.heap.size w w' := by
 unfold varint_Number.f at h
 split at h
 case isFalse => cases h
 case isTrue hr =>
 obtain rfl := Option.some.inj h
 have HR := Aside0.mk hr
 have HZ := Aside0.mk (zig_lt a0 hr.1 hr.2)
 have HP := Aside0.mk (fun h => zig_pos a0 h hr.2)
 have HN := Aside0.mk (fun h => zig_neg a0 h hr.1)
 clear hr h
 unfold numB
 generalize zig a0 = z at HZ HP HN
 by_cases hn : a0 < 0
 ·have HE := Aside0.mk (HN.out hn)
  go_enter Try.func87, Try.ntmps87
  go_wp2
  rw [HE.out]
  clear HE HN HP HR
  rw [← u8s_zero]
  have HB0 := Aside0.mk (below_alloc (Below.refl w.heap.size w) (.cells (u8s (tens [])) 141))
  go_loopg [3, 5] 10 (fun kq v3 v5 wr => ∃ (u : Nat) (pre : List Nat), v3 = .int .u64 u ∧ v5 = .int .i64 pre.length ∧ Aside0 (pre.length + kq = 10 ∧ 1 ≤ kq ∧ Room u pre.length) ∧ Aside0 (digL 10 z = pre ++ digL kq u) ∧ Aside0 (wr.heap[w.heap.size]? = some (.cells (u8s (tens pre)) 141 (0, 0))) ∧ Aside0 (Below w.heap.size w wr))
  case atStart => exact ⟨z, [], rfl, rfl, ⟨rfl, by decide, HZ.out⟩, ⟨rfl⟩, ⟨heap_alloc_new w _⟩, HB0⟩
  case round =>
   clear HB0 HZ
   obtain ⟨u, pre, rfl, rfl, HK, HD, HO, HW⟩ := hrel
   obtain ⟨kq, rfl⟩ : ∃ m, gk = m + 1 := ⟨gk - 1, by have := HK.out; omega⟩
   obtain ⟨m, hm⟩ : ∃ m, m = pre.length := ⟨_, rfl⟩
   rw [← hm]
   have hm10 : m < 10 := by have := HK.out; omega
   have hc2 := u8s_cell HO.out m (by rw [tens_length pre (by omega)]; exact hm10)
   have hf2 := blk_frozen HO.out m
   have HMm := Aside0.mk hm
   clear hm
   by_cases hu : 128 ≤ u
   ·have HV : Aside0 (Go.bits .or .u8 ((u : Int) % 256) 128 = ((u % 128 + 128 : Nat) : Int)) := ⟨or128 u⟩
    go_wp2
    have hroom := HK.out.2.2.next hu
    have HO1 : Aside0 ((wr.setCell ⟨w.heap.size, m, none⟩ (.int .u8 (Go.bits .or .u8 ((u : Int) % 256) 128))).heap[w.heap.size]? = some (.cells (u8s (tens (pre ++ [u % 128 + 128]))) 141 (0, 0))) := ⟨by
     rw [HV.out, HMm.out, ← tens_set pre _ (by rw [← HMm.out]; exact hm10)]
     exact blk_set HO.out _ _⟩
    have HW1 : Aside0 (Below w.heap.size w (wr.setCell ⟨w.heap.size, m, none⟩ (.int .u8 (Go.bits .or .u8 ((u : Int) % 256) 128)))) := ⟨below_set HW.out (Nat.le_refl _)⟩
    have hlen : (pre ++ [u % 128 + 128]).length = m + 1 := by rw [List.length_append, ← HMm.out]; rfl
    have hk1 : 1 ≤ kq := by have := HK.out; have := HMm.out; omega
    obtain ⟨k2, rfl⟩ : ∃ k2, kq = k2 + 1 := ⟨kq - 1, by omega⟩
    go_roundg (k2 + 1)
    case measure => omega
    case rel => exact ⟨u / 128, pre ++ [u % 128 + 128], by go_num, by rw [hlen]; go_num, ⟨by rw [hlen]; have := HK.out; have := HMm.out; omega, by omega, by rw [hlen, HMm.out]; exact hroom.2⟩, ⟨by rw [HD.out, digL_more _ _ hu, List.append_assoc]; rfl⟩, HO1, HW1⟩
   ·have hsl := slice_ten w.heap.size m hm10 (wr.setCell ⟨w.heap.size, m, none⟩ (.int .u8 (u : Int)))
    have hcs : (convert 74 9 (.slice (some ⟨w.heap.size, 0, none⟩) (m + 1) 10)).run Try.prog (wr.setCell ⟨w.heap.size, m, none⟩ (.int .u8 (u : Int))) = .ok (.string (strOfNums (ints (pre ++ [u])))) (wr.setCell ⟨w.heap.size, m, none⟩ (.int .u8 (u : Int))) := by
     have hlen : (pre ++ [u]).length = m + 1 := by rw [List.length_append, ← HMm.out]; rfl
     refine run_convert_bytes_arg _ 74 5 Try.underlying74 Try.underlying5 w.heap.size 0 (m + 1) 10 (ints (pre ++ [u])) (by rw [ints, List.length_map, hlen]) (fun i hi => ?_) 9 Try.underlying9
     have hb : (wr.setCell ⟨w.heap.size, m, none⟩ (.int .u8 (u : Int))).heap[w.heap.size]? = some (.cells (u8s (tens (pre ++ [u]))) 141 (0, 0)) := by
      rw [HMm.out, ← tens_set pre u (by rw [← HMm.out]; exact hm10)]
      exact blk_set HO.out _ _
     rw [Nat.zero_add, u8s_cell hb i (by rw [tens_length _ (by omega)]; omega)]
     congr 2
     simp only [List.getD_eq_getElem?_getD, tens]
     rw [List.getElem?_append_left (by rw [ints, List.length_map, hlen]; exact hi)]
    have HU := Aside0.mk hu
    have HC := Aside0.mk hcs
    clear hcs
    have hcs := HC.out
    go_wp2
    go_ret
    refine ⟨ret_str ?_, below_set HW.out (Nat.le_refl _)⟩
    rw [HD.out, digL_last _ _ (by have := HU.out; omega)]
 ·have HE := Aside0.mk (HP.out hn)
  go_enter Try.func87, Try.ntmps87
  go_wp2
  rw [HE.out]
  clear HE HN HP HR
  rw [← u8s_zero]
  have HB0 := Aside0.mk (below_alloc (Below.refl w.heap.size w) (.cells (u8s (tens [])) 141))
  go_loopg [3, 5] 10 (fun kq v3 v5 wr => ∃ (u : Nat) (pre : List Nat), v3 = .int .u64 u ∧ v5 = .int .i64 pre.length ∧ Aside0 (pre.length + kq = 10 ∧ 1 ≤ kq ∧ Room u pre.length) ∧ Aside0 (digL 10 z = pre ++ digL kq u) ∧ Aside0 (wr.heap[w.heap.size]? = some (.cells (u8s (tens pre)) 141 (0, 0))) ∧ Aside0 (Below w.heap.size w wr))
  case atStart => exact ⟨z, [], rfl, rfl, ⟨rfl, by decide, HZ.out⟩, ⟨rfl⟩, ⟨heap_alloc_new w _⟩, HB0⟩
  case round =>
   clear HB0 HZ
   obtain ⟨u, pre, rfl, rfl, HK, HD, HO, HW⟩ := hrel
   obtain ⟨kq, rfl⟩ : ∃ m, gk = m + 1 := ⟨gk - 1, by have := HK.out; omega⟩
   obtain ⟨m, hm⟩ : ∃ m, m = pre.length := ⟨_, rfl⟩
   rw [← hm]
   have hm10 : m < 10 := by have := HK.out; omega
   have hc2 := u8s_cell HO.out m (by rw [tens_length pre (by omega)]; exact hm10)
   have hf2 := blk_frozen HO.out m
   have HMm := Aside0.mk hm
   clear hm
   by_cases hu : 128 ≤ u
   ·have HV : Aside0 (Go.bits .or .u8 ((u : Int) % 256) 128 = ((u % 128 + 128 : Nat) : Int)) := ⟨or128 u⟩
    go_wp2
    have hroom := HK.out.2.2.next hu
    have HO1 : Aside0 ((wr.setCell ⟨w.heap.size, m, none⟩ (.int .u8 (Go.bits .or .u8 ((u : Int) % 256) 128))).heap[w.heap.size]? = some (.cells (u8s (tens (pre ++ [u % 128 + 128]))) 141 (0, 0))) := ⟨by
     rw [HV.out, HMm.out, ← tens_set pre _ (by rw [← HMm.out]; exact hm10)]
     exact blk_set HO.out _ _⟩
    have HW1 : Aside0 (Below w.heap.size w (wr.setCell ⟨w.heap.size, m, none⟩ (.int .u8 (Go.bits .or .u8 ((u : Int) % 256) 128)))) := ⟨below_set HW.out (Nat.le_refl _)⟩
    have hlen : (pre ++ [u % 128 + 128]).length = m + 1 := by rw [List.length_append, ← HMm.out]; rfl
    have hk1 : 1 ≤ kq := by have := HK.out; have := HMm.out; omega
    obtain ⟨k2, rfl⟩ : ∃ k2, kq = k2 + 1 := ⟨kq - 1, by omega⟩
    go_roundg (k2 + 1)
    case measure => omega
    case rel => exact ⟨u / 128, pre ++ [u % 128 + 128], by go_num, by rw [hlen]; go_num, ⟨by rw [hlen]; have := HK.out; have := HMm.out; omega, by omega, by rw [hlen, HMm.out]; exact hroom.2⟩, ⟨by rw [HD.out, digL_more _ _ hu, List.append_assoc]; rfl⟩, HO1, HW1⟩
   ·have hsl := slice_ten w.heap.size m hm10 (wr.setCell ⟨w.heap.size, m, none⟩ (.int .u8 (u : Int)))
    have hcs : (convert 74 9 (.slice (some ⟨w.heap.size, 0, none⟩) (m + 1) 10)).run Try.prog (wr.setCell ⟨w.heap.size, m, none⟩ (.int .u8 (u : Int))) = .ok (.string (strOfNums (ints (pre ++ [u])))) (wr.setCell ⟨w.heap.size, m, none⟩ (.int .u8 (u : Int))) := by
     have hlen : (pre ++ [u]).length = m + 1 := by rw [List.length_append, ← HMm.out]; rfl
     refine run_convert_bytes_arg _ 74 5 Try.underlying74 Try.underlying5 w.heap.size 0 (m + 1) 10 (ints (pre ++ [u])) (by rw [ints, List.length_map, hlen]) (fun i hi => ?_) 9 Try.underlying9
     have hb : (wr.setCell ⟨w.heap.size, m, none⟩ (.int .u8 (u : Int))).heap[w.heap.size]? = some (.cells (u8s (tens (pre ++ [u]))) 141 (0, 0)) := by
      rw [HMm.out, ← tens_set pre u (by rw [← HMm.out]; exact hm10)]
      exact blk_set HO.out _ _
     rw [Nat.zero_add, u8s_cell hb i (by rw [tens_length _ (by omega)]; omega)]
     congr 2
     simp only [List.getD_eq_getElem?_getD, tens]
     rw [List.getElem?_append_left (by rw [ints, List.length_map, hlen]; exact hi)]
    have HU := Aside0.mk hu
    have HC := Aside0.mk hcs
    clear hcs
    have hcs := HC.out
    go_wp2
    go_ret
    refine ⟨ret_str ?_, below_set HW.out (Nat.le_refl _)⟩
    rw [HD.out, digL_last _ _ (by have := HU.out; omega)]
def varint_Text.f (a0 : ByteArray) : Option (ByteArray × Int) := if (a0.size : Int) > 4096 then (some ((⟨#[]⟩ : ByteArray), 4)) else ((varint_Number.f (a0.size : Int)).bind fun t102 => (if t102.size + a0.size ≤ 9223372036854775807 then (some (t102 ++ a0, 0)) else (none)))
theorem varint_Text.calls (a0 : ByteArray) (r1 : ByteArray) (r2 : Int) (w : World) (h : varint_Text.f a0 = some (r1, r2)) :
  Calls Try.prog 86 #[.string a0] w fun e w' => e = .returned (.tuple #[.string r1, .int .i64 r2]) ∧ Below w.heap.size w w' := by
 have HB := Aside0.mk (Below.refl w.heap.size w)
 have H : (if (a0.size : Int) > 4096 then (some ((⟨#[]⟩ : ByteArray), 4)) else ((varint_Number.f (a0.size : Int)).bind fun t102 => (if t102.size + a0.size ≤ 9223372036854775807 then (some (t102 ++ a0, 0)) else (none)))) = some (r1, r2) := h
 clear h
 by_cases c2 : (a0.size : Int) > 4096
 ·rw [if_pos c2] at H
  have c2b0 : decide (4096 < (a0.size : Int)) = true := decide_eq_true c2
  have c2b1 : decide (4096 < a0.size) = true := decide_eq_true (by omega)
  clear c2
  simp only [Option.some.injEq, Prod.mk.injEq] at H
  obtain ⟨rfl, rfl⟩ := H
  go_enter Try.func86, Try.ntmps86
  go_wp2
  go_ret2
  exact ⟨by first | rfl | (simp [errW_none, errW_some] <;> rfl) | (simp [*, errW_none, errW_some] <;> rfl), by repeat (first | (with_reducible first | exact HB.out | apply below_alloc | apply pw_below_drewN | apply below_drew1) | exact HB.out)⟩
 ·rw [if_neg c2] at H
  have c2b0 : decide (4096 < (a0.size : Int)) = false := decide_eq_false c2
  have c2b1 : decide (4096 < a0.size) = false := decide_eq_false (by omega)
  clear c2
  replace H := Option.bind_eq_some_iff.mp H
  obtain ⟨t102, A30, H⟩ := H
  replace H : (if t102.size + a0.size ≤ 9223372036854775807 then (some (t102 ++ a0, 0)) else (none)) = some (r1, r2) := H
  have A3 := Aside0.mk A30
  clear A30
  by_cases c4 : t102.size + a0.size ≤ 9223372036854775807
  ·rw [if_pos c4] at H
   have c4b0 := eq_true c4
   have c4b1 : decide (t102.size + a0.size ≤ 9223372036854775807) = true := decide_eq_true c4
   try have c4b2 : (9223372036854775807 < t102.size + a0.size) = False := eq_false (Nat.not_lt.2 c4)
   simp only [Option.some.injEq, Prod.mk.injEq] at H
   obtain ⟨rfl, rfl⟩ := H
   go_enter Try.func86, Try.ntmps86
   go_wp2_with (first | ((with_reducible refine gate_callee (f := 87) rfl ?_); refine goesL_ (some 9) rfl rfl Try.func87 (by kernel_rfl) rfl #[.int .i64 (a0.size : Int)] rfl (by (try simp only [List.map_toArray, List.map_cons, List.map_nil]); first | done | rfl | (simp only [List.length_drop, List.length_take]; rfl)) ?_; (with_reducible refine (varint_Number.calls (a0.size : Int) t102 _ A3.out).mono ?_); rintro e w5 ⟨rfl, hb⟩; refine ⟨_, rfl, ?_⟩; have n0_ := Aside0.mk (below_step (by repeat (first | (with_reducible first | exact HB.out | apply below_alloc | apply pw_below_drewN | apply below_drew1) | exact HB.out)) hb); clear HB; have HB := n0_; clear n0_; (try clear hb); (try clear hb2); (try clear hk); (try clear hi)))
   go_ret2
   exact ⟨by first | rfl | (simp [errW_none, errW_some] <;> rfl) | (simp [*, errW_none, errW_some] <;> rfl), by repeat (first | (with_reducible first | exact HB.out | apply below_alloc | apply pw_below_drewN | apply below_drew1) | exact HB.out)⟩
  ·rw [if_neg c4] at H
   exact absurd H (by simp)
def codec_text.f (l0 : List Int) (a1 : ByteArray) : Option (List Int) := (varint_Text.f a1).bind fun bt103 => (if l0.length + bt103.1.size < 140737488355328 then (some (l0 ++ bytesOf bt103.1)) else (none))
theorem codec_text.calls (P0_ : Nat → Prop) (u9000_ : Value) (l0 : List Int) (a1 : ByteArray) (r : List Int) (w0 w : World) (hB : Below w0.heap.size w0 w) (ho0 : Kd.R (Kd.int .u8) 5 w w0.heap.size P0_ u9000_ l0) (h : codec_text.f l0 a1 = some r) :
  Calls Try.prog 38 #[u9000_, .string a1] w fun e w' => ∃ v0_ : Value, e = .returned (v0_) ∧ Kd.R (Kd.int .u8) 5 w' w0.heap.size (fun k_ => (P0_ k_ ∨ w.heap.size ≤ k_)) v0_ r ∧ Below w0.heap.size w0 w' ∧ Kept w w' (fun k_ => P0_ k_) := by
 have HO0 := Aside0.mk (show Kd.R (Kd.int .u8) 5 w w0.heap.size (fun k_ => (P0_ k_ ∨ w.heap.size ≤ k_)) u9000_ l0 from Kd.R_mono ho0 (fun k_ hk => (.inl hk)))
 have HK := Aside0.mk (Kept.refl w (fun k_ => P0_ k_))
 have HW0 := Aside0.mk hB.size
 have HB := Aside0.mk hB
 clear hB
 have H : ((varint_Text.f a1).bind fun bt103 => (if l0.length + bt103.1.size < 140737488355328 then (some (l0 ++ bytesOf bt103.1)) else (none))) = some r := h
 clear h
 replace H := Option.bind_eq_some_iff.mp H
 obtain ⟨⟨t103, t104⟩, A30, H⟩ := H
 replace H : (if l0.length + t103.size < 140737488355328 then (some (l0 ++ bytesOf t103)) else (none)) = some r := H
 have A3 := Aside0.mk A30
 clear A30
 by_cases c4 : l0.length + t103.size < 140737488355328
 ·rw [if_pos c4] at H
  have LMc4 := Aside0.mk c4
  clear c4
  obtain ⟨y105, hy105⟩ : ∃ y_ : List Int, y_ = (l0 ++ bytesOf t103) := ⟨_, rfl⟩
  replace H : (some y105) = some r := by first | (rw [hy105]; with_reducible exact H) | (have H2_ := (Option.bind_some _ _).symm.trans H; rw [hy105]; with_reducible exact H2_) | (have H2_ := (Option.bind_some _ _).symm.trans H; with_reducible exact H2_) | with_reducible exact H | (rw [hy105]; exact H) | exact H
  have Ny105 := Aside0.mk hy105
  clear hy105
  obtain rfl := Option.some.inj H
  go_enter Try.func38, Try.ntmps38
  go_wp2_with (first | ((with_reducible refine gate_callee (f := 86) rfl ?_); refine goesL_ (some 9) rfl rfl Try.func86 (by kernel_rfl) rfl #[.string a1] rfl (by (try simp only [List.map_toArray, List.map_cons, List.map_nil]); first | done | rfl | (simp only [List.length_drop, List.length_take]; rfl)) ?_; (with_reducible refine (varint_Text.calls a1 t103 t104 _ A3.out).mono ?_); rintro e w5 ⟨rfl, hb⟩; refine ⟨_, rfl, ?_⟩; have n0_ := Aside0.mk (Kd.R_below (by (with_reducible repeat (first | apply Kd.R_alloc | apply Kd.R_drewN | apply Kd.R_drew)); exact HO0.out) hb); have n1_ := Aside0.mk (Kept.below (S := (fun k_ => P0_ k_)) (by repeat (first | (with_reducible first | exact HK.out | apply Kept.alloc | apply Kept.drewN | apply Kept.drew) | exact HK.out)) hb); have n2_ := Aside0.mk (below_step (by repeat (first | (with_reducible first | exact HB.out | apply below_alloc | apply pw_below_drewN | apply below_drew1) | exact HB.out)) hb); clear HO0; clear HK; clear HB; have HO0 := n0_; have HK := n1_; have HB := n2_; clear n0_ n1_ n2_; (try clear hb); (try clear hb2); (try clear hk); (try clear hi)) | (at_builtin; refine append_str_hat (w0 := w0) w0.heap.size rfl (.tmp 12) _ 74 9 5 rfl Try.underlying74 Try.underlying9 info5 u9000_ l0 t103 rfl rfl ?aO ?aB ?aS ?aL ?_; (case aB => exact (by repeat (first | (with_reducible first | exact HB.out | apply below_alloc | apply pw_below_drewN | apply below_drew1) | exact HB.out))); (case aO => exact (Kd.own_of_R (by (with_reducible repeat (first | apply Kd.R_alloc | apply Kd.R_drewN | apply Kd.R_drew)); exact HO0.out))); (case aS => exact (below_size (by repeat (first | (with_reducible first | exact HB.out | apply below_alloc | apply pw_below_drewN | apply below_drew1) | exact HB.out)))); (case aL => have := LMc4.out; omega); intro v106 w6 ho0 hb hg hat; have ho := Kd.R_of_own (h1 := fun _ => rfl) (ok := (fun k_ => (P0_ k_ ∨ w.heap.size ≤ k_))) ho0 (fun k_ hk_ => Or.elim hat (fun h1_ => HO0.out.1 k_ (h1_.symm.trans hk_)) (fun h2_ => (fun k_ hk => (.inr (Nat.le_trans (by first | exact HK.out.1 | exact (show Kept w _ (fun k_ => P0_ k_) from by repeat (first | (with_reducible first | exact HK.out | apply Kept.alloc | apply Kept.drewN | apply Kept.drew) | exact HK.out)).1) hk))) k_ (by obtain ⟨b_, hb_, hl_⟩ := h2_; rw [hb_] at hk_; cases hk_; exact hl_))); clear ho0; rw [← Ny105.out] at ho; change Kd.R (Kd.int .u8) 5 w6 w0.heap.size (fun k_ => (P0_ k_ ∨ w.heap.size ≤ k_)) v106 y105 at ho; have n0_ := Aside0.mk (hb); have n1_ := Aside0.mk (Kept.of_grown (S := (fun k_ => P0_ k_)) hg (by repeat (first | (with_reducible first | exact HK.out | apply Kept.alloc | apply Kept.drewN | apply Kept.drew) | exact HK.out)) (fun k_ e_ => (HO0.out.1 k_ e_))); have n2_ := Aside0.mk (ho); clear HB; clear HK; clear HO0; have HB := n0_; have HK := n1_; have HO107 := n2_; clear n0_ n1_ n2_; clear ho hb hg hat))
  go_ret
  exact ⟨_, by first | rfl | (simp [errW_none, errW_some] <;> rfl) | (simp [*, errW_none, errW_some] <;> rfl), by (with_reducible repeat (first | apply Kd.R_alloc | apply Kd.R_drewN | apply Kd.R_drew)); exact HO107.out, by repeat (first | (with_reducible first | exact HB.out | apply below_alloc | apply pw_below_drewN | apply below_drew1) | exact HB.out), by repeat (first | (with_reducible first | exact HK.out | apply Kept.alloc | apply Kept.drewN | apply Kept.drew) | exact HK.out)⟩
 ·rw [if_neg c4] at H
  exact absurd H (by simp)
def codec_number.l0 : Nat → List Int → List Int → Int → Int → Option (List Int)
 | 0, _, _, _, _ => none
 | k + 1, x0, x7, x8, x9 => if x9 < x8 then (if 0 ≤ x9 then (if x9 < (x7.length : Int) then ((varint_Number.f (rd x7 x9)).bind fun t109 => (if x0.length + t109.size < 140737488355328 then (codec_number.l0 k (x0 ++ bytesOf t109) x7 x8 (wrap64 (x9 + 1))) else (none))) else (none)) else (none)) else (some x0)
def codec_number.f (k : Nat) (l0 : List Int) (l1 : List Int) : Option (List Int) := codec_number.l0 k l0 l1 (l1.length : Int) 0
theorem codec_number.mono_l : ∀ k, (∀ y0 y1 y2 y3, LeO (codec_number.l0 k y0 y1 y2 y3) (codec_number.l0 (k + 1) y0 y1 y2 y3))
 | 0 => fun _ _ _ _ r h => by simp [codec_number.l0] at h
 | k + 1 => by
  have ih0 := codec_number.mono_l k
  ·intro y0 y1 y2 y3
   unfold codec_number.l0
   repeat' first
   | (with_reducible exact ih0 _ _ _ _)
   | (with_reducible exact LeO.refl _)
   | (with_reducible exact LeO.none _)
   | (with_reducible refine LeO.ite ?_ ?_)
   | (with_reducible refine LeO.bind ?_ (fun _ => ?_))
   | exact ih0 _ _ _ _
   | exact LeO.none _
   | refine LeO.ite ?_ ?_
   | refine LeO.bind ?_ (fun _ => ?_)
theorem codec_number.mono : ∀ a0 a1 k, LeO (codec_number.f k a0 a1) (codec_number.f (k + 1) a0 a1) := by
 intro a0 a1 k
 have ih0 := codec_number.mono_l k
 unfold codec_number.f
 repeat' first
   | (with_reducible exact ih0 _ _ _ _)
   | (with_reducible exact LeO.refl _)
   | (with_reducible exact LeO.none _)
   | (with_reducible refine LeO.ite ?_ ?_)
   | (with_reducible refine LeO.bind ?_ (fun _ => ?_))
   | exact ih0 _ _ _ _
   | exact LeO.none _
   | refine LeO.ite ?_ ?_
   | refine LeO.bind ?_ (fun _ => ?_)
theorem codec_number.calls (k : Nat) (P0_ : Nat → Prop) (u9000_ : Value) (l0 : List Int) (A1 : Option Addr) (c1 : Nat) (l1 : List Int) (r : List Int) (w0 w : World) (hB : Below w0.heap.size w0 w) (ho0 : Kd.R (Kd.int .u8) 5 w w0.heap.size P0_ u9000_ l0) (hr1 : ∀ W_, Kept w W_ (fun k_ => P0_ k_) → Kd.C (Kd.int .i64) W_ A1 l1.length l1) (hc1 : l1.length ≤ c1) (h : codec_number.f k l0 l1 = some r) :
  Calls Try.prog 39 #[u9000_, .slice A1 l1.length c1] w fun e w' => ∃ v0_ : Value, e = .returned (v0_) ∧ Kd.R (Kd.int .u8) 5 w' w0.heap.size (fun k_ => (P0_ k_ ∨ w.heap.size ≤ k_)) v0_ r ∧ Below w0.heap.size w0 w' ∧ Kept w w' (fun k_ => P0_ k_) := by
 have HO0 := Aside0.mk (show Kd.R (Kd.int .u8) 5 w w0.heap.size (fun k_ => (P0_ k_ ∨ w.heap.size ≤ k_)) u9000_ l0 from Kd.R_mono ho0 (fun k_ hk => (.inl hk)))
 have HR1 := Aside0.mk hr1
 have HC1 := Aside0.mk hc1
 clear hr1 hc1
 have HK := Aside0.mk (Kept.refl w (fun k_ => P0_ k_))
 have HW0 := Aside0.mk hB.size
 have HB := Aside0.mk hB
 clear hB
 have H : (codec_number.l0 k l0 l1 (l1.length : Int) 0) = some r := h
 clear h
 have H' := Aside0.mk H
 clear H
 go_enter Try.func39, Try.ntmps39
 go_wp2
 go_loopg [0, 9] k (fun kq v0 v9 w' => ∃ (x0_1 : List Int) (x9_1 : Int), v9 = .int .i64 x9_1 ∧ Aside0 (codec_number.l0 kq x0_1 l1 (l1.length : Int) x9_1 = some r) ∧ Aside0 (kq ≤ k) ∧ Aside0 (Kd.R (Kd.int .u8) 5 w' w0.heap.size (fun k_ => (P0_ k_ ∨ w.heap.size ≤ k_)) v0 x0_1) ∧ Aside0 (Kept w w' (fun k_ => P0_ k_)) ∧ Aside0 (Below w0.heap.size w0 w'))
 case atStart => exact ⟨(l0), (0), (by first | rfl | (simp; done) | (simp [*]; done)), H', ⟨Nat.le_refl _⟩, ⟨by (with_reducible repeat (first | apply Kd.R_alloc | apply Kd.R_drewN | apply Kd.R_drew)); exact HO0.out⟩, ⟨by repeat (first | (with_reducible first | exact HK.out | apply Kept.alloc | apply Kept.drewN | apply Kept.drew) | exact HK.out)⟩, ⟨by repeat (first | (with_reducible first | exact HB.out | apply below_alloc | apply pw_below_drewN | apply below_drew1) | exact HB.out)⟩⟩
 case round =>
  clear H'
  try clear c1
  try clear p2
  obtain ⟨x0_1, x9_1, rfl, HA, HK1, HO_0, HK, HB⟩ := hrel
  cases gk with
  | zero => exact absurd HA.out (by simp [codec_number.l0])
  | succ k1 =>
   have H := HA.out
   clear HA
   simp only [codec_number.l0] at H
   by_cases c3 : x9_1 < (l1.length : Int)
   ·rw [if_pos c3] at H
    have c3b0 : decide (x9_1 < (l1.length : Int)) = true := decide_eq_true c3
    clear c3
    by_cases c4 : 0 ≤ x9_1
    ·rw [if_pos c4] at H
     have c4b0 : decide (0 ≤ x9_1) = true := decide_eq_true c4
     clear c4
     by_cases c5 : x9_1 < (l1.length : Int)
     ·rw [if_pos c5] at H
      have c5b0 : decide (x9_1 < (l1.length : Int)) = true := decide_eq_true c5
      clear c5
      replace H := Option.bind_eq_some_iff.mp H
      obtain ⟨t109, A60, H⟩ := H
      replace H : (if x0_1.length + t109.size < 140737488355328 then (codec_number.l0 k1 (x0_1 ++ bytesOf t109) l1 (l1.length : Int) (wrap64 (x9_1 + 1))) else (none)) = some r := H
      have A6 := Aside0.mk A60
      clear A60
      by_cases c7 : x0_1.length + t109.size < 140737488355328
      ·rw [if_pos c7] at H
       have LMc7 := Aside0.mk c7
       clear c7
       obtain ⟨y110, hy110⟩ : ∃ y_ : List Int, y_ = (x0_1 ++ bytesOf t109) := ⟨_, rfl⟩
       replace H : (codec_number.l0 k1 y110 l1 (l1.length : Int) (wrap64 (x9_1 + 1))) = some r := by first | (rw [hy110]; with_reducible exact H) | (have H2_ := (Option.bind_some _ _).symm.trans H; rw [hy110]; with_reducible exact H2_) | (have H2_ := (Option.bind_some _ _).symm.trans H; with_reducible exact H2_) | with_reducible exact H | (rw [hy110]; exact H) | exact H
       have Ny110 := Aside0.mk hy110
       clear hy110
       have H' := Aside0.mk H
       clear H
       have p108 : 0 ≤ (x9_1 : Int) := of_decide_eq_true (by first | (with_reducible assumption) | assumption)
       have q108 : x9_1 < (l1.length : Int) := of_decide_eq_true (by first | (with_reducible assumption) | assumption)
       obtain ⟨ad108, e108, hx108_0⟩ := Kd.at_int (Kd.C_kept_now HR1.out HK.out) x9_1 p108 q108
       cases e108
       replace p108 := eq_true p108
       replace q108 := eq_true q108
       go_wp2_with (first | ((with_reducible refine gate_callee (f := 87) rfl ?_); refine goesL_ (some 15) rfl rfl Try.func87 (by kernel_rfl) rfl #[.int .i64 (rd l1 x9_1)] rfl (by (try simp only [List.map_toArray, List.map_cons, List.map_nil]); first | done | rfl | (simp only [List.length_drop, List.length_take]; rfl)) ?_; (with_reducible refine (varint_Number.calls (rd l1 x9_1) t109 _ A6.out).mono ?_); rintro e w8 ⟨rfl, hb⟩; refine ⟨_, rfl, ?_⟩; have n0_ := Aside0.mk (Kd.R_below (by (with_reducible repeat (first | apply Kd.R_alloc | apply Kd.R_drewN | apply Kd.R_drew)); exact HO_0.out) hb); have n1_ := Aside0.mk (Kept.below (S := (fun k_ => P0_ k_)) (by repeat (first | (with_reducible first | exact HK.out | apply Kept.alloc | apply Kept.drewN | apply Kept.drew) | exact HK.out)) hb); have n2_ := Aside0.mk (below_step (by repeat (first | (with_reducible first | exact HB.out | apply below_alloc | apply pw_below_drewN | apply below_drew1) | exact HB.out)) hb); clear HO_0; clear HK; clear HB; have HO_0 := n0_; have HK := n1_; have HB := n2_; clear n0_ n1_ n2_; (try clear hb); (try clear hb2); (try clear hk); (try clear hi)) | (at_builtin; refine append_str_hat (w0 := w0) w0.heap.size rfl (.tmp 13) _ 74 9 5 rfl Try.underlying74 Try.underlying9 info5 u0 x0_1 t109 rfl rfl ?aO ?aB ?aS ?aL ?_; (case aB => exact (by repeat (first | (with_reducible first | exact HB.out | apply below_alloc | apply pw_below_drewN | apply below_drew1) | exact HB.out))); (case aO => exact (Kd.own_of_R (by (with_reducible repeat (first | apply Kd.R_alloc | apply Kd.R_drewN | apply Kd.R_drew)); exact HO_0.out))); (case aS => exact (below_size (by repeat (first | (with_reducible first | exact HB.out | apply below_alloc | apply pw_below_drewN | apply below_drew1) | exact HB.out)))); (case aL => have := LMc7.out; omega); intro v111 w9 ho0 hb hg hat; have ho := Kd.R_of_own (h1 := fun _ => rfl) (ok := (fun k_ => (P0_ k_ ∨ w.heap.size ≤ k_))) ho0 (fun k_ hk_ => Or.elim hat (fun h1_ => HO_0.out.1 k_ (h1_.symm.trans hk_)) (fun h2_ => (fun k_ hk => (.inr (Nat.le_trans (by first | exact HK.out.1 | exact (show Kept w _ (fun k_ => P0_ k_) from by repeat (first | (with_reducible first | exact HK.out | apply Kept.alloc | apply Kept.drewN | apply Kept.drew) | exact HK.out)).1) hk))) k_ (by obtain ⟨b_, hb_, hl_⟩ := h2_; rw [hb_] at hk_; cases hk_; exact hl_))); clear ho0; rw [← Ny110.out] at ho; change Kd.R (Kd.int .u8) 5 w9 w0.heap.size (fun k_ => (P0_ k_ ∨ w.heap.size ≤ k_)) v111 y110 at ho; have n0_ := Aside0.mk (hb); have n1_ := Aside0.mk (Kept.of_grown (S := (fun k_ => P0_ k_)) hg (by repeat (first | (with_reducible first | exact HK.out | apply Kept.alloc | apply Kept.drewN | apply Kept.drew) | exact HK.out)) (fun k_ e_ => (HO_0.out.1 k_ e_))); have n2_ := Aside0.mk (ho); clear HB; clear HK; clear HO_0; have HB := n0_; have HK := n1_; have HO112 := n2_; clear n0_ n1_ n2_; clear ho hb hg hat))
       go_roundg k1
       case measure => have := HK1.out; omega
       case rel => exact ⟨(y110), (wrap64 (x9_1 + 1)), (by first | rfl | (simp; done) | (simp [*]; done)), H', ⟨by have := HK1.out; omega⟩, ⟨by (with_reducible repeat (first | apply Kd.R_alloc | apply Kd.R_drewN | apply Kd.R_drew)); exact HO112.out⟩, ⟨by repeat (first | (with_reducible first | exact HK.out | apply Kept.alloc | apply Kept.drewN | apply Kept.drew) | exact HK.out)⟩, ⟨by repeat (first | (with_reducible first | exact HB.out | apply below_alloc | apply pw_below_drewN | apply below_drew1) | exact HB.out)⟩⟩
      ·rw [if_neg c7] at H
       exact absurd H (by simp)
     ·rw [if_neg c5] at H
      exact absurd H (by simp)
    ·rw [if_neg c4] at H
     exact absurd H (by simp)
   ·rw [if_neg c3] at H
    have c3b0 : decide (x9_1 < (l1.length : Int)) = false := decide_eq_false c3
    clear c3
    obtain rfl := Option.some.inj H
    go_wp2
    go_ret
    exact ⟨_, by first | rfl | (simp [errW_none, errW_some] <;> rfl) | (simp [*, errW_none, errW_some] <;> rfl), by (with_reducible repeat (first | apply Kd.R_alloc | apply Kd.R_drewN | apply Kd.R_drew)); exact HO_0.out, by repeat (first | (with_reducible first | exact HB.out | apply below_alloc | apply pw_below_drewN | apply below_drew1) | exact HB.out), by repeat (first | (with_reducible first | exact HK.out | apply Kept.alloc | apply Kept.drewN | apply Kept.drew) | exact HK.out)⟩
def NoMark (fr : Nat × Nat) (n : Nat) : Prop := fr = (0, 0) ∨ n ≤ fr.1
theorem NoMark.off {fr : Nat × Nat} {n j : Nat} (h : NoMark fr n) (hj : j < n) : (decide (fr.1 ≤ j) && decide (j < fr.2)) = false := by
 rcases h with rfl | h
 ·simp
 ·simp; omega
theorem NoMark.frozen {w : World} {g j : Nat} {cur : Array Value} {t : TypeId} {fr : Nat × Nat} (hg : w.heap[g]? = some (.cells cur t fr)) (h : NoMark fr cur.size) (hj : j < cur.size) : w.frozen? ⟨g, j, none⟩ = false := by
 obtain ⟨lo, hi⟩ := fr
 have := h.off hj
 simpa [World.frozen?, hg] using this
theorem run_storeCells_m {P : Program} (g o : Nat) (t : TypeId) (fr : Nat × Nat) : ∀ (vs : List Value) (i : Nat) (cur : Array Value) (w : World), w.heap[g]? = some (.cells cur t fr) → NoMark fr cur.size → o + i + vs.length ≤ cur.size → (∀ v ∈ vs, v.oneCell' = true) →
  (storeCells ⟨g, o, none⟩ vs i).run P w = .ok () (w.setRow g (cur.toList.take (o + i) ++ vs ++ cur.toList.drop (o + i + vs.length)).toArray)
 | [], i, cur, w, hg, _, _, _ => by
  simp only [storeCells, List.append_nil, List.length_nil, Nat.add_zero, List.take_append_drop, Array.toArray_toList]
  rw [setRow_self w g cur t fr hg]
  rfl
 | v :: rest, i, cur, w, hg, hm, hl, h1 => by
  have hi : o + i < cur.size := by simp at hl; omega
  have hadd : (⟨g, o, none⟩ : Addr).add i = ⟨g, o + i, none⟩ := by unfold Addr.add; split <;> simp_all
  have hcell : w.cell? ⟨g, o + i, none⟩ = some cur[o + i] := by simp [World.cell?, hg, hi]
  have hfro : w.frozen? ⟨g, o + i, none⟩ = false := hm.frozen hg hi
  have hst : (store ((⟨g, o, none⟩ : Addr).add i) v).run P w = .ok () (w.setRow g (cur.setIfInBounds (o + i) v)) := by
   rw [hadd, run_store P w _ v _ (h1 v (by simp)), hcell]
   simp [hfro, setCell_eq_setRow w g (o + i) cur t fr v hg]
  have ih := run_storeCells_m (P := P) g o t fr rest (i + 1) (cur.setIfInBounds (o + i) v) (w.setRow g (cur.setIfInBounds (o + i) v)) (setRow_heap w g cur _ t _ hg) (by simpa using hm) (by simp at hl ⊢; omega) (fun x hx => h1 x (by simp [hx]))
  simp only [storeCells, Sem.run_bind, hst, Result.andThen_ok, ih, setRow_setRow]
  congr 3
  have e := list_seg_step cur.toList (o + i) v rest (by simp at hl ⊢; omega)
  simpa [Array.toList_setIfInBounds, Nat.add_assoc] using e
def MOwn (w : World) (base : Nat) (e : TypeId) (v : Value) (xs : List Value) : Prop :=
 (v = .slice none 0 0 ∧ xs = []) ∨
 ∃ g cap cur fr, v = .slice (some ⟨g, 0, none⟩) xs.length cap ∧ base ≤ g ∧ w.heap[g]? = some (.cells cur e fr) ∧ NoMark fr cur.size ∧ xs.length ≤ cap ∧ cap ≤ maxLen ∧ cur.size = cap ∧ cur.toList.take xs.length = xs
theorem MOwn.nil (w : World) (base : Nat) (e : TypeId) : MOwn w base e (.slice none 0 0) [] := .inl ⟨rfl, rfl⟩
theorem MOwn.of_own {w : World} {base n : Nat} {e : TypeId} {v : Value} {xs : List Value} (h : w.ownsRow base e 1 v n xs) : MOwn w base e v xs := by
 have hl : xs.length = n := by simpa using h.1
 subst hl
 rcases h.2 with ⟨rfl, h0⟩ | ⟨g, cap, cur, rfl, hb, hg, h1, h2, h3, h4⟩
 ·exact .inl ⟨rfl, List.eq_nil_of_length_eq_zero h0⟩
 ·exact .inr ⟨g, cap, cur, (0, 0), rfl, hb, hg, .inl rfl, h1, h2, by simpa using h3, by simpa using h4⟩
theorem MOwn.kept {w w' : World} {base : Nat} {e : TypeId} {v : Value} {xs : List Value} {row : Option Nat} (h : MOwn w base e v xs) (hg : w.grownBy w' row) (hne : v.ownBlock = none ∨ v.ownBlock ≠ row) : MOwn w' base e v xs := by
 rcases h with h | ⟨g, cap, cur, fr, rfl, hb, hgg, rest⟩
 ·exact .inl h
 ·refine .inr ⟨g, cap, cur, fr, rfl, hb, ?_, rest⟩
  rw [hg.block g (Array.getElem?_eq_some_iff.1 hgg).1 (by simpa [Value.ownBlock] using hne)]
  exact hgg
theorem MOwn.below {w w' : World} {base : Nat} {e : TypeId} {v : Value} {xs : List Value} (h : MOwn w base e v xs) (hb : Below w.heap.size w w') : MOwn w' base e v xs :=
 h.kept (grown_of_below hb none) (by cases v.ownBlock <;> simp)
theorem MOwn.base_le {w : World} {base : Nat} {e : TypeId} {v : Value} {xs : List Value} (h : MOwn w base e v xs) (k : Nat) (hk : v.ownBlock = some k) : base ≤ k := by
 rcases h with ⟨rfl, _⟩ | ⟨g, cap, cur, fr, rfl, hb, _⟩
 ·simp [Value.ownBlock] at hk
 ·have : g = k := by simpa [Value.ownBlock] using hk
  omega
theorem MOwn.cells {w : World} {base : Nat} {e : TypeId} {v : Value} {xs : List Value} (h : MOwn w base e v xs) {g : Nat} (hg : v.ownBlock = some g) : ∀ j u, xs[j]? = some u → w.cell? ((⟨g, 0, none⟩ : Addr).add j) = some u := by
 intro j u hu
 rcases h with ⟨rfl, _⟩ | ⟨g', cap, cur, fr, rfl, _, hgg, _, _, _, _, htake⟩
 ·simp [Value.ownBlock] at hg
 ·simp [Value.ownBlock] at hg
  subst hg
  rw [add_plain, cell_of_row w g' j cur e fr hgg]
  rw [← htake, List.getElem?_take] at hu
  split at hu
  ·simpa using hu
  ·cases hu
theorem MOwn.of_bytes (w : World) (base : Nat) (e : TypeId) (s : ByteArray) (hb : base ≤ w.heap.size) (hs : s.size ≤ maxLen) :
  MOwn (Lib.bytesWorld w e s) base e (.slice (some ⟨w.heap.size, 0, none⟩) s.size (grownCap w s.size 0 e)) (Lib.strCells s) := by
 have hge := grownCap_ge w s.size 0 e
 have hle := grownCap_le_maxLen w s.size 0 e hs
 have hsz : (Lib.bytesCells w e s).size = grownCap w s.size 0 e := by
  simp [Lib.bytesCells]
  show s.size + _ = _
  omega
 refine .inr ⟨w.heap.size, grownCap w s.size 0 e, Lib.bytesCells w e s, _, by rw [Lib.strCells_length], hb, Lib.bytesWorld_at_new w e s, .inr (Nat.le_refl _), by rw [Lib.strCells_length]; exact hge, hle, hsz, ?_⟩
 have h1 : (Lib.bytesCells w e s).toList = Lib.strCells s ++ List.replicate (grownCap w s.size 0 e - s.size) (.int .u8 0) := by
  simp [Lib.bytesCells, Lib.strCells]
 rw [h1]
 exact List.take_left
section
variable {P : Program} (w : World)
theorem run_append_m_string (base : Nat) (t u ty e : TypeId) (i : TypeInfo) (ht : P.underlying t = some (.slice e)) (hu : P.underlying u = some .string) (hi : P.info? e = some i) (hz : i.zero = some (.int .u8 0))
  (hsize : i.size = 1) (hby : i.bytes = 1)
  (v : Value) (xs : List Value) (hown : MOwn w base e v xs) (s : ByteArray)
  (hbytes : xs.length + s.size ≤ 140737488355328) (hbase : base ≤ w.heap.size) :
  ∃ v' w', (Builtin.append_ #[t, u] ty #[v, .string s]).run P w = .ok v' w' ∧ MOwn w' base e v' (xs ++ Lib.strCells s) ∧ w.grownBy w' v.ownBlock := by
 rcases hown with ⟨rfl, rfl⟩ | ⟨g, cap, cur, fr, rfl, hbg, hg, hfr, hnc, hcm, hcs, htake⟩
 ·obtain ⟨v', w', hr, ho, hgr, _⟩ := Lib.run_append_own_string (P := P) w base t u ty e i ht hu hi hz hsize hby (.slice none 0 0) 0 [] (World.ownsRow_nil w base e 1) s (by simp only [maxLen]; simp at hbytes; omega) (by simpa using hbytes) hbase
  exact ⟨v', w', hr, MOwn.of_own ho, hgr⟩
 ·by_cases hroom : xs.length + s.size ≤ cap
  ·have hf := Lib.run_firstCells_string (P := P) w 1 s
   have hst := run_storeCells_m (P := P) g xs.length e fr (Lib.strCells s) 0 cur w hg hfr (by rw [Lib.strCells_length]; omega) (Lib.strCells_oneCell s)
   simp only [Nat.add_zero] at hst
   refine ⟨.slice (some ⟨g, 0, none⟩) (xs.length + s.size) cap, w.setRow g (cur.toList.take xs.length ++ Lib.strCells s ++ cur.toList.drop (xs.length + (Lib.strCells s).length)).toArray, ?_, ?_, ?_⟩
   ·simp [Builtin.append_, run_underlying ht, run_underlying hu, sizeOf, typeInfo, hi, hsize, Builtin.lenOf, hroom, hf, Addr.add_lit, hst]
   ·have hsz : (cur.toList.take xs.length ++ Lib.strCells s ++ cur.toList.drop (xs.length + (Lib.strCells s).length)).toArray.size = cur.size := by
     simp only [List.size_toArray, List.length_append, List.length_take, List.length_drop, Array.length_toList, Lib.strCells_length]
     omega
    refine .inr ⟨g, cap, _, fr, by rw [List.length_append, Lib.strCells_length], hbg, setRow_heap w g cur _ e fr hg, by rw [hsz]; exact hfr, by rw [List.length_append, Lib.strCells_length]; exact hroom, hcm, by rw [hsz]; exact hcs, ?_⟩
    rw [htake]
    exact List.take_left
   ·exact ⟨rfl, rfl, rfl, by simp, fun k _ hk => setRow_other w g k _ (fun e => hk (by simp [Value.ownBlock, e]))⟩
  ·have holds : ∀ j u, xs[j]? = some u → w.cell? ((⟨g, 0, none⟩ : Addr).add j) = some u := MOwn.cells (base := base) (.inr ⟨g, cap, cur, fr, rfl, hbg, hg, hfr, hnc, hcm, hcs, htake⟩) (g := g) rfl
   have hr := Lib.run_append_grow_string (P := P) w t u ty e i (.int .u8 0) ht hu hi hz ⟨g, 0, none⟩ xs.length cap xs (by rw [hsize, Nat.mul_one]) holds s (by omega) (by omega) (by rw [hby]; exact growslice_fits (by omega) (by omega))
   refine ⟨_, _, hr, ?_, ⟨rfl, rfl, rfl, by simp, fun k hk _ => heap_alloc_old w.drew _ hk⟩⟩
   have hge := grownCap_ge w (xs.length + s.size) cap e
   have hz1 : (Value.int IntKind.u8 0).cells.size = 1 := rfl
   refine .inr ⟨w.heap.size, _, _, (0, 0), by rw [List.length_append, Lib.strCells_length], hbase, heap_alloc_new w.drew _, .inl rfl, by rw [List.length_append, Lib.strCells_length]; exact hge, grownCap_le_maxLen w _ _ e (by simp only [maxLen]; omega), ?_, ?_⟩
   ·simp only [Array.size_append, List.size_toArray, size_zeroCells, hz1, Lib.strCells_length]
    omega
   ·simp only [Array.toList_append, List.append_assoc]
    rw [← List.append_assoc]
    exact List.take_left
variable {ops : Array Oper} {rest : List Oper} {o : Oper} {a : Act} {Q : Exit → Act → World → Prop}
theorem wpList_append_m_string (hgd : o.guard = none) (sl x : Operand) (t u : TypeId)
  (ho : o.op = .call { callee := .builtin .append, args := #[sl, x], argTypes := #[t, u] })
  (base : Nat) (e : TypeId) (i : TypeInfo) (ht : P.underlying t = some (.slice e)) (hu : P.underlying u = some .string) (hi : P.info? e = some i) (hz : i.zero = some (.int .u8 0))
  (hsize : i.size = 1) (hby : i.bytes = 1)
  (v : Value) (xs : List Value) (hs : a.eval sl = v) (hown : MOwn w base e v xs) (s : ByteArray) (hx : a.eval x = .string s)
  (hbytes : xs.length + s.size ≤ 140737488355328) (hbase : base ≤ w.heap.size)
  (h : ∀ v' w', MOwn w' base e v' (xs ++ Lib.strCells s) → w.grownBy w' v.ownBlock → wpList P ops Q rest (a.put o.dst v') w') : wpList P ops Q (o :: rest) a w := by
 refine wpList_plain hgd fun K hK => ?_
 obtain ⟨v', w', hr, h2, h3⟩ := run_append_m_string (P := P) w base t u o.type e i ht hu hi hz hsize hby v xs hown s hbytes hbase
 unfold Oper.wp execOp
 simp only [ho, resolve, invoke, builtin, Sem.run_bind, Sem.run_pure, Result.andThen_ok, List.map_toArray, List.map_cons, List.map_nil, hs, hx, hr]
 exact hK _ _ (h v' w' h2 h3)
end
theorem MOwn.to_string {P : Program} {w : World} {base : Nat} {src dst e e' : TypeId} {v : Value} {xs : List Int} (hs : P.underlying src = some (.slice e')) (he : P.underlying e' = some (.int .u8)) (hd : P.underlying dst = some .string)
  (h : MOwn w base e v (nums .u8 xs)) : (convert src dst v).run P w = .ok (.string (strOfNums xs)) w := by
 have hl : (nums .u8 xs).length = xs.length := nums_length _ _
 rcases h with ⟨rfl, h0⟩ | ⟨g, cap, cur, fr, rfl, hb, hg, hfr, hnc, hcm, hcs, htake⟩
 ·obtain rfl : xs = [] := by cases xs with | nil => rfl | cons x xs => simp [nums] at h0
  exact run_convert_bytes_nil w src e' hs he 0 0 dst hd
 ·rw [hl]
  refine run_convert_bytes_arg w src e' hs he g 0 xs.length cap xs rfl (fun i hi => ?_) dst hd
  have hc := MOwn.cells (base := base) (e := e) (v := .slice (some ⟨g, 0, none⟩) (nums .u8 xs).length cap) (.inr ⟨g, cap, cur, fr, rfl, hb, hg, hfr, hnc, hcm, hcs, htake⟩) (g := g) rfl i (.int .u8 (xs.getD i 0)) (by simp [nums, List.getElem?_eq_getElem (show i < xs.length by omega), List.getD_eq_getElem?_getD])
  have ha : (⟨g, 0, none⟩ : Addr).add i = ⟨g, 0 + i, none⟩ := by unfold Addr.add; split <;> simp_all
  rwa [ha] at hc
theorem strCells_nums (s : ByteArray) : Lib.strCells s = nums .u8 (bytesOf s) := by simp [Lib.strCells, nums, bytesOf]
theorem MOwn.at_ {w : World} {base : Nat} {e : TypeId} {v : Value} {xs : List Int} (h : MOwn w base e v (nums .u8 xs)) (i : Nat) (hi : i < xs.length) :
  ∃ g cap, v = .slice (some ⟨g, 0, none⟩) xs.length cap ∧ base ≤ g ∧ w.cell? ⟨g, i, none⟩ = some (.int .u8 (xs.getD i 0)) ∧ w.frozen? ⟨g, i, none⟩ = false := by
 have hl : (nums .u8 xs).length = xs.length := nums_length _ _
 have hcell := fun g => h.cells (g := g)
 rcases h with ⟨rfl, h0⟩ | ⟨g, cap, cur, fr, rfl, hb, hg, hfr, hnc, hcm, hcs, htake⟩
 ·rw [h0] at hl; simp at hl; omega
 ·have hc := hcell g rfl i (.int .u8 (xs.getD i 0)) (by simp [nums, List.getElem?_eq_getElem hi, List.getD_eq_getElem?_getD])
  rw [add_plain] at hc
  exact ⟨g, cap, by rw [hl], hb, hc, hfr.frozen hg (by omega)⟩
theorem MOwn.set_ {w : World} {base g cap : Nat} {e : TypeId} {n : Nat} {xs : List Int} (h : MOwn w base e (.slice (some ⟨g, 0, none⟩) n cap) (nums .u8 xs)) (i : Nat) (hi : i < xs.length) (x : Int) :
  MOwn (w.setCell ⟨g, i, none⟩ (.int .u8 x)) base e (.slice (some ⟨g, 0, none⟩) n cap) (nums .u8 (xs.set i x)) := by
 have hl : (nums .u8 xs).length = xs.length := nums_length _ _
 have hl2 : (nums .u8 (xs.set i x)).length = xs.length := by rw [nums_length, List.length_set]
 rcases h with ⟨h0, _⟩ | ⟨g', cap', cur, fr, he, hb, hg, hfr, hnc, hcm, hcs, htake⟩
 ·simp at h0
 ·simp only [Value.slice.injEq, Option.some.injEq, Addr.mk.injEq, and_true] at he
  obtain ⟨rfl, rfl, rfl⟩ := he
  refine .inr ⟨g, cap, cur.setIfInBounds i (.int .u8 x), fr, by rw [hl, hl2], hb, ?_, by simpa using hfr, by omega, hcm, by simpa using hcs, ?_⟩
  ·rw [setCell_eq_setRow w g i cur e fr _ hg]
   exact setRow_heap w g cur _ e fr hg
  ·rw [hl2, Array.toList_setIfInBounds, List.take_set]
   rw [hl] at htake
   rw [htake]
   simp [nums, List.map_set]
def listO {α : Type} (T : α → Option (ByteArray × Int)) : List α → List Int → Option (ByteArray × Int)
 | [], acc => some (strOfNums acc, 0)
 | x :: l, acc => (T x).bind fun r => if r.2 = 0 then (if acc.length + r.1.size ≤ 140737488355328 then listO T l (acc ++ bytesOf r.1) else none) else some (⟨#[]⟩, r.2)
theorem rd_at (l : List Int) (i : Nat) (h : i < l.length) : rd l (i : Int) = l[i] := by simp [rd, h]
theorem appended_m (xs : List Int) (s : ByteArray) : nums .u8 xs ++ Lib.strCells s = nums .u8 (xs ++ bytesOf s) := by rw [strCells_nums, nums_append]
theorem infoB : (Try.prog.info? 5).map (fun i => (i.zero, i.size, i.bytes)) = some (some (.int .u8 0), 1, 1) := by kernel_rfl
theorem digL_length (f : Nat) : ∀ u, (digL f u).length ≤ f := by
 induction f with
 | zero => intro u; simp [digL]
 | succ f ih =>
  intro u
  rw [digL]
  split
  ·simp
  ·have := ih (u / 128)
   simp only [List.length_cons]
   omega
theorem numB_size (n : Int) : (numB n).size ≤ 10 := by
 unfold numB
 rw [strOfNums_size, ints, List.length_map]
 exact digL_length 10 _
def varint_Numbers_1.f (a0 : Int) : Option (ByteArray × Int) := (varint_Number.f a0).bind fun t101 => (some (t101, 0))
theorem varint_Numbers_1.calls (a0 : Int) (r1 : ByteArray) (r2 : Int) (w : World) (h : varint_Numbers_1.f a0 = some (r1, r2)) :
  Calls Try.prog 106 #[.int .i64 a0] w fun e w' => e = .returned (.tuple #[.string r1, .int .i64 r2]) ∧ Below w.heap.size w w' := by
 have HB := Aside0.mk (Below.refl w.heap.size w)
 have H : ((varint_Number.f a0).bind fun t101 => (some (t101, 0))) = some (r1, r2) := h
 clear h
 replace H := Option.bind_eq_some_iff.mp H
 obtain ⟨t101, A20, H⟩ := H
 replace H : (some (t101, 0)) = some (r1, r2) := H
 have A2 := Aside0.mk A20
 clear A20
 simp only [Option.some.injEq, Prod.mk.injEq] at H
 obtain ⟨rfl, rfl⟩ := H
 go_enter Try.func106, Try.ntmps106
 go_wp2_with (first | ((with_reducible refine gate_callee (f := 87) rfl ?_); refine goesL_ (some 5) rfl rfl Try.func87 (by kernel_rfl) rfl #[.int .i64 a0] rfl (by (try simp only [List.map_toArray, List.map_cons, List.map_nil]); first | done | rfl | (simp only [List.length_drop, List.length_take]; rfl)) ?_; (with_reducible refine (varint_Number.calls a0 t101 _ A2.out).mono ?_); rintro e w3 ⟨rfl, hb⟩; refine ⟨_, rfl, ?_⟩; have n0_ := Aside0.mk (below_step (by repeat (first | (with_reducible first | exact HB.out | apply below_alloc | apply pw_below_drewN | apply below_drew1) | exact HB.out)) hb); clear HB; have HB := n0_; clear n0_; (try clear hb); (try clear hb2); (try clear hk); (try clear hi)))
 go_ret2
 exact ⟨by first | rfl | (simp [errW_none, errW_some] <;> rfl) | (simp [*, errW_none, errW_some] <;> rfl), by repeat (first | (with_reducible first | exact HB.out | apply below_alloc | apply pw_below_drewN | apply below_drew1) | exact HB.out)⟩
theorem numberO_calls (x : Int) (s : ByteArray) (e2 : Int) (w : World) (h : (varint_Number.f x).map (fun t => (t, (0 : Int))) = some (s, e2)) :
  Calls Try.prog 106 #[.int .i64 x] w fun e w' => e = .returned (.tuple #[.string s, .int .i64 e2]) ∧ Below w.heap.size w w' := by
 rw [Option.map_eq_some_iff] at h
 obtain ⟨t, ht, h⟩ := h
 simp only [Prod.mk.injEq] at h
 obtain ⟨rfl, rfl⟩ := h
 exact varint_Numbers_1.calls x t 0 w (by unfold varint_Numbers_1.f; rw [bind_of ht])
theorem list_ints (k : Nat) (A : Option Addr) (c : Nat) (l : List Int) (t0 : ByteArray) (r1 : ByteArray) (r2 : Int) (w : World) (hr : Kd.C (Kd.int .i64) w A l.length l) (hc : l.length ≤ c) (hl : l.length ≤ 256) (ht : varint_Number.f (l.length : Int) = some t0) (h0 : t0.size ≤ 140737488351232) (h : listO (fun x => (varint_Number.f x).map (fun t => (t, (0 : Int)))) l (bytesOf t0) = some (r1, r2)) :
  Calls Try.prog 105 #[.slice A l.length c, .func (Fn.func 106) #[] #[]] w fun e w' => e = .returned (.tuple #[.string r1, .int .i64 r2]) ∧ Below w.heap.size w w' := by
 have HT := Aside0.mk ht
 have HL := Aside0.mk h
 have HR := Aside0.mk hr
 have hcv := fun W : World => Lib.run_convert_string_bytes (P := Try.prog) W 9 74 5 t0 Try.underlying9 Try.underlying74 Try.underlying5
 clear ht h hr
 obtain ⟨i0, hi, hz0, hz1, hz2⟩ := info_parts infoB
 go_enter Try.func105, Try.ntmps105
 go_wp2_with (first | (go_at_call 87; refine (varint_Number.calls (l.length : Int) t0 _ HT.out).mono ?_; rintro e w1 ⟨rfl, hb⟩; have HB1 := Aside0.mk hb; have HM1 := Aside0.mk (MOwn.of_bytes w1 w.heap.size 5 t0 HB1.out.size (by simp only [maxLen]; omega)); have HB2 := Aside0.mk (bytes_below HB1.out HB1.out.size 5 t0)))
 have hcv0 := Aside0.mk hcv
 clear hcv
 go_loopg [6, 20] l.length (fun kq vb vi wr => ∃ (i : Nat) (xs : List Int), vi = .int .i64 i ∧ Aside0 (i + kq = l.length) ∧ Aside0 (listO (fun x => (varint_Number.f x).map (fun t => (t, (0 : Int)))) (l.drop i) xs = some (r1, r2)) ∧ Aside0 (MOwn wr w.heap.size 5 vb (nums .u8 xs)) ∧ Aside0 (Below w.heap.size w wr))
 case atStart => exact ⟨0, bytesOf t0, rfl, ⟨by simp⟩, ⟨by rw [List.drop_zero]; exact HL.out⟩, ⟨by rw [← strCells_nums]; exact HM1.out⟩, HB2⟩
 case round =>
  clear HB2 HM1
  obtain ⟨i, xs, rfl, HK, HO, HM, HB⟩ := hrel
  have hil : i ≤ l.length := by have := HK.out; omega
  by_cases hlt : i < l.length
  ·obtain ⟨ad, ea, hcell⟩ := Kd.at_int HR.out (i : Int) (by omega) (by omega)
   cases ea
   replace hcell := (HB.out.cell (World.block_lt_of_cell? w _ hcell)).trans hcell
   rw [Int.toNat_natCast] at hcell
   obtain ⟨x, hx⟩ : ∃ x, x = rd l (i : Int) := ⟨_, rfl⟩
   rw [← hx] at hcell
   have ho := HO.out
   rw [List.drop_eq_getElem_cons hlt, listO, Option.bind_eq_some_iff] at ho
   rw [rd_at l i hlt] at hx
   rw [← hx] at ho
   obtain ⟨⟨s, e2⟩, hs, ho⟩ := ho
   have HS := Aside0.mk hs
   have HO2 := Aside0.mk ho
   clear hs ho hx HO
   by_cases he : e2 = 0
   ·subst he
    have ho := HO2.out
    rw [if_pos rfl] at ho
    by_cases hfit : xs.length + s.size ≤ 140737488355328
    ·rw [if_pos hfit] at ho
     have HO3 := Aside0.mk ho
     have HF := Aside0.mk hfit
     clear ho HO2 hfit
     go_wp2_with (first
      | (go_at_call 106; refine (numberO_calls x s 0 _ HS.out).mono ?_; rintro e w2 ⟨rfl, hb⟩; have HB3 := Aside0.mk (Below.trans HB.out (hb.mono HB.out.size)); have HM3 := Aside0.mk (HM.out.below hb); clear hb HB HM)
      | ((with_reducible refine gate_dst (N := 35) rfl ?_); refine wpList_append_m_string _ rfl (.tmp 33) (.tmp 34) 74 9 rfl w.heap.size 5 i0 Try.underlying74 Try.underlying9 hi hz0 hz1 hz2 _ (nums .u8 xs) rfl HM3.out s rfl (by rw [nums_length]; exact HF.out) HB3.out.size ?_; intro v1 w3 hm1 hg1; rw [appended_m] at hm1; have HM4 := Aside0.mk hm1; have HB4 := Aside0.mk (HB3.out.grown hg1 HB3.out.size (fun k hk => HM3.out.base_le k hk)); clear hm1 hg1))
     go_roundg (l.length - (i + 1))
     case measure => have := HK.out; omega
     case rel => exact ⟨i + 1, xs ++ bytesOf s, by go_num, ⟨by omega⟩, HO3, HM4, HB4⟩
    ·rw [if_neg hfit] at ho
     cases ho
   ·have ho := HO2.out
    rw [if_neg he] at ho
    simp only [Option.some.injEq, Prod.mk.injEq] at ho
    obtain ⟨rfl, rfl⟩ := ho
    go_wp2_with (go_at_call 106; refine (numberO_calls x s e2 _ HS.out).mono ?_; rintro e w2 ⟨rfl, hb⟩; have HB3 := Aside0.mk (Below.trans HB.out (hb.mono HB.out.size)); clear hb)
    go_ret2
    exact ⟨rfl, HB3.out⟩
  ·obtain rfl : i = l.length := by omega
   have ho := HO.out
   rw [List.drop_length, listO] at ho
   simp only [Option.some.injEq, Prod.mk.injEq] at ho
   obtain ⟨hs, rfl⟩ := ho
   have hcs := MOwn.to_string (P := Try.prog) Try.underlying74 Try.underlying5 Try.underlying9 HM.out
   rw [hs] at hcs
   clear hs
   go_wp2
   go_ret2
   exact ⟨rfl, HB.out⟩
def varint_Numbers.f (l : List Int) : Option (ByteArray × Int) :=
 if 256 < l.length then some (⟨#[]⟩, 4) else (varint_Number.f (l.length : Int)).bind fun t => listO (fun x => (varint_Number.f x).map (fun t => (t, (0 : Int)))) l (bytesOf t)
set_option maxHeartbeats 1000000 in
theorem varint_Numbers.calls (A : Option Addr) (c : Nat) (l : List Int) (r1 : ByteArray) (r2 : Int) (w : World) (hr : Kd.C (Kd.int .i64) w A l.length l) (hc : l.length ≤ c) (h : varint_Numbers.f l = some (r1, r2)) :
  Calls Try.prog 88 #[.slice A l.length c] w fun e w' => e = .returned (.tuple #[.string r1, .int .i64 r2]) ∧ Below w.heap.size w w' := by
 have hbig : 256 < l.length → Calls Try.prog 105 #[.slice A l.length c, .func (Fn.func 106) #[] #[]] w fun e w' => e = .returned (.tuple #[.string ⟨#[]⟩, .int .i64 4]) ∧ Below w.heap.size w w' := by
  intro hb
  go_enter Try.func105, Try.ntmps105
  go_wp2
  go_ret2
  exact ⟨rfl, Below.refl _ _⟩
 have HC : Aside0 (Calls Try.prog 105 #[.slice A l.length c, .func (Fn.func 106) #[] #[]] w fun e w' => e = .returned (.tuple #[.string r1, .int .i64 r2]) ∧ Below w.heap.size w w') := by
  unfold varint_Numbers.f at h
  by_cases hb : 256 < l.length
  ·rw [if_pos hb] at h
   simp only [Option.some.injEq, Prod.mk.injEq] at h
   obtain ⟨rfl, rfl⟩ := h
   exact ⟨hbig hb⟩
  ·rw [if_neg hb, Option.bind_eq_some_iff] at h
   obtain ⟨t, ht, h⟩ := h
   have hz : t.size ≤ 140737488351232 := by
    unfold varint_Number.f at ht
    split at ht
    ·obtain rfl := Option.some.inj ht
     have := numB_size (l.length : Int)
     omega
    ·cases ht
   exact ⟨list_ints 0 A c l t r1 r2 w hr hc (by omega) ht hz h⟩
 clear hbig h hr
 go_enter Try.func88, Try.ntmps88
 go_wp2_with (go_at_call 105; refine HC.out.mono ?_; rintro e w1 ⟨rfl, hb⟩; have HB := Aside0.mk hb; clear hb)
 go_ret2
 exact ⟨rfl, HB.out⟩
def codec_numbers.f (l0 : List Int) (l1 : List Int) : Option (List Int) := (varint_Numbers.f l1).bind fun bt113 => (if l0.length + bt113.1.size < 140737488355328 then (some (l0 ++ bytesOf bt113.1)) else (none))
theorem codec_numbers.calls (P0_ : Nat → Prop) (u9000_ : Value) (l0 : List Int) (A1 : Option Addr) (c1 : Nat) (l1 : List Int) (r : List Int) (w0 w : World) (hB : Below w0.heap.size w0 w) (ho0 : Kd.R (Kd.int .u8) 5 w w0.heap.size P0_ u9000_ l0) (hr1 : ∀ W_, Kept w W_ (fun k_ => P0_ k_) → Kd.C (Kd.int .i64) W_ A1 l1.length l1) (hc1 : l1.length ≤ c1) (h : codec_numbers.f l0 l1 = some r) :
  Calls Try.prog 40 #[u9000_, .slice A1 l1.length c1] w fun e w' => ∃ v0_ : Value, e = .returned (v0_) ∧ Kd.R (Kd.int .u8) 5 w' w0.heap.size (fun k_ => (P0_ k_ ∨ w.heap.size ≤ k_)) v0_ r ∧ Below w0.heap.size w0 w' ∧ Kept w w' (fun k_ => P0_ k_) := by
 have HO0 := Aside0.mk (show Kd.R (Kd.int .u8) 5 w w0.heap.size (fun k_ => (P0_ k_ ∨ w.heap.size ≤ k_)) u9000_ l0 from Kd.R_mono ho0 (fun k_ hk => (.inl hk)))
 have HR1 := Aside0.mk hr1
 have HC1 := Aside0.mk hc1
 clear hr1 hc1
 have HK := Aside0.mk (Kept.refl w (fun k_ => P0_ k_))
 have HW0 := Aside0.mk hB.size
 have HB := Aside0.mk hB
 clear hB
 have H : ((varint_Numbers.f l1).bind fun bt113 => (if l0.length + bt113.1.size < 140737488355328 then (some (l0 ++ bytesOf bt113.1)) else (none))) = some r := h
 clear h
 replace H := Option.bind_eq_some_iff.mp H
 obtain ⟨⟨t113, t114⟩, A30, H⟩ := H
 replace H : (if l0.length + t113.size < 140737488355328 then (some (l0 ++ bytesOf t113)) else (none)) = some r := H
 have A3 := Aside0.mk A30
 clear A30
 by_cases c4 : l0.length + t113.size < 140737488355328
 ·rw [if_pos c4] at H
  have LMc4 := Aside0.mk c4
  clear c4
  obtain ⟨y115, hy115⟩ : ∃ y_ : List Int, y_ = (l0 ++ bytesOf t113) := ⟨_, rfl⟩
  replace H : (some y115) = some r := by first | (rw [hy115]; with_reducible exact H) | (have H2_ := (Option.bind_some _ _).symm.trans H; rw [hy115]; with_reducible exact H2_) | (have H2_ := (Option.bind_some _ _).symm.trans H; with_reducible exact H2_) | with_reducible exact H | (rw [hy115]; exact H) | exact H
  have Ny115 := Aside0.mk hy115
  clear hy115
  obtain rfl := Option.some.inj H
  go_enter Try.func40, Try.ntmps40
  go_wp2_with (first | ((with_reducible refine gate_callee (f := 88) rfl ?_); refine goesL_ (some 9) rfl rfl Try.func88 (by kernel_rfl) rfl #[.slice A1 l1.length c1] rfl (by (try simp only [List.map_toArray, List.map_cons, List.map_nil]); first | done | rfl | (simp only [List.length_drop, List.length_take]; rfl)) ?_; (with_reducible refine (varint_Numbers.calls _ _ l1 t113 t114 _ ?side1 ?side2 A3.out).mono ?_); (case side1 => exact Kd.C_kept_now HR1.out (by repeat (first | (with_reducible first | exact HK.out | apply Kept.alloc | apply Kept.drewN | apply Kept.drew) | exact HK.out))); (case side2 => exact HC1.out); rintro e w5 ⟨rfl, hb⟩; refine ⟨_, rfl, ?_⟩; have n0_ := Aside0.mk (Kd.R_below (by (with_reducible repeat (first | apply Kd.R_alloc | apply Kd.R_drewN | apply Kd.R_drew)); exact HO0.out) hb); have n1_ := Aside0.mk (Kept.below (S := (fun k_ => P0_ k_)) (by repeat (first | (with_reducible first | exact HK.out | apply Kept.alloc | apply Kept.drewN | apply Kept.drew) | exact HK.out)) hb); have n2_ := Aside0.mk (below_step (by repeat (first | (with_reducible first | exact HB.out | apply below_alloc | apply pw_below_drewN | apply below_drew1) | exact HB.out)) hb); clear HO0; clear HK; clear HB; have HO0 := n0_; have HK := n1_; have HB := n2_; clear n0_ n1_ n2_; (try clear hb); (try clear hb2); (try clear hk); (try clear hi)) | (at_builtin; refine append_str_hat (w0 := w0) w0.heap.size rfl (.tmp 12) _ 74 9 5 rfl Try.underlying74 Try.underlying9 info5 u9000_ l0 t113 rfl rfl ?aO ?aB ?aS ?aL ?_; (case aB => exact (by repeat (first | (with_reducible first | exact HB.out | apply below_alloc | apply pw_below_drewN | apply below_drew1) | exact HB.out))); (case aO => exact (Kd.own_of_R (by (with_reducible repeat (first | apply Kd.R_alloc | apply Kd.R_drewN | apply Kd.R_drew)); exact HO0.out))); (case aS => exact (below_size (by repeat (first | (with_reducible first | exact HB.out | apply below_alloc | apply pw_below_drewN | apply below_drew1) | exact HB.out)))); (case aL => have := LMc4.out; omega); intro v116 w6 ho0 hb hg hat; have ho := Kd.R_of_own (h1 := fun _ => rfl) (ok := (fun k_ => (P0_ k_ ∨ w.heap.size ≤ k_))) ho0 (fun k_ hk_ => Or.elim hat (fun h1_ => HO0.out.1 k_ (h1_.symm.trans hk_)) (fun h2_ => (fun k_ hk => (.inr (Nat.le_trans (by first | exact HK.out.1 | exact (show Kept w _ (fun k_ => P0_ k_) from by repeat (first | (with_reducible first | exact HK.out | apply Kept.alloc | apply Kept.drewN | apply Kept.drew) | exact HK.out)).1) hk))) k_ (by obtain ⟨b_, hb_, hl_⟩ := h2_; rw [hb_] at hk_; cases hk_; exact hl_))); clear ho0; rw [← Ny115.out] at ho; change Kd.R (Kd.int .u8) 5 w6 w0.heap.size (fun k_ => (P0_ k_ ∨ w.heap.size ≤ k_)) v116 y115 at ho; have n0_ := Aside0.mk (hb); have n1_ := Aside0.mk (Kept.of_grown (S := (fun k_ => P0_ k_)) hg (by repeat (first | (with_reducible first | exact HK.out | apply Kept.alloc | apply Kept.drewN | apply Kept.drew) | exact HK.out)) (fun k_ e_ => (HO0.out.1 k_ e_))); have n2_ := Aside0.mk (ho); clear HB; clear HK; clear HO0; have HB := n0_; have HK := n1_; have HO117 := n2_; clear n0_ n1_ n2_; clear ho hb hg hat))
  go_ret
  exact ⟨_, by first | rfl | (simp [errW_none, errW_some] <;> rfl) | (simp [*, errW_none, errW_some] <;> rfl), by (with_reducible repeat (first | apply Kd.R_alloc | apply Kd.R_drewN | apply Kd.R_drew)); exact HO117.out, by repeat (first | (with_reducible first | exact HB.out | apply below_alloc | apply pw_below_drewN | apply below_drew1) | exact HB.out), by repeat (first | (with_reducible first | exact HK.out | apply Kept.alloc | apply Kept.drewN | apply Kept.drew) | exact HK.out)⟩
 ·rw [if_neg c4] at H
  exact absurd H (by simp)
def codec_laid.f (a0 : Bool) (l1 : List Int) : Option (ByteArray × Int) := if a0 = true then (some (strOfNums l1, 0)) else (some ((⟨#[]⟩ : ByteArray), 2))
theorem codec_laid.calls (a0 : Bool) (A1 : Option Addr) (c1 : Nat) (l1 : List Int) (r1 : ByteArray) (r2 : Int) (w : World) (hr1 : Kd.C (Kd.int .u8) w A1 l1.length l1) (hc1 : l1.length ≤ c1) (h : codec_laid.f a0 l1 = some (r1, r2)) :
  Calls Try.prog 41 #[.bool a0, .slice A1 l1.length c1] w fun e w' => e = .returned (.tuple #[.string r1, .int .i64 r2]) ∧ Drawn0 w w' := by
 have HR1 := Aside0.mk hr1
 have HC1 := Aside0.mk hc1
 clear hr1 hc1
 have H : (if a0 = true then (some (strOfNums l1, 0)) else (some ((⟨#[]⟩ : ByteArray), 2))) = some (r1, r2) := h
 clear h
 by_cases c3 : a0 = true
 ·subst c3
  have H1 : (some (strOfNums l1, 0)) = some (r1, r2) := by rw [if_pos rfl] at H; exact H
  clear H
  have H := H1
  clear H1
  simp only [Option.some.injEq, Prod.mk.injEq] at H
  obtain ⟨rfl, rfl⟩ := H
  have hcv4 := Kd.C_string (P := Try.prog) (A := A1) (c := c1) Try.underlying74 Try.underlying5 Try.underlying9 HR1.out
  go_enter Try.func41, Try.ntmps41
  go_wp2
  go_ret2
  exact ⟨by first | rfl | (simp; done) | (simp [*]; done), by repeat (first | exact Drawn0.refl _ | apply Drawn0.step)⟩
 ·replace c3 := Bool.eq_false_iff.mpr c3
  subst c3
  have H1 : (some ((⟨#[]⟩ : ByteArray), 2)) = some (r1, r2) := by rw [if_neg (show ¬ (false = true) by decide)] at H; exact H
  clear H
  have H := H1
  clear H1
  simp only [Option.some.injEq, Prod.mk.injEq] at H
  obtain ⟨rfl, rfl⟩ := H
  go_enter Try.func41, Try.ntmps41
  go_wp2
  go_ret2
  exact ⟨by first | rfl | (simp; done) | (simp [*]; done), by repeat (first | exact Drawn0.refl _ | apply Drawn0.step)⟩
end Go.Proofs.Ytbfehjncllkogaa.Q
