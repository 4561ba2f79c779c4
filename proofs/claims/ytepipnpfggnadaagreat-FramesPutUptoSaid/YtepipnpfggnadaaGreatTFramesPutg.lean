/- Texts of this session laid together (shrink.py): what the claim's law rests on. -/
import Derived.Below
import Derived.Deep.Draws
import Derived.Deep.AppendLies
import Derived.Maps.AppendAt
import Derived.OwnWalk
import Derived.Laws.BytesArg
import Derived.Laws.MakeOwn
import Derived.Laws.OwnMore
import Derived.Deep.OwnRows
import Derived.Tactics
import Derived.Lib.ConvBytes
import Derived.Laws.Slices
import Derived.WalkKit
import Derived.KernelRfl
import Derived.RowKit3
import Derived.Deep.LoopGhost
import Derived.Deep.QuietTactic
import Derived.BigQuiet
import Derived.WideLaws
import Derived.Deep.DeepCutAuto
import Derived.Deep.CutBlock
import Derived.Deep.RegionHeld3
import Derived.Laws.Rows
import Derived.Lib.AppendStr
import Derived.ArgAppend
import Derived.Laws.IdiomCopy
import Derived.RowKit
import Derived.OrdersHeld
import Derived.Laws.BitsLemmas
import Derived.Laws.StructEq
import Derived.Test.YtepipnpfggnadaaGreatProg
import Derived.WalkMore
import Derived.Lib.Strings
import Derived.Test.YtepipnpfggnadaaGreatTFramesPutf
set_option linter.unusedVariables false
set_option linter.unusedSimpArgs false
set_option maxRecDepth 100000
set_option maxHeartbeats 8000000
open List renaming setIfInBounds_toArray → zdG
open List renaming set_cons_zero → zdH
open List renaming set_cons_succ → zdI
open List renaming map_toArray → zdJ
open Option renaming bind_eq_some_iff → zdK
open Go.World renaming block_lt_of_cell? → zdL
open Bool renaming eq_false_iff → zdM
open List renaming length_append → zdN
namespace Go.Proofs.YtepipnpfggnadaaGreat.Q
open Go.RowKit Go.Proofs.YtepipnpfggnadaaGreatW.PrintWords Go.Proofs.YtepipnpfggnadaaGreatW.PrintLast Go.Proofs.YtepipnpfggnadaaGreatW.PrintMore
def J5 := Jp rEv 3 (fun l b => ∃ k, z2.f k l = some b)
def JI := Jp Zu 8 (fun l b => ∃ k, qW.f k l = some b)
theorem zdf {s : ByteArray} {p q n e : Int} {l ys : List S86} {b : Bool} {A : Option Addr} {c : Nat} {w : World} {g : Nat} (h : XQ [] l b p q ys n e) (hb : Calls Tryz.prog 140 #[.slice A l.length c] w fun e w' => e = .returned (.bool b) ∧ Below w.heap.size w w') (hg : AtB w g 156 (rdC s p q)) : Calls Tryz.prog 159 #[.pointer (some ⟨g, 0, none⟩), .slice A l.length c, .func (Fn.func 140) #[] #[]] w fun e' w' => (∃ v, e' = .returned (.tuple #[v, .int .i64 n, .int .i64 e]) ∧ ((v = .slice none 0 0 ∧ ys = []) ∨ (v = .slice A l.length c ∧ ys = l))) ∧ Tn w g 156 (rdC s p e) w' := by
 have HS := Sat.one hg
 have hb2 := za.mk hb
 clear hb
 rcases h with ⟨c0, rfl, rfl, rfl⟩ | ⟨rfl, rfl, rfl, rfl, rfl⟩ | ⟨rfl, rfl, rfl, rfl, rfl⟩
 case' inl => have c1 := beq_eq_false_iff_ne.mpr c0; have c2 := bne_iff_ne.mpr c0; clear c0
 all_goals
  have hc := HS.lk
  simp only [Lk, LkC, Value.cells, List.toList_toArray, Nat.reduceAdd, Nat.zero_add, and_true, zf, zg, ze, zh] at HS hc
  go_enter Tryz.func159, Tryz.ntmps159
  go_wp2_with (first | ((first | ((with_reducible refine gB rfl ?_); refine zz HS ?_) | ((with_reducible refine gA rfl ?_); refine zt HS ?_) | ((with_reducible refine gS rfl ?_); refine zu HS ?_) | (go_at_call 140; refine HS.go hb2.out ?_)); clear HS; (try clear hc); intros; rename_i HS; have hc := HS.lk; simp only [Lk, LkC, Value.cells, List.toList_toArray, Nat.reduceAdd, Nat.zero_add, and_true, zf, zg, ze, zh] at HS hc) | (refine yE (.op 0 0 29 (.op 1 0 30 (.op 2 0 31 (.op 3 0 32 (.op 4 0 33 (.op 5 0 6 (.op 6 0 7 (.op 7 0 8 .nil)))))))) [] HS (List.Sublist.refl _) ?_; clear HS hc; intro HS hS; (repeat refine RT.tk ?_); clear hS; have hc := HS.lk; simp only [Lk, LkC, Value.cells, List.toList_toArray, Nat.reduceAdd, Nat.zero_add, and_true, zf, zg, ze, zh] at HS hc; refine RT.nil ?_) | (refine yE (.op 0 0 34 (.op 1 0 35 (.op 2 0 36 (.op 3 0 37 (.op 4 0 38 (.op 5 0 6 (.op 6 0 7 (.op 7 0 8 .nil)))))))) [] HS (List.Sublist.refl _) ?_; clear HS hc; intro HS hS; (repeat refine RT.tk ?_); clear hS; have hc := HS.lk; simp only [Lk, LkC, Value.cells, List.toList_toArray, Nat.reduceAdd, Nat.zero_add, and_true, zf, zg, ze, zh] at HS hc; refine RT.nil ?_))
  go_ret3
  exact ⟨⟨_, rfl, by simp⟩, HS.fin⟩
theorem zbd {s : ByteArray} {p n e : Int} {ys : List S86} {w : World} (h : VA s p ys n e) : Calls Tryz.prog 122 #[.string s, .int .i64 p] w fun e' w' => ∃ v, e' = .returned (.tuple #[v, .int .i64 n, .int .i64 e]) ∧ k86.R 86 w' w.heap.size (fun _ => True) v ys ∧ Below w.heap.size w w' := by
 have HS := Sat.nil w
 obtain ⟨xs, p1, q1, b, h1, h2, h3⟩ := h
 replace h1 := za.mk h1
 replace h2 := za.mk h2
 replace h3 := za.mk h3
 go_enter Tryz.func122, Tryz.ntmps122
 go_wp2_with (first | (first | ((with_reducible refine gB rfl ?_); refine zz HS ?_) | ((with_reducible refine gA rfl ?_); refine zt HS ?_) | ((with_reducible refine gS rfl ?_); refine zu HS ?_) | (go_at_call 160; refine HS.tnR (zcC h1.out (by decide)) ?_) | (go_at_call 159; refine HS.tn (zdf h3.out (by obtain rfl := h2.out; exact Xf (Kd.R_reads' (HS.rows _ (.head _)).2).2.2)) ?_)); clear HS; (try clear hc); intros; first | (rename_i e_ w_ he HS; obtain ⟨v_, rfl, hv_⟩ := he; have hc := HS.lk; simp only [Lk, LkC, Value.cells, List.toList_toArray, Nat.reduceAdd, Nat.zero_add, and_true, zf, zg, ze, zh] at HS hc) | (rename_i HS; have hc := HS.lk; simp only [Lk, LkC, Value.cells, List.toList_toArray, Nat.reduceAdd, Nat.zero_add, and_true, zf, zg, ze, zh] at HS hc))
 go_ret3
 refine ⟨_, rfl, ?_, HS.below⟩
 rcases hv_ with ⟨rfl, rfl⟩ | ⟨rfl, rfl⟩
 ·exact Kd.R_nil _ _ _ _ _
 ·exact (HS.rows _ (.head _)).2
theorem zcv {s : ByteArray} {p q n e : Int} {l ys : List S77} {b : Bool} {A : Option Addr} {c : Nat} {w : World} {g : Nat} (h : XQ [] l b p q ys n e) (hb : Calls Tryz.prog 143 #[.slice A l.length c] w fun e w' => e = .returned (.bool b) ∧ Below w.heap.size w w') (hg : AtB w g 156 (rdC s p q)) : Calls Tryz.prog 162 #[.pointer (some ⟨g, 0, none⟩), .slice A l.length c, .func (Fn.func 143) #[] #[]] w fun e' w' => (∃ v, e' = .returned (.tuple #[v, .int .i64 n, .int .i64 e]) ∧ ((v = .slice none 0 0 ∧ ys = []) ∨ (v = .slice A l.length c ∧ ys = l))) ∧ Tn w g 156 (rdC s p e) w' := by
 have HS := Sat.one hg
 have hb2 := za.mk hb
 clear hb
 rcases h with ⟨c0, rfl, rfl, rfl⟩ | ⟨rfl, rfl, rfl, rfl, rfl⟩ | ⟨rfl, rfl, rfl, rfl, rfl⟩
 case' inl => have c1 := beq_eq_false_iff_ne.mpr c0; have c2 := bne_iff_ne.mpr c0; clear c0
 all_goals
  have hc := HS.lk
  simp only [Lk, LkC, Value.cells, List.toList_toArray, Nat.reduceAdd, Nat.zero_add, and_true, zf, zg, ze, zh] at HS hc
  go_enter Tryz.func162, Tryz.ntmps162
  go_wp2_with (first | ((first | ((with_reducible refine gB rfl ?_); refine zz HS ?_) | ((with_reducible refine gA rfl ?_); refine zt HS ?_) | ((with_reducible refine gS rfl ?_); refine zu HS ?_) | (go_at_call 143; refine HS.go hb2.out ?_)); clear HS; (try clear hc); intros; rename_i HS; have hc := HS.lk; simp only [Lk, LkC, Value.cells, List.toList_toArray, Nat.reduceAdd, Nat.zero_add, and_true, zf, zg, ze, zh] at HS hc) | (refine yE (.op 0 0 29 (.op 1 0 30 (.op 2 0 31 (.op 3 0 32 (.op 4 0 33 (.op 5 0 6 (.op 6 0 7 (.op 7 0 8 .nil)))))))) [] HS (List.Sublist.refl _) ?_; clear HS hc; intro HS hS; (repeat refine RT.tk ?_); clear hS; have hc := HS.lk; simp only [Lk, LkC, Value.cells, List.toList_toArray, Nat.reduceAdd, Nat.zero_add, and_true, zf, zg, ze, zh] at HS hc; refine RT.nil ?_) | (refine yE (.op 0 0 34 (.op 1 0 35 (.op 2 0 36 (.op 3 0 37 (.op 4 0 38 (.op 5 0 6 (.op 6 0 7 (.op 7 0 8 .nil)))))))) [] HS (List.Sublist.refl _) ?_; clear HS hc; intro HS hS; (repeat refine RT.tk ?_); clear hS; have hc := HS.lk; simp only [Lk, LkC, Value.cells, List.toList_toArray, Nat.reduceAdd, Nat.zero_add, and_true, zf, zg, ze, zh] at HS hc; refine RT.nil ?_))
  go_ret3
  exact ⟨⟨_, rfl, by simp⟩, HS.fin⟩
theorem JT {s : ByteArray} {p n e : Int} {ys : List S77} {w : World} (h : X7 s p ys n e) : Calls Tryz.prog 124 #[.string s, .int .i64 p] w fun e' w' => ∃ v, e' = .returned (.tuple #[v, .int .i64 n, .int .i64 e]) ∧ k77.R 77 w' w.heap.size (fun _ => True) v ys ∧ Below w.heap.size w w' := by
 have HS := Sat.nil w
 obtain ⟨xs, p1, q1, b, h1, h2, h3⟩ := h
 replace h1 := za.mk h1
 replace h2 := za.mk h2
 replace h3 := za.mk h3
 go_enter Tryz.func124, Tryz.ntmps124
 go_wp2_with (first | (first | ((with_reducible refine gB rfl ?_); refine zz HS ?_) | ((with_reducible refine gA rfl ?_); refine zt HS ?_) | ((with_reducible refine gS rfl ?_); refine zu HS ?_) | (go_at_call 163; refine HS.tnR (zba h1.out (by decide)) ?_) | (go_at_call 162; refine HS.tn (zcv h3.out (by obtain rfl := h2.out; exact Yf (Kd.R_reads' (HS.rows _ (.head _)).2).2.2)) ?_)); clear HS; (try clear hc); intros; first | (rename_i e_ w_ he HS; obtain ⟨v_, rfl, hv_⟩ := he; have hc := HS.lk; simp only [Lk, LkC, Value.cells, List.toList_toArray, Nat.reduceAdd, Nat.zero_add, and_true, zf, zg, ze, zh] at HS hc) | (rename_i HS; have hc := HS.lk; simp only [Lk, LkC, Value.cells, List.toList_toArray, Nat.reduceAdd, Nat.zero_add, and_true, zf, zg, ze, zh] at HS hc))
 go_ret3
 refine ⟨_, rfl, ?_, HS.below⟩
 rcases hv_ with ⟨rfl, rfl⟩ | ⟨rfl, rfl⟩
 ·exact Kd.R_nil _ _ _ _ _
 ·exact (HS.rows _ (.head _)).2
theorem zdg {s : ByteArray} {p q n e : Int} {l ys : List S108} {b : Bool} {A : Option Addr} {c : Nat} {w : World} {g : Nat} (h : XQ [] l b p q ys n e) (hb : Calls Tryz.prog 137 #[.slice A l.length c] w fun e w' => e = .returned (.bool b) ∧ Below w.heap.size w w') (hg : AtB w g 156 (rdC s p q)) : Calls Tryz.prog 156 #[.pointer (some ⟨g, 0, none⟩), .slice A l.length c, .func (Fn.func 137) #[] #[]] w fun e' w' => (∃ v, e' = .returned (.tuple #[v, .int .i64 n, .int .i64 e]) ∧ ((v = .slice none 0 0 ∧ ys = []) ∨ (v = .slice A l.length c ∧ ys = l))) ∧ Tn w g 156 (rdC s p e) w' := by
 have HS := Sat.one hg
 have hb2 := za.mk hb
 clear hb
 rcases h with ⟨c0, rfl, rfl, rfl⟩ | ⟨rfl, rfl, rfl, rfl, rfl⟩ | ⟨rfl, rfl, rfl, rfl, rfl⟩
 case' inl => have c1 := beq_eq_false_iff_ne.mpr c0; have c2 := bne_iff_ne.mpr c0; clear c0
 all_goals
  have hc := HS.lk
  simp only [Lk, LkC, Value.cells, List.toList_toArray, Nat.reduceAdd, Nat.zero_add, and_true, zf, zg, ze, zh] at HS hc
  go_enter Tryz.func156, Tryz.ntmps156
  go_wp2_with (first | ((first | ((with_reducible refine gB rfl ?_); refine zz HS ?_) | ((with_reducible refine gA rfl ?_); refine zt HS ?_) | ((with_reducible refine gS rfl ?_); refine zu HS ?_) | (go_at_call 137; refine HS.go hb2.out ?_)); clear HS; (try clear hc); intros; rename_i HS; have hc := HS.lk; simp only [Lk, LkC, Value.cells, List.toList_toArray, Nat.reduceAdd, Nat.zero_add, and_true, zf, zg, ze, zh] at HS hc) | (refine yE (.op 0 0 29 (.op 1 0 30 (.op 2 0 31 (.op 3 0 32 (.op 4 0 33 (.op 5 0 6 (.op 6 0 7 (.op 7 0 8 .nil)))))))) [] HS (List.Sublist.refl _) ?_; clear HS hc; intro HS hS; (repeat refine RT.tk ?_); clear hS; have hc := HS.lk; simp only [Lk, LkC, Value.cells, List.toList_toArray, Nat.reduceAdd, Nat.zero_add, and_true, zf, zg, ze, zh] at HS hc; refine RT.nil ?_) | (refine yE (.op 0 0 34 (.op 1 0 35 (.op 2 0 36 (.op 3 0 37 (.op 4 0 38 (.op 5 0 6 (.op 6 0 7 (.op 7 0 8 .nil)))))))) [] HS (List.Sublist.refl _) ?_; clear HS hc; intro HS hS; (repeat refine RT.tk ?_); clear hS; have hc := HS.lk; simp only [Lk, LkC, Value.cells, List.toList_toArray, Nat.reduceAdd, Nat.zero_add, and_true, zf, zg, ze, zh] at HS hc; refine RT.nil ?_))
  go_ret3
  exact ⟨⟨_, rfl, by simp⟩, HS.fin⟩
theorem V1 {s : ByteArray} {p n e : Int} {ys : List S108} {w : World} (h : J5 s p ys n e) : Calls Tryz.prog 120 #[.string s, .int .i64 p] w fun e' w' => ∃ v, e' = .returned (.tuple #[v, .int .i64 n, .int .i64 e]) ∧ k108.R 108 w' w.heap.size (fun _ => True) v ys ∧ Below w.heap.size w w' := by
 have HS := Sat.nil w
 obtain ⟨xs, p1, q1, b, h1, h2, h3⟩ := h
 replace h1 := za.mk h1
 replace h2 := za.mk h2
 replace h3 := za.mk h3
 go_enter Tryz.func120, Tryz.ntmps120
 go_wp2_with (first | (first | ((with_reducible refine gB rfl ?_); refine zz HS ?_) | ((with_reducible refine gA rfl ?_); refine zt HS ?_) | ((with_reducible refine gS rfl ?_); refine zu HS ?_) | (go_at_call 157; refine HS.tnR (zb0 h1.out (by decide)) ?_) | (go_at_call 156; refine HS.tn (zdg h3.out (by obtain ⟨k_, hk_⟩ := h2.out; exact z2.calls k_ _ _ _ _ _ (Kd.R_reads' (HS.rows _ (.head _)).2).2.2 (Kd.R_reads' (HS.rows _ (.head _)).2).2.1 hk_)) ?_)); clear HS; (try clear hc); intros; first | (rename_i e_ w_ he HS; obtain ⟨v_, rfl, hv_⟩ := he; have hc := HS.lk; simp only [Lk, LkC, Value.cells, List.toList_toArray, Nat.reduceAdd, Nat.zero_add, and_true, zf, zg, ze, zh] at HS hc) | (rename_i HS; have hc := HS.lk; simp only [Lk, LkC, Value.cells, List.toList_toArray, Nat.reduceAdd, Nat.zero_add, and_true, zf, zg, ze, zh] at HS hc))
 go_ret3
 refine ⟨_, rfl, ?_, HS.below⟩
 rcases hv_ with ⟨rfl, rfl⟩ | ⟨rfl, rfl⟩
 ·exact Kd.R_nil _ _ _ _ _
 ·exact (HS.rows _ (.head _)).2
theorem zcg {s : ByteArray} {p q n e : Int} {l ys : List ByteArray} {b : Bool} {A : Option Addr} {c : Nat} {w : World} {g : Nat} (h : XQ [] l b p q ys n e) (hb : Calls Tryz.prog 151 #[.slice A l.length c] w fun e w' => e = .returned (.bool b) ∧ Below w.heap.size w w') (hg : AtB w g 156 (rdC s p q)) : Calls Tryz.prog 147 #[.pointer (some ⟨g, 0, none⟩), .slice A l.length c, .func (Fn.func 151) #[] #[]] w fun e' w' => (∃ v, e' = .returned (.tuple #[v, .int .i64 n, .int .i64 e]) ∧ ((v = .slice none 0 0 ∧ ys = []) ∨ (v = .slice A l.length c ∧ ys = l))) ∧ Tn w g 156 (rdC s p e) w' := by
 have HS := Sat.one hg
 have hb2 := za.mk hb
 clear hb
 rcases h with ⟨c0, rfl, rfl, rfl⟩ | ⟨rfl, rfl, rfl, rfl, rfl⟩ | ⟨rfl, rfl, rfl, rfl, rfl⟩
 case' inl => have c1 := beq_eq_false_iff_ne.mpr c0; have c2 := bne_iff_ne.mpr c0; clear c0
 all_goals
  have hc := HS.lk
  simp only [Lk, LkC, Value.cells, List.toList_toArray, Nat.reduceAdd, Nat.zero_add, and_true, zf, zg, ze, zh] at HS hc
  go_enter Tryz.func147, Tryz.ntmps147
  go_wp2_with (first | ((first | ((with_reducible refine gB rfl ?_); refine zz HS ?_) | ((with_reducible refine gA rfl ?_); refine zt HS ?_) | ((with_reducible refine gS rfl ?_); refine zu HS ?_) | (go_at_call 151; refine HS.go hb2.out ?_)); clear HS; (try clear hc); intros; rename_i HS; have hc := HS.lk; simp only [Lk, LkC, Value.cells, List.toList_toArray, Nat.reduceAdd, Nat.zero_add, and_true, zf, zg, ze, zh] at HS hc) | (refine yE (.op 0 0 29 (.op 1 0 30 (.op 2 0 31 (.op 3 0 32 (.op 4 0 33 (.op 5 0 6 (.op 6 0 7 (.op 7 0 8 .nil)))))))) [] HS (List.Sublist.refl _) ?_; clear HS hc; intro HS hS; (repeat refine RT.tk ?_); clear hS; have hc := HS.lk; simp only [Lk, LkC, Value.cells, List.toList_toArray, Nat.reduceAdd, Nat.zero_add, and_true, zf, zg, ze, zh] at HS hc; refine RT.nil ?_) | (refine yE (.op 0 0 34 (.op 1 0 35 (.op 2 0 36 (.op 3 0 37 (.op 4 0 38 (.op 5 0 6 (.op 6 0 7 (.op 7 0 8 .nil)))))))) [] HS (List.Sublist.refl _) ?_; clear HS hc; intro HS hS; (repeat refine RT.tk ?_); clear hS; have hc := HS.lk; simp only [Lk, LkC, Value.cells, List.toList_toArray, Nat.reduceAdd, Nat.zero_add, and_true, zf, zg, ze, zh] at HS hc; refine RT.nil ?_))
  go_ret3
  exact ⟨⟨_, rfl, by simp⟩, HS.fin⟩
theorem zaa {s : ByteArray} {p n e : Int} {ys : List ByteArray} {w : World} (h : JI s p ys n e) : Calls Tryz.prog 113 #[.string s, .int .i64 p] w fun e' w' => ∃ v, e' = .returned (.tuple #[v, .int .i64 n, .int .i64 e]) ∧ Kd.string.R 9 w' w.heap.size (fun _ => True) v ys ∧ Below w.heap.size w w' := by
 have HS := Sat.nil w
 obtain ⟨xs, p1, q1, b, h1, h2, h3⟩ := h
 replace h1 := za.mk h1
 replace h2 := za.mk h2
 replace h3 := za.mk h3
 go_enter Tryz.func113, Tryz.ntmps113
 go_wp2_with (first | (first | ((with_reducible refine gB rfl ?_); refine zz HS ?_) | ((with_reducible refine gA rfl ?_); refine zt HS ?_) | ((with_reducible refine gS rfl ?_); refine zu HS ?_) | (go_at_call 148; refine HS.tnR (za4 h1.out (by decide)) ?_) | (go_at_call 147; refine HS.tn (zcg h3.out (by obtain ⟨k_, hk_⟩ := h2.out; exact qW.calls k_ _ _ _ _ _ (Kd.R_reads' (HS.rows _ (.head _)).2).2.2 (Kd.R_reads' (HS.rows _ (.head _)).2).2.1 hk_)) ?_)); clear HS; (try clear hc); intros; first | (rename_i e_ w_ he HS; obtain ⟨v_, rfl, hv_⟩ := he; have hc := HS.lk; simp only [Lk, LkC, Value.cells, List.toList_toArray, Nat.reduceAdd, Nat.zero_add, and_true, zf, zg, ze, zh] at HS hc) | (rename_i HS; have hc := HS.lk; simp only [Lk, LkC, Value.cells, List.toList_toArray, Nat.reduceAdd, Nat.zero_add, and_true, zf, zg, ze, zh] at HS hc))
 go_ret3
 refine ⟨_, rfl, ?_, HS.below⟩
 rcases hv_ with ⟨rfl, rfl⟩ | ⟨rfl, rfl⟩
 ·exact Kd.R_nil _ _ _ _ _
 ·exact (HS.rows _ (.head _)).2
theorem zcd {s : ByteArray} {p q n e : Int} {x y : S52} {b : Bool} {A : Option Addr} {c base : Nat} {w : World} {g : Nat} {cs : List Value} (hB : jo x.f0 x.f1 x.f2 x.f3 x.f4 x.f5 = b) (h : XQ z52 x b p q y n e) (hr : (Kd.int .i64).R 3 w base (fun _ => True) (.slice A x.f4.length c) x.f4) (hcs : (e = 0 ∧ cs = [.int .i64 x.f0, .int .i64 x.f1, .string x.f2, .int .i64 x.f3, .slice A x.f4.length c, .int .i64 x.f5]) ∨ (e ≠ 0 ∧ cs = [.int .i64 0, .int .i64 0, .string ⟨#[]⟩, .int .i64 0, .slice none 0 0, .int .i64 0])) (hg : AtB w g 156 (rdC s p q)) : Calls Tryz.prog 154 #[.pointer (some ⟨g, 0, none⟩), .agg #[.int .i64 x.f0, .int .i64 x.f1, .string x.f2, .int .i64 x.f3, .slice A x.f4.length c, .int .i64 x.f5], .func (Fn.func 136) #[] #[]] w fun e' w' => e' = .returned (.tuple #[.agg cs.toArray, .int .i64 n, .int .i64 e]) ∧ Tn w g 156 (rdC s p e) w' := by
 have HS := (Sat.one hg).row (Ty.R (Kd.int .i64) 3 base _ _) hr
 replace hB := za.mk hB
 clear hr
 rcases h with ⟨c0, rfl, rfl, rfl⟩ | ⟨rfl, rfl, rfl, rfl, rfl⟩ | ⟨rfl, rfl, rfl, rfl, rfl⟩
 case' inl => have c1 := beq_eq_false_iff_ne.mpr c0; have c2 := bne_iff_ne.mpr c0
 all_goals
  rcases hcs with ⟨c3, rfl⟩ | ⟨c3, rfl⟩ <;> first | (exfalso; first | exact c0 c3 | exact c3 rfl | (revert c3; decide)) | skip
  try clear c0
  clear c3
  have hc := HS.lk
  simp only [Lk, LkC, Value.cells, List.toList_toArray, Nat.reduceAdd, Nat.zero_add, and_true, zf, zg, ze, zh] at HS hc
  go_enter Tryz.func154, Tryz.ntmps154
  go_wp2_with (first | ((first | ((with_reducible refine gB rfl ?_); refine zz HS ?_) | ((with_reducible refine gA rfl ?_); refine zt HS ?_) | ((with_reducible refine gS rfl ?_); refine zu HS ?_) | (go_at_call 136; refine HS.go (qD.calls 0 _ _ _ _ _ _ _ _ _ _ (Kd.R_reads' (HS.rows _ (.head _)).2).2.2 (Kd.R_reads' (HS.rows _ (.head _)).2).2.1 (congrArg some hB.out)) ?_)); clear HS; (try clear hc); intros; rename_i HS; have hc := HS.lk; simp only [Lk, LkC, Value.cells, List.toList_toArray, Nat.reduceAdd, Nat.zero_add, and_true, zf, zg, ze, zh] at HS hc) | (refine yE (.op 0 0 29 (.op 1 0 30 (.op 2 0 31 (.op 3 0 32 (.op 4 0 33 (.op 5 4 0 (.op 6 1 7 (.op 7 1 8 .nil)))))))) [] HS (.cons_cons _ (.cons _ (.cons_cons _ (.cons_cons _ .slnil)))) ?_; clear HS hc; intro HS hS; (repeat (refine RT.tk ?_)); refine RT.o4 ?_; intro K hK; refine xG HS ?_; clear HS hS; intro w_ HS; have hc := HS.lk; simp only [Lk, LkC, Value.cells, List.toList_toArray, Nat.reduceAdd, Nat.zero_add, and_true, zf, zg, ze, zh] at HS hc; refine hK _ _ (xv (.cons_cons _ (.cons _ (.cons_cons _ (.cons_cons _ .slnil)))) HS.lk) (fun hS => ?_); clear hK hS; (repeat (refine RT.pu ?_)); refine RT.nil ?_) | (refine yE (.op 0 0 34 (.op 1 0 35 (.op 2 0 36 (.op 3 0 37 (.op 4 0 38 (.op 5 4 0 (.op 6 1 7 (.op 7 1 8 .nil)))))))) [] HS (.cons_cons _ (.cons _ (.cons_cons _ (.cons_cons _ .slnil)))) ?_; clear HS hc; intro HS hS; (repeat (refine RT.tk ?_)); refine RT.o4 ?_; intro K hK; refine xG HS ?_; clear HS hS; intro w_ HS; have hc := HS.lk; simp only [Lk, LkC, Value.cells, List.toList_toArray, Nat.reduceAdd, Nat.zero_add, and_true, zf, zg, ze, zh] at HS hc; refine hK _ _ (xv (.cons_cons _ (.cons _ (.cons_cons _ (.cons_cons _ .slnil)))) HS.lk) (fun hS => ?_); clear hK hS; (repeat (refine RT.pu ?_)); refine RT.nil ?_))
  refine bodyPost_ret (xN (rs := [_, _, _]) rfl (by simp) (.cell _ _ _ _ _ rfl (HS.blk (_, _, _) (by repeat (first | exact .head _ | apply List.Mem.tail))).2 Tryz.underlying52 rfl (by kernel_rfl) (.tmp (.tmp .nil)))) rfl ?_
  exact ⟨rfl, HS.fin⟩
theorem zdo {s : ByteArray} {p n e : Int} {y : S52} {w : World} (h : zcN s p y n e) : Calls Tryz.prog 116 #[.string s, .int .i64 p] w fun e' w' => (∃ cs : List Value, e' = .returned (.tuple #[.agg cs.toArray, .int .i64 n, .int .i64 e]) ∧ k52.M w' w.heap.size (fun _ => True) y cs) ∧ Below w.heap.size w w' := by
 have HS := Sat.nil w
 obtain ⟨x, p1, q1, p2, q2, p3, q3, p4, q4, p5, q5, p_, q_, h1, h2, h3, h4, h5, h6, h7⟩ := h
 replace h1 := za.mk h1
 replace h2 := za.mk h2
 replace h3 := za.mk h3
 replace h4 := za.mk h4
 replace h5 := za.mk h5
 replace h6 := za.mk h6
 have h8 : (e = 0 ∧ y = x) ∨ (e ≠ 0 ∧ y = z52) := by
  rcases h7 with ⟨c0, rfl, rfl, rfl⟩ | ⟨rfl, _, rfl, rfl, rfl⟩ | ⟨rfl, _, rfl, rfl, rfl⟩
  ·exact .inr ⟨c0, rfl⟩
  ·exact .inr ⟨by decide, rfl⟩
  ·exact .inl ⟨rfl, rfl⟩
 replace h7 := za.mk h7
 rcases h8 with ⟨h8, rfl⟩ | ⟨h8, rfl⟩
 all_goals
  replace h8 := za.mk h8
  go_enter Tryz.func116, Tryz.ntmps116
  go_wp2_with ((first | ((with_reducible refine gB rfl ?_); refine zz HS ?_) | ((with_reducible refine gA rfl ?_); refine zt HS ?_) | ((with_reducible refine gS rfl ?_); refine zu HS ?_) | (go_at_call 152; refine HS.tn0 (qS h1.out) ?_) | (go_at_call 152; refine HS.tn0 (qS h2.out) ?_) | (go_at_call 150; refine HS.tn0 (JL h3.out) ?_) | (go_at_call 152; refine HS.tn0 (qS h4.out) ?_) | (go_at_call 153; refine HS.tnR (J6 h5.out) ?_) | (go_at_call 152; refine HS.tn0 (qS h6.out) ?_) | (go_at_call 154; refine HS.tn0 (zcd rfl h7.out (HS.rows _ (.head _)).2 (by first | exact .inl ⟨h8.out, rfl⟩ | exact .inr ⟨h8.out, rfl⟩)) ?_)); clear HS; (try clear hc); intros; rename_i HS; have hc := HS.lk; simp only [Lk, LkC, Value.cells, List.toList_toArray, Nat.reduceAdd, Nat.zero_add, and_true, zf, zg, ze, zh] at HS hc)
  refine bodyPost_ret (xN (rs := [_, _, _]) rfl (by simp) (.cell _ _ _ _ _ rfl (HS.blk (_, _, _) (by repeat (first | exact .head _ | apply List.Mem.tail))).2 Tryz.underlying52 rfl (by kernel_rfl) (.tmp (.tmp .nil)))) rfl ?_
  refine ⟨⟨_, rfl, ?_⟩, HS.below⟩
  first | exact QC _ _ _ _ (HS.rows _ (.head _)).2 | exact QC _ _ _ z52 (Kd.R_nil _ _ _ _ _)
section
variable {P : Program} {gs : List Nat} {w0 w : World} {bs bs' : List Bk} {rs : List Rw} {f : FuncId} {args : Array Value} {K : Ending → World → Prop} {g : Nat} {s s' : ByteArray} {p q p' q' : Int} {α : Type} {d : Kd α} {t : Nat} {xs : List α} {r : Value}
abbrev IsR (W w : World) (g : Nat) (s : ByteArray) (p q : Int) : Prop := w.heap[g]? = some (.cells (rdC s p q).toArray 67 (0, 0)) ∧ W.heap.size ≤ g
abbrev jk (W w w' : World) (g : Nat) (s : ByteArray) (p q : Int) : Prop := IsR W w' g s p q ∧ Below W.heap.size W w' ∧ yX w w' g none
theorem Sat.reader (H : Sat gs w0 w bs rs) (hm : (g, rdC s p q, 67) ∈ bs) : IsR (xM w g) w g s p q ∧ Below (xM w g).heap.size (xM w g) w :=
 ⟨⟨(H.blk _ hm).2, by rw [ZJ (H.lt hm)]; exact Nat.le_refl _⟩, YR (H.lt hm)⟩
theorem Sat.rd0 (H : Sat gs w0 w bs rs) (hc : IsR (xM w g) w g s p q → Below (xM w g).heap.size (xM w g) w → Calls P f args w fun e w' => e = .returned r ∧ jk (xM w g) w w' g s' p' q')
  (h : ∀ w', Sat gs w0 w' bs' rs → K (.returned r) w') (hm : (g, rdC s p q, 67) ∈ bs := by ((repeat (first | exact .head _ | apply List.Mem.tail)); (first | done | fail))) (U : Up g 67 0 (fun _ => rdC s' p' q') bs bs' := by ((repeat (first | exact .here rfl | apply Up.there)); (first | done | fail))) (ht : xC 67 rs = true := by rfl) : Calls P f args w K := by
 obtain ⟨h1, h2⟩ := H.reader hm
 refine H.st (Φ := fun e _ => e = .returned r) ((hc h1 h2).mono fun e w' he => ⟨he.1, he.2.1.1, he.2.2⟩) h2 (fun e w' he HS => ?_) U ht
 subst he
 exact h w' HS
theorem Sat.rdR (H : Sat gs w0 w bs rs) (hc : IsR (xM w g) w g s p q → Below (xM w g).heap.size (xM w g) w → Calls P f args w fun e w' => ∃ v, e = .returned v ∧ d.R t w' w.heap.size (fun _ => True) v xs ∧ jk (xM w g) w w' g s' p' q')
  (h : ∀ A c w', Sat gs w0 w' bs' ((t :: d.E, fun w => d.R t w w0.heap.size (fun _ => True) (.slice A xs.length c) xs) :: rs) → K (.returned (.slice A xs.length c)) w') (hm : (g, rdC s p q, 67) ∈ bs := by ((repeat (first | exact .head _ | apply List.Mem.tail)); (first | done | fail))) (U : Up g 67 0 (fun _ => rdC s' p' q') bs bs' := by ((repeat (first | exact .here rfl | apply Up.there)); (first | done | fail))) (ht : xC 67 rs = true := by rfl) : Calls P f args w K := by
 obtain ⟨h1, h2⟩ := H.reader hm
 refine H.st (Φ := fun e w' => ∃ v, e = .returned v ∧ d.R t w' w.heap.size (fun _ => True) v xs) ((hc h1 h2).mono fun e w' he => ?_) h2 (fun e w' he HS => ?_) U ht
 ·obtain ⟨v, h3, h4, h5, h6⟩ := he
  exact ⟨⟨v, h3, h4⟩, h5.1, h6⟩
 ·obtain ⟨v, rfl, hr⟩ := he
  obtain ⟨A, c, rfl⟩ := Kd.R_slice hr
  exact h A c w' (HS.R hr H.keep.size)
theorem Sat.rdG (H : Sat gs w0 w bs rs) {Φ : Ending → World → Prop} (hc : IsR (xM w g) w g s p q → Below (xM w g).heap.size (xM w g) w → Calls P f args w fun e w' => Φ e w' ∧ jk (xM w g) w w' g s' p' q')
  (h : ∀ e w', Φ e w' → Sat gs w0 w' bs' rs → K e w') (hm : (g, rdC s p q, 67) ∈ bs := by ((repeat (first | exact .head _ | apply List.Mem.tail)); (first | done | fail))) (U : Up g 67 0 (fun _ => rdC s' p' q') bs bs' := by ((repeat (first | exact .here rfl | apply Up.there)); (first | done | fail))) (ht : xC 67 rs = true := by rfl) : Calls P f args w K := by
 obtain ⟨h1, h2⟩ := H.reader hm
 exact H.st (Φ := Φ) ((hc h1 h2).mono fun e w' he => ⟨he.1, he.2.1.1, he.2.2⟩) h2 h U ht
theorem Sat.post {W w' : World} (H : Sat [g] w w' bs rs) (hB : Below W.heap.size W w) (hg : W.heap.size ≤ g) (hm : (g, rdC s p q, 67) ∈ bs) : jk W w w' g s p q :=
 ⟨⟨(H.blk _ hm).2, hg⟩, H.keep.below_of hB (by simpa using hg), H.keep.but⟩
end
def rCmd := beh z52 zcN
def Qo := beh [] JI
def Qz := beh [] J5
def JH := beh [] VA
def Y8 := beh [] X7
def Xv (s : ByteArray) (p q m v p' q' : Int) : Prop := ∃ n q1, xP s p q n p' q1 ∧ ((q1 = 0 ∧ inB n 0 m = true ∧ v = n ∧ q' = 0) ∨ (q1 = 0 ∧ inB n 0 m = false ∧ v = 0 ∧ q' = 6) ∨ (q1 ≠ 0 ∧ v = 0 ∧ q' = q1))
abbrev cmdC (x : S52) (A : Option Addr) (c : Nat) : List Value := [.int .i64 x.f0, .int .i64 x.f1, .string x.f2, .int .i64 x.f3, .slice A x.f4.length c, .int .i64 x.f5]
section
variable {W w : World} {g : Nat} {s : ByteArray} {p q p' q' : Int}
theorem xP.with {v : Int} (h : xP s p q v p' q') (hI : IsR W w g s p q) (hB : Below W.heap.size W w) : Calls Tryz.prog 74 #[.pointer (some ⟨g, 0, none⟩), .func (Fn.func 75) #[] #[]] w fun e w' => e = .returned (.int .i64 v) ∧ jk W w w' g s p' q' := by
 have hG := za.mk hI.2
 have HS := Sat.one hI.1
 replace hB := za.mk hB
 clear hI
 have hc := HS.lk
 simp only [Lk, LkC, Value.cells, List.toList_toArray, Nat.reduceAdd, Nat.zero_add, and_true, zf, zg, ze, zh] at HS hc
 rcases h with ⟨c, rfl, rfl, rfl⟩ | ⟨rfl, h⟩
 ·have d1 := bne_iff_ne.mpr c
  go_enter Tryz.func74, Tryz.ntmps74
  go_wp2_with ((first | ((with_reducible refine gB rfl ?_); refine zz HS ?_) | ((with_reducible refine gA rfl ?_); refine zt HS ?_) | ((with_reducible refine gS rfl ?_); refine zu HS ?_)); clear HS; (try clear hc); intros; rename_i HS; have hc := HS.lk; simp only [Lk, LkC, Value.cells, List.toList_toArray, Nat.reduceAdd, Nat.zero_add, and_true, zf, zg, ze, zh] at HS hc)
  go_ret
  exact ⟨rfl, HS.post hB.out hG.out (by simp)⟩
 ·replace h := za.mk h
  obtain ⟨k, h⟩ := h.out
  replace h := za.mk h
  go_enter Tryz.func74, Tryz.ntmps74
  go_wp2_with (first | ((first | ((with_reducible refine gB rfl ?_); refine zz HS ?_) | ((with_reducible refine gA rfl ?_); refine zt HS ?_) | ((with_reducible refine gS rfl ?_); refine zu HS ?_)); clear HS; (try clear hc); intros; rename_i HS; have hc := HS.lk; simp only [Lk, LkC, Value.cells, List.toList_toArray, Nat.reduceAdd, Nat.zero_add, and_true, zf, zg, ze, zh] at HS hc) | (refine yE (.op 0 0 16 (.op 1 0 17 (.op 2 0 18 (.op 3 0 19 (.op 4 0 20 (.op 5 0 21 (.op 6 0 22 (.op 7 0 23 (.op 8 0 24 (.op 9 2 25 (.op 10 1 15 (.op 11 1 26 (.op 12 1 27 (.op 13 1 28 (.op 14 1 6 (.op 15 1 7 (.op 16 1 8 .nil))))))))))))))))) [] HS (List.Sublist.refl _) ?_; clear HS hc; intro HS hS; (repeat' (first | refine RT.tk ?_ | refine RT.pu ?_ | (refine RT.o1 ?_; refine xS HS (List.Sublist.refl _) (qq (zo.calls k _ _ _ _ _ _ h.out)) ?_; clear HS; intro w_ HS; refine RT.nm ?_))); have hc := HS.lk; simp only [Lk, LkC, Value.cells, List.toList_toArray, Nat.reduceAdd, Nat.zero_add, and_true, zf, zg, ze, zh] at HS hc; refine RT.nil ?_))
  go_ret
  exact ⟨rfl, HS.post hB.out hG.out (by simp)⟩
theorem xP.calls {v : Int} (h : xP s p q v p' q') (hI : IsR W w g s p q) (hB : Below W.heap.size W w) : Calls Tryz.prog 37 #[.pointer (some ⟨g, 0, none⟩)] w fun e w' => e = .returned (.int .i64 v) ∧ jk W w w' g s p' q' := by
 have hG := za.mk hI.2
 have HS := Sat.one hI.1
 replace hB := za.mk hB
 clear hI
 replace h := za.mk h
 go_enter Tryz.func37, Tryz.ntmps37
 go_wp2_with ((first | ((with_reducible refine gB rfl ?_); refine zz HS ?_) | ((with_reducible refine gA rfl ?_); refine zt HS ?_) | ((with_reducible refine gS rfl ?_); refine zu HS ?_) | (go_at_call 74; refine HS.rd0 h.out.with ?_)); clear HS; (try clear hc); intros; rename_i HS; have hc := HS.lk; simp only [Lk, LkC, Value.cells, List.toList_toArray, Nat.reduceAdd, Nat.zero_add, and_true, zf, zg, ze, zh] at HS hc)
 go_ret
 exact ⟨rfl, HS.post hB.out hG.out (by simp)⟩
theorem Zu.calls {v : ByteArray} (h : Zu s p q v p' q') (hI : IsR W w g s p q) (hB : Below W.heap.size W w) : Calls Tryz.prog 117 #[.pointer (some ⟨g, 0, none⟩), .func (Fn.func 118) #[] #[]] w fun e w' => e = .returned (.string v) ∧ jk W w w' g s p' q' := by
 have hG := za.mk hI.2
 have HS := Sat.one hI.1
 replace hB := za.mk hB
 clear hI
 have hc := HS.lk
 simp only [Lk, LkC, Value.cells, List.toList_toArray, Nat.reduceAdd, Nat.zero_add, and_true, zf, zg, ze, zh] at HS hc
 rcases h with ⟨c, rfl, rfl, rfl⟩ | ⟨rfl, h⟩
 ·have d1 := bne_iff_ne.mpr c
  go_enter Tryz.func117, Tryz.ntmps117
  go_wp2_with ((first | ((with_reducible refine gB rfl ?_); refine zz HS ?_) | ((with_reducible refine gA rfl ?_); refine zt HS ?_) | ((with_reducible refine gS rfl ?_); refine zu HS ?_)); clear HS; (try clear hc); intros; rename_i HS; have hc := HS.lk; simp only [Lk, LkC, Value.cells, List.toList_toArray, Nat.reduceAdd, Nat.zero_add, and_true, zf, zg, ze, zh] at HS hc)
  go_ret
  exact ⟨rfl, HS.post hB.out hG.out (by simp)⟩
 ·replace h := za.mk h
  obtain ⟨k, h⟩ := h.out
  replace h := za.mk h
  go_enter Tryz.func117, Tryz.ntmps117
  go_wp2_with (first | ((first | ((with_reducible refine gB rfl ?_); refine zz HS ?_) | ((with_reducible refine gA rfl ?_); refine zt HS ?_) | ((with_reducible refine gS rfl ?_); refine zu HS ?_)); clear HS; (try clear hc); intros; rename_i HS; have hc := HS.lk; simp only [Lk, LkC, Value.cells, List.toList_toArray, Nat.reduceAdd, Nat.zero_add, and_true, zf, zg, ze, zh] at HS hc) | (refine yE (.op 0 0 16 (.op 1 0 17 (.op 2 0 18 (.op 3 0 19 (.op 4 0 20 (.op 5 0 21 (.op 6 0 22 (.op 7 0 23 (.op 8 0 24 (.op 9 2 25 (.op 10 1 15 (.op 11 1 26 (.op 12 1 27 (.op 13 1 28 (.op 14 1 6 (.op 15 1 7 (.op 16 1 8 .nil))))))))))))))))) [] HS (List.Sublist.refl _) ?_; clear HS hc; intro HS hS; (repeat' (first | refine RT.tk ?_ | refine RT.pu ?_ | (refine RT.o1 ?_; refine xS HS (List.Sublist.refl _) (qq (qU.calls k _ _ _ _ _ _ h.out)) ?_; clear HS; intro w_ HS; refine RT.nm ?_))); have hc := HS.lk; simp only [Lk, LkC, Value.cells, List.toList_toArray, Nat.reduceAdd, Nat.zero_add, and_true, zf, zg, ze, zh] at HS hc; refine RT.nil ?_))
  go_ret
  exact ⟨rfl, HS.post hB.out hG.out (by simp)⟩
theorem Qo.calls {v : List ByteArray} (h : Qo s p q v p' q') (hI : IsR W w g s p q) (hB : Below W.heap.size W w) : Calls Tryz.prog 112 #[.pointer (some ⟨g, 0, none⟩), .func (Fn.func 113) #[] #[]] w fun e w' => ∃ v0, e = .returned v0 ∧ Kd.string.R 9 w' w.heap.size (fun _ => True) v0 v ∧ jk W w w' g s p' q' := by
 have hG := za.mk hI.2
 have HS := Sat.one hI.1
 replace hB := za.mk hB
 clear hI
 have hc := HS.lk
 simp only [Lk, LkC, Value.cells, List.toList_toArray, Nat.reduceAdd, Nat.zero_add, and_true, zf, zg, ze, zh] at HS hc
 rcases h with ⟨c, rfl, rfl, rfl⟩ | ⟨rfl, h⟩
 ·have d1 := bne_iff_ne.mpr c
  go_enter Tryz.func112, Tryz.ntmps112
  go_wp2_with ((first | ((with_reducible refine gB rfl ?_); refine zz HS ?_) | ((with_reducible refine gA rfl ?_); refine zt HS ?_) | ((with_reducible refine gS rfl ?_); refine zu HS ?_)); clear HS; (try clear hc); intros; rename_i HS; have hc := HS.lk; simp only [Lk, LkC, Value.cells, List.toList_toArray, Nat.reduceAdd, Nat.zero_add, and_true, zf, zg, ze, zh] at HS hc)
  go_ret
  exact ⟨_, rfl, Kd.R_nil _ _ _ _ _, HS.post hB.out hG.out (by simp)⟩
 ·replace h := za.mk h
  go_enter Tryz.func112, Tryz.ntmps112
  go_wp2_with (first | ((first | ((with_reducible refine gB rfl ?_); refine zz HS ?_) | ((with_reducible refine gA rfl ?_); refine zt HS ?_) | ((with_reducible refine gS rfl ?_); refine zu HS ?_)); clear HS; (try clear hc); intros; rename_i HS; have hc := HS.lk; simp only [Lk, LkC, Value.cells, List.toList_toArray, Nat.reduceAdd, Nat.zero_add, and_true, zf, zg, ze, zh] at HS hc) | (refine yE (.op 0 0 16 (.op 1 0 17 (.op 2 0 18 (.op 3 0 19 (.op 4 0 20 (.op 5 0 21 (.op 6 0 22 (.op 7 0 23 (.op 8 0 24 (.op 9 2 25 (.op 10 1 15 (.op 11 1 26 (.op 12 1 27 (.op 13 1 28 (.op 14 1 6 (.op 15 1 7 (.op 16 1 8 .nil))))))))))))))))) [] HS (List.Sublist.refl _) ?_; clear HS hc; intro HS hS; (repeat' (first | refine RT.tk ?_ | refine RT.pu ?_ | (refine RT.o1 ?_; refine Xe (F := fun v => .tuple #[v, .int .i64 p', .int .i64 q']) HS (List.Sublist.refl _) (zaa h.out) ?_; clear HS; intro A_ c_ w_ HS; refine RT.nm ?_))); have hc := HS.lk; simp only [Lk, LkC, Value.cells, List.toList_toArray, Nat.reduceAdd, Nat.zero_add, and_true, zf, zg, ze, zh] at HS hc; refine RT.nil ?_))
  go_ret
  exact ⟨_, rfl, (HS.rows _ (.head _)).2, HS.post hB.out hG.out (by simp)⟩
theorem Qz.calls {v : List S108} (h : Qz s p q v p' q') (hI : IsR W w g s p q) (hB : Below W.heap.size W w) : Calls Tryz.prog 119 #[.pointer (some ⟨g, 0, none⟩), .func (Fn.func 120) #[] #[]] w fun e w' => ∃ v0, e = .returned v0 ∧ k108.R 108 w' w.heap.size (fun _ => True) v0 v ∧ jk W w w' g s p' q' := by
 have hG := za.mk hI.2
 have HS := Sat.one hI.1
 replace hB := za.mk hB
 clear hI
 have hc := HS.lk
 simp only [Lk, LkC, Value.cells, List.toList_toArray, Nat.reduceAdd, Nat.zero_add, and_true, zf, zg, ze, zh] at HS hc
 rcases h with ⟨c, rfl, rfl, rfl⟩ | ⟨rfl, h⟩
 ·have d1 := bne_iff_ne.mpr c
  go_enter Tryz.func119, Tryz.ntmps119
  go_wp2_with ((first | ((with_reducible refine gB rfl ?_); refine zz HS ?_) | ((with_reducible refine gA rfl ?_); refine zt HS ?_) | ((with_reducible refine gS rfl ?_); refine zu HS ?_)); clear HS; (try clear hc); intros; rename_i HS; have hc := HS.lk; simp only [Lk, LkC, Value.cells, List.toList_toArray, Nat.reduceAdd, Nat.zero_add, and_true, zf, zg, ze, zh] at HS hc)
  go_ret
  exact ⟨_, rfl, Kd.R_nil _ _ _ _ _, HS.post hB.out hG.out (by simp)⟩
 ·replace h := za.mk h
  go_enter Tryz.func119, Tryz.ntmps119
  go_wp2_with (first | ((first | ((with_reducible refine gB rfl ?_); refine zz HS ?_) | ((with_reducible refine gA rfl ?_); refine zt HS ?_) | ((with_reducible refine gS rfl ?_); refine zu HS ?_)); clear HS; (try clear hc); intros; rename_i HS; have hc := HS.lk; simp only [Lk, LkC, Value.cells, List.toList_toArray, Nat.reduceAdd, Nat.zero_add, and_true, zf, zg, ze, zh] at HS hc) | (refine yE (.op 0 0 16 (.op 1 0 17 (.op 2 0 18 (.op 3 0 19 (.op 4 0 20 (.op 5 0 21 (.op 6 0 22 (.op 7 0 23 (.op 8 0 24 (.op 9 2 25 (.op 10 1 15 (.op 11 1 26 (.op 12 1 27 (.op 13 1 28 (.op 14 1 6 (.op 15 1 7 (.op 16 1 8 .nil))))))))))))))))) [] HS (List.Sublist.refl _) ?_; clear HS hc; intro HS hS; (repeat' (first | refine RT.tk ?_ | refine RT.pu ?_ | (refine RT.o1 ?_; refine Xe (F := fun v => .tuple #[v, .int .i64 p', .int .i64 q']) HS (List.Sublist.refl _) (V1 h.out) ?_; clear HS; intro A_ c_ w_ HS; refine RT.nm ?_))); have hc := HS.lk; simp only [Lk, LkC, Value.cells, List.toList_toArray, Nat.reduceAdd, Nat.zero_add, and_true, zf, zg, ze, zh] at HS hc; refine RT.nil ?_))
  go_ret
  exact ⟨_, rfl, (HS.rows _ (.head _)).2, HS.post hB.out hG.out (by simp)⟩
theorem JH.calls {v : List S86} (h : JH s p q v p' q') (hI : IsR W w g s p q) (hB : Below W.heap.size W w) : Calls Tryz.prog 121 #[.pointer (some ⟨g, 0, none⟩), .func (Fn.func 122) #[] #[]] w fun e w' => ∃ v0, e = .returned v0 ∧ k86.R 86 w' w.heap.size (fun _ => True) v0 v ∧ jk W w w' g s p' q' := by
 have hG := za.mk hI.2
 have HS := Sat.one hI.1
 replace hB := za.mk hB
 clear hI
 have hc := HS.lk
 simp only [Lk, LkC, Value.cells, List.toList_toArray, Nat.reduceAdd, Nat.zero_add, and_true, zf, zg, ze, zh] at HS hc
 rcases h with ⟨c, rfl, rfl, rfl⟩ | ⟨rfl, h⟩
 ·have d1 := bne_iff_ne.mpr c
  go_enter Tryz.func121, Tryz.ntmps121
  go_wp2_with ((first | ((with_reducible refine gB rfl ?_); refine zz HS ?_) | ((with_reducible refine gA rfl ?_); refine zt HS ?_) | ((with_reducible refine gS rfl ?_); refine zu HS ?_)); clear HS; (try clear hc); intros; rename_i HS; have hc := HS.lk; simp only [Lk, LkC, Value.cells, List.toList_toArray, Nat.reduceAdd, Nat.zero_add, and_true, zf, zg, ze, zh] at HS hc)
  go_ret
  exact ⟨_, rfl, Kd.R_nil _ _ _ _ _, HS.post hB.out hG.out (by simp)⟩
 ·replace h := za.mk h
  go_enter Tryz.func121, Tryz.ntmps121
  go_wp2_with (first | ((first | ((with_reducible refine gB rfl ?_); refine zz HS ?_) | ((with_reducible refine gA rfl ?_); refine zt HS ?_) | ((with_reducible refine gS rfl ?_); refine zu HS ?_)); clear HS; (try clear hc); intros; rename_i HS; have hc := HS.lk; simp only [Lk, LkC, Value.cells, List.toList_toArray, Nat.reduceAdd, Nat.zero_add, and_true, zf, zg, ze, zh] at HS hc) | (refine yE (.op 0 0 16 (.op 1 0 17 (.op 2 0 18 (.op 3 0 19 (.op 4 0 20 (.op 5 0 21 (.op 6 0 22 (.op 7 0 23 (.op 8 0 24 (.op 9 2 25 (.op 10 1 15 (.op 11 1 26 (.op 12 1 27 (.op 13 1 28 (.op 14 1 6 (.op 15 1 7 (.op 16 1 8 .nil))))))))))))))))) [] HS (List.Sublist.refl _) ?_; clear HS hc; intro HS hS; (repeat' (first | refine RT.tk ?_ | refine RT.pu ?_ | (refine RT.o1 ?_; refine Xe (F := fun v => .tuple #[v, .int .i64 p', .int .i64 q']) HS (List.Sublist.refl _) (zbd h.out) ?_; clear HS; intro A_ c_ w_ HS; refine RT.nm ?_))); have hc := HS.lk; simp only [Lk, LkC, Value.cells, List.toList_toArray, Nat.reduceAdd, Nat.zero_add, and_true, zf, zg, ze, zh] at HS hc; refine RT.nil ?_))
  go_ret
  exact ⟨_, rfl, (HS.rows _ (.head _)).2, HS.post hB.out hG.out (by simp)⟩
theorem Y8.calls {v : List S77} (h : Y8 s p q v p' q') (hI : IsR W w g s p q) (hB : Below W.heap.size W w) : Calls Tryz.prog 123 #[.pointer (some ⟨g, 0, none⟩), .func (Fn.func 124) #[] #[]] w fun e w' => ∃ v0, e = .returned v0 ∧ k77.R 77 w' w.heap.size (fun _ => True) v0 v ∧ jk W w w' g s p' q' := by
 have hG := za.mk hI.2
 have HS := Sat.one hI.1
 replace hB := za.mk hB
 clear hI
 have hc := HS.lk
 simp only [Lk, LkC, Value.cells, List.toList_toArray, Nat.reduceAdd, Nat.zero_add, and_true, zf, zg, ze, zh] at HS hc
 rcases h with ⟨c, rfl, rfl, rfl⟩ | ⟨rfl, h⟩
 ·have d1 := bne_iff_ne.mpr c
  go_enter Tryz.func123, Tryz.ntmps123
  go_wp2_with ((first | ((with_reducible refine gB rfl ?_); refine zz HS ?_) | ((with_reducible refine gA rfl ?_); refine zt HS ?_) | ((with_reducible refine gS rfl ?_); refine zu HS ?_)); clear HS; (try clear hc); intros; rename_i HS; have hc := HS.lk; simp only [Lk, LkC, Value.cells, List.toList_toArray, Nat.reduceAdd, Nat.zero_add, and_true, zf, zg, ze, zh] at HS hc)
  go_ret
  exact ⟨_, rfl, Kd.R_nil _ _ _ _ _, HS.post hB.out hG.out (by simp)⟩
 ·replace h := za.mk h
  go_enter Tryz.func123, Tryz.ntmps123
  go_wp2_with (first | ((first | ((with_reducible refine gB rfl ?_); refine zz HS ?_) | ((with_reducible refine gA rfl ?_); refine zt HS ?_) | ((with_reducible refine gS rfl ?_); refine zu HS ?_)); clear HS; (try clear hc); intros; rename_i HS; have hc := HS.lk; simp only [Lk, LkC, Value.cells, List.toList_toArray, Nat.reduceAdd, Nat.zero_add, and_true, zf, zg, ze, zh] at HS hc) | (refine yE (.op 0 0 16 (.op 1 0 17 (.op 2 0 18 (.op 3 0 19 (.op 4 0 20 (.op 5 0 21 (.op 6 0 22 (.op 7 0 23 (.op 8 0 24 (.op 9 2 25 (.op 10 1 15 (.op 11 1 26 (.op 12 1 27 (.op 13 1 28 (.op 14 1 6 (.op 15 1 7 (.op 16 1 8 .nil))))))))))))))))) [] HS (List.Sublist.refl _) ?_; clear HS hc; intro HS hS; (repeat' (first | refine RT.tk ?_ | refine RT.pu ?_ | (refine RT.o1 ?_; refine Xe (F := fun v => .tuple #[v, .int .i64 p', .int .i64 q']) HS (List.Sublist.refl _) (JT h.out) ?_; clear HS; intro A_ c_ w_ HS; refine RT.nm ?_))); have hc := HS.lk; simp only [Lk, LkC, Value.cells, List.toList_toArray, Nat.reduceAdd, Nat.zero_add, and_true, zf, zg, ze, zh] at HS hc; refine RT.nil ?_))
  go_ret
  exact ⟨_, rfl, (HS.rows _ (.head _)).2, HS.post hB.out hG.out (by simp)⟩
theorem rCmd.calls {v : S52} (h : rCmd s p q v p' q') (hI : IsR W w g s p q) (hB : Below W.heap.size W w) : Calls Tryz.prog 115 #[.pointer (some ⟨g, 0, none⟩), .func (Fn.func 116) #[] #[]] w fun e w' => (∃ A c, e = .returned (.agg (cmdC v A c).toArray) ∧ Kd.R (Kd.int .i64) 3 w' w.heap.size (fun _ => True) (.slice A v.f4.length c) v.f4) ∧ jk W w w' g s p' q' := by
 have hG := za.mk hI.2
 have HS := Sat.one hI.1
 replace hB := za.mk hB
 clear hI
 have hc := HS.lk
 simp only [Lk, LkC, Value.cells, List.toList_toArray, Nat.reduceAdd, Nat.zero_add, and_true, zf, zg, ze, zh] at HS hc
 rcases h with ⟨c, rfl, rfl, rfl⟩ | ⟨rfl, h⟩
 ·have d1 := bne_iff_ne.mpr c
  go_enter Tryz.func115, Tryz.ntmps115
  go_wp2_with ((first | ((with_reducible refine gB rfl ?_); refine zz HS ?_) | ((with_reducible refine gA rfl ?_); refine zt HS ?_) | ((with_reducible refine gS rfl ?_); refine zu HS ?_)); clear HS; (try clear hc); intros; rename_i HS; have hc := HS.lk; simp only [Lk, LkC, Value.cells, List.toList_toArray, Nat.reduceAdd, Nat.zero_add, and_true, zf, zg, ze, zh] at HS hc)
  refine bodyPost_ret (yZ rfl (.cell _ _ _ _ _ rfl (HS.blk (_, _, _) (by repeat (first | exact .head _ | apply List.Mem.tail))).2 Tryz.underlying52 rfl (by kernel_rfl) .nil)) rfl ?_
  exact ⟨⟨none, 0, rfl, Kd.R_nil _ _ _ _ _⟩, HS.post hB.out hG.out (by simp)⟩
 ·replace h := za.mk h
  go_enter Tryz.func115, Tryz.ntmps115
  go_wp2_with (first | ((first | ((with_reducible refine gB rfl ?_); refine zz HS ?_) | ((with_reducible refine gA rfl ?_); refine zt HS ?_) | ((with_reducible refine gS rfl ?_); refine zu HS ?_)); clear HS; (try clear hc); intros; rename_i HS; have hc := HS.lk; simp only [Lk, LkC, Value.cells, List.toList_toArray, Nat.reduceAdd, Nat.zero_add, and_true, zf, zg, ze, zh] at HS hc) | (refine yE (.op 0 0 16 (.op 1 0 17 (.op 2 0 18 (.op 3 0 19 (.op 4 0 20 (.op 5 0 21 (.op 6 0 22 (.op 7 0 23 (.op 8 0 24 (.two 9 25 14 6 (.op 10 1 15 (.op 11 1 26 (.op 12 1 27 (.op 13 1 28 (.op 14 2 6 (.op 15 4 0 (.op 16 1 7 (.op 17 1 8 .nil)))))))) (.op 9 2 25 (.op 10 1 15 (.op 11 1 26 (.op 12 1 27 (.op 13 1 28 (.op 15 4 0 (.op 16 1 7 (.op 17 1 8 .nil)))))))))))))))))) [] HS (by (repeat (first | exact List.Sublist.refl _ | apply List.Sublist.cons))) ?_; clear HS hc; intro HS hS; (repeat' (first | refine RT.tk ?_ | refine RT.pu ?_ | refine RT.f2 ?_ ?_ | refine RT.o1 ?_ | (refine zdt (d := k52) (F := fun cs => .tuple #[.agg cs.toArray, .int .i64 p', .int .i64 q']) HS (by (repeat (first | exact List.Sublist.refl _ | apply List.Sublist.cons))) (zdo h.out) ?_; clear HS; intro cs_ w_ HS hm; obtain ⟨v_, rfl, g_⟩ := zaW hm; obtain ⟨A_, c_, rfl⟩ := Kd.R_slice g_; replace HS := HS.row (Ty.R (Kd.int .i64) 3 _ _ _) g_; clear hm g_; refine RT.nm ?_) | (intro K hK; refine zcF HS ?_; clear HS; intro g_ w_ HS; have hc := HS.lk; simp only [Lk, LkC, Value.cells, List.toList_toArray, Nat.reduceAdd, Nat.zero_add, and_true, zf, zg, ze, zh] at HS hc; refine hK _ _ (xv (by (repeat (first | exact List.Sublist.refl _ | apply List.Sublist.cons))) HS.lk) (fun hS => ?_); clear hK; refine RT.nm ?_) | (refine RT.o4 ?_; intro K hK; refine xG HS ?_; clear HS; intro w_ HS; have hc := HS.lk; simp only [Lk, LkC, Value.cells, List.toList_toArray, Nat.reduceAdd, Nat.zero_add, and_true, zf, zg, ze, zh] at HS hc; refine hK _ _ (xv (by (repeat (first | exact List.Sublist.refl _ | apply List.Sublist.cons))) HS.lk) (fun hS => ?_); clear hK))); (all_goals (try clear hc); have hc := HS.lk; simp only [Lk, LkC, Value.cells, List.toList_toArray, Nat.reduceAdd, Nat.zero_add, and_true, zf, zg, ze, zh] at HS hc; refine RT.nil ?_)))
  all_goals
   go_wp2_with ((first | ((with_reducible refine gB rfl ?_); refine zz HS ?_) | ((with_reducible refine gA rfl ?_); refine zt HS ?_) | ((with_reducible refine gS rfl ?_); refine zu HS ?_)); clear HS; (try clear hc); intros; rename_i HS; have hc := HS.lk; simp only [Lk, LkC, Value.cells, List.toList_toArray, Nat.reduceAdd, Nat.zero_add, and_true, zf, zg, ze, zh] at HS hc)
   refine bodyPost_ret (yZ rfl (.cell _ _ _ _ _ rfl (HS.blk (_, _, _) (by repeat (first | exact .head _ | apply List.Mem.tail))).2 Tryz.underlying52 rfl (by kernel_rfl) .nil)) rfl ?_
   exact ⟨⟨_, _, rfl, (HS.rows _ (.head _)).2⟩, HS.post hB.out hG.out (by simp)⟩
theorem Xv.calls {m v : Int} (h : Xv s p q m v p' q') (hI : IsR W w g s p q) (hB : Below W.heap.size W w) : Calls Tryz.prog 114 #[.pointer (some ⟨g, 0, none⟩), .int .i64 m] w fun e w' => e = .returned (.int .i64 v) ∧ jk W w w' g s p' q' := by
 have hG := za.mk hI.2
 have HS := Sat.one hI.1
 replace hB := za.mk hB
 clear hI
 obtain ⟨n, q1, h1, h2⟩ := h
 replace h1 := za.mk h1
 rcases h2 with ⟨rfl, c, rfl, rfl⟩ | ⟨rfl, c, rfl, rfl⟩ | ⟨c, rfl, rfl⟩
 case' inr.inr => have c1 := beq_eq_false_iff_ne.mpr c; have c2 := bne_iff_ne.mpr c
 all_goals
  replace c := za.mk c
  go_enter Tryz.func114, Tryz.ntmps114
  go_wp2_with ((first | ((with_reducible refine gB rfl ?_); refine zz HS ?_) | ((with_reducible refine gA rfl ?_); refine zt HS ?_) | ((with_reducible refine gS rfl ?_); refine zu HS ?_) | (go_at_call 37; refine HS.rd0 h1.out.calls ?_) | (go_at_call 38; refine HS.go0 (YT c.out) ?_)); clear HS; (try clear hc); intros; rename_i HS; have hc := HS.lk; simp only [Lk, LkC, Value.cells, List.toList_toArray, Nat.reduceAdd, Nat.zero_add, and_true, zf, zg, ze, zh] at HS hc)
  go_ret
  exact ⟨rfl, HS.post hB.out hG.out (by simp)⟩
end
def X4 (s : ByteArray) (p q a0 a1 a2 : Int) (x : Fm) (p' q' : Int) : Prop := ∃ v1 p1 q1 v2 p2 q2 l, xP s p q v1 p1 q1 ∧ xP s p1 q1 v2 p2 q2 ∧ Qo s p2 q2 l p' q' ∧ x = ⟨a0, a1, a2, v1, v2, l, [], [], [], []⟩
def rAck (s : ByteArray) (p q a0 a1 a2 : Int) (x : Fm) (p' q' : Int) : Prop := ∃ v1, xP s p q v1 p' q' ∧ x = ⟨a0, a1, a2, 0, v1, [], [], [], [], []⟩
def Qj (s : ByteArray) (p q a0 a1 a2 : Int) (x : Fm) (p' q' : Int) : Prop := ∃ v1 p1 q1 l p2 q2 m, xP s p q v1 p1 q1 ∧ JH s p1 q1 l p2 q2 ∧ Y8 s p2 q2 m p' q' ∧ x = ⟨a0, a1, a2, 0, v1, [], [], [], l, m⟩
inductive ZP (s : ByteArray) : Nat → Int → Int → List S52 → Int → Int → Prop
 | done {p q : Int} : ZP s 0 p q [] p q
 | stop {n : Nat} {p q : Int} (h : q ≠ 0) : ZP s (n + 1) p q [] p q
 | step {n : Nat} {p p1 q1 p' q' : Int} {x : S52} {l : List S52} (h : rCmd s p 0 x p1 q1) (t : ZP s n p1 q1 l p' q') : ZP s (n + 1) p 0 (x :: l) p' q'
theorem ZP.split {s : ByteArray} {n : Nat} {p q p' q' : Int} {l : List S52} (h : ZP s n p q l p' q') : (n = 0 ∧ l = [] ∧ p' = p ∧ q' = q) ∨ (0 < n ∧ q ≠ 0 ∧ l = [] ∧ p' = p ∧ q' = q) ∨ ∃ m x l1 p1 q1, n = m + 1 ∧ q = 0 ∧ rCmd s p 0 x p1 q1 ∧ ZP s m p1 q1 l1 p' q' ∧ l = x :: l1 := by
 cases h with
 | done => exact .inl ⟨rfl, rfl, rfl, rfl⟩
 | stop h => exact .inr (.inl ⟨by omega, h, rfl, rfl, rfl⟩)
 | step h t => exact .inr (.inr ⟨_, _, _, _, _, rfl, rfl, h, t, rfl⟩)
theorem Xv.most {s : ByteArray} {p q m p' q' : Int} {n : Nat} (h : Xv s p q m n p' q') : 0 ≤ m → (n : Int) ≤ m := by
 obtain ⟨a, q1, _, h⟩ := h
 intro hm
 rcases h with ⟨_, h1, rfl, _⟩ | ⟨_, _, h2, _⟩ | ⟨_, h2, _⟩
 ·have := of_decide_eq_true (Bool.and_eq_true_iff.1 h1).2
  exact this
 ·omega
 ·omega
def Jo (s : ByteArray) (p q a0 a1 a2 : Int) (x : Fm) (p' q' : Int) : Prop := ∃ (n : Nat) (p1 q1 : Int) (l : List S52), Xv s p q 8 n p1 q1 ∧ ZP s n p1 q1 l p' q' ∧ x = ⟨a0, a1, a2, 0, 0, [], l, [], [], []⟩
def zbL (s : ByteArray) (p q : Int) (x : S46) (p' q' : Int) : Prop := ∃ v p1 q1 t p2 q2 l p3 q3 u p4 q4 m, xP s p q v p1 q1 ∧ Zu s p1 q1 t p2 q2 ∧ Qz s p2 q2 l p3 q3 ∧ xP s p3 q3 u p4 q4 ∧ xP s p4 q4 m p' q' ∧ x = ⟨v, t, l, u, m⟩
inductive jq (s : ByteArray) : Nat → Int → Int → List S46 → Int → Int → Prop
 | done {p q : Int} : jq s 0 p q [] p q
 | stop {n : Nat} {p q : Int} (h : q ≠ 0) : jq s (n + 1) p q [] p q
 | step {n : Nat} {p p1 q1 p' q' : Int} {x : S46} {l : List S46} (h : zbL s p 0 x p1 q1) (t : jq s n p1 q1 l p' q') : jq s (n + 1) p 0 (x :: l) p' q'
theorem jq.split {s : ByteArray} {n : Nat} {p q p' q' : Int} {l : List S46} (h : jq s n p q l p' q') : (n = 0 ∧ l = [] ∧ p' = p ∧ q' = q) ∨ (0 < n ∧ q ≠ 0 ∧ l = [] ∧ p' = p ∧ q' = q) ∨ ∃ m x l1 p1 q1, n = m + 1 ∧ q = 0 ∧ zbL s p 0 x p1 q1 ∧ jq s m p1 q1 l1 p' q' ∧ l = x :: l1 := by
 cases h with
 | done => exact .inl ⟨rfl, rfl, rfl, rfl⟩
 | stop h => exact .inr (.inl ⟨by omega, h, rfl, rfl, rfl⟩)
 | step h t => exact .inr (.inr ⟨_, _, _, _, _, rfl, rfl, h, t, rfl⟩)
def Qa (s : ByteArray) (p q a0 a1 a2 : Int) (x : Fm) (p' q' : Int) : Prop := ∃ v1 p1 q1 v2 p2 q2 n p3 q3 l, xP s p q v1 p1 q1 ∧ xP s p1 q1 v2 p2 q2 ∧ Xv s p2 q2 16 (n : Nat) p3 q3 ∧ jq s n p3 q3 l p' q' ∧ x = ⟨a0, a1, a2, v1, v2, [], [], l, [], []⟩
abbrev QD (a0 a1 a2 : Int) : List Value := [.int .i64 a0, .int .i64 a1, .int .i64 a2, .int .i64 0, .int .i64 0, .slice none 0 0, .slice none 0 0, .slice none 0 0, .slice none 0 0, .slice none 0 0]
def jG (w w' : World) (g gf : Nat) (s : ByteArray) (p q : Int) (x : Fm) : Prop := xJ [g, gf] w w' ∧ w'.heap[g]? = some (.cells (rdC s p q).toArray 67 (0, 0)) ∧ ∃ cs, w'.heap[gf]? = some (.cells cs.toArray 28 (0, 0)) ∧ FmO w' w.heap.size x cs
theorem Sat.fp {w w' : World} {g gf : Nat} {bs : List Bk} {rs : List Rw} {s : ByteArray} {p q : Int} {x : Fm} {cs : List Value} (H : Sat [g, gf] w w' bs rs) (hf : FmO w' w.heap.size x cs) (hg : (g, rdC s p q, 67) ∈ bs := by simp) (hm : (gf, cs, 28) ∈ bs := by simp) : jG w w' g gf s p q x :=
 ⟨H.keep, (H.blk _ hg).2, cs, (H.blk _ hm).2, hf⟩
theorem X4.calls {s : ByteArray} {p q a0 a1 a2 p' q' : Int} {x : Fm} {g gf : Nat} {w : World} (h : X4 s p q a0 a1 a2 x p' q') (hR : w.heap[g]? = some (.cells (rdC s p q).toArray 67 (0, 0))) (hF : w.heap[gf]? = some (.cells (QD a0 a1 a2).toArray 28 (0, 0))) (hN : g ≠ gf) : Calls Tryz.prog 76 #[.agg #[], .pointer (some ⟨g, 0, none⟩), .pointer (some ⟨gf, 0, none⟩)] w fun e w' => e = .returned (.tuple #[]) ∧ jG w w' g gf s p' q' x := by
 obtain ⟨v1, p1, q1, v2, p2, q2, l, h1, h2, h3, rfl⟩ := h
 replace h1 := za.mk h1
 replace h2 := za.mk h2
 replace h3 := za.mk h3
 have HS := Sat.two hR hF hN
 clear hR hF hN
 have hc := HS.lk
 simp only [Lk, LkC, Value.cells, List.toList_toArray, Nat.reduceAdd, Nat.zero_add, and_true, zf, zg, ze, zh] at HS hc
 go_enter Tryz.func76, Tryz.ntmps76
 go_wp2_with ((first | ((with_reducible refine gB rfl ?_); refine zz HS ?_) | ((with_reducible refine gA rfl ?_); refine zt HS ?_) | ((with_reducible refine gS rfl ?_); refine zu HS ?_) | (go_at_call 37; refine HS.rd0 h1.out.calls ?_) | (go_at_call 37; refine HS.rd0 h2.out.calls ?_) | (go_at_call 112; refine HS.rdR h3.out.calls ?_)); clear HS; (try clear hc); intros; rename_i HS; have hc := HS.lk; simp only [Lk, LkC, Value.cells, List.toList_toArray, Nat.reduceAdd, Nat.zero_add, and_true, zf, zg, ze, zh] at HS hc)
 go_end0
 exact ⟨rfl, HS.fp ⟨_, _, _, _, _, rfl, (HS.rows _ (.head _)).2, oN, oN, oN, oN⟩⟩
theorem rAck.calls {s : ByteArray} {p q a0 a1 a2 p' q' : Int} {x : Fm} {g gf : Nat} {w : World} (h : rAck s p q a0 a1 a2 x p' q') (hR : w.heap[g]? = some (.cells (rdC s p q).toArray 67 (0, 0))) (hF : w.heap[gf]? = some (.cells (QD a0 a1 a2).toArray 28 (0, 0))) (hN : g ≠ gf) : Calls Tryz.prog 78 #[.agg #[], .pointer (some ⟨g, 0, none⟩), .pointer (some ⟨gf, 0, none⟩)] w fun e w' => e = .returned (.tuple #[]) ∧ jG w w' g gf s p' q' x := by
 obtain ⟨v1, h1, rfl⟩ := h
 replace h1 := za.mk h1
 have HS := Sat.two hR hF hN
 clear hR hF hN
 have hc := HS.lk
 simp only [Lk, LkC, Value.cells, List.toList_toArray, Nat.reduceAdd, Nat.zero_add, and_true, zf, zg, ze, zh] at HS hc
 go_enter Tryz.func78, Tryz.ntmps78
 go_wp2_with ((first | ((with_reducible refine gB rfl ?_); refine zz HS ?_) | ((with_reducible refine gA rfl ?_); refine zt HS ?_) | ((with_reducible refine gS rfl ?_); refine zu HS ?_) | (go_at_call 37; refine HS.rd0 h1.out.calls ?_)); clear HS; (try clear hc); intros; rename_i HS; have hc := HS.lk; simp only [Lk, LkC, Value.cells, List.toList_toArray, Nat.reduceAdd, Nat.zero_add, and_true, zf, zg, ze, zh] at HS hc)
 go_end0
 exact ⟨rfl, HS.fp ⟨_, _, _, _, _, rfl, oN, oN, oN, oN, oN⟩⟩
theorem Qj.calls {s : ByteArray} {p q a0 a1 a2 p' q' : Int} {x : Fm} {g gf : Nat} {w : World} (h : Qj s p q a0 a1 a2 x p' q') (hR : w.heap[g]? = some (.cells (rdC s p q).toArray 67 (0, 0))) (hF : w.heap[gf]? = some (.cells (QD a0 a1 a2).toArray 28 (0, 0))) (hN : g ≠ gf) : Calls Tryz.prog 80 #[.agg #[], .pointer (some ⟨g, 0, none⟩), .pointer (some ⟨gf, 0, none⟩)] w fun e w' => e = .returned (.tuple #[]) ∧ jG w w' g gf s p' q' x := by
 obtain ⟨v1, p1, q1, l, p2, q2, m, h1, h2, h3, rfl⟩ := h
 replace h1 := za.mk h1
 replace h2 := za.mk h2
 replace h3 := za.mk h3
 have HS := Sat.two hR hF hN
 clear hR hF hN
 have hc := HS.lk
 simp only [Lk, LkC, Value.cells, List.toList_toArray, Nat.reduceAdd, Nat.zero_add, and_true, zf, zg, ze, zh] at HS hc
 go_enter Tryz.func80, Tryz.ntmps80
 go_wp2_with ((first | ((with_reducible refine gB rfl ?_); refine zz HS ?_) | ((with_reducible refine gA rfl ?_); refine zt HS ?_) | ((with_reducible refine gS rfl ?_); refine zu HS ?_) | (go_at_call 37; refine HS.rd0 h1.out.calls ?_) | (go_at_call 121; refine HS.rdR h2.out.calls ?_) | (go_at_call 123; refine HS.rdR h3.out.calls ?_)); clear HS; (try clear hc); intros; rename_i HS; have hc := HS.lk; simp only [Lk, LkC, Value.cells, List.toList_toArray, Nat.reduceAdd, Nat.zero_add, and_true, zf, zg, ze, zh] at HS hc)
 go_end0
 exact ⟨rfl, HS.fp ⟨_, _, _, _, _, rfl, oN, oN, oN, (HS.rows _ (.tail _ (.head _))).2, (HS.rows _ (.head _)).2⟩⟩
theorem Jo.calls {s : ByteArray} {p q a0 a1 a2 p' q' : Int} {x : Fm} {g gf : Nat} {w : World} (h : Jo s p q a0 a1 a2 x p' q') (hR : w.heap[g]? = some (.cells (rdC s p q).toArray 67 (0, 0))) (hF : w.heap[gf]? = some (.cells (QD a0 a1 a2).toArray 28 (0, 0))) (hN : g ≠ gf) : Calls Tryz.prog 77 #[.agg #[], .pointer (some ⟨g, 0, none⟩), .pointer (some ⟨gf, 0, none⟩)] w fun e w' => e = .returned (.tuple #[]) ∧ jG w w' g gf s p' q' x := by
 obtain ⟨n, p1, q1, l, h1, h2, rfl⟩ := h
 replace h1 := za.mk h1
 replace h2 := za.mk h2
 have HS := Sat.two hR hF hN
 clear hR hF hN
 have hc := HS.lk
 simp only [Lk, LkC, Value.cells, List.toList_toArray, Nat.reduceAdd, Nat.zero_add, and_true, zf, zg, ze, zh] at HS hc
 go_enter Tryz.func77, Tryz.ntmps77
 go_wp2_with ((first | ((with_reducible refine gB rfl ?_); refine zz HS ?_) | ((with_reducible refine gA rfl ?_); refine zt HS ?_) | ((with_reducible refine gS rfl ?_); refine zu HS ?_) | (go_at_call 114; refine HS.rd0 h1.out.calls ?_)); clear HS; (try clear hc); intros; rename_i HS; have hc := HS.lk; simp only [Lk, LkC, Value.cells, List.toList_toArray, Nat.reduceAdd, Nat.zero_add, and_true, zf, zg, ze, zh] at HS hc)
 rename_i z_ _ _
 have HR := Kd.R_nil k52 52 w w.heap.size (fun _ => True)
 replace HS := HS.row (Ty.R k52 52 w.heap.size (.slice none 0 0) []) (Kd.R_nil _ _ _ _ _)
 have HZ := za.mk HS
 clear HS hc HR
 go_loopg [6] n (fun kq vi wr => ∃ (pa qa : Int) (acc rest : List S52) (A : Option Addr) (c : Nat), vi = .int .i64 kq ∧ za (ZP s kq pa qa rest p' q') ∧ za (acc ++ rest = l ∧ acc.length + kq ≤ 8) ∧ za (Sat [g, gf] w wr [(z_, [], 92), (g, rdC s pa qa, 67), (gf, [.int .i64 a0, .int .i64 a1, .int .i64 a2, .int .i64 0, .int .i64 0, .slice none 0 0, .slice A acc.length c, .slice none 0 0, .slice none 0 0, .slice none 0 0], 28)] [qA k52 52 w (.slice A acc.length c) acc]))
 case atStart => exact ⟨p1, q1, [], l, none, 0, rfl, h2, ⟨rfl, by have := h1.out.most (by decide); simp; omega⟩, HZ⟩
 case round =>
  clear HZ h2 h1
  obtain ⟨pa, qa, acc, rest, A, c, rfl, HC, HL, HT⟩ := hrel
  have HS := HT.out
  clear HT
  have hc := HS.lk
  simp only [Lk, LkC, Value.cells, List.toList_toArray, Nat.reduceAdd, Nat.zero_add, and_true, zf, zg, ze, zh] at HS hc
  rcases HC.out.split with ⟨rfl, rfl, rfl, rfl⟩ | ⟨c0, c1, rfl, rfl, rfl⟩ | ⟨m, x, l1, pb, qb, e1, rfl, hx, ht, rfl⟩
  ·go_wp2
   go_end0
   obtain ⟨h3, _⟩ := HL.out
   rw [List.append_nil] at h3
   subst h3
   exact ⟨rfl, HS.fp ⟨_, _, _, _, _, rfl, oN, (HS.rows _ (.head _)).2, oN, oN, oN⟩⟩
  ·have c2 := beq_eq_false_iff_ne.mpr c1
   have c3 : (0 : Int) < gk := by omega
   go_wp2
   go_end0
   obtain ⟨h3, _⟩ := HL.out
   rw [List.append_nil] at h3
   subst h3
   exact ⟨rfl, HS.fp ⟨_, _, _, _, _, rfl, oN, (HS.rows _ (.head _)).2, oN, oN, oN⟩⟩
  ·have c3 : (0 : Int) < gk := by omega
   have HX := za.mk hx
   have HT := za.mk ht
   have HM := za.mk e1
   clear hx ht e1
   go_upto_region 4 with (fail)
   clear hc
   replace HS := HS.drewN 1
   have hS := (HS.off (bs1 := [(gf, [.int .i64 a0, .int .i64 a1, .int .i64 a2, .int .i64 0, .int .i64 0, .slice none 0 0, .slice A acc.length c, .slice none 0 0, .slice none 0 0, .slice none 0 0], 28)]) (.cons _ (.cons _ (.cons_cons _ .slnil)))).lk
   refine jx (.op 0 0 20 (.op 1 0 21 (.op 2 0 22 (.op 3 0 23 (.op 4 0 24 (.op 5 0 25 (.op 6 2 26 (.op 7 2 27 (.op 8 2 28 (.op 9 1 29 (.op 10 1 30 (.op 11 3 0 .nil)))))))))))) [11] (fun W => Lk W [(gf, [.int .i64 a0, .int .i64 a1, .int .i64 a2, .int .i64 0, .int .i64 0, .slice none 0 0, .slice A acc.length c, .slice none 0 0, .slice none 0 0, .slice none 0 0], 28)]) hS (fun hS => ?_)
   repeat (refine RT.tk ?_)
   refine RT.o1 ?_
   intro K hK
   refine Z1 (HS.rdG HX.out.calls ?_)
   have hz := HS.keep.size
   clear HS hS
   intro e_ w_ he_ HS
   obtain ⟨A1, c1, rfl, hr_⟩ := he_
   refine ⟨_, rfl, hK _ _ (HS.off (.cons _ (.cons _ (.cons_cons _ .slnil)))).lk (fun hS => RT.nm ?_)⟩
   refine RT.ap (bytes := 72) (cs := cmdC x A1 c1) HS (QC _ _ _ x (Kd.R_lower hr_ hz)) (by have := HL.out.2; omega) (fun _ h => xv (.cons _ (.cons _ (.cons_cons _ .slnil))) h) (HS.apartOf rfl) ?_
   clear HS hr_ hz hK
   intro A2 c2 w2_ HS
   refine RT.nm ?_
   repeat (refine RT.pu ?_)
   refine RT.o3 ?_
   intro K hK
   refine xG HS ?_
   clear HS hS
   intro w3_ HS
   simp only [zf, zg, ze, zh, Value.cells, List.toList_toArray] at HS
   refine hK _ _ (RT.nil ?_)
   rw [show acc.length + 1 = (acc ++ [x]).length by simp] at HS
   have HQ := za.mk HS
   clear HS hK
   go_wp2
   go_roundg m
   case measure => have := HM.out; omega
   case rel => exact ⟨pb, qb, acc ++ [x], l1, A2, c2, by have h_ : wrap64 ((gk : Int) - 1) = (m : Int) := (by have h1 := HM.out; have h2 := HL.out.2; unfold wrap64; omega); first | (rw [h_]) | (simp only [h_]), HT, ⟨by rw [List.append_assoc]; exact HL.out.1, by have h1 := HM.out; have h2 := HL.out.2; simp only [zdN, List.length_singleton]; omega⟩, HQ⟩
theorem Qa.calls {s : ByteArray} {p q a0 a1 a2 p' q' : Int} {x : Fm} {g gf : Nat} {w : World} (h : Qa s p q a0 a1 a2 x p' q') (hR : w.heap[g]? = some (.cells (rdC s p q).toArray 67 (0, 0))) (hF : w.heap[gf]? = some (.cells (QD a0 a1 a2).toArray 28 (0, 0))) (hN : g ≠ gf) : Calls Tryz.prog 79 #[.agg #[], .pointer (some ⟨g, 0, none⟩), .pointer (some ⟨gf, 0, none⟩)] w fun e w' => e = .returned (.tuple #[]) ∧ jG w w' g gf s p' q' x := by
 obtain ⟨v1, p1, q1, v2, p2, q2, n, p3, q3, l, h1, h2, h3, h4, rfl⟩ := h
 replace h1 := za.mk h1
 replace h2 := za.mk h2
 replace h3 := za.mk h3
 replace h4 := za.mk h4
 have HS := Sat.two hR hF hN
 clear hR hF hN
 have hc := HS.lk
 simp only [Lk, LkC, Value.cells, List.toList_toArray, Nat.reduceAdd, Nat.zero_add, and_true, zf, zg, ze, zh] at HS hc
 go_enter Tryz.func79, Tryz.ntmps79
 go_wp2_with ((first | ((with_reducible refine gB rfl ?_); refine zz HS ?_) | ((with_reducible refine gA rfl ?_); refine zt HS ?_) | ((with_reducible refine gS rfl ?_); refine zu HS ?_) | (go_at_call 37; refine HS.rd0 h1.out.calls ?_) | (go_at_call 37; refine HS.rd0 h2.out.calls ?_) | (go_at_call 114; refine HS.rd0 h3.out.calls ?_)); clear HS; (try clear hc); intros; rename_i HS; have hc := HS.lk; simp only [Lk, LkC, Value.cells, List.toList_toArray, Nat.reduceAdd, Nat.zero_add, and_true, zf, zg, ze, zh] at HS hc)
 replace HS := (HS.off (bs1 := [(g, rdC s p3 q3, 67), (gf, _, 28)]) (.cons _ (.cons_cons _ (.cons_cons _ .slnil)))).row (Ty.R k46 46 w.heap.size (.slice none 0 0) []) (Kd.R_nil _ _ _ _ _)
 have HZ := za.mk HS
 clear HS hc
 go_loopg [6] n (fun kq vi wr => ∃ (pa qa : Int) (acc rest : List S46) (A : Option Addr) (c : Nat), vi = .int .i64 kq ∧ za (jq s kq pa qa rest p' q') ∧ za (acc ++ rest = l ∧ acc.length + kq ≤ 16) ∧ za (Sat [g, gf] w wr [(g, rdC s pa qa, 67), (gf, [.int .i64 a0, .int .i64 a1, .int .i64 a2, .int .i64 v1, .int .i64 v2, .slice none 0 0, .slice none 0 0, .slice A acc.length c, .slice none 0 0, .slice none 0 0], 28)] [qA k46 46 w (.slice A acc.length c) acc]))
 case atStart => exact ⟨p3, q3, [], l, none, 0, rfl, h4, ⟨rfl, by have := h3.out.most (by decide); simp; omega⟩, HZ⟩
 case round =>
  clear HZ h4 h3 h2 h1
  obtain ⟨pa, qa, acc, rest, A, c, rfl, HC, HL, HP⟩ := hrel
  have HS := HP.out.again (bs1 := [(g, rdC s pa qa, 67), (gf, [.int .i64 a0, .int .i64 a1, .int .i64 a2, .int .i64 v1, .int .i64 v2, .slice none 0 0, .slice none 0 0, .slice A acc.length c, .slice none 0 0, .slice none 0 0], 28)]) (List.Sublist.refl _) (by simp)
  have hc := HS.lk
  simp only [Lk, LkC, Value.cells, List.toList_toArray, Nat.reduceAdd, Nat.zero_add, and_true, zf, zg, ze, zh] at HS hc
  rcases HC.out.split with ⟨rfl, rfl, rfl, rfl⟩ | ⟨c0, c1, rfl, rfl, rfl⟩ | ⟨m, x, l1, pb, qb, e1, rfl, hx, ht, rfl⟩
  ·go_wp2
   go_end0
   obtain ⟨h3, _⟩ := HL.out
   rw [List.append_nil] at h3
   subst h3
   exact ⟨rfl, HP.out.fp ⟨_, _, _, _, _, rfl, oN, oN, (HP.out.rows _ (.head _)).2, oN, oN⟩⟩
  ·have c2 := beq_eq_false_iff_ne.mpr c1
   have c3 : (0 : Int) < gk := by omega
   go_wp2
   go_end0
   obtain ⟨h3, _⟩ := HL.out
   rw [List.append_nil] at h3
   subst h3
   exact ⟨rfl, HP.out.fp ⟨_, _, _, _, _, rfl, oN, oN, (HP.out.rows _ (.head _)).2, oN, oN⟩⟩
  ·have c3 : (0 : Int) < gk := by omega
   obtain ⟨v, pv, qv, t, pt, qt, y, py, qy, u, pu, qu, z, g1, g2, g3, g4, g5, rfl⟩ := hx
   replace g1 := za.mk g1
   replace g2 := za.mk g2
   replace g3 := za.mk g3
   replace g4 := za.mk g4
   replace g5 := za.mk g5
   have HT := za.mk ht
   have HM := za.mk e1
   clear ht e1
   go_upto_region 8 with ((first | ((with_reducible refine gB rfl ?_); refine zz HS ?_) | ((with_reducible refine gA rfl ?_); refine zt HS ?_) | ((with_reducible refine gS rfl ?_); refine zu HS ?_) | (go_at_call 37; refine HS.rd0 g1.out.calls ?_) | (go_at_call 117; refine HS.rd0 g2.out.calls ?_) | (go_at_call 119; refine HS.rdR g3.out.calls ?_) | (go_at_call 37; refine HS.rd0 g4.out.calls ?_) | (go_at_call 37; refine HS.rd0 g5.out.calls ?_)); clear HS; (try clear hc); intros; rename_i HS; have hc := HS.lk; simp only [Lk, LkC, Value.cells, List.toList_toArray, Nat.reduceAdd, Nat.zero_add, and_true, zf, zg, ze, zh] at HS hc)
   clear hc
   rename_i gx _ _ A1 c1 _ _ _ _ _ _
   replace HS := HS.drewN 1
   have hS := (HS.off (bs1 := [(gx, [.int .i64 v, .string t, .slice A1 y.length c1, .int .i64 u, .int .i64 z], 46), (gf, [.int .i64 a0, .int .i64 a1, .int .i64 a2, .int .i64 v1, .int .i64 v2, .slice none 0 0, .slice none 0 0, .slice A acc.length c, .slice none 0 0, .slice none 0 0], 28)]) (.cons_cons _ (.cons _ (.cons_cons _ .slnil)))).lk
   refine jx (.op 0 0 45 (.op 1 0 46 (.op 2 0 47 (.op 3 0 48 (.op 4 0 49 (.op 5 0 50 (.op 6 2 51 (.op 7 2 52 (.op 8 1 53 (.op 9 1 54 (.op 10 3 0 .nil))))))))))) [10] (fun W => Lk W [(gx, [.int .i64 v, .string t, .slice A1 y.length c1, .int .i64 u, .int .i64 z], 46), (gf, [.int .i64 a0, .int .i64 a1, .int .i64 a2, .int .i64 v1, .int .i64 v2, .slice none 0 0, .slice none 0 0, .slice A acc.length c, .slice none 0 0, .slice none 0 0], 28)]) hS (fun hS => ?_)
   repeat (refine RT.tk ?_)
   refine RT.ap (bytes := 64) (cs := [.int .i64 v, .string t, .slice A1 y.length c1, .int .i64 u, .int .i64 z]) (HP.out.trans HS (by simp) rfl) (zdj _ _ _ ⟨v, t, y, u, z⟩ (Kd.R_lower (HS.rows _ (.head _)).2 HP.out.keep.size)) (by have := HL.out.2; omega) (fun _ h => xv (.cons_cons _ (.cons _ (.cons_cons _ .slnil))) h) (HP.out.elder HS (by simp) rfl) ?_
   clear HS HP
   intro A2 c2 w2_ HS
   replace HS := HS.off (bs1 := [(g, rdC s pb qb, 67), (gf, [.int .i64 a0, .int .i64 a1, .int .i64 a2, .int .i64 v1, .int .i64 v2, .slice none 0 0, .slice none 0 0, .slice A acc.length c, .slice none 0 0, .slice none 0 0], 28)]) (.cons _ (.cons_cons _ (.cons_cons _ .slnil)))
   refine RT.nm ?_
   repeat (refine RT.pu ?_)
   refine RT.o3 ?_
   intro K hK
   refine xG HS ?_
   clear HS hS
   intro w3_ HS
   simp only [zf, zg, ze, zh, Value.cells, List.toList_toArray] at HS
   refine hK _ _ (RT.nil ?_)
   obtain ⟨x, hx⟩ : ∃ x, x = (⟨v, t, y, u, z⟩ : S46) := ⟨_, rfl⟩
   rw [← hx] at HS HL
   rw [show acc.length + 1 = (acc ++ [x]).length by simp] at HS
   have HQ := za.mk (HS.drop (rs' := [qA k46 46 w (.slice A2 (acc ++ [x]).length c2) (acc ++ [x])]) (fun r hr => by rw [List.mem_singleton.1 hr]; exact .head _))
   clear HS hK hx
   go_wp2
   go_roundg m
   case measure => have := HM.out; omega
   case rel => exact ⟨pb, qb, acc ++ [x], l1, A2, c2, by have h_ : wrap64 ((gk : Int) - 1) = (m : Int) := (by have h1 := HM.out; have h2 := HL.out.2; unfold wrap64; omega); first | (rw [h_]) | (simp only [h_]), HT, ⟨by rw [List.append_assoc]; exact HL.out.1, by have h1 := HM.out; have h2 := HL.out.2; simp only [zdN, List.length_singleton]; omega⟩, HQ⟩
def Jq (s : ByteArray) (p q a0 a1 a2 : Int) (x : Fm) (p' q' : Int) : Prop := if a0 = 1 then X4 s p q a0 a1 a2 x p' q' else if a0 = 2 then Jo s p q a0 a1 a2 x p' q' else if a0 = 3 then rAck s p q a0 a1 a2 x p' q' else if a0 = 4 then Qa s p q a0 a1 a2 x p' q' else Qj s p q a0 a1 a2 x p' q'
theorem Jq.calls {s : ByteArray} {p q a0 a1 a2 p' q' : Int} {x : Fm} {g gf : Nat} {w : World} (h : Jq s p q a0 a1 a2 x p' q') (hR : w.heap[g]? = some (.cells (rdC s p q).toArray 67 (0, 0))) (hF : w.heap[gf]? = some (.cells (QD a0 a1 a2).toArray 28 (0, 0))) (hN : g ≠ gf) : Calls Tryz.prog 39 #[.pointer (some ⟨g, 0, none⟩), .pointer (some ⟨gf, 0, none⟩)] w fun e w' => e = .returned (.tuple #[]) ∧ jG w w' g gf s p' q' x := by
 have HS := Sat.two hR hF hN
 have hc := HS.lk
 simp only [Lk, LkC, Value.cells, List.toList_toArray, Nat.reduceAdd, Nat.zero_add, and_true, zf, zg, ze, zh] at HS hc
 clear HS
 replace hR := za.mk hR
 replace hF := za.mk hF
 replace hN := za.mk hN
 unfold Jq at h
 go_enter Tryz.func39, Tryz.ntmps39
 by_cases c0 : a0 = 1
 ·rw [if_pos c0] at h
  have d0 : (a0 == 1) = true := beq_iff_eq.mpr c0
  have HX := za.mk h
  clear h
  go_wp2_with (go_at_call 76; refine (X4.calls HX.out hR.out hF.out hN.out).mono ?_; rintro e_ w_ ⟨rfl, hp_⟩; replace hp_ := za.mk hp_)
  go_end0
  exact ⟨rfl, hp_.out⟩
 rw [if_neg c0] at h
 have d0 : (a0 == 1) = false := beq_eq_false_iff_ne.mpr c0
 by_cases c1 : a0 = 2
 ·rw [if_pos c1] at h
  have d1 : (a0 == 2) = true := beq_iff_eq.mpr c1
  have HX := za.mk h
  clear h
  go_wp2_with (go_at_call 77; refine (Jo.calls HX.out hR.out hF.out hN.out).mono ?_; rintro e_ w_ ⟨rfl, hp_⟩; replace hp_ := za.mk hp_)
  go_end0
  exact ⟨rfl, hp_.out⟩
 rw [if_neg c1] at h
 have d1 : (a0 == 2) = false := beq_eq_false_iff_ne.mpr c1
 by_cases c2 : a0 = 3
 ·rw [if_pos c2] at h
  have d2 : (a0 == 3) = true := beq_iff_eq.mpr c2
  have HX := za.mk h
  clear h
  go_wp2_with (go_at_call 78; refine (rAck.calls HX.out hR.out hF.out hN.out).mono ?_; rintro e_ w_ ⟨rfl, hp_⟩; replace hp_ := za.mk hp_)
  go_end0
  exact ⟨rfl, hp_.out⟩
 rw [if_neg c2] at h
 have d2 : (a0 == 3) = false := beq_eq_false_iff_ne.mpr c2
 by_cases c3 : a0 = 4
 ·rw [if_pos c3] at h
  have d3 : (a0 == 4) = true := beq_iff_eq.mpr c3
  have HX := za.mk h
  clear h
  go_wp2_with (go_at_call 79; refine (Qa.calls HX.out hR.out hF.out hN.out).mono ?_; rintro e_ w_ ⟨rfl, hp_⟩; replace hp_ := za.mk hp_)
  go_end0
  exact ⟨rfl, hp_.out⟩
 rw [if_neg c3] at h
 have d3 : (a0 == 4) = false := beq_eq_false_iff_ne.mpr c3
 have HX := za.mk h
 clear h
 go_wp2_with (go_at_call 80; refine (Qj.calls HX.out hR.out hF.out hN.out).mono ?_; rintro e_ w_ ⟨rfl, hp_⟩; replace hp_ := za.mk hp_)
 go_end0
 exact ⟨rfl, hp_.out⟩
def fm0 : Fm := ⟨0, 0, 0, 0, 0, [], [], [], [], []⟩
def zaj (s t : ByteArray) (e : Int) : Prop := ∃ k, yS.f k s = some (t, e)
def zdB (t : ByteArray) (y : Fm) (p q : Int) (x : Fm) (e : Int) : Prop := (q ≠ 0 ∧ x = fm0 ∧ e = q) ∨ (q = 0 ∧ p < t.size ∧ x = fm0 ∧ e = 6) ∨ (q = 0 ∧ ¬ p < t.size ∧ ∃ r, ZB y r ∧ ((r = false ∧ x = fm0 ∧ e = 6) ∨ (r = true ∧ x = y ∧ e = 0)))
def zc2 (t : ByteArray) (a0 p q : Int) (x : Fm) (e : Int) : Prop := ∃ a1 p2 q2 a2 p3 q3, xP t p q a1 p2 q2 ∧ xP t p2 q2 a2 p3 q3 ∧ ((q3 ≠ 0 ∧ x = fm0 ∧ e = q3) ∨ (q3 = 0 ∧ ∃ y p4 q4, Jq t p3 0 a0 a1 a2 y p4 q4 ∧ zdB t y p4 q4 x e))
def Vh (s : ByteArray) (x : Fm) (e : Int) : Prop := ∃ t e1, zaj s t e1 ∧ ((e1 ≠ 0 ∧ x = fm0 ∧ e = e1) ∨ (e1 = 0 ∧ t.size ≤ 9223372036854775807 ∧ ∃ a0 p q, xP t 0 0 a0 p q ∧ ((q = 0 ∧ ¬ (1 ≤ a0 ∧ a0 ≤ 5) ∧ x = fm0 ∧ e = 6) ∨ (¬ (q = 0 ∧ ¬ (1 ≤ a0 ∧ a0 ≤ 5)) ∧ zc2 t a0 p q x e))))
section
variable {P : Program} {gs : List Nat} {w0 w w' : World} {bs bs' bs1 : List Bk} {rs : List Rw}
theorem Sat.turn2 (H : Sat gs w0 w bs rs) {g g' t t' : Nat} {cs cs' : List Value} (U : Up g t 0 (fun _ => cs) bs bs1) (V : Up g' t' 0 (fun _ => cs') bs1 bs') (ht : xC t rs = true) (ht' : xC t' rs = true) (K : xJ [g, g'] w w') (hg : w'.heap[g]? = some (.cells cs.toArray t (0, 0))) (hg' : w'.heap[g']? = some (.cells cs'.toArray t' (0, 0))) : Sat gs w0 w' bs' rs := by
 obtain ⟨c1, hm, _⟩ := U.mem
 have hb := H.blk _ hm
 have ha : bs1.Pairwise (fun x y => x.1 ≠ y.1) := by rw [YD, U.fst, ← YD]; exact H.apart
 obtain ⟨c2, hm2, _⟩ := V.mem
 obtain ⟨c3, hm3⟩ : ∃ c3, (g', c3, t') ∈ bs ∨ (g' = g ∧ t' = t) := by
  rcases U.own H.apart _ hm2 with ⟨h1, _⟩ | ⟨_, h1, h2⟩
  ·exact ⟨c2, .inl h1⟩
  ·injection h2 with h2 h3
   injection h3 with _ h3
   exact ⟨c2, .inr ⟨h2, h3⟩⟩
 have hfar : ∀ k q cells, k < w.heap.size → w.heap[k]? = some (Obj.cells cells q (0, 0)) → q ≠ t → q ≠ t' → w'.heap[k]? = w.heap[k]? := fun k q cells hk hc h1 h2 => K.blk k hk (fun hin => by
  simp only [List.mem_cons, List.not_mem_nil, or_false] at hin
  have hgo : ∀ c u, (k, c, u) ∈ bs → q = u := fun c u hx => by
   rw [(H.blk _ hx).2] at hc
   injection hc with hc
   injection hc with _ hc
   exact hc.symm
  rcases hin with rfl | rfl
  ·exact h1 (hgo _ _ hm)
  ·rcases hm3 with h3 | ⟨rfl, rfl⟩
   ·exact h2 (hgo _ _ h3)
   ·exact h1 (hgo _ _ hm))
 have hown : g' ∈ gs ∨ w0.heap.size ≤ g' := by
  rcases hm3 with h3 | ⟨rfl, _⟩
  ·exact (H.blk _ h3).1
  ·exact hb.1
 refine ⟨H.keep.trans K (by simpa using ⟨hb.1, hown⟩), fun y hy => ?_, by rw [YD, V.fst, ← YD]; exact ha, fun r hr => ⟨(H.rows r hr).1, (H.rows r hr).1 w w' (fun k q cells hk hc hq => hfar k q cells hk hc ?_ ?_) (H.rows r hr).2⟩⟩
 ·rcases V.own ha y hy with ⟨h1, h2⟩ | ⟨_, _, rfl⟩
  ·rcases U.own H.apart y h1 with ⟨h3, h4⟩ | ⟨_, _, rfl⟩
   ·exact ⟨(H.blk y h3).1, (K.blk _ (xY (H.blk y h3).2) (by simp [h2, h4])).trans (H.blk y h3).2⟩
   ·exact ⟨hb.1, hg⟩
  ·exact ⟨hown, hg'⟩
 ·rintro rfl
  have h2 := List.all_eq_true.1 ht r hr
  simp only [Bool.not_eq_true', List.contains_eq_mem, decide_eq_false_iff_not] at h2
  exact h2 hq
 ·rintro rfl
  have h2 := List.all_eq_true.1 ht' r hr
  simp only [Bool.not_eq_true', List.contains_eq_mem, decide_eq_false_iff_not] at h2
  exact h2 hq
abbrev fmSl (x : Fm) (A5 : Option Addr) (c5 : Nat) (A6 : Option Addr) (c6 : Nat) (A7 : Option Addr) (c7 : Nat) (A8 : Option Addr) (c8 : Nat) (A9 : Option Addr) (c9 : Nat) : List Value := [.int .i64 x.f0, .int .i64 x.f1, .int .i64 x.f2, .int .i64 x.f3, .int .i64 x.f4, .slice A5 x.f5.length c5, .slice A6 x.f6.length c6, .slice A7 x.f7.length c7, .slice A8 x.f8.length c8, .slice A9 x.f9.length c9]
abbrev Xo (w0 : World) (x : Fm) (A5 : Option Addr) (c5 : Nat) (A6 : Option Addr) (c6 : Nat) (A7 : Option Addr) (c7 : Nat) (A8 : Option Addr) (c8 : Nat) (A9 : Option Addr) (c9 : Nat) : List Rw := [qA Kd.string 9 w0 (.slice A5 x.f5.length c5) x.f5, qA k52 52 w0 (.slice A6 x.f6.length c6) x.f6, qA k46 46 w0 (.slice A7 x.f7.length c7) x.f7, qA k86 86 w0 (.slice A8 x.f8.length c8) x.f8, qA k77 77 w0 (.slice A9 x.f9.length c9) x.f9]
theorem Sat.fmC {x : Fm} {A5 A6 A7 A8 A9 : Option Addr} {c5 c6 c7 c8 c9 : Nat} (H : Sat gs w0 w bs (Xo w0 x A5 c5 A6 c6 A7 c7 A8 c8 A9 c9)) : FmC w x (fmSl x A5 c5 A6 c6 A7 c7 A8 c8 A9 c9) :=
 ⟨_, _, _, _, _, rfl, Z4 (H.rows _ (.head _)).2, Z4 (H.rows _ (.tail _ (.head _))).2, Z4 (H.rows _ (.tail _ (.tail _ (.head _)))).2, Z4 (H.rows _ (.tail _ (.tail _ (.tail _ (.head _))))).2, Z4 (H.rows _ (.tail _ (.tail _ (.tail _ (.tail _ (.head _)))))).2⟩
theorem Sat.fmO {x : Fm} {A5 A6 A7 A8 A9 : Option Addr} {c5 c6 c7 c8 c9 : Nat} (H : Sat gs w0 w bs (Xo w0 x A5 c5 A6 c6 A7 c7 A8 c8 A9 c9)) : FmO w w0.heap.size x (fmSl x A5 c5 A6 c6 A7 c7 A8 c8 A9 c9) :=
 ⟨_, _, _, _, _, rfl, (H.rows _ (.head _)).2, (H.rows _ (.tail _ (.head _))).2, (H.rows _ (.tail _ (.tail _ (.head _)))).2, (H.rows _ (.tail _ (.tail _ (.tail _ (.head _))))).2, (H.rows _ (.tail _ (.tail _ (.tail _ (.tail _ (.head _)))))).2⟩
theorem Sat.got (H : Sat gs w0 w bs []) {f : FuncId} {args : Array Value} {K : Ending → World → Prop} {x : Fm} {F : List Value → Value} (hc : Calls P f args w fun e w' => (∃ cs, e = .returned (F cs) ∧ FmO w' w.heap.size x cs) ∧ Below w.heap.size w w')
  (h : ∀ A5 c5 A6 c6 A7 c7 A8 c8 A9 c9 w', Sat gs w0 w' bs (Xo w0 x A5 c5 A6 c6 A7 c7 A8 c8 A9 c9) → K (.returned (F (fmSl x A5 c5 A6 c6 A7 c7 A8 c8 A9 c9))) w') : Calls P f args w K := by
 refine hc.mono fun e w' he => ?_
 obtain ⟨⟨_, rfl, v5, v6, v7, v8, v9, rfl, h5, h6, h7, h8, h9⟩, hb⟩ := he
 obtain ⟨A5, c5, rfl⟩ := Kd.R_slice h5
 obtain ⟨A6, c6, rfl⟩ := Kd.R_slice h6
 obtain ⟨A7, c7, rfl⟩ := Kd.R_slice h7
 obtain ⟨A8, c8, rfl⟩ := Kd.R_slice h8
 obtain ⟨A9, c9, rfl⟩ := Kd.R_slice h9
 have hz := H.keep.size
 exact h A5 c5 A6 c6 A7 c7 A8 c8 A9 c9 w' ((((((H.call hb).R h9 hz).R h8 hz).R h7 hz).R h6 hz).R h5 hz)
theorem Sat.fill (H : Sat gs w0 w bs []) {f : FuncId} {args : Array Value} {K : Ending → World → Prop} {g gf : Nat} {s : ByteArray} {p q : Int} {x : Fm} {r : Value} {bs2 : Option Addr → Nat → Option Addr → Nat → Option Addr → Nat → Option Addr → Nat → Option Addr → Nat → List Bk} (hc : Calls P f args w fun e w' => e = .returned r ∧ jG w w' g gf s p q x)
  (h : ∀ A5 c5 A6 c6 A7 c7 A8 c8 A9 c9 w', Sat gs w0 w' (bs2 A5 c5 A6 c6 A7 c7 A8 c8 A9 c9) (Xo w0 x A5 c5 A6 c6 A7 c7 A8 c8 A9 c9) → K (.returned r) w')
  (U : Up g 67 0 (fun _ => rdC s p q) bs bs1 := by ((repeat (first | exact .here rfl | apply Up.there)); (first | done | fail))) (V : ∀ A5 c5 A6 c6 A7 c7 A8 c8 A9 c9, Up gf 28 0 (fun _ => fmSl x A5 c5 A6 c6 A7 c7 A8 c8 A9 c9) bs1 (bs2 A5 c5 A6 c6 A7 c7 A8 c8 A9 c9) := by (intros; (repeat (first | exact .here rfl | apply Up.there)); (first | done | fail))) : Calls P f args w K := by
 refine hc.mono fun e w' he => ?_
 obtain ⟨rfl, K1, hg, cs, hgf, v5, v6, v7, v8, v9, rfl, h5, h6, h7, h8, h9⟩ := he
 obtain ⟨A5, c5, rfl⟩ := Kd.R_slice h5
 obtain ⟨A6, c6, rfl⟩ := Kd.R_slice h6
 obtain ⟨A7, c7, rfl⟩ := Kd.R_slice h7
 obtain ⟨A8, c8, rfl⟩ := Kd.R_slice h8
 obtain ⟨A9, c9, rfl⟩ := Kd.R_slice h9
 have hz := H.keep.size
 exact h A5 c5 A6 c6 A7 c7 A8 c8 A9 c9 w' (((((H.turn2 U (V A5 c5 A6 c6 A7 c7 A8 c8 A9 c9) rfl rfl K1 hg hgf).R h9 hz).R h8 hz).R h7 hz).R h6 hz |>.R h5 hz)
end
theorem zaj.calls {s t : ByteArray} {e : Int} {w : World} (h : zaj s t e) : Calls Tryz.prog 36 #[.string s] w fun r w' => r = .returned (.tuple #[.string t, .int .i64 e]) ∧ Below w.heap.size w w' := by
 obtain ⟨k, h⟩ := h
 exact yS.calls k s t e w h
theorem Vh.calls {s : ByteArray} {x : Fm} {er : Int} {w : World} (h : Vh s x er) : Calls Tryz.prog 13 #[.string s] w fun e w' => (∃ cs, e = .returned (.tuple #[.agg cs.toArray, .int .i64 er]) ∧ FmO w' w.heap.size x cs) ∧ Below w.heap.size w w' := by
 obtain ⟨t, e1, HO, h⟩ := h
 replace HO := za.mk HO
 have HS := Sat.nil w
 rcases h with ⟨c1, rfl, rfl⟩ | ⟨rfl, hl, a0, p, q, h1, h⟩
 ·have d1 := beq_eq_false_iff_ne.mpr c1
  have d2 := bne_iff_ne.mpr c1
  go_enter Tryz.func13, Tryz.ntmps13
  go_wp2_with (first | ((first | ((with_reducible refine gB rfl ?_); refine zz HS ?_) | ((with_reducible refine gA rfl ?_); refine zt HS ?_) | ((with_reducible refine gS rfl ?_); refine zu HS ?_) | (go_at_call 36; refine HS.go HO.out.calls ?_) | (go_at_call 37; refine HS.rd0 h1.out.calls ?_) | (go_at_call 37; refine HS.rd0 h2.out.calls ?_) | (go_at_call 37; refine HS.rd0 h3.out.calls ?_) | (go_at_call 38; refine HS.go0 (yb.calls _ _ _ _ _ hw.out) ?_) | (go_at_call 39; refine HS.fill (hf.out.calls (HS.blk _ (.tail _ (.head _))).2 (HS.blk _ (.head _)).2 (Ne.symm ((List.pairwise_cons.1 HS.apart).1 _ (.head _)))) ?_) | (go_at_call 16; refine HS.go (hr.out.calls HS.fmC) ?_)); clear HS; (try clear hc); intros; rename_i HS; have hc := HS.lk; simp only [Lk, LkC, Value.cells, List.toList_toArray, Nat.reduceAdd, Nat.zero_add, and_true, zf, zg, ze, zh] at HS hc) | (refine yE (.op 0 0 54 (.op 1 0 55 (.op 2 0 56 (.op 3 0 57 (.op 4 0 58 (.op 5 4 0 (.op 6 1 3 .nil))))))) [] HS (.cons _ (.cons_cons _ (.cons _ .slnil))) ?_; clear HS hc; intro HS hS; (repeat (refine RT.tk ?_)); refine RT.o4 ?_; intro K hK; refine xG HS ?_; clear HS hS; intro w_ HS; have hc := HS.lk; simp only [Lk, LkC, Value.cells, List.toList_toArray, Nat.reduceAdd, Nat.zero_add, and_true, zf, zg, ze, zh] at HS hc; refine hK _ _ (xv (.cons _ (.cons_cons _ (.cons _ .slnil))) HS.lk) (fun hS => ?_); clear hK hS; (repeat (refine RT.pu ?_)); refine RT.nil ?_))
  refine bodyPost_ret (xN (rs := [_, _]) rfl (by simp) (.cell _ _ _ _ _ rfl (HS.blk (_, _, _) (by repeat (first | exact .head _ | apply List.Mem.tail))).2 Tryz.underlying28 rfl (by kernel_rfl) (.tmp .nil))) rfl ?_; exact ⟨⟨_, rfl, _, _, _, _, _, rfl, oN, oN, oN, oN, oN⟩, HS.below⟩
 replace h1 := za.mk h1
 rcases h with ⟨rfl, hk, rfl, rfl⟩ | ⟨hk, a1, p2, q2, a2, p3, q3, h2, h3, h⟩
 ·have hw := za.mk (Yi hk)
  clear hk
  go_enter Tryz.func13, Tryz.ntmps13
  go_wp2_with (first | ((first | ((with_reducible refine gB rfl ?_); refine zz HS ?_) | ((with_reducible refine gA rfl ?_); refine zt HS ?_) | ((with_reducible refine gS rfl ?_); refine zu HS ?_) | (go_at_call 36; refine HS.go HO.out.calls ?_) | (go_at_call 37; refine HS.rd0 h1.out.calls ?_) | (go_at_call 37; refine HS.rd0 h2.out.calls ?_) | (go_at_call 37; refine HS.rd0 h3.out.calls ?_) | (go_at_call 38; refine HS.go0 (yb.calls _ _ _ _ _ hw.out) ?_) | (go_at_call 39; refine HS.fill (hf.out.calls (HS.blk _ (.tail _ (.head _))).2 (HS.blk _ (.head _)).2 (Ne.symm ((List.pairwise_cons.1 HS.apart).1 _ (.head _)))) ?_) | (go_at_call 16; refine HS.go (hr.out.calls HS.fmC) ?_)); clear HS; (try clear hc); intros; rename_i HS; have hc := HS.lk; simp only [Lk, LkC, Value.cells, List.toList_toArray, Nat.reduceAdd, Nat.zero_add, and_true, zf, zg, ze, zh] at HS hc) | (refine yE (.op 0 0 54 (.op 1 0 55 (.op 2 0 56 (.op 3 0 57 (.op 4 0 58 (.op 5 4 0 (.op 6 1 3 .nil))))))) [] HS (.cons _ (.cons_cons _ (.cons _ .slnil))) ?_; clear HS hc; intro HS hS; (repeat (refine RT.tk ?_)); refine RT.o4 ?_; intro K hK; refine xG HS ?_; clear HS hS; intro w_ HS; have hc := HS.lk; simp only [Lk, LkC, Value.cells, List.toList_toArray, Nat.reduceAdd, Nat.zero_add, and_true, zf, zg, ze, zh] at HS hc; refine hK _ _ (xv (.cons _ (.cons_cons _ (.cons _ .slnil))) HS.lk) (fun hS => ?_); clear hK hS; (repeat (refine RT.pu ?_)); refine RT.nil ?_))
  refine bodyPost_ret (xN (rs := [_, _]) rfl (by simp) (.cell _ _ _ _ _ rfl (HS.blk (_, _, _) (by repeat (first | exact .head _ | apply List.Mem.tail))).2 Tryz.underlying28 rfl (by kernel_rfl) (.tmp .nil))) rfl ?_; exact ⟨⟨_, rfl, _, _, _, _, _, rfl, oN, oN, oN, oN, oN⟩, HS.below⟩
 replace h2 := za.mk h2
 replace h3 := za.mk h3
 replace h := za.mk h
 go_enter Tryz.func13, Tryz.ntmps13
 by_cases c0 : q = 0
 case' pos =>
  subst c0
  have hw := za.mk (jw (Decidable.not_not.1 (fun hn => hk ⟨rfl, hn⟩)))
  clear hk
  go_upto_region 8 with (first | ((first | ((with_reducible refine gB rfl ?_); refine zz HS ?_) | ((with_reducible refine gA rfl ?_); refine zt HS ?_) | ((with_reducible refine gS rfl ?_); refine zu HS ?_) | (go_at_call 36; refine HS.go HO.out.calls ?_) | (go_at_call 37; refine HS.rd0 h1.out.calls ?_) | (go_at_call 37; refine HS.rd0 h2.out.calls ?_) | (go_at_call 37; refine HS.rd0 h3.out.calls ?_) | (go_at_call 38; refine HS.go0 (yb.calls _ _ _ _ _ hw.out) ?_) | (go_at_call 39; refine HS.fill (hf.out.calls (HS.blk _ (.tail _ (.head _))).2 (HS.blk _ (.head _)).2 (Ne.symm ((List.pairwise_cons.1 HS.apart).1 _ (.head _)))) ?_) | (go_at_call 16; refine HS.go (hr.out.calls HS.fmC) ?_)); clear HS; (try clear hc); intros; rename_i HS; have hc := HS.lk; simp only [Lk, LkC, Value.cells, List.toList_toArray, Nat.reduceAdd, Nat.zero_add, and_true, zf, zg, ze, zh] at HS hc) | (refine yE (.op 0 0 54 (.op 1 0 55 (.op 2 0 56 (.op 3 0 57 (.op 4 0 58 (.op 5 4 0 (.op 6 1 3 .nil))))))) [] HS (.cons _ (.cons_cons _ (.cons _ .slnil))) ?_; clear HS hc; intro HS hS; (repeat (refine RT.tk ?_)); refine RT.o4 ?_; intro K hK; refine xG HS ?_; clear HS hS; intro w_ HS; have hc := HS.lk; simp only [Lk, LkC, Value.cells, List.toList_toArray, Nat.reduceAdd, Nat.zero_add, and_true, zf, zg, ze, zh] at HS hc; refine hK _ _ (xv (.cons _ (.cons_cons _ (.cons _ .slnil))) HS.lk) (fun hS => ?_); clear hK hS; (repeat (refine RT.pu ?_)); refine RT.nil ?_))
  clear hw
 case' neg =>
  have d0 := beq_eq_false_iff_ne.mpr c0
  clear hk
  go_upto_region 8 with (first | ((first | ((with_reducible refine gB rfl ?_); refine zz HS ?_) | ((with_reducible refine gA rfl ?_); refine zt HS ?_) | ((with_reducible refine gS rfl ?_); refine zu HS ?_) | (go_at_call 36; refine HS.go HO.out.calls ?_) | (go_at_call 37; refine HS.rd0 h1.out.calls ?_) | (go_at_call 37; refine HS.rd0 h2.out.calls ?_) | (go_at_call 37; refine HS.rd0 h3.out.calls ?_) | (go_at_call 38; refine HS.go0 (yb.calls _ _ _ _ _ hw.out) ?_) | (go_at_call 39; refine HS.fill (hf.out.calls (HS.blk _ (.tail _ (.head _))).2 (HS.blk _ (.head _)).2 (Ne.symm ((List.pairwise_cons.1 HS.apart).1 _ (.head _)))) ?_) | (go_at_call 16; refine HS.go (hr.out.calls HS.fmC) ?_)); clear HS; (try clear hc); intros; rename_i HS; have hc := HS.lk; simp only [Lk, LkC, Value.cells, List.toList_toArray, Nat.reduceAdd, Nat.zero_add, and_true, zf, zg, ze, zh] at HS hc) | (refine yE (.op 0 0 54 (.op 1 0 55 (.op 2 0 56 (.op 3 0 57 (.op 4 0 58 (.op 5 4 0 (.op 6 1 3 .nil))))))) [] HS (.cons _ (.cons_cons _ (.cons _ .slnil))) ?_; clear HS hc; intro HS hS; (repeat (refine RT.tk ?_)); refine RT.o4 ?_; intro K hK; refine xG HS ?_; clear HS hS; intro w_ HS; have hc := HS.lk; simp only [Lk, LkC, Value.cells, List.toList_toArray, Nat.reduceAdd, Nat.zero_add, and_true, zf, zg, ze, zh] at HS hc; refine hK _ _ (xv (.cons _ (.cons_cons _ (.cons _ .slnil))) HS.lk) (fun hS => ?_); clear hK hS; (repeat (refine RT.pu ?_)); refine RT.nil ?_))
  clear d0 c0
 all_goals
  rcases h.out with ⟨c3, rfl, rfl⟩ | ⟨rfl, y, p4, q4, hf, ⟨c4, rfl, rfl⟩ | ⟨rfl, c5, rfl, rfl⟩ | ⟨rfl, c5, r, hr, ⟨rfl, rfl, rfl⟩ | ⟨rfl, rfl, rfl⟩⟩⟩
  ·have d3 := beq_eq_false_iff_ne.mpr c3
   have d4 := bne_iff_ne.mpr c3
   go_wp2_with (first | ((first | ((with_reducible refine gB rfl ?_); refine zz HS ?_) | ((with_reducible refine gA rfl ?_); refine zt HS ?_) | ((with_reducible refine gS rfl ?_); refine zu HS ?_) | (go_at_call 36; refine HS.go HO.out.calls ?_) | (go_at_call 37; refine HS.rd0 h1.out.calls ?_) | (go_at_call 37; refine HS.rd0 h2.out.calls ?_) | (go_at_call 37; refine HS.rd0 h3.out.calls ?_) | (go_at_call 38; refine HS.go0 (yb.calls _ _ _ _ _ hw.out) ?_) | (go_at_call 39; refine HS.fill (hf.out.calls (HS.blk _ (.tail _ (.head _))).2 (HS.blk _ (.head _)).2 (Ne.symm ((List.pairwise_cons.1 HS.apart).1 _ (.head _)))) ?_) | (go_at_call 16; refine HS.go (hr.out.calls HS.fmC) ?_)); clear HS; (try clear hc); intros; rename_i HS; have hc := HS.lk; simp only [Lk, LkC, Value.cells, List.toList_toArray, Nat.reduceAdd, Nat.zero_add, and_true, zf, zg, ze, zh] at HS hc) | (refine yE (.op 0 0 54 (.op 1 0 55 (.op 2 0 56 (.op 3 0 57 (.op 4 0 58 (.op 5 4 0 (.op 6 1 3 .nil))))))) [] HS (.cons _ (.cons_cons _ (.cons _ .slnil))) ?_; clear HS hc; intro HS hS; (repeat (refine RT.tk ?_)); refine RT.o4 ?_; intro K hK; refine xG HS ?_; clear HS hS; intro w_ HS; have hc := HS.lk; simp only [Lk, LkC, Value.cells, List.toList_toArray, Nat.reduceAdd, Nat.zero_add, and_true, zf, zg, ze, zh] at HS hc; refine hK _ _ (xv (.cons _ (.cons_cons _ (.cons _ .slnil))) HS.lk) (fun hS => ?_); clear hK hS; (repeat (refine RT.pu ?_)); refine RT.nil ?_))
   refine bodyPost_ret (xN (rs := [_, _]) rfl (by simp) (.cell _ _ _ _ _ rfl (HS.blk (_, _, _) (by repeat (first | exact .head _ | apply List.Mem.tail))).2 Tryz.underlying28 rfl (by kernel_rfl) (.tmp .nil))) rfl ?_; exact ⟨⟨_, rfl, _, _, _, _, _, rfl, oN, oN, oN, oN, oN⟩, HS.below⟩
  ·replace hf := za.mk hf
   have d3 := beq_eq_false_iff_ne.mpr c4
   have d4 := bne_iff_ne.mpr c4
   go_wp2_with (first | ((first | ((with_reducible refine gB rfl ?_); refine zz HS ?_) | ((with_reducible refine gA rfl ?_); refine zt HS ?_) | ((with_reducible refine gS rfl ?_); refine zu HS ?_) | (go_at_call 36; refine HS.go HO.out.calls ?_) | (go_at_call 37; refine HS.rd0 h1.out.calls ?_) | (go_at_call 37; refine HS.rd0 h2.out.calls ?_) | (go_at_call 37; refine HS.rd0 h3.out.calls ?_) | (go_at_call 38; refine HS.go0 (yb.calls _ _ _ _ _ hw.out) ?_) | (go_at_call 39; refine HS.fill (hf.out.calls (HS.blk _ (.tail _ (.head _))).2 (HS.blk _ (.head _)).2 (Ne.symm ((List.pairwise_cons.1 HS.apart).1 _ (.head _)))) ?_) | (go_at_call 16; refine HS.go (hr.out.calls HS.fmC) ?_)); clear HS; (try clear hc); intros; rename_i HS; have hc := HS.lk; simp only [Lk, LkC, Value.cells, List.toList_toArray, Nat.reduceAdd, Nat.zero_add, and_true, zf, zg, ze, zh] at HS hc) | (refine yE (.op 0 0 54 (.op 1 0 55 (.op 2 0 56 (.op 3 0 57 (.op 4 0 58 (.op 5 4 0 (.op 6 1 3 .nil))))))) [] HS (.cons _ (.cons_cons _ (.cons _ .slnil))) ?_; clear HS hc; intro HS hS; (repeat (refine RT.tk ?_)); refine RT.o4 ?_; intro K hK; refine xG HS ?_; clear HS hS; intro w_ HS; have hc := HS.lk; simp only [Lk, LkC, Value.cells, List.toList_toArray, Nat.reduceAdd, Nat.zero_add, and_true, zf, zg, ze, zh] at HS hc; refine hK _ _ (xv (.cons _ (.cons_cons _ (.cons _ .slnil))) HS.lk) (fun hS => ?_); clear hK hS; (repeat (refine RT.pu ?_)); refine RT.nil ?_))
   refine bodyPost_ret (xN (rs := [_, _]) rfl (by simp) (.cell _ _ _ _ _ rfl (HS.blk (_, _, _) (by repeat (first | exact .head _ | apply List.Mem.tail))).2 Tryz.underlying28 rfl (by kernel_rfl) (.tmp .nil))) rfl ?_; exact ⟨⟨_, rfl, _, _, _, _, _, rfl, oN, oN, oN, oN, oN⟩, HS.below⟩
  ·replace hf := za.mk hf
   go_wp2_with (first | ((first | ((with_reducible refine gB rfl ?_); refine zz HS ?_) | ((with_reducible refine gA rfl ?_); refine zt HS ?_) | ((with_reducible refine gS rfl ?_); refine zu HS ?_) | (go_at_call 36; refine HS.go HO.out.calls ?_) | (go_at_call 37; refine HS.rd0 h1.out.calls ?_) | (go_at_call 37; refine HS.rd0 h2.out.calls ?_) | (go_at_call 37; refine HS.rd0 h3.out.calls ?_) | (go_at_call 38; refine HS.go0 (yb.calls _ _ _ _ _ hw.out) ?_) | (go_at_call 39; refine HS.fill (hf.out.calls (HS.blk _ (.tail _ (.head _))).2 (HS.blk _ (.head _)).2 (Ne.symm ((List.pairwise_cons.1 HS.apart).1 _ (.head _)))) ?_) | (go_at_call 16; refine HS.go (hr.out.calls HS.fmC) ?_)); clear HS; (try clear hc); intros; rename_i HS; have hc := HS.lk; simp only [Lk, LkC, Value.cells, List.toList_toArray, Nat.reduceAdd, Nat.zero_add, and_true, zf, zg, ze, zh] at HS hc) | (refine yE (.op 0 0 54 (.op 1 0 55 (.op 2 0 56 (.op 3 0 57 (.op 4 0 58 (.op 5 4 0 (.op 6 1 3 .nil))))))) [] HS (.cons _ (.cons_cons _ (.cons _ .slnil))) ?_; clear HS hc; intro HS hS; (repeat (refine RT.tk ?_)); refine RT.o4 ?_; intro K hK; refine xG HS ?_; clear HS hS; intro w_ HS; have hc := HS.lk; simp only [Lk, LkC, Value.cells, List.toList_toArray, Nat.reduceAdd, Nat.zero_add, and_true, zf, zg, ze, zh] at HS hc; refine hK _ _ (xv (.cons _ (.cons_cons _ (.cons _ .slnil))) HS.lk) (fun hS => ?_); clear hK hS; (repeat (refine RT.pu ?_)); refine RT.nil ?_))
   refine bodyPost_ret (xN (rs := [_, _]) rfl (by simp) (.cell _ _ _ _ _ rfl (HS.blk (_, _, _) (by repeat (first | exact .head _ | apply List.Mem.tail))).2 Tryz.underlying28 rfl (by kernel_rfl) (.tmp .nil))) rfl ?_; exact ⟨⟨_, rfl, _, _, _, _, _, rfl, oN, oN, oN, oN, oN⟩, HS.below⟩
  ·replace hf := za.mk hf
   replace hr := za.mk hr
   have d5 := decide_eq_false c5
   go_wp2_with (first | ((first | ((with_reducible refine gB rfl ?_); refine zz HS ?_) | ((with_reducible refine gA rfl ?_); refine zt HS ?_) | ((with_reducible refine gS rfl ?_); refine zu HS ?_) | (go_at_call 36; refine HS.go HO.out.calls ?_) | (go_at_call 37; refine HS.rd0 h1.out.calls ?_) | (go_at_call 37; refine HS.rd0 h2.out.calls ?_) | (go_at_call 37; refine HS.rd0 h3.out.calls ?_) | (go_at_call 38; refine HS.go0 (yb.calls _ _ _ _ _ hw.out) ?_) | (go_at_call 39; refine HS.fill (hf.out.calls (HS.blk _ (.tail _ (.head _))).2 (HS.blk _ (.head _)).2 (Ne.symm ((List.pairwise_cons.1 HS.apart).1 _ (.head _)))) ?_) | (go_at_call 16; refine HS.go (hr.out.calls HS.fmC) ?_)); clear HS; (try clear hc); intros; rename_i HS; have hc := HS.lk; simp only [Lk, LkC, Value.cells, List.toList_toArray, Nat.reduceAdd, Nat.zero_add, and_true, zf, zg, ze, zh] at HS hc) | (refine yE (.op 0 0 54 (.op 1 0 55 (.op 2 0 56 (.op 3 0 57 (.op 4 0 58 (.op 5 4 0 (.op 6 1 3 .nil))))))) [] HS (.cons _ (.cons_cons _ (.cons _ .slnil))) ?_; clear HS hc; intro HS hS; (repeat (refine RT.tk ?_)); refine RT.o4 ?_; intro K hK; refine xG HS ?_; clear HS hS; intro w_ HS; have hc := HS.lk; simp only [Lk, LkC, Value.cells, List.toList_toArray, Nat.reduceAdd, Nat.zero_add, and_true, zf, zg, ze, zh] at HS hc; refine hK _ _ (xv (.cons _ (.cons_cons _ (.cons _ .slnil))) HS.lk) (fun hS => ?_); clear hK hS; (repeat (refine RT.pu ?_)); refine RT.nil ?_))
   refine bodyPost_ret (xN (rs := [_, _]) rfl (by simp) (.cell _ _ _ _ _ rfl (HS.blk (_, _, _) (by repeat (first | exact .head _ | apply List.Mem.tail))).2 Tryz.underlying28 rfl (by kernel_rfl) (.tmp .nil))) rfl ?_; exact ⟨⟨_, rfl, _, _, _, _, _, rfl, oN, oN, oN, oN, oN⟩, HS.below⟩
  ·replace hf := za.mk hf
   replace hr := za.mk hr
   have d5 := decide_eq_false c5
   go_wp2_with (first | ((first | ((with_reducible refine gB rfl ?_); refine zz HS ?_) | ((with_reducible refine gA rfl ?_); refine zt HS ?_) | ((with_reducible refine gS rfl ?_); refine zu HS ?_) | (go_at_call 36; refine HS.go HO.out.calls ?_) | (go_at_call 37; refine HS.rd0 h1.out.calls ?_) | (go_at_call 37; refine HS.rd0 h2.out.calls ?_) | (go_at_call 37; refine HS.rd0 h3.out.calls ?_) | (go_at_call 38; refine HS.go0 (yb.calls _ _ _ _ _ hw.out) ?_) | (go_at_call 39; refine HS.fill (hf.out.calls (HS.blk _ (.tail _ (.head _))).2 (HS.blk _ (.head _)).2 (Ne.symm ((List.pairwise_cons.1 HS.apart).1 _ (.head _)))) ?_) | (go_at_call 16; refine HS.go (hr.out.calls HS.fmC) ?_)); clear HS; (try clear hc); intros; rename_i HS; have hc := HS.lk; simp only [Lk, LkC, Value.cells, List.toList_toArray, Nat.reduceAdd, Nat.zero_add, and_true, zf, zg, ze, zh] at HS hc) | (refine yE (.op 0 0 54 (.op 1 0 55 (.op 2 0 56 (.op 3 0 57 (.op 4 0 58 (.op 5 4 0 (.op 6 1 3 .nil))))))) [] HS (.cons _ (.cons_cons _ (.cons _ .slnil))) ?_; clear HS hc; intro HS hS; (repeat (refine RT.tk ?_)); refine RT.o4 ?_; intro K hK; refine xG HS ?_; clear HS hS; intro w_ HS; have hc := HS.lk; simp only [Lk, LkC, Value.cells, List.toList_toArray, Nat.reduceAdd, Nat.zero_add, and_true, zf, zg, ze, zh] at HS hc; refine hK _ _ (xv (.cons _ (.cons_cons _ (.cons _ .slnil))) HS.lk) (fun hS => ?_); clear hK hS; (repeat (refine RT.pu ?_)); refine RT.nil ?_))
   refine bodyPost_ret (xN (rs := [_, _]) rfl (by simp) (.cell _ _ _ _ _ rfl (HS.blk (_, _, _) (by repeat (first | exact .head _ | apply List.Mem.tail))).2 Tryz.underlying28 rfl (by kernel_rfl) (.tmp .nil))) rfl ?_
   exact ⟨⟨_, rfl, HS.fmO⟩, HS.below⟩
open Go.RowKit Go.Proofs.YtepipnpfggnadaaGreatW.PrintWords Go.Proofs.YtepipnpfggnadaaGreatW.PrintLast Go.Proofs.YtepipnpfggnadaaGreatW.PrintMore Go.Proofs.YtepipnpfggnadaaGreat.Crc
abbrev fA : Fm := ⟨3, 1, 2, 0, 3, [], [], [], [], []⟩
def yA : ByteArray := ⟨#[6, 2, 4, 6, 140, 141, 102, 171]⟩
theorem putA : YS fA yA 0 := by
 rcases VG (x := fA) ⟨rfl, rfl, rfl, rfl, rfl, by simp, by simp, by simp, by simp, by simp⟩ with ⟨h, _⟩ | ⟨_, h, _⟩
 ·exact absurd h (by decide +kernel)
 ·have e : zcQ (Zq fA) = yA := by decide +kernel
  rwa [e] at h
theorem numA {t : ByteArray} (ht : t = (⟨#[6, 2, 4, 6]⟩ : ByteArray)) (p v p' : Int) (h : V4 ⟨#[6, 2, 4, 6]⟩ p = (v, p', 0)) : xP t p 0 v p' 0 := .inr ⟨rfl, 40, by subst ht; rw [← h]; exact zaz _ (by decide +kernel) p 40 (Nat.le_refl _)⟩
theorem getA : Vh yA fA 0 := by
 obtain ⟨t, ht⟩ : ∃ t, t = (⟨#[6, 2, 4, 6]⟩ : ByteArray) := ⟨_, rfl⟩
 have hz : t.size = 4 := by rw [ht]; rfl
 have hr : ZB fA true := by
  have h := Q2 (x := fA) ⟨rfl, rfl, rfl, rfl, rfl, by simp, by simp, by simp, by simp, by simp⟩
  have e : yO fA = true := by decide +kernel
  rwa [e] at h
 refine ⟨t, 0, ⟨100, ?_⟩, .inr ⟨rfl, by omega, 3, 1, 0, numA ht _ _ _ (by decide +kernel), .inr ⟨by decide, 1, 2, 0, 2, 3, 0, numA ht _ _ _ (by decide +kernel), numA ht _ _ _ (by decide +kernel), .inr ⟨rfl, fA, 4, 0, ?_, .inr (.inr ⟨rfl, by omega, true, hr, .inr ⟨rfl, rfl, rfl⟩⟩)⟩⟩⟩⟩
 ·rw [ht, zbW yA (by decide +kernel) 100 (by decide +kernel)]
  exact congrArg some (by decide +kernel)
 ·exact ⟨3, numA ht _ _ _ (by decide +kernel), rfl⟩
theorem zdD {w0 w : World} {bs : List Bk} {A5 A6 A7 A8 A9 : Option Addr} {c5 c6 c7 c8 c9 : Nat} (H : Sat [] w0 w bs (Xo w0 fA A5 c5 A6 c6 A7 c7 A8 c8 A9 c9)) : Calls Tryz.prog 15 #[.agg #[.int .i64 3, .int .i64 1, .int .i64 2, .int .i64 0, .int .i64 3, .slice none 0 0, .slice none 0 0, .slice none 0 0, .slice none 0 0, .slice none 0 0], .agg #[.int .i64 3, .int .i64 1, .int .i64 2, .int .i64 0, .int .i64 3, .slice A5 0 c5, .slice A6 0 c6, .slice A7 0 c7, .slice A8 0 c8, .slice A9 0 c9]] w fun e w' => e = .returned (.bool true) ∧ Below w.heap.size w w' :=
 vy (p0 := true) (p1 := true) (p2 := true) (p3 := true) (p4 := true) (b5 := true) (b6 := true) (b7 := true) (b8 := true) (b9 := true) rfl rfl rfl rfl rfl (Zf (Z4 (H.rows _ (.head _)).2)) (Zl (Z4 (H.rows _ (.tail _ (.head _))).2)) (vY (Z4 (H.rows _ (.tail _ (.tail _ (.head _)))).2)) (Zj (Z4 (H.rows _ (.tail _ (.tail _ (.tail _ (.head _))))).2)) (Zh (Z4 (H.rows _ (.tail _ (.tail _ (.tail _ (.tail _ (.head _)))))).2))
theorem zdE (w : World) : Calls Tryz.prog 15 #[.agg #[.int .i64 3, .int .i64 1, .int .i64 2, .int .i64 0, .int .i64 3, .slice none 0 0, .slice none 0 0, .slice none 0 0, .slice none 0 0, .slice none 0 0], .agg #[.int .i64 0, .int .i64 0, .int .i64 0, .int .i64 0, .int .i64 0, .slice none 0 0, .slice none 0 0, .slice none 0 0, .slice none 0 0, .slice none 0 0]] w fun e w' => e = .returned (.bool false) ∧ Below w.heap.size w w' :=
 vy (p0 := false) (p1 := false) (p2 := false) (p3 := true) (p4 := false) (b5 := true) (b6 := true) (b7 := true) (b8 := true) (b9 := true) rfl rfl rfl rfl rfl (Zf jS) (Zl jS) (vY jS) (Zj jS) (Zh jS)
theorem zc4 (w : World) : Calls Tryz.prog 9 #[] w fun e w' => e = .returned (.bool true) ∧ Below w.heap.size w w' := by
 have HS := Sat.nil w
 obtain ⟨y, hy⟩ : ∃ y, y = yA := ⟨_, rfl⟩
 have hp : za (YS fA y 0) := ⟨hy ▸ putA⟩
 have hg : za (Vh y fA 0) := ⟨hy ▸ getA⟩
 have y0 : (y.size : Int) = 8 := by subst hy; decide +kernel
 have y1 : ((y.size : Int) == 8) = true := by subst hy; decide +kernel
 have y2 : decide ((4 : Int) ≤ (y.size : Int)) = true := by subst hy; decide +kernel
 have y3 : decide (4 ≤ y.size) = true := by subst hy; decide +kernel
 have y4 : 4 ≤ y.size := by subst hy; decide +kernel
 have y5 : ((y.extract 0 4).toList == ([6, 2, 4, 6] : List UInt8)) = true := by subst hy; decide +kernel
 have y6 : (y.extract 0 4).toList = ([6, 2, 4, 6] : List UInt8) := by subst hy; decide +kernel
 have y7 : (y.extract 0 4 == (⟨#[6, 2, 4, 6]⟩ : ByteArray)) = true := by subst hy; decide +kernel
 clear hy
 go_enter Tryz.func9, Tryz.ntmps9
 go_wp2_with ((first | ((with_reducible refine gB rfl ?_); refine zz HS ?_) | ((with_reducible refine gA rfl ?_); refine zt HS ?_) | ((with_reducible refine gS rfl ?_); refine zu HS ?_) | (go_at_call 7; refine HS.go (YS.calls hp.out ⟨_, _, _, _, _, rfl, jS, jS, jS, jS, jS⟩) ?_) | (go_at_call 13; refine HS.got (F := fun cs => .tuple #[.agg cs.toArray, .int .i64 0]) (Vh.calls hg.out) ?_) | (go_at_call 15; with_reducible refine HS.go (zdE _) ?_) | (go_at_call 15; with_reducible refine HS.go (zdD HS) ?_)); clear HS; (try clear hc); intros; rename_i HS; have hc := HS.lk; simp only [Lk, LkC, Value.cells, List.toList_toArray, Nat.reduceAdd, Nat.zero_add, and_true, zf, zg, ze, zh, List.length_nil] at HS hc)
 go_ret
 exact ⟨rfl, HS.below⟩
theorem zcf {a1 a2 a3 a4 : Int} {A5 : Option Addr} {m5 d5 : Nat} {A6 : Option Addr} {m6 d6 : Nat} {A7 : Option Addr} {m7 d7 : Nat} {A8 : Option Addr} {m8 d8 : Nat} {A9 : Option Addr} {m9 d9 : Nat} {b : Bool} {w : World} (hb : ((m6 == 0) && ((m7 == 0) && ((m8 == 0) && (m9 == 0)))) = b) : Calls Tryz.prog 21 #[.agg #[.int .i64 1, .int .i64 a1, .int .i64 a2, .int .i64 a3, .int .i64 a4, .slice A5 m5 d5, .slice A6 m6 d6, .slice A7 m7 d7, .slice A8 m8 d8, .slice A9 m9 d9]] w fun e w' => e = .returned (.bool b) ∧ Below w.heap.size w w' := by
 subst hb
 have HS := Sat.nil w
 have i6 : ((m6 : Int) == 0) = (m6 == 0) := by rw [Bool.eq_iff_iff]; simp; try omega
 have i7 : ((m7 : Int) == 0) = (m7 == 0) := by rw [Bool.eq_iff_iff]; simp; try omega
 have i8 : ((m8 : Int) == 0) = (m8 == 0) := by rw [Bool.eq_iff_iff]; simp; try omega
 have i9 : ((m9 : Int) == 0) = (m9 == 0) := by rw [Bool.eq_iff_iff]; simp; try omega
 generalize h6 : (m6 == 0) = z6 at i6 ⊢
 generalize h7 : (m7 == 0) = z7 at i7 ⊢
 generalize h8 : (m8 == 0) = z8 at i8 ⊢
 generalize h9 : (m9 == 0) = z9 at i9 ⊢
 cases z6
 case' true => cases z7
 case' true.true => cases z8
 case' true.true.true => cases z9
 all_goals
  go_enter Tryz.func21, Tryz.ntmps21
  go_wp2_with ((first | ((with_reducible refine gB rfl ?_); refine zz HS ?_) | ((with_reducible refine gA rfl ?_); refine zt HS ?_) | ((with_reducible refine gS rfl ?_); refine zu HS ?_)); clear HS; (try clear hc); intros; rename_i HS; have hc := HS.lk; simp only [Lk, LkC, Value.cells, List.toList_toArray, Nat.reduceAdd, Nat.zero_add, and_true, zf, zg, ze, zh] at HS hc)
  go_ret
  exact ⟨by first | rfl | simp, HS.below⟩
theorem JC {a1 a2 a3 a4 : Int} {A5 : Option Addr} {m5 d5 : Nat} {A6 : Option Addr} {m6 d6 : Nat} {A7 : Option Addr} {m7 d7 : Nat} {A8 : Option Addr} {m8 d8 : Nat} {A9 : Option Addr} {m9 d9 : Nat} {b : Bool} {w : World} (hb : ((m5 == 0) && ((m7 == 0) && ((m8 == 0) && (m9 == 0)))) = b) : Calls Tryz.prog 21 #[.agg #[.int .i64 2, .int .i64 a1, .int .i64 a2, .int .i64 a3, .int .i64 a4, .slice A5 m5 d5, .slice A6 m6 d6, .slice A7 m7 d7, .slice A8 m8 d8, .slice A9 m9 d9]] w fun e w' => e = .returned (.bool b) ∧ Below w.heap.size w w' := by
 subst hb
 have HS := Sat.nil w
 have i5 : ((m5 : Int) == 0) = (m5 == 0) := by rw [Bool.eq_iff_iff]; simp; try omega
 have i7 : ((m7 : Int) == 0) = (m7 == 0) := by rw [Bool.eq_iff_iff]; simp; try omega
 have i8 : ((m8 : Int) == 0) = (m8 == 0) := by rw [Bool.eq_iff_iff]; simp; try omega
 have i9 : ((m9 : Int) == 0) = (m9 == 0) := by rw [Bool.eq_iff_iff]; simp; try omega
 generalize h5 : (m5 == 0) = z5 at i5 ⊢
 generalize h7 : (m7 == 0) = z7 at i7 ⊢
 generalize h8 : (m8 == 0) = z8 at i8 ⊢
 generalize h9 : (m9 == 0) = z9 at i9 ⊢
 cases z5
 case' true => cases z7
 case' true.true => cases z8
 case' true.true.true => cases z9
 all_goals
  go_enter Tryz.func21, Tryz.ntmps21
  go_wp2_with ((first | ((with_reducible refine gB rfl ?_); refine zz HS ?_) | ((with_reducible refine gA rfl ?_); refine zt HS ?_) | ((with_reducible refine gS rfl ?_); refine zu HS ?_)); clear HS; (try clear hc); intros; rename_i HS; have hc := HS.lk; simp only [Lk, LkC, Value.cells, List.toList_toArray, Nat.reduceAdd, Nat.zero_add, and_true, zf, zg, ze, zh] at HS hc)
  go_ret
  exact ⟨by first | rfl | simp, HS.below⟩
theorem zcm {a1 a2 a3 a4 : Int} {A5 : Option Addr} {m5 d5 : Nat} {A6 : Option Addr} {m6 d6 : Nat} {A7 : Option Addr} {m7 d7 : Nat} {A8 : Option Addr} {m8 d8 : Nat} {A9 : Option Addr} {m9 d9 : Nat} {b : Bool} {w : World} (hb : ((m5 == 0) && ((m6 == 0) && ((m7 == 0) && ((m8 == 0) && (m9 == 0))))) = b) : Calls Tryz.prog 21 #[.agg #[.int .i64 3, .int .i64 a1, .int .i64 a2, .int .i64 a3, .int .i64 a4, .slice A5 m5 d5, .slice A6 m6 d6, .slice A7 m7 d7, .slice A8 m8 d8, .slice A9 m9 d9]] w fun e w' => e = .returned (.bool b) ∧ Below w.heap.size w w' := by
 subst hb
 have HS := Sat.nil w
 have i5 : ((m5 : Int) == 0) = (m5 == 0) := by rw [Bool.eq_iff_iff]; simp; try omega
 have i6 : ((m6 : Int) == 0) = (m6 == 0) := by rw [Bool.eq_iff_iff]; simp; try omega
 have i7 : ((m7 : Int) == 0) = (m7 == 0) := by rw [Bool.eq_iff_iff]; simp; try omega
 have i8 : ((m8 : Int) == 0) = (m8 == 0) := by rw [Bool.eq_iff_iff]; simp; try omega
 have i9 : ((m9 : Int) == 0) = (m9 == 0) := by rw [Bool.eq_iff_iff]; simp; try omega
 generalize h5 : (m5 == 0) = z5 at i5 ⊢
 generalize h6 : (m6 == 0) = z6 at i6 ⊢
 generalize h7 : (m7 == 0) = z7 at i7 ⊢
 generalize h8 : (m8 == 0) = z8 at i8 ⊢
 generalize h9 : (m9 == 0) = z9 at i9 ⊢
 cases z5
 case' true => cases z6
 case' true.true => cases z7
 case' true.true.true => cases z8
 case' true.true.true.true => cases z9
 all_goals
  go_enter Tryz.func21, Tryz.ntmps21
  go_wp2_with ((first | ((with_reducible refine gB rfl ?_); refine zz HS ?_) | ((with_reducible refine gA rfl ?_); refine zt HS ?_) | ((with_reducible refine gS rfl ?_); refine zu HS ?_)); clear HS; (try clear hc); intros; rename_i HS; have hc := HS.lk; simp only [Lk, LkC, Value.cells, List.toList_toArray, Nat.reduceAdd, Nat.zero_add, and_true, zf, zg, ze, zh] at HS hc)
  go_ret
  exact ⟨by first | rfl | simp, HS.below⟩
theorem J1 {a1 a2 a3 a4 : Int} {A5 : Option Addr} {m5 d5 : Nat} {A6 : Option Addr} {m6 d6 : Nat} {A7 : Option Addr} {m7 d7 : Nat} {A8 : Option Addr} {m8 d8 : Nat} {A9 : Option Addr} {m9 d9 : Nat} {b : Bool} {w : World} (hb : ((m5 == 0) && ((m6 == 0) && ((m8 == 0) && (m9 == 0)))) = b) : Calls Tryz.prog 21 #[.agg #[.int .i64 4, .int .i64 a1, .int .i64 a2, .int .i64 a3, .int .i64 a4, .slice A5 m5 d5, .slice A6 m6 d6, .slice A7 m7 d7, .slice A8 m8 d8, .slice A9 m9 d9]] w fun e w' => e = .returned (.bool b) ∧ Below w.heap.size w w' := by
 subst hb
 have HS := Sat.nil w
 have i5 : ((m5 : Int) == 0) = (m5 == 0) := by rw [Bool.eq_iff_iff]; simp; try omega
 have i6 : ((m6 : Int) == 0) = (m6 == 0) := by rw [Bool.eq_iff_iff]; simp; try omega
 have i8 : ((m8 : Int) == 0) = (m8 == 0) := by rw [Bool.eq_iff_iff]; simp; try omega
 have i9 : ((m9 : Int) == 0) = (m9 == 0) := by rw [Bool.eq_iff_iff]; simp; try omega
 generalize h5 : (m5 == 0) = z5 at i5 ⊢
 generalize h6 : (m6 == 0) = z6 at i6 ⊢
 generalize h8 : (m8 == 0) = z8 at i8 ⊢
 generalize h9 : (m9 == 0) = z9 at i9 ⊢
 cases z5
 case' true => cases z6
 case' true.true => cases z8
 case' true.true.true => cases z9
 all_goals
  go_enter Tryz.func21, Tryz.ntmps21
  go_wp2_with ((first | ((with_reducible refine gB rfl ?_); refine zz HS ?_) | ((with_reducible refine gA rfl ?_); refine zt HS ?_) | ((with_reducible refine gS rfl ?_); refine zu HS ?_)); clear HS; (try clear hc); intros; rename_i HS; have hc := HS.lk; simp only [Lk, LkC, Value.cells, List.toList_toArray, Nat.reduceAdd, Nat.zero_add, and_true, zf, zg, ze, zh] at HS hc)
  go_ret
  exact ⟨by first | rfl | simp, HS.below⟩
theorem zcE {a1 a2 a3 a4 : Int} {A5 : Option Addr} {m5 d5 : Nat} {A6 : Option Addr} {m6 d6 : Nat} {A7 : Option Addr} {m7 d7 : Nat} {A8 : Option Addr} {m8 d8 : Nat} {A9 : Option Addr} {m9 d9 : Nat} {b : Bool} {w : World} (hb : ((m5 == 0) && ((m6 == 0) && (m7 == 0))) = b) : Calls Tryz.prog 21 #[.agg #[.int .i64 5, .int .i64 a1, .int .i64 a2, .int .i64 a3, .int .i64 a4, .slice A5 m5 d5, .slice A6 m6 d6, .slice A7 m7 d7, .slice A8 m8 d8, .slice A9 m9 d9]] w fun e w' => e = .returned (.bool b) ∧ Below w.heap.size w w' := by
 subst hb
 have HS := Sat.nil w
 have i5 : ((m5 : Int) == 0) = (m5 == 0) := by rw [Bool.eq_iff_iff]; simp; try omega
 have i6 : ((m6 : Int) == 0) = (m6 == 0) := by rw [Bool.eq_iff_iff]; simp; try omega
 have i7 : ((m7 : Int) == 0) = (m7 == 0) := by rw [Bool.eq_iff_iff]; simp; try omega
 generalize h5 : (m5 == 0) = z5 at i5 ⊢
 generalize h6 : (m6 == 0) = z6 at i6 ⊢
 generalize h7 : (m7 == 0) = z7 at i7 ⊢
 cases z5
 case' true => cases z6
 case' true.true => cases z7
 all_goals
  go_enter Tryz.func21, Tryz.ntmps21
  go_wp2_with ((first | ((with_reducible refine gB rfl ?_); refine zz HS ?_) | ((with_reducible refine gA rfl ?_); refine zt HS ?_) | ((with_reducible refine gS rfl ?_); refine zu HS ?_)); clear HS; (try clear hc); intros; rename_i HS; have hc := HS.lk; simp only [Lk, LkC, Value.cells, List.toList_toArray, Nat.reduceAdd, Nat.zero_add, and_true, zf, zg, ze, zh] at HS hc)
  go_ret
  exact ⟨by first | rfl | simp, HS.below⟩
attribute [local go_sem] jM jJ vE vD jm jl jL jO
def zH.f (a0 : Int) (a1 : Int) (a2 : Int) : Option (Bool) := if a0 ≥ a1 then (some (decide (a0 ≤ a2))) else (some false)
theorem zH.calls (a0 : Int) (a1 : Int) (a2 : Int) (r : Bool) (w : World) (h : zH.f a0 a1 a2 = some r) :
  Calls Tryz.prog 65 #[.int .i64 a0, .int .i64 a1, .int .i64 a2] w fun e w' => e = .returned (.bool r) ∧ zi w w' := by
 have H : (if a0 ≥ a1 then (some (decide (a0 ≤ a2))) else (some false)) = some r := h
 clear h
 by_cases c4 : a0 ≥ a1
 ·rw [if_pos c4] at H
  have c4b0 : decide (a1 ≤ a0) = true := decide_eq_true c4
  clear c4
  obtain rfl := Option.some.inj H
  go_enter Tryz.func65, Tryz.ntmps65
  go_wp2
  go_ret
  exact ⟨by first | rfl | (simp; done) | (simp [*]; done), by repeat (first | exact zi.refl _ | apply zi.step)⟩
 ·rw [if_neg c4] at H
  have c4b0 : decide (a1 ≤ a0) = false := decide_eq_false c4
  clear c4
  obtain rfl := Option.some.inj H
  go_enter Tryz.func65, Tryz.ntmps65
  go_wp2
  go_ret
  exact ⟨by first | rfl | (simp; done) | (simp [*]; done), by repeat (first | exact zi.refl _ | apply zi.step)⟩
def xm.f (a0 : Int) : Option (Bool) := if a0 ≥ (-1099511627776) then (some (decide (a0 ≤ 1099511627776))) else (some false)
theorem xm.calls (a0 : Int) (r : Bool) (w : World) (h : xm.f a0 = some r) :
  Calls Tryz.prog 108 #[.int .i64 a0] w fun e w' => e = .returned (.bool r) ∧ zi w w' := by
 have H : (if a0 ≥ (-1099511627776) then (some (decide (a0 ≤ 1099511627776))) else (some false)) = some r := h
 clear h
 by_cases c2 : a0 ≥ (-1099511627776)
 ·rw [if_pos c2] at H
  have c2b0 : decide ((-1099511627776) ≤ a0) = true := decide_eq_true c2
  clear c2
  obtain rfl := Option.some.inj H
  go_enter Tryz.func108, Tryz.ntmps108
  go_wp2
  go_ret
  exact ⟨by first | rfl | (simp; done) | (simp [*]; done), by repeat (first | exact zi.refl _ | apply zi.step)⟩
 ·rw [if_neg c2] at H
  have c2b0 : decide ((-1099511627776) ≤ a0) = false := decide_eq_false c2
  clear c2
  obtain rfl := Option.some.inj H
  go_enter Tryz.func108, Tryz.ntmps108
  go_wp2
  go_ret
  exact ⟨by first | rfl | (simp; done) | (simp [*]; done), by repeat (first | exact zi.refl _ | apply zi.step)⟩
def zJ.l0 : Nat → List Int → Int → Int → Option (Bool)
 | 0, _, _, _ => none
 | k + 1, x0, x1, x5 => if x5 < (x0.length : Int) then (if 0 ≤ x5 then ((xm.f (rd x0 x5)).bind fun t671 => (if t671 = true then (zJ.l0 k x0 x1 (wrap64 (x5 + 1))) else (some false))) else (none)) else (some (decide ((x0.length : Int) ≤ x1)))
def zJ.f (k : Nat) (l0 : List Int) (a1 : Int) : Option (Bool) := zJ.l0 k l0 a1 0
theorem zJ.calls (k : Nat) (A0 : Option Addr) (c0 : Nat) (l0 : List Int) (a1 : Int) (r : Bool) (w : World) (hr0 : Kd.C (Kd.int .i64) w A0 l0.length l0) (hc0 : l0.length ≤ c0) (h : zJ.f k l0 a1 = some r) :
  Calls Tryz.prog 66 #[.slice A0 l0.length c0, .int .i64 a1] w fun e w' => e = .returned (.bool r) ∧ zi w w' := by
 have HR0 := za.mk hr0
 have HC0 := za.mk hc0
 clear hr0 hc0
 have H : (zJ.l0 k l0 a1 0) = some r := h
 clear h
 have H' := za.mk H
 clear H
 go_enter Tryz.func66, Tryz.ntmps66
 go_wp2
 go_loopg [5] k (fun kq v5 w' => ∃ (x5_1 : Int), v5 = .int .i64 x5_1 ∧ za (zJ.l0 kq l0 a1 x5_1 = some r) ∧ za (kq ≤ k) ∧ zi w w')
 case atStart => exact ⟨(0), (by first | rfl | (simp; done) | (simp [*]; done)), H', ⟨Nat.le_refl _⟩, by repeat (first | exact zi.refl _ | apply zi.step)⟩
 case round =>
  clear H'
  try clear p2
  obtain ⟨x5_1, rfl, HA, HK1, ⟨m1, rfl⟩⟩ := hrel
  cases gk with
  | zero => exact absurd HA.out (by simp [zJ.l0])
  | succ k1 =>
   have H := HA.out
   clear HA
   simp only [zJ.l0] at H
   by_cases c3 : x5_1 < (l0.length : Int)
   ·rw [if_pos c3] at H
    have c3b0 : decide (x5_1 < (l0.length : Int)) = true := decide_eq_true c3
    clear c3
    by_cases c4 : 0 ≤ x5_1
    ·rw [if_pos c4] at H
     have c4b0 : decide (0 ≤ x5_1) = true := decide_eq_true c4
     clear c4
     replace H := zdK.mp H
     obtain ⟨t671, A50, H⟩ := H
     replace H : (if t671 = true then (zJ.l0 k1 l0 a1 (wrap64 (x5_1 + 1))) else (some false)) = some r := H
     have A5 := za.mk A50
     clear A50
     by_cases c6 : t671 = true
     ·subst c6
      have H1 : (zJ.l0 k1 l0 a1 (wrap64 (x5_1 + 1))) = some r := by rw [if_pos rfl] at H; exact H
      clear H
      have H := H1
      clear H1
      have H' := za.mk H
      clear H
      have p670 : 0 ≤ (x5_1 : Int) := of_decide_eq_true (by first | (with_reducible assumption) | assumption)
      have q670 : x5_1 < (l0.length : Int) := of_decide_eq_true (by first | (with_reducible assumption) | assumption)
      obtain ⟨ad670, e670, hx670_0⟩ := Kd.at_int HR0.out x5_1 p670 q670
      cases e670
      replace p670 := eq_true p670
      replace q670 := eq_true q670
      go_wp2_with (first | ((with_reducible refine zr (f := 108) rfl ?_); refine zL (some 16) rfl rfl Tryz.func108 (by kernel_rfl) rfl #[.int .i64 (rd l0 x5_1)] rfl (by (try simp only [zdJ, List.map_cons, List.map_nil]); first | done | rfl | (simp only [List.length_drop, List.length_take]; rfl)) ?_; (with_reducible refine (xm.calls (rd l0 x5_1) true _ A5.out).mono ?_); rintro e w' ⟨rfl, ⟨nd, rfl⟩⟩; refine ⟨_, rfl, ?_⟩))
      go_roundg k1
      case measure => have := HK1.out; omega
      case rel => exact ⟨(wrap64 (x5_1 + 1)), (by first | rfl | (simp; done) | (simp [*]; done)), H', ⟨by have := HK1.out; omega⟩, by repeat (first | exact zi.refl _ | apply zi.step)⟩
     ·replace c6 := zdM.mpr c6
      subst c6
      have H1 : (some false) = some r := by rw [if_neg (show ¬ (false = true) by decide)] at H; exact H
      clear H
      have H := H1
      clear H1
      obtain rfl := Option.some.inj H
      have p670 : 0 ≤ (x5_1 : Int) := of_decide_eq_true (by first | (with_reducible assumption) | assumption)
      have q670 : x5_1 < (l0.length : Int) := of_decide_eq_true (by first | (with_reducible assumption) | assumption)
      obtain ⟨ad670, e670, hx670_0⟩ := Kd.at_int HR0.out x5_1 p670 q670
      cases e670
      replace p670 := eq_true p670
      replace q670 := eq_true q670
      go_wp2_with (first | ((with_reducible refine zr (f := 108) rfl ?_); refine zL (some 16) rfl rfl Tryz.func108 (by kernel_rfl) rfl #[.int .i64 (rd l0 x5_1)] rfl (by (try simp only [zdJ, List.map_cons, List.map_nil]); first | done | rfl | (simp only [List.length_drop, List.length_take]; rfl)) ?_; (with_reducible refine (xm.calls (rd l0 x5_1) false _ A5.out).mono ?_); rintro e w' ⟨rfl, ⟨nd, rfl⟩⟩; refine ⟨_, rfl, ?_⟩))
      go_ret
      exact ⟨by first | rfl | (simp; done) | (simp [*]; done), by repeat (first | exact zi.refl _ | apply zi.step)⟩
    ·rw [if_neg c4] at H
     exact absurd H (by simp)
   ·rw [if_neg c3] at H
    have c3b0 : decide (x5_1 < (l0.length : Int)) = false := decide_eq_false c3
    clear c3
    obtain rfl := Option.some.inj H
    go_wp2
    go_ret
    exact ⟨by first | rfl | (simp; done) | (simp [*]; done), by repeat (first | exact zi.refl _ | apply zi.step)⟩
def qs.f (k : Nat) (a0 : Int) (a1 : Int) (a2 : ByteArray) : Option (Bool) := (zH.f a0 0 5).bind fun t667 => (if t667 = true then ((zH.f a1 1 1099511627776).bind fun t668 => (if t668 = true then ((zQ.f k a2).bind fun t669 => (some t669)) else (some false))) else (some false))
theorem qs.calls (k : Nat) (a0 : Int) (a1 : Int) (a2 : ByteArray) (r : Bool) (w : World) (h : qs.f k a0 a1 a2 = some r) :
  Calls Tryz.prog 64 #[.int .i64 a0, .int .i64 a1, .string a2] w fun e w' => e = .returned (.bool r) ∧ Below w.heap.size w w' := by
 have HB := za.mk (Below.refl w.heap.size w)
 have H : ((zH.f a0 0 5).bind fun t667 => (if t667 = true then ((zH.f a1 1 1099511627776).bind fun t668 => (if t668 = true then ((zQ.f k a2).bind fun t669 => (some t669)) else (some false))) else (some false))) = some r := h
 clear h
 replace H := zdK.mp H
 obtain ⟨t667, A40, H⟩ := H
 replace H : (if t667 = true then ((zH.f a1 1 1099511627776).bind fun t668 => (if t668 = true then ((zQ.f k a2).bind fun t669 => (some t669)) else (some false))) else (some false)) = some r := H
 have A4 := za.mk A40
 clear A40
 by_cases c5 : t667 = true
 ·subst c5
  have H1 : ((zH.f a1 1 1099511627776).bind fun t668 => (if t668 = true then ((zQ.f k a2).bind fun t669 => (some t669)) else (some false))) = some r := by rw [if_pos rfl] at H; exact H
  clear H
  have H := H1
  clear H1
  replace H := zdK.mp H
  obtain ⟨t668, A60, H⟩ := H
  replace H : (if t668 = true then ((zQ.f k a2).bind fun t669 => (some t669)) else (some false)) = some r := H
  have A6 := za.mk A60
  clear A60
  by_cases c7 : t668 = true
  ·subst c7
   have H1 : ((zQ.f k a2).bind fun t669 => (some t669)) = some r := by rw [if_pos rfl] at H; exact H
   clear H
   have H := H1
   clear H1
   replace H := zdK.mp H
   obtain ⟨t669, A80, H⟩ := H
   replace H : (some t669) = some r := H
   have A8 := za.mk A80
   clear A80
   obtain rfl := Option.some.inj H
   go_enter Tryz.func64, Tryz.ntmps64
   go_wp2_with (first | ((with_reducible refine zr (f := 65) rfl ?_); refine zL (some 8) rfl rfl Tryz.func65 (by kernel_rfl) rfl #[.int .i64 a0, .int .i64 0, .int .i64 5] rfl (by (try simp only [zdJ, List.map_cons, List.map_nil]); first | done | rfl | (simp only [List.length_drop, List.length_take]; rfl)) ?_; (with_reducible refine (zH.calls a0 0 5 true _ A4.out).mono ?_); rintro e w' ⟨rfl, ⟨nd, rfl⟩⟩; refine ⟨_, rfl, ?_⟩) | (go_at_call 65; (with_reducible refine (zH.calls a1 1 1099511627776 true _ A6.out).mono ?_); rintro e w' ⟨rfl, ⟨nd, rfl⟩⟩) | (go_at_call 67; (with_reducible refine (zQ.calls k a2 t669 _ A8.out).mono ?_); rintro e w9 ⟨rfl, hb⟩; have n0_ := za.mk (zp (by repeat (first | (with_reducible first | exact HB.out | apply zc | apply zb | apply zd) | exact HB.out)) hb); clear HB; have HB := n0_; clear n0_; (try clear hb); (try clear hb2); (try clear hk); (try clear hi)))
   go_ret
   exact ⟨by first | rfl | (simp [zl, zk] <;> rfl) | (simp [*, zl, zk] <;> rfl), by repeat (first | (with_reducible first | exact HB.out | apply zc | apply zb | apply zd) | exact HB.out)⟩
  ·replace c7 := zdM.mpr c7
   subst c7
   have H1 : (some false) = some r := by rw [if_neg (show ¬ (false = true) by decide)] at H; exact H
   clear H
   have H := H1
   clear H1
   obtain rfl := Option.some.inj H
   go_enter Tryz.func64, Tryz.ntmps64
   go_wp2_with (first | ((with_reducible refine zr (f := 65) rfl ?_); refine zL (some 8) rfl rfl Tryz.func65 (by kernel_rfl) rfl #[.int .i64 a0, .int .i64 0, .int .i64 5] rfl (by (try simp only [zdJ, List.map_cons, List.map_nil]); first | done | rfl | (simp only [List.length_drop, List.length_take]; rfl)) ?_; (with_reducible refine (zH.calls a0 0 5 true _ A4.out).mono ?_); rintro e w' ⟨rfl, ⟨nd, rfl⟩⟩; refine ⟨_, rfl, ?_⟩) | (go_at_call 65; (with_reducible refine (zH.calls a1 1 1099511627776 false _ A6.out).mono ?_); rintro e w' ⟨rfl, ⟨nd, rfl⟩⟩))
   go_ret
   exact ⟨by first | rfl | (simp [zl, zk] <;> rfl) | (simp [*, zl, zk] <;> rfl), by repeat (first | (with_reducible first | exact HB.out | apply zc | apply zb | apply zd) | exact HB.out)⟩
 ·replace c5 := zdM.mpr c5
  subst c5
  have H1 : (some false) = some r := by rw [if_neg (show ¬ (false = true) by decide)] at H; exact H
  clear H
  have H := H1
  clear H1
  obtain rfl := Option.some.inj H
  go_enter Tryz.func64, Tryz.ntmps64
  go_wp2_with (first | ((with_reducible refine zr (f := 65) rfl ?_); refine zL (some 8) rfl rfl Tryz.func65 (by kernel_rfl) rfl #[.int .i64 a0, .int .i64 0, .int .i64 5] rfl (by (try simp only [zdJ, List.map_cons, List.map_nil]); first | done | rfl | (simp only [List.length_drop, List.length_take]; rfl)) ?_; (with_reducible refine (zH.calls a0 0 5 false _ A4.out).mono ?_); rintro e w' ⟨rfl, ⟨nd, rfl⟩⟩; refine ⟨_, rfl, ?_⟩))
  go_ret
  exact ⟨by first | rfl | (simp [zl, zk] <;> rfl) | (simp [*, zl, zk] <;> rfl), by repeat (first | (with_reducible first | exact HB.out | apply zc | apply zb | apply zd) | exact HB.out)⟩
def qi.f (k : Nat) (a0_0 : Int) (a0_1 : Int) (l0_2 : List Int) : Option (Bool) := (zH.f a0_0 0 7).bind fun t690 => (if t690 = true then ((zH.f a0_1 0 1099511627776).bind fun t691 => (if t691 = true then ((zJ.f k l0_2 6).bind fun t692 => (some t692)) else (some false))) else (some false))
theorem qi.calls (k : Nat) (a0_0 : Int) (a0_1 : Int) (A0_2 : Option Addr) (c0_2 : Nat) (l0_2 : List Int) (r : Bool) (w : World) (hr0_2 : Kd.C (Kd.int .i64) w A0_2 l0_2.length l0_2) (hc0_2 : l0_2.length ≤ c0_2) (h : qi.f k a0_0 a0_1 l0_2 = some r) :
  Calls Tryz.prog 69 #[.agg #[.int .i64 a0_0, .int .i64 a0_1, .slice A0_2 l0_2.length c0_2]] w fun e w' => e = .returned (.bool r) ∧ Below w.heap.size w w' := by
 have hu84 := Tryz.underlying84
 have HR0_2 := za.mk hr0_2
 have HC0_2 := za.mk hc0_2
 clear hr0_2 hc0_2
 have HB := za.mk (Below.refl w.heap.size w)
 have H : ((zH.f a0_0 0 7).bind fun t690 => (if t690 = true then ((zH.f a0_1 0 1099511627776).bind fun t691 => (if t691 = true then ((zJ.f k l0_2 6).bind fun t692 => (some t692)) else (some false))) else (some false))) = some r := h
 clear h
 replace H := zdK.mp H
 obtain ⟨t690, A20, H⟩ := H
 replace H : (if t690 = true then ((zH.f a0_1 0 1099511627776).bind fun t691 => (if t691 = true then ((zJ.f k l0_2 6).bind fun t692 => (some t692)) else (some false))) else (some false)) = some r := H
 have A2 := za.mk A20
 clear A20
 by_cases c3 : t690 = true
 ·subst c3
  have H1 : ((zH.f a0_1 0 1099511627776).bind fun t691 => (if t691 = true then ((zJ.f k l0_2 6).bind fun t692 => (some t692)) else (some false))) = some r := by rw [if_pos rfl] at H; exact H
  clear H
  have H := H1
  clear H1
  replace H := zdK.mp H
  obtain ⟨t691, A40, H⟩ := H
  replace H : (if t691 = true then ((zJ.f k l0_2 6).bind fun t692 => (some t692)) else (some false)) = some r := H
  have A4 := za.mk A40
  clear A40
  by_cases c5 : t691 = true
  ·subst c5
   have H1 : ((zJ.f k l0_2 6).bind fun t692 => (some t692)) = some r := by rw [if_pos rfl] at H; exact H
   clear H
   have H := H1
   clear H1
   replace H := zdK.mp H
   obtain ⟨t692, A60, H⟩ := H
   replace H : (some t692) = some r := H
   have A6 := za.mk A60
   clear A60
   obtain rfl := Option.some.inj H
   go_enter Tryz.func69, Tryz.ntmps69
   go_wp2_with (first | ((with_reducible refine zN (N := 1) rfl ?_); refine yp ?hg (N := 1) ?hd (cs := #[.int .i64 a0_0, .int .i64 a0_1, .slice A0_2 l0_2.length c0_2]) (t := 84) ?hr ?_; (case hd => rfl); (case hg => rfl); (case hr => first | (go_simp; done) | (go_simp; rfl)); intro gb689 hg w7 hbox hb; have n0_ := za.mk (zp (by repeat (first | (with_reducible first | exact HB.out | apply zc | apply zb | apply zd) | exact HB.out)) hb); have n1_ := za.mk (hbox); have n2_ := za.mk ((by rw [hg]; exact (zF (by repeat (first | (with_reducible first | exact HB.out | apply zc | apply zb | apply zd) | exact HB.out))) : w.heap.size ≤ gb689)); have n3_ := za.mk ((by rw [hg]; exact (zF (by repeat (first | (with_reducible first | exact HB.out | apply zc | apply zb | apply zd) | exact HB.out))) : w.heap.size ≤ gb689)); clear HB; have HB := n0_; have BK689 := n1_; have GW689 := n2_; have GE689 := n3_; clear n0_ n1_ n2_ n3_; clear hb hbox hg; have hcz8_0 : w7.cell? ⟨gb689, 0, none⟩ = some (.int .i64 a0_0) := (zm BK689.out 0).trans rfl; have hcz8_1 : w7.cell? ⟨gb689, 1, none⟩ = some (.int .i64 a0_1) := (zm BK689.out 1).trans rfl; have hcz8_2 : w7.cell? ⟨gb689, 2, none⟩ = some (.slice A0_2 l0_2.length c0_2) := (zm BK689.out 2).trans rfl; have hfz8_0 := zn BK689.out 0; have hfz8_1 := zn BK689.out 1; have hfz8_2 := zn BK689.out 2) | ((with_reducible refine zr (f := 65) rfl ?_); refine zL (some 5) rfl rfl Tryz.func65 (by kernel_rfl) rfl #[.int .i64 a0_0, .int .i64 0, .int .i64 7] rfl (by (try simp only [zdJ, List.map_cons, List.map_nil]); first | done | rfl | (simp only [List.length_drop, List.length_take]; rfl)) ?_; (with_reducible refine (zH.calls a0_0 0 7 true _ A2.out).mono ?_); rintro e w' ⟨rfl, ⟨nd, rfl⟩⟩; refine ⟨_, rfl, ?_⟩) | (go_at_call 65; (with_reducible refine (zH.calls a0_1 0 1099511627776 true _ A4.out).mono ?_); rintro e w' ⟨rfl, ⟨nd, rfl⟩⟩) | (go_at_call 66; (with_reducible refine (zJ.calls k _ _ l0_2 6 t692 _ ?side1 ?side2 A6.out).mono ?_); (case side1 => repeat (first | exact (Kd.C_below HR0_2.out (by repeat (first | (with_reducible first | exact HB.out | apply zc | apply zb | apply zd | refine zv ?_ GE689.out) | exact HB.out))) | (with_reducible refine Kd.C_alloc ?_ _) | (with_reducible refine Kd.C_drewN ?_ _) | (with_reducible refine Kd.C_drew ?_))); (case side2 => exact HC0_2.out); rintro e w' ⟨rfl, ⟨nd, rfl⟩⟩))
   go_ret
   exact ⟨by first | rfl | (simp [zl, zk] <;> rfl) | (simp [*, zl, zk] <;> rfl), by repeat (first | (with_reducible first | exact HB.out | apply zc | apply zb | apply zd | refine zv ?_ GE689.out) | exact HB.out)⟩
  ·replace c5 := zdM.mpr c5
   subst c5
   have H1 : (some false) = some r := by rw [if_neg (show ¬ (false = true) by decide)] at H; exact H
   clear H
   have H := H1
   clear H1
   obtain rfl := Option.some.inj H
   go_enter Tryz.func69, Tryz.ntmps69
   go_wp2_with (first | ((with_reducible refine zN (N := 1) rfl ?_); refine yp ?hg (N := 1) ?hd (cs := #[.int .i64 a0_0, .int .i64 a0_1, .slice A0_2 l0_2.length c0_2]) (t := 84) ?hr ?_; (case hd => rfl); (case hg => rfl); (case hr => first | (go_simp; done) | (go_simp; rfl)); intro gb689 hg w9 hbox hb; have n0_ := za.mk (zp (by repeat (first | (with_reducible first | exact HB.out | apply zc | apply zb | apply zd) | exact HB.out)) hb); have n1_ := za.mk (hbox); have n2_ := za.mk ((by rw [hg]; exact (zF (by repeat (first | (with_reducible first | exact HB.out | apply zc | apply zb | apply zd) | exact HB.out))) : w.heap.size ≤ gb689)); have n3_ := za.mk ((by rw [hg]; exact (zF (by repeat (first | (with_reducible first | exact HB.out | apply zc | apply zb | apply zd) | exact HB.out))) : w.heap.size ≤ gb689)); clear HB; have HB := n0_; have BK689 := n1_; have GW689 := n2_; have GE689 := n3_; clear n0_ n1_ n2_ n3_; clear hb hbox hg; have hcz10_0 : w9.cell? ⟨gb689, 0, none⟩ = some (.int .i64 a0_0) := (zm BK689.out 0).trans rfl; have hcz10_1 : w9.cell? ⟨gb689, 1, none⟩ = some (.int .i64 a0_1) := (zm BK689.out 1).trans rfl; have hcz10_2 : w9.cell? ⟨gb689, 2, none⟩ = some (.slice A0_2 l0_2.length c0_2) := (zm BK689.out 2).trans rfl; have hfz10_0 := zn BK689.out 0; have hfz10_1 := zn BK689.out 1; have hfz10_2 := zn BK689.out 2) | ((with_reducible refine zr (f := 65) rfl ?_); refine zL (some 5) rfl rfl Tryz.func65 (by kernel_rfl) rfl #[.int .i64 a0_0, .int .i64 0, .int .i64 7] rfl (by (try simp only [zdJ, List.map_cons, List.map_nil]); first | done | rfl | (simp only [List.length_drop, List.length_take]; rfl)) ?_; (with_reducible refine (zH.calls a0_0 0 7 true _ A2.out).mono ?_); rintro e w' ⟨rfl, ⟨nd, rfl⟩⟩; refine ⟨_, rfl, ?_⟩) | (go_at_call 65; (with_reducible refine (zH.calls a0_1 0 1099511627776 false _ A4.out).mono ?_); rintro e w' ⟨rfl, ⟨nd, rfl⟩⟩))
   go_ret
   exact ⟨by first | rfl | (simp [zl, zk] <;> rfl) | (simp [*, zl, zk] <;> rfl), by repeat (first | (with_reducible first | exact HB.out | apply zc | apply zb | apply zd | refine zv ?_ GE689.out) | exact HB.out)⟩
 ·replace c3 := zdM.mpr c3
  subst c3
  have H1 : (some false) = some r := by rw [if_neg (show ¬ (false = true) by decide)] at H; exact H
  clear H
  have H := H1
  clear H1
  obtain rfl := Option.some.inj H
  go_enter Tryz.func69, Tryz.ntmps69
  go_wp2_with (first | ((with_reducible refine zN (N := 1) rfl ?_); refine yp ?hg (N := 1) ?hd (cs := #[.int .i64 a0_0, .int .i64 a0_1, .slice A0_2 l0_2.length c0_2]) (t := 84) ?hr ?_; (case hd => rfl); (case hg => rfl); (case hr => first | (go_simp; done) | (go_simp; rfl)); intro gb689 hg w11 hbox hb; have n0_ := za.mk (zp (by repeat (first | (with_reducible first | exact HB.out | apply zc | apply zb | apply zd) | exact HB.out)) hb); have n1_ := za.mk (hbox); have n2_ := za.mk ((by rw [hg]; exact (zF (by repeat (first | (with_reducible first | exact HB.out | apply zc | apply zb | apply zd) | exact HB.out))) : w.heap.size ≤ gb689)); have n3_ := za.mk ((by rw [hg]; exact (zF (by repeat (first | (with_reducible first | exact HB.out | apply zc | apply zb | apply zd) | exact HB.out))) : w.heap.size ≤ gb689)); clear HB; have HB := n0_; have BK689 := n1_; have GW689 := n2_; have GE689 := n3_; clear n0_ n1_ n2_ n3_; clear hb hbox hg; have hcz12_0 : w11.cell? ⟨gb689, 0, none⟩ = some (.int .i64 a0_0) := (zm BK689.out 0).trans rfl; have hcz12_1 : w11.cell? ⟨gb689, 1, none⟩ = some (.int .i64 a0_1) := (zm BK689.out 1).trans rfl; have hcz12_2 : w11.cell? ⟨gb689, 2, none⟩ = some (.slice A0_2 l0_2.length c0_2) := (zm BK689.out 2).trans rfl; have hfz12_0 := zn BK689.out 0; have hfz12_1 := zn BK689.out 1; have hfz12_2 := zn BK689.out 2) | ((with_reducible refine zr (f := 65) rfl ?_); refine zL (some 5) rfl rfl Tryz.func65 (by kernel_rfl) rfl #[.int .i64 a0_0, .int .i64 0, .int .i64 7] rfl (by (try simp only [zdJ, List.map_cons, List.map_nil]); first | done | rfl | (simp only [List.length_drop, List.length_take]; rfl)) ?_; (with_reducible refine (zH.calls a0_0 0 7 false _ A2.out).mono ?_); rintro e w' ⟨rfl, ⟨nd, rfl⟩⟩; refine ⟨_, rfl, ?_⟩))
  go_ret
  exact ⟨by first | rfl | (simp [zl, zk] <;> rfl) | (simp [*, zl, zk] <;> rfl), by repeat (first | (with_reducible first | exact HB.out | apply zc | apply zb | apply zd | refine zv ?_ GE689.out) | exact HB.out)⟩
def yd.l0 : Nat → List (S108) → Int → Option (Bool)
 | 0, _, _ => none
 | k + 1, x0, x3 => if x3 < (x0.length : Int) then (if 0 ≤ x3 then ((zH.f ((yq x0 x3).f0) 0 7).bind fun t678 => (if t678 = true then ((zJ.f k ((yq x0 x3).f1) 6).bind fun t680 => (if t680 = true then (yd.l0 k x0 (wrap64 (x3 + 1))) else (some false))) else (some false))) else (none)) else (some (decide ((x0.length : Int) ≤ 3)))
def yd.f (k : Nat) (l0 : List (S108)) : Option (Bool) := yd.l0 k l0 0
theorem yd.calls (k : Nat) (A0 : Option Addr) (c0 : Nat) (l0 : List (S108)) (r : Bool) (w : World) (hr0 : Kd.C k108 w A0 l0.length l0) (hc0 : l0.length ≤ c0) (h : yd.f k l0 = some r) :
  Calls Tryz.prog 68 #[.slice A0 l0.length c0] w fun e w' => e = .returned (.bool r) ∧ zi w w' := by
 have HR0 := za.mk hr0
 have HC0 := za.mk hc0
 clear hr0 hc0
 have H : (yd.l0 k l0 0) = some r := h
 clear h
 have H' := za.mk H
 clear H
 go_enter Tryz.func68, Tryz.ntmps68
 go_wp2
 go_loopg [3] k (fun kq v3 w' => ∃ (x3_1 : Int), v3 = .int .i64 x3_1 ∧ za (yd.l0 kq l0 x3_1 = some r) ∧ za (kq ≤ k) ∧ zi w w')
 case atStart => exact ⟨(0), (by first | rfl | (simp; done) | (simp [*]; done)), H', ⟨Nat.le_refl _⟩, by repeat (first | exact zi.refl _ | apply zi.step)⟩
 case round =>
  clear H'
  obtain ⟨x3_1, rfl, HA, HK1, ⟨m1, rfl⟩⟩ := hrel
  cases gk with
  | zero => exact absurd HA.out (by simp [yd.l0])
  | succ k1 =>
   have H := HA.out
   clear HA
   simp only [yd.l0] at H
   by_cases c2 : x3_1 < (l0.length : Int)
   ·rw [if_pos c2] at H
    have c2b0 : decide (x3_1 < (l0.length : Int)) = true := decide_eq_true c2
    clear c2
    by_cases c3 : 0 ≤ x3_1
    ·rw [if_pos c3] at H
     have c3b0 : decide (0 ≤ x3_1) = true := decide_eq_true c3
     clear c3
     replace H := zdK.mp H
     obtain ⟨t678, A40, H⟩ := H
     replace H : (if t678 = true then ((zJ.f k1 ((yq l0 x3_1).f1) 6).bind fun t680 => (if t680 = true then (yd.l0 k1 l0 (wrap64 (x3_1 + 1))) else (some false))) else (some false)) = some r := H
     have A4 := za.mk A40
     clear A40
     by_cases c5 : t678 = true
     ·subst c5
      have H1 : ((zJ.f k1 ((yq l0 x3_1).f1) 6).bind fun t680 => (if t680 = true then (yd.l0 k1 l0 (wrap64 (x3_1 + 1))) else (some false))) = some r := by rw [if_pos rfl] at H; exact H
      clear H
      have H := H1
      clear H1
      replace H := zdK.mp H
      obtain ⟨t680, A60, H⟩ := H
      replace H : (if t680 = true then (yd.l0 k1 l0 (wrap64 (x3_1 + 1))) else (some false)) = some r := H
      have A6 := za.mk A60
      clear A60
      by_cases c7 : t680 = true
      ·subst c7
       have H1 : (yd.l0 k1 l0 (wrap64 (x3_1 + 1))) = some r := by rw [if_pos rfl] at H; exact H
       clear H
       have H := H1
       clear H1
       have H' := za.mk H
       clear H
       have p677 : 0 ≤ (x3_1 : Int) := of_decide_eq_true (by first | (with_reducible assumption) | assumption)
       have q677 : x3_1 < (l0.length : Int) := of_decide_eq_true (by first | (with_reducible assumption) | assumption)
       obtain ⟨ad677, A677_1, c677_1, e677, hx677_0, hx677_1, hl677_1, hi677_1⟩ := qR HR0.out x3_1 p677 q677
       cases e677
       have HR677_1 := za.mk hi677_1
       have HC677_1 := za.mk hl677_1
       clear hi677_1 hl677_1
       replace p677 := eq_true p677
       replace q677 := eq_true q677
       go_wp2_with (first | ((with_reducible refine zr (f := 65) rfl ?_); refine zL (some 15) rfl rfl Tryz.func65 (by kernel_rfl) rfl #[.int .i64 ((yq l0 x3_1).f0), .int .i64 0, .int .i64 7] rfl (by (try simp only [zdJ, List.map_cons, List.map_nil]); first | done | rfl | (simp only [List.length_drop, List.length_take]; rfl)) ?_; (with_reducible refine (zH.calls ((yq l0 x3_1).f0) 0 7 true _ A4.out).mono ?_); rintro e w' ⟨rfl, ⟨nd, rfl⟩⟩; refine ⟨_, rfl, ?_⟩; have p679 : 0 ≤ (x3_1 : Int) := of_decide_eq_true (by first | (with_reducible assumption) | assumption); have q679 : x3_1 < (l0.length : Int) := of_decide_eq_true (by first | (with_reducible assumption) | assumption); obtain ⟨ad679, A679_1, c679_1, e679, hx679_0, hx679_1, hl679_1, hi679_1⟩ := qR HR0.out x3_1 p679 q679; obtain rfl : ad677 = ad679 := (by injection e679); have HR679_1 := za.mk hi679_1; have HC679_1 := za.mk hl679_1; clear hi679_1 hl679_1; replace p679 := eq_true p679; replace q679 := eq_true q679; have ea_ := Option.some.inj (hx677_1.symm.trans hx679_1); injection ea_ with ea_ en_ ec_; subst ea_; subst ec_; clear en_) | (go_at_call 66; (with_reducible refine (zJ.calls k1 _ _ ((yq l0 x3_1).f1) 6 true _ ?side1 ?side2 A6.out).mono ?_); (case side1 => repeat (first | exact HR679_1.out | (with_reducible refine Kd.C_alloc ?_ _) | (with_reducible refine Kd.C_drewN ?_ _) | (with_reducible refine Kd.C_drew ?_))); (case side2 => exact HC679_1.out); rintro e w' ⟨rfl, ⟨nd, rfl⟩⟩))
       go_roundg k1
       case measure => have := HK1.out; omega
       case rel => exact ⟨(wrap64 (x3_1 + 1)), (by first | rfl | (simp; done) | (simp [*]; done)), H', ⟨by have := HK1.out; omega⟩, by repeat (first | exact zi.refl _ | apply zi.step)⟩
      ·replace c7 := zdM.mpr c7
       subst c7
       have H1 : (some false) = some r := by rw [if_neg (show ¬ (false = true) by decide)] at H; exact H
       clear H
       have H := H1
       clear H1
       obtain rfl := Option.some.inj H
       have p677 : 0 ≤ (x3_1 : Int) := of_decide_eq_true (by first | (with_reducible assumption) | assumption)
       have q677 : x3_1 < (l0.length : Int) := of_decide_eq_true (by first | (with_reducible assumption) | assumption)
       obtain ⟨ad677, A677_1, c677_1, e677, hx677_0, hx677_1, hl677_1, hi677_1⟩ := qR HR0.out x3_1 p677 q677
       cases e677
       have HR677_1 := za.mk hi677_1
       have HC677_1 := za.mk hl677_1
       clear hi677_1 hl677_1
       replace p677 := eq_true p677
       replace q677 := eq_true q677
       go_wp2_with (first | ((with_reducible refine zr (f := 65) rfl ?_); refine zL (some 15) rfl rfl Tryz.func65 (by kernel_rfl) rfl #[.int .i64 ((yq l0 x3_1).f0), .int .i64 0, .int .i64 7] rfl (by (try simp only [zdJ, List.map_cons, List.map_nil]); first | done | rfl | (simp only [List.length_drop, List.length_take]; rfl)) ?_; (with_reducible refine (zH.calls ((yq l0 x3_1).f0) 0 7 true _ A4.out).mono ?_); rintro e w' ⟨rfl, ⟨nd, rfl⟩⟩; refine ⟨_, rfl, ?_⟩; have p679 : 0 ≤ (x3_1 : Int) := of_decide_eq_true (by first | (with_reducible assumption) | assumption); have q679 : x3_1 < (l0.length : Int) := of_decide_eq_true (by first | (with_reducible assumption) | assumption); obtain ⟨ad679, A679_1, c679_1, e679, hx679_0, hx679_1, hl679_1, hi679_1⟩ := qR HR0.out x3_1 p679 q679; obtain rfl : ad677 = ad679 := (by injection e679); have HR679_1 := za.mk hi679_1; have HC679_1 := za.mk hl679_1; clear hi679_1 hl679_1; replace p679 := eq_true p679; replace q679 := eq_true q679; have ea_ := Option.some.inj (hx677_1.symm.trans hx679_1); injection ea_ with ea_ en_ ec_; subst ea_; subst ec_; clear en_) | (go_at_call 66; (with_reducible refine (zJ.calls k1 _ _ ((yq l0 x3_1).f1) 6 false _ ?side1 ?side2 A6.out).mono ?_); (case side1 => repeat (first | exact HR679_1.out | (with_reducible refine Kd.C_alloc ?_ _) | (with_reducible refine Kd.C_drewN ?_ _) | (with_reducible refine Kd.C_drew ?_))); (case side2 => exact HC679_1.out); rintro e w' ⟨rfl, ⟨nd, rfl⟩⟩))
       go_ret
       exact ⟨by first | rfl | (simp; done) | (simp [*]; done), by repeat (first | exact zi.refl _ | apply zi.step)⟩
     ·replace c5 := zdM.mpr c5
      subst c5
      have H1 : (some false) = some r := by rw [if_neg (show ¬ (false = true) by decide)] at H; exact H
      clear H
      have H := H1
      clear H1
      obtain rfl := Option.some.inj H
      have p677 : 0 ≤ (x3_1 : Int) := of_decide_eq_true (by first | (with_reducible assumption) | assumption)
      have q677 : x3_1 < (l0.length : Int) := of_decide_eq_true (by first | (with_reducible assumption) | assumption)
      obtain ⟨ad677, A677_1, c677_1, e677, hx677_0, hx677_1, hl677_1, hi677_1⟩ := qR HR0.out x3_1 p677 q677
      cases e677
      have HR677_1 := za.mk hi677_1
      have HC677_1 := za.mk hl677_1
      clear hi677_1 hl677_1
      replace p677 := eq_true p677
      replace q677 := eq_true q677
      go_wp2_with (first | ((with_reducible refine zr (f := 65) rfl ?_); refine zL (some 15) rfl rfl Tryz.func65 (by kernel_rfl) rfl #[.int .i64 ((yq l0 x3_1).f0), .int .i64 0, .int .i64 7] rfl (by (try simp only [zdJ, List.map_cons, List.map_nil]); first | done | rfl | (simp only [List.length_drop, List.length_take]; rfl)) ?_; (with_reducible refine (zH.calls ((yq l0 x3_1).f0) 0 7 false _ A4.out).mono ?_); rintro e w' ⟨rfl, ⟨nd, rfl⟩⟩; refine ⟨_, rfl, ?_⟩))
      go_ret
      exact ⟨by first | rfl | (simp; done) | (simp [*]; done), by repeat (first | exact zi.refl _ | apply zi.step)⟩
    ·rw [if_neg c3] at H
     exact absurd H (by simp)
   ·rw [if_neg c2] at H
    have c2b0 : decide (x3_1 < (l0.length : Int)) = false := decide_eq_false c2
    clear c2
    obtain rfl := Option.some.inj H
    go_wp2
    go_ret
    exact ⟨by first | rfl | (simp; done) | (simp [*]; done), by repeat (first | exact zi.refl _ | apply zi.step)⟩
def yh.l0 : Nat → List ByteArray → Int → Option (Int × Int)
 | 0, _, _ => none
 | k + 1, x0, x4 => if x4 < (x0.length : Int) then (if 0 ≤ x4 then ((zM.f k (ym ByteArray.empty x0 x4)).bind fun t659 => (if t659 = true then (yh.l0 k x0 (wrap64 (x4 + 1))) else (some (x4, 6)))) else (none)) else (some (0, 0))
def yh.f (k : Nat) (l0 : List ByteArray) : Option (Int × Int) := if (l0.length : Int) > 8 then (some (0, 4)) else (yh.l0 k l0 0)
theorem yh.calls (k : Nat) (A0 : Option Addr) (c0 : Nat) (l0 : List ByteArray) (r1 : Int) (r2 : Int) (w : World) (hr0 : Kd.C Kd.string w A0 l0.length l0) (hc0 : l0.length ≤ c0) (h : yh.f k l0 = some (r1, r2)) :
  Calls Tryz.prog 63 #[.slice A0 l0.length c0] w fun e w' => e = .returned (.tuple #[.int .i64 r1, .int .i64 r2]) ∧ Below w.heap.size w w' := by
 have HR0 := za.mk hr0
 have HC0 := za.mk hc0
 clear hr0 hc0
 have HB := za.mk (Below.refl w.heap.size w)
 have H : (if (l0.length : Int) > 8 then (some (0, 4)) else (yh.l0 k l0 0)) = some (r1, r2) := h
 clear h
 by_cases c2 : (l0.length : Int) > 8
 ·rw [if_pos c2] at H
  have c2b0 : decide (8 < (l0.length : Int)) = true := decide_eq_true c2
  have c2b1 : decide (8 < l0.length) = true := decide_eq_true (by omega)
  clear c2
  simp only [Option.some.injEq, Prod.mk.injEq] at H
  obtain ⟨rfl, rfl⟩ := H
  go_enter Tryz.func63, Tryz.ntmps63
  go_wp2
  go_ret2
  exact ⟨by first | rfl | (simp [zl, zk] <;> rfl) | (simp [*, zl, zk] <;> rfl), by repeat (first | (with_reducible first | exact HB.out | apply zc | apply zb | apply zd) | exact HB.out)⟩
 ·rw [if_neg c2] at H
  have c2b0 : decide (8 < (l0.length : Int)) = false := decide_eq_false c2
  have c2b1 : decide (8 < l0.length) = false := decide_eq_false (by omega)
  clear c2
  have H' := za.mk H
  clear H
  go_enter Tryz.func63, Tryz.ntmps63
  go_wp2
  go_loopg [4] k (fun kq v4 w' => ∃ (x4_1 : Int), v4 = .int .i64 x4_1 ∧ za (yh.l0 kq l0 x4_1 = some (r1, r2)) ∧ za (kq ≤ k) ∧ za (Below w.heap.size w w'))
  case atStart => exact ⟨(0), (by first | rfl | (simp; done) | (simp [*]; done)), H', ⟨Nat.le_refl _⟩, ⟨by repeat (first | (with_reducible first | exact HB.out | apply zc | apply zb | apply zd) | exact HB.out)⟩⟩
  case round =>
   clear H'
   try clear c2
   try clear c2b0
   try clear c2b1
   try clear p2
   obtain ⟨x4_1, rfl, HA, HK1, HB⟩ := hrel
   cases gk with
   | zero => exact absurd HA.out (by simp [yh.l0])
   | succ k1 =>
    have H := HA.out
    clear HA
    simp only [yh.l0] at H
    by_cases c3 : x4_1 < (l0.length : Int)
    ·rw [if_pos c3] at H
     have c3b0 : decide (x4_1 < (l0.length : Int)) = true := decide_eq_true c3
     clear c3
     by_cases c4 : 0 ≤ x4_1
     ·rw [if_pos c4] at H
      have c4b0 : decide (0 ≤ x4_1) = true := decide_eq_true c4
      clear c4
      replace H := zdK.mp H
      obtain ⟨t659, A50, H⟩ := H
      replace H : (if t659 = true then (yh.l0 k1 l0 (wrap64 (x4_1 + 1))) else (some (x4_1, 6))) = some (r1, r2) := H
      have A5 := za.mk A50
      clear A50
      by_cases c6 : t659 = true
      ·subst c6
       have H1 : (yh.l0 k1 l0 (wrap64 (x4_1 + 1))) = some (r1, r2) := by rw [if_pos rfl] at H; exact H
       clear H
       have H := H1
       clear H1
       have H' := za.mk H
       clear H
       have p658 : 0 ≤ (x4_1 : Int) := of_decide_eq_true (by first | (with_reducible assumption) | assumption)
       have q658 : x4_1 < (l0.length : Int) := of_decide_eq_true (by first | (with_reducible assumption) | assumption)
       obtain ⟨ad658, e658, hx658_0⟩ := Kd.at_string HR0.out x4_1 p658 q658
       cases e658
       replace hx658_0 := (HB.out.cell (zdL w _ hx658_0)).trans hx658_0
       replace p658 := eq_true p658
       replace q658 := eq_true q658
       go_wp2_with (first | ((with_reducible refine zr (f := 107) rfl ?_); refine zL (some 18) rfl rfl Tryz.func107 (by kernel_rfl) rfl #[.string (ym ByteArray.empty l0 x4_1)] rfl (by (try simp only [zdJ, List.map_cons, List.map_nil]); first | done | rfl | (simp only [List.length_drop, List.length_take]; rfl)) ?_; (with_reducible refine (zM.calls k1 (ym ByteArray.empty l0 x4_1) true _ A5.out).mono ?_); rintro e w7 ⟨rfl, hb⟩; refine ⟨_, rfl, ?_⟩; have n0_ := za.mk (zp (by repeat (first | (with_reducible first | exact HB.out | apply zc | apply zb | apply zd) | exact HB.out)) hb); clear HB; have HB := n0_; clear n0_; (try clear hb); (try clear hb2); (try clear hk); (try clear hi)))
       go_roundg k1
       case measure => have := HK1.out; omega
       case rel => exact ⟨(wrap64 (x4_1 + 1)), (by first | rfl | (simp; done) | (simp [*]; done)), H', ⟨by have := HK1.out; omega⟩, ⟨by repeat (first | (with_reducible first | exact HB.out | apply zc | apply zb | apply zd) | exact HB.out)⟩⟩
      ·replace c6 := zdM.mpr c6
       subst c6
       have H1 : (some (x4_1, 6)) = some (r1, r2) := by rw [if_neg (show ¬ (false = true) by decide)] at H; exact H
       clear H
       have H := H1
       clear H1
       simp only [Option.some.injEq, Prod.mk.injEq] at H
       obtain ⟨rfl, rfl⟩ := H
       have p658 : 0 ≤ (x4_1 : Int) := of_decide_eq_true (by first | (with_reducible assumption) | assumption)
       have q658 : x4_1 < (l0.length : Int) := of_decide_eq_true (by first | (with_reducible assumption) | assumption)
       obtain ⟨ad658, e658, hx658_0⟩ := Kd.at_string HR0.out x4_1 p658 q658
       cases e658
       replace hx658_0 := (HB.out.cell (zdL w _ hx658_0)).trans hx658_0
       replace p658 := eq_true p658
       replace q658 := eq_true q658
       go_wp2_with (first | ((with_reducible refine zr (f := 107) rfl ?_); refine zL (some 18) rfl rfl Tryz.func107 (by kernel_rfl) rfl #[.string (ym ByteArray.empty l0 x4_1)] rfl (by (try simp only [zdJ, List.map_cons, List.map_nil]); first | done | rfl | (simp only [List.length_drop, List.length_take]; rfl)) ?_; (with_reducible refine (zM.calls k1 (ym ByteArray.empty l0 x4_1) false _ A5.out).mono ?_); rintro e w8 ⟨rfl, hb⟩; refine ⟨_, rfl, ?_⟩; have n0_ := za.mk (zp (by repeat (first | (with_reducible first | exact HB.out | apply zc | apply zb | apply zd) | exact HB.out)) hb); clear HB; have HB := n0_; clear n0_; (try clear hb); (try clear hb2); (try clear hk); (try clear hi)))
       go_ret2
       exact ⟨by first | rfl | (simp [zl, zk] <;> rfl) | (simp [*, zl, zk] <;> rfl), by repeat (first | (with_reducible first | exact HB.out | apply zc | apply zb | apply zd) | exact HB.out)⟩
     ·rw [if_neg c4] at H
      exact absurd H (by simp)
    ·rw [if_neg c3] at H
     have c3b0 : decide (x4_1 < (l0.length : Int)) = false := decide_eq_false c3
     clear c3
     simp only [Option.some.injEq, Prod.mk.injEq] at H
     obtain ⟨rfl, rfl⟩ := H
     go_wp2
     go_ret2
     exact ⟨by first | rfl | (simp [zl, zk] <;> rfl) | (simp [*, zl, zk] <;> rfl), by repeat (first | (with_reducible first | exact HB.out | apply zc | apply zb | apply zd) | exact HB.out)⟩
def qh.f (k : Nat) (l0 : List ByteArray) : Option (Bool) := (yh.f k l0).bind fun bt660 => (some (bt660.2 == 0))
theorem qh.calls (k : Nat) (A0 : Option Addr) (c0 : Nat) (l0 : List ByteArray) (r : Bool) (w : World) (hr0 : Kd.C Kd.string w A0 l0.length l0) (hc0 : l0.length ≤ c0) (h : qh.f k l0 = some r) :
  Calls Tryz.prog 22 #[.slice A0 l0.length c0] w fun e w' => e = .returned (.bool r) ∧ Below w.heap.size w w' := by
 have HR0 := za.mk hr0
 have HC0 := za.mk hc0
 clear hr0 hc0
 have HB := za.mk (Below.refl w.heap.size w)
 have H : ((yh.f k l0).bind fun bt660 => (some (bt660.2 == 0))) = some r := h
 clear h
 replace H := zdK.mp H
 obtain ⟨⟨t660, t661⟩, A20, H⟩ := H
 replace H : (some (t661 == 0)) = some r := H
 have A2 := za.mk A20
 clear A20
 obtain rfl := Option.some.inj H
 go_enter Tryz.func22, Tryz.ntmps22
 go_wp2_with (first | ((with_reducible refine zr (f := 63) rfl ?_); refine zL (some 7) rfl rfl Tryz.func63 (by kernel_rfl) rfl #[.slice A0 l0.length c0] rfl (by (try simp only [zdJ, List.map_cons, List.map_nil]); first | done | rfl | (simp only [List.length_drop, List.length_take]; rfl)) ?_; (with_reducible refine (yh.calls k _ _ l0 t660 t661 _ ?side1 ?side2 A2.out).mono ?_); (case side1 => repeat (first | exact HR0.out | (with_reducible refine Kd.C_alloc ?_ _) | (with_reducible refine Kd.C_drewN ?_ _) | (with_reducible refine Kd.C_drew ?_))); (case side2 => exact HC0.out); rintro e w3 ⟨rfl, hb⟩; refine ⟨_, rfl, ?_⟩; have n0_ := za.mk (zp (by repeat (first | (with_reducible first | exact HB.out | apply zc | apply zb | apply zd) | exact HB.out)) hb); clear HB; have HB := n0_; clear n0_; (try clear hb); (try clear hb2); (try clear hk); (try clear hi)))
 go_ret
 exact ⟨by first | rfl | (simp [zl, zk] <;> rfl) | (simp [*, zl, zk] <;> rfl), by repeat (first | (with_reducible first | exact HB.out | apply zc | apply zb | apply zd) | exact HB.out)⟩
def qO.f (a0 : Int) (a1 : Int) (a2 : Int) : Option (Bool) := if a0 ≥ a1 then (some (decide (a0 ≤ a2))) else (some false)
theorem qO.calls (a0 : Int) (a1 : Int) (a2 : Int) (r : Bool) (w : World) (h : qO.f a0 a1 a2 = some r) :
  Calls Tryz.prog 20 #[.int .i64 a0, .int .i64 a1, .int .i64 a2] w fun e w' => e = .returned (.bool r) ∧ zi w w' := by
 have H : (if a0 ≥ a1 then (some (decide (a0 ≤ a2))) else (some false)) = some r := h
 clear h
 by_cases c4 : a0 ≥ a1
 ·rw [if_pos c4] at H
  have c4b0 : decide (a1 ≤ a0) = true := decide_eq_true c4
  clear c4
  obtain rfl := Option.some.inj H
  go_enter Tryz.func20, Tryz.ntmps20
  go_wp2
  go_ret
  exact ⟨by first | rfl | (simp; done) | (simp [*]; done), by repeat (first | exact zi.refl _ | apply zi.step)⟩
 ·rw [if_neg c4] at H
  have c4b0 : decide (a1 ≤ a0) = false := decide_eq_false c4
  clear c4
  obtain rfl := Option.some.inj H
  go_enter Tryz.func20, Tryz.ntmps20
  go_wp2
  go_ret
  exact ⟨by first | rfl | (simp; done) | (simp [*]; done), by repeat (first | exact zi.refl _ | apply zi.step)⟩
theorem qH (n a b : Int) : zH.f n a b = some (wiB n a b) := by
 unfold zH.f wiB
 by_cases h : n ≥ a
 ·rw [if_pos h]
  exact congrArg some (decide_eq_decide.mpr ⟨fun h2 => ⟨h, h2⟩, fun h2 => h2.2⟩)
 ·rw [if_neg h, decide_eq_false (fun h2 => h h2.1)]
theorem Jh (n : Int) : xm.f n = some (wiB n (-1099511627776) 1099511627776) := by
 unfold xm.f wiB
 by_cases h : n ≥ (-1099511627776)
 ·rw [if_pos h]
  exact congrArg some (decide_eq_decide.mpr ⟨fun h2 => ⟨h, h2⟩, fun h2 => h2.2⟩)
 ·rw [if_neg h, decide_eq_false (fun h2 => h h2.1)]
theorem Jx (l : List Int) (hl : l.length ≤ 9223372036854775807) (m : Int) (d : Nat) : ∀ (k i : Nat), i + d = l.length → d + 1 ≤ k → zJ.l0 k l m (i : Int) = some ((l.drop i).all vB && decide ((l.length : Int) ≤ m)) := by
 induction d with
 | zero =>
  intro k i hi hk
  obtain ⟨k, rfl⟩ : ∃ k', k = k' + 1 := ⟨k - 1, by omega⟩
  rw [zJ.l0, if_neg (by omega), List.drop_eq_nil_of_le (by omega)]
  rfl
 | succ d ih =>
  intro k i hi hk
  obtain ⟨k, rfl⟩ : ∃ k', k = k' + 1 := ⟨k - 1, by omega⟩
  have hs := ih k (i + 1) (by omega) (by omega)
  rw [zJ.l0, if_pos (by omega), if_pos (by omega), XS l i (by omega), zC (Jh _), (List.drop_eq_getElem_cons (by omega) : l.drop i = l[i] :: l.drop (i + 1)), List.all_cons, z4 (by omega) (by omega)]
  show (if vB l[i] = true then _ else _) = _
  cases hb : vB l[i] with
  | true => rw [if_pos rfl, Bool.true_and]; exact hs
  | false => rw [if_neg (by decide), Bool.false_and, Bool.false_and]
theorem Zm (l : List Int) (hl : l.length ≤ 9223372036854775807) (m : Int) (k : Nat) (hk : l.length + 1 ≤ k) : zJ.f k l m = some (js l m) := by
 unfold zJ.f js
 exact Jx l hl m l.length k 0 (by omega) hk
theorem Vi (c s : Int) (st : ByteArray) (k : Nat) (hk : 300 ≤ k) : qs.f k c s st = some (vX c s st) := by
 unfold qs.f vX
 rw [zC (qH _ _ _)]
 cases wiB c 0 5 with
 | false => rfl
 | true =>
  rw [if_pos rfl, zC (qH _ _ _), Bool.true_and]
  cases wiB s 1 1099511627776 with
  | false => rfl
  | true => rw [if_pos rfl, zC (Yu st k hk), Bool.true_and]
theorem Ji (a v : Int) (l : List Int) (hl : l.length ≤ 9223372036854775807) (k : Nat) (hk : l.length + 1 ≤ k) : qi.f k a v l = some (wiB a 0 7 && (js l 6 && wiB v 0 1099511627776)) := by
 unfold qi.f
 rw [zC (qH _ _ _)]
 cases wiB a 0 7 with
 | false => rfl
 | true =>
  rw [if_pos rfl, zC (qH _ _ _), Bool.true_and]
  cases wiB v 0 1099511627776 with
  | false => rw [if_neg (by decide), Bool.and_false]
  | true => rw [if_pos rfl, zC (Zm l hl 6 k hk), Bool.and_true]
theorem Jz (l : List S108) (hl : l.length ≤ 9223372036854775807) (M : Nat) (hz : ∀ x ∈ l, x.f1.length + 1 ≤ M ∧ x.f1.length ≤ 9223372036854775807) (d : Nat) : ∀ (k i : Nat), i + d = l.length → d + (M + 1) ≤ k → yd.l0 k l (i : Int) = some ((l.drop i).all evB && decide ((l.length : Int) ≤ 3)) := by
 induction d with
 | zero =>
  intro k i hi hk
  obtain ⟨k, rfl⟩ : ∃ k', k = k' + 1 := ⟨k - 1, by omega⟩
  rw [yd.l0, if_neg (by omega), List.drop_eq_nil_of_le (by omega)]
  rfl
 | succ d ih =>
  intro k i hi hk
  obtain ⟨k, rfl⟩ : ∃ k', k = k' + 1 := ⟨k - 1, by omega⟩
  have hs := ih k (i + 1) (by omega) (by omega)
  have hm := hz l[i] (List.getElem_mem _)
  rw [yd.l0, if_pos (by omega), if_pos (by omega), zaP l i (by omega), zC (qH _ _ _), (List.drop_eq_getElem_cons (by omega) : l.drop i = l[i] :: l.drop (i + 1)), List.all_cons, evB]
  cases wiB l[i].f0 0 7 with
  | false => rw [if_neg (by decide), Bool.false_and, Bool.false_and, Bool.false_and]
  | true =>
   rw [if_pos rfl, zC (Zm _ hm.2 6 k (by omega)), Bool.true_and, z4 (by omega) (by omega)]
   cases js l[i].f1 6 with
   | true => rw [if_pos rfl, Bool.true_and]; exact hs
   | false => rw [if_neg (by decide), Bool.false_and, Bool.false_and]
theorem Qw (l : List S108) (hl : l.length ≤ 9223372036854775807) (M : Nat) (hz : ∀ x ∈ l, x.f1.length + 1 ≤ M ∧ x.f1.length ≤ 9223372036854775807) (k : Nat) (hk : l.length + (M + 1) ≤ k) : yd.f k l = some (ju l) := by
 unfold yd.f ju
 exact Jz l hl M hz l.length k 0 (by omega) hk
theorem Vp (l : List ByteArray) (hl : l.length ≤ 9223372036854775807) (d : Nat) : ∀ (k i : Nat), i + d = l.length → d + 301 ≤ k → ∃ r, yh.l0 k l (i : Int) = some r ∧ (r.2 == 0) = (l.drop i).all qn := by
 induction d with
 | zero =>
  intro k i hi hk
  obtain ⟨k, rfl⟩ : ∃ k', k = k' + 1 := ⟨k - 1, by omega⟩
  rw [yh.l0, if_neg (by omega), List.drop_eq_nil_of_le (by omega)]
  exact ⟨_, rfl, rfl⟩
 | succ d ih =>
  intro k i hi hk
  obtain ⟨k, rfl⟩ : ∃ k', k = k' + 1 := ⟨k - 1, by omega⟩
  have hs := ih k (i + 1) (by omega) (by omega)
  rw [yh.l0, if_pos (by omega), if_pos (by omega), Qu l i (by omega), zC (XW l[i] k (by omega)), (List.drop_eq_getElem_cons (by omega) : l.drop i = l[i] :: l.drop (i + 1)), List.all_cons, z4 (by omega) (by omega)]
  cases qn l[i] with
  | true => rw [if_pos rfl, Bool.true_and]; exact hs
  | false => rw [if_neg (by decide), Bool.false_and]; exact ⟨_, rfl, rfl⟩
theorem Je (l : List ByteArray) (hl : l.length ≤ 9223372036854775807) (k : Nat) (hk : l.length + 301 ≤ k) : ∃ r, yh.f k l = some r ∧ (r.2 == 0) = vv l := by
 unfold yh.f vv
 by_cases h : l.length ≤ 8
 ·rw [if_neg (by omega), decide_eq_true h, Bool.true_and]
  exact Vp l hl l.length k 0 (by omega) (by omega)
 ·rw [if_pos (by omega), decide_eq_false h]
  exact ⟨_, rfl, rfl⟩
theorem Jf (l : List ByteArray) (hl : l.length ≤ 9223372036854775807) (k : Nat) (hk : l.length + 301 ≤ k) : qh.f k l = some (vv l) := by
 obtain ⟨r, e1, e2⟩ := Je l hl k hk
 unfold qh.f
 rw [zC e1, e2]
theorem Yh {a b c : Int} {w : World} {t : Bool} (h : wiB a b c = t) : Calls Tryz.prog 65 #[.int .i64 a, .int .i64 b, .int .i64 c] w fun e w' => e = .returned (.bool t) ∧ Below w.heap.size w w' := qq (zH.calls a b c t w (h ▸ qH a b c))
theorem zY {a b c : Int} {w : World} {t : Bool} (h : wiB a b c = t) : Calls Tryz.prog 20 #[.int .i64 a, .int .i64 b, .int .i64 c] w fun e w' => e = .returned (.bool t) ∧ Below w.heap.size w w' := qq (qO.calls a b c t w (by
 subst h
 unfold qO.f wiB
 by_cases h : a ≥ b
 ·rw [if_pos h]
  exact congrArg some (decide_eq_decide.mpr ⟨fun h2 => ⟨h, h2⟩, fun h2 => h2.2⟩)
 ·rw [if_neg h, decide_eq_false (fun h2 => h h2.1)]))
theorem QP {s : ByteArray} {w : World} {t : Bool} (h : xq s = t) : Calls Tryz.prog 67 #[.string s] w fun e w' => e = .returned (.bool t) ∧ Below w.heap.size w w' := zQ.calls 300 s t w (h ▸ Yu s 300 (Nat.le_refl _))
theorem zcV {a b : ByteArray} {w : World} {t : Bool} (hz : a.size ≤ 140737488351232) (h : jR (bl a) (bl b) = t) : Calls Tryz.prog 70 #[.string a, .string b] w fun e w' => e = .returned (.bool t) ∧ Below w.heap.size w w' := qq (ya.calls (2 * a.size + 2) a b t w (h ▸ zbK a b hz _ (Nat.le_refl _)))
theorem zdm {c q : Int} {s : ByteArray} {w : World} {t : Bool} (h : vX c q s = t) : Calls Tryz.prog 64 #[.int .i64 c, .int .i64 q, .string s] w fun e w' => e = .returned (.bool t) ∧ Below w.heap.size w w' := qs.calls 300 _ _ _ _ _ (h ▸ Vi c q s 300 (Nat.le_refl _))
theorem za2 {l : List Int} {m : Int} {A : Option Addr} {c : Nat} {w : World} {t : Bool} (hr : (Kd.int .i64).C w A l.length l) (hl : l.length ≤ c) (h : js l m = t) : Calls Tryz.prog 66 #[.slice A l.length c, .int .i64 m] w fun e w' => e = .returned (.bool t) ∧ Below w.heap.size w w' :=
 qq (zJ.calls (l.length + 1) _ _ _ _ _ _ hr hl (h ▸ Zm _ hr.2.1 _ _ (Nat.le_refl _)))
theorem zco {s : S84} {A : Option Addr} {c : Nat} {w : World} {t : Bool} (hr : (Kd.int .i64).C w A s.f2.length s.f2) (hl : s.f2.length ≤ c) (h : Qs s = t) : Calls Tryz.prog 69 #[.agg #[.int .i64 s.f0, .int .i64 s.f1, .slice A s.f2.length c]] w fun e w' => e = .returned (.bool t) ∧ Below w.heap.size w w' :=
 qi.calls (s.f2.length + 1) _ _ _ _ _ _ _ hr hl (h ▸ Ji _ _ _ hr.2.1 _ (Nat.le_refl _))
theorem Vs {l : List S77} {A : Option Addr} {c : Nat} {w : World} (hr : k77.C w A l.length l) : Calls Tryz.prog 26 #[.slice A l.length c] w fun e w' => e = .returned (.bool (yY l)) ∧ Below w.heap.size w w' := by
 have HR := za.mk hr
 have HLEN := za.mk hr.2.1
 have HS := Sat.nil w
 unfold yY
 generalize hg : xB Yq YJ none l = g
 have HG := za.mk hg
 clear hr hg
 go_enter Tryz.func26, Tryz.ntmps26
 go_wp2
 have HZ := za.mk HS
 clear HS
 go_loopg [3] l.length (fun kq vi wr => ∃ i : Nat, vi = .int .i64 i ∧ za (i + kq = l.length) ∧ za (xB Yq YJ (vP l i) (l.drop i) = g) ∧ za (Sat [] w wr [] []))
 case atStart => exact ⟨0, rfl, ⟨by simp⟩, ⟨by rw [vJ, List.drop_zero]; exact HG.out⟩, HZ⟩
 case round =>
  clear HZ HG
  obtain ⟨i, rfl, HK, HO, HT⟩ := hrel
  have HS := HT.out
  clear HT
  have hil : i ≤ l.length := by have := HK.out; omega
  by_cases hlt : i < l.length
  ·obtain ⟨ad, e0, x0, x1⟩ := vr HR.out (i : Int) (by omega) (by omega)
   subst e0
   have hd1 : yv l ((i : Nat) : Int) = l[i] := by simp [yv, hlt]
   obtain ⟨j, hj⟩ : ∃ j, j = i - 1 := ⟨_, rfl⟩
   have hjl : j < l.length := by omega
   obtain ⟨ad2, e2, p0, -⟩ := vr HR.out (j : Int) (by omega) (by omega)
   obtain rfl : ad = ad2 := by injection e2
   have hd2 : yv l ((j : Nat) : Int) = l[j] := by simp [yv, hjl]
   have ho := HO.out
   rw [ZX Yq YJ l i hlt j hj hjl] at ho
   rw [Int.toNat_natCast] at x0 x1 p0
   rw [hd1] at x0 x1
   rw [hd2] at p0
   generalize l[i] = y at ho x0 x1
   generalize l[j] = z at ho p0
   have b0 : (0 : Int) ≤ (i : Int) := by omega
   have b1 : (i : Int) < (l.length : Int) := by omega
   have b2 : (0 : Int) ≤ (j : Int) := by omega
   have b3 : (j : Int) < (l.length : Int) := by omega
   have j2 : 0 < i → wrap64 ((i : Int) - 1) = (j : Int) := fun h0 => by rw [xo (by omega) (by have := HLEN.out; omega)]; omega
   unfold Yq YJ at ho
   generalize hu : wiB y.f0 1 1099511627776 = u at ho
   have HU := za.mk hu
   generalize hv : wiB y.f1 0 63 = v at ho
   have HV := za.mk hv
   generalize hp : decide ((0 : Int) < (i : Int)) = p at ho
   generalize ht : decide (y.f0 ≤ z.f0) = t at ho
   clear hd1 hd2 HO e2 hj hjl
   clear hu
   clear hv
   go_wp2
   cases u
   case' true => cases v
   case' true.true => cases p
   case' true.true.true => cases t
   all_goals
    first
    | (have j4 := of_decide_eq_true hp; have j5 : decide (0 < i) = true := decide_eq_true (by omega); replace j2 := j2 (by omega); have j3 := (zT _).trans j2)
    | (have j4 := of_decide_eq_false hp; have j5 : decide (0 < i) = false := decide_eq_false (by omega))
    | skip
    replace HS := HS.drewN 1
    refine jx (.op 0 0 10 (.op 1 0 11 (.op 2 0 12 (.op 3 0 13 (.op 4 0 14 (.op 5 2 15 (.op 6 0 16 (.op 7 0 17 (.op 8 0 18 (.op 9 0 19 (.op 10 0 20 (.op 11 0 21 (.op 12 0 22 (.op 13 2 23 (.op 14 0 24 (.op 15 0 25 (.op 16 0 26 (.op 17 0 27 (.op 18 0 28 (.op 19 0 29 (.op 20 0 30 (.op 21 0 31 (.op 22 0 32 (.op 23 0 33 (.op 24 0 34 (.op 25 0 35 (.op 26 0 36 (.op 27 0 37 (.op 28 0 38 (.op 29 0 39 (.op 30 0 40 (.op 31 0 41 (.op 32 0 42 (.op 33 0 43 .nil)))))))))))))))))))))))))))))))))) [] (fun W => W.cell? (ad.add (i * 2)) = some (.int .i64 y.f0) ∧ W.cell? ⟨(ad.add (i * 2)).block, (ad.add (i * 2)).off + 1, none⟩ = some (.int .i64 y.f1) ∧ W.cell? (ad.add (j * 2)) = some (.int .i64 z.f0)) ((fun _ H => ⟨H.at_ x0, H.at_ x1, H.at_ p0⟩) _ HS) (fun hS => ?_)
    (repeat (first | refine RT.tk ?_ | refine RT.tn ?_ | refine RT.n2 ?_ | (refine RT.o1 ?_; refine xU HS (fun _ H => ⟨H.at_ x0, H.at_ x1, H.at_ p0⟩) (Yh HU.out) ?_; clear HS hS; intro w_ hS HS; refine RT.nm ?_) | (refine RT.o1 ?_; refine xU HS (fun _ H => ⟨H.at_ x0, H.at_ x1, H.at_ p0⟩) (Yh HV.out) ?_; clear HS hS; intro w_ hS HS; refine RT.nm ?_)))
    refine RT.nil ?_
    clear hS p0 x0 x1
    go_wp2
    first
    | (go_ret; exact ⟨by rw [← ho]; rfl, HS.below⟩)
    | (go_roundg (l.length - (i + 1)); (case measure => have := HK.out; omega); (case rel => exact ⟨i + 1, by have h_ : wrap64 ((i : Int) + 1) = ((i + 1 : Nat) : Int) := z4 (by omega) (by have := HLEN.out; omega); first | (rw [h_]) | (simp only [h_]) | rfl, ⟨by have := HK.out; omega⟩, ⟨ho⟩, ⟨HS⟩⟩))
  ·have ho := HO.out
   rw [Yp _ _ _ _ (by omega)] at ho
   subst ho
   obtain rfl : i = l.length := by omega
   clear HO
   go_wp2
   go_ret
   exact ⟨rfl, HS.below⟩
theorem zcw {l : List S86} {A : Option Addr} {c : Nat} {w : World} (hr : k86.C w A l.length l) (hz : ∀ y ∈ l, y.f0.size ≤ 1048576) : Calls Tryz.prog 25 #[.slice A l.length c] w fun e w' => e = .returned (.bool (xR l)) ∧ Below w.heap.size w w' := by
 have HR := za.mk hr
 have HLEN := za.mk hr.2.1
 have HS := Sat.nil w
 replace hz := za.mk hz
 unfold xR
 generalize hg : xB itB itR none l = g
 have HG := za.mk hg
 clear hr hg
 go_enter Tryz.func25, Tryz.ntmps25
 go_wp2
 have HZ := za.mk HS
 clear HS
 go_loopg [3] l.length (fun kq vi wr => ∃ i : Nat, vi = .int .i64 i ∧ za (i + kq = l.length) ∧ za (xB itB itR (vP l i) (l.drop i) = g) ∧ za (Sat [] w wr [] []))
 case atStart => exact ⟨0, rfl, ⟨by simp⟩, ⟨by rw [vJ, List.drop_zero]; exact HG.out⟩, HZ⟩
 case round =>
  clear HZ HG
  obtain ⟨i, rfl, HK, HO, HT⟩ := hrel
  have HS := HT.out
  clear HT
  have hil : i ≤ l.length := by have := HK.out; omega
  by_cases hlt : i < l.length
  ·obtain ⟨ad, A3, c3, e0, x0, x1, x2, x3, hll, hin⟩ := vW HR.out (i : Int) (by omega) (by omega)
   subst e0
   have hd1 : xD l ((i : Nat) : Int) = l[i] := by simp [xD, hlt]
   obtain ⟨j, hj⟩ : ∃ j, j = i - 1 := ⟨_, rfl⟩
   have hjl : j < l.length := by omega
   obtain ⟨ad2, _, _, e2, p0, -⟩ := vW HR.out (j : Int) (by omega) (by omega)
   obtain rfl : ad = ad2 := by injection e2
   have hd2 : xD l ((j : Nat) : Int) = l[j] := by simp [xD, hjl]
   have hq := hz.out l[j] (List.getElem_mem hjl)
   have ho := HO.out
   rw [ZX itB itR l i hlt j hj hjl] at ho
   rw [Int.toNat_natCast] at x0 x1 x2 x3 p0
   rw [hd1] at x0 x1 x2 x3 hll hin
   rw [hd2] at p0
   generalize l[i] = y at ho x0 x1 x2 x3 hll hin
   generalize l[j] = z at ho p0 hq
   have b0 : (0 : Int) ≤ (i : Int) := by omega
   have b1 : (i : Int) < (l.length : Int) := by omega
   have b2 : (0 : Int) ≤ (j : Int) := by omega
   have b3 : (j : Int) < (l.length : Int) := by omega
   have j2 : 0 < i → wrap64 ((i : Int) - 1) = (j : Int) := fun h0 => by rw [xo (by omega) (by have := HLEN.out; omega)]; omega
   unfold itB itR at ho
   generalize hu : xq y.f0 = u at ho
   have HU := za.mk hu
   generalize hv : Qs y.f1 = v at ho
   have HV := za.mk hv
   generalize hp : decide ((0 : Int) < (i : Int)) = p at ho
   generalize ht : jR (bl z.f0) (bl y.f0) = t at ho
   have HI := za.mk hin
   have HL := za.mk hll
   have HQ : za (z.f0.size ≤ 140737488351232) := ⟨by omega⟩
   have HTT := za.mk ht
   clear hin hll hq
   clear hd1 hd2 HO e2 hj hjl
   clear hu
   clear hv
   clear ht
   go_wp2
   cases u
   case' true => cases v
   case' true.true => cases p
   case' true.true.true => cases t
   all_goals
    first
    | (have j4 := of_decide_eq_true hp; have j5 : decide (0 < i) = true := decide_eq_true (by omega); replace j2 := j2 (by omega); have j3 := (zT _).trans j2)
    | (have j4 := of_decide_eq_false hp; have j5 : decide (0 < i) = false := decide_eq_false (by omega))
    | skip
    replace HS := HS.drewN 1
    refine jx (.op 0 0 10 (.op 1 0 11 (.op 2 0 12 (.op 3 0 13 (.op 4 0 14 (.op 5 2 15 (.op 6 0 16 (.op 7 0 17 (.op 8 0 18 (.op 9 0 19 (.op 10 0 20 (.op 11 0 21 (.op 12 0 22 (.op 13 2 23 (.op 14 0 24 (.op 15 0 25 (.op 16 0 26 (.op 17 0 27 (.op 18 0 28 (.op 19 0 29 (.op 20 0 30 (.op 21 0 31 (.op 22 0 32 (.op 23 0 33 (.op 24 0 34 (.op 25 0 35 (.op 26 0 36 (.op 27 0 37 (.op 28 0 38 (.op 29 0 39 (.op 30 0 40 (.op 31 2 41 (.op 32 0 42 (.op 33 0 43 (.op 34 0 44 .nil))))))))))))))))))))))))))))))))))) [] (fun W => W.cell? (ad.add (i * 4)) = some (.string y.f0) ∧ W.cell? ⟨(ad.add (i * 4)).block, (ad.add (i * 4)).off + 1, none⟩ = some (.int .i64 y.f1.f0) ∧ W.cell? ⟨(ad.add (i * 4)).block, (ad.add (i * 4)).off + 2, none⟩ = some (.int .i64 y.f1.f1) ∧ W.cell? ⟨(ad.add (i * 4)).block, (ad.add (i * 4)).off + 3, none⟩ = some (.slice A3 y.f1.f2.length c3) ∧ W.cell? (ad.add (j * 4)) = some (.string z.f0)) ((fun _ H => ⟨H.at_ x0, H.at_ x1, H.at_ x2, H.at_ x3, H.at_ p0⟩) _ HS) (fun hS => ?_)
    (repeat (first | refine RT.tk ?_ | refine RT.tn ?_ | refine RT.n2 ?_ | (refine RT.o1 ?_; refine xU HS (fun _ H => ⟨H.at_ x0, H.at_ x1, H.at_ x2, H.at_ x3, H.at_ p0⟩) (QP HU.out) ?_; clear HS hS; intro w_ hS HS; refine RT.nm ?_) | (refine RT.o1 ?_; refine xU HS (fun _ H => ⟨H.at_ x0, H.at_ x1, H.at_ x2, H.at_ x3, H.at_ p0⟩) (zco (Kd.C_below HI.out HS.below) HL.out HV.out) ?_; clear HS hS; intro w_ hS HS; refine RT.nm ?_) | (refine RT.o1 ?_; refine xU HS (fun _ H => ⟨H.at_ x0, H.at_ x1, H.at_ x2, H.at_ x3, H.at_ p0⟩) (zcV HQ.out HTT.out) ?_; clear HS hS; intro w_ hS HS; refine RT.nm ?_)))
    refine RT.nil ?_
    clear hS p0 x0 x1 x2 x3
    go_wp2
    first
    | (go_ret; exact ⟨by rw [← ho]; rfl, HS.below⟩)
    | (go_roundg (l.length - (i + 1)); (case measure => have := HK.out; omega); (case rel => exact ⟨i + 1, by have h_ : wrap64 ((i : Int) + 1) = ((i + 1 : Nat) : Int) := z4 (by omega) (by have := HLEN.out; omega); first | (rw [h_]) | (simp only [h_]) | rfl, ⟨by have := HK.out; omega⟩, ⟨ho⟩, ⟨HS⟩⟩))
  ·have ho := HO.out
   rw [Yp _ _ _ _ (by omega)] at ho
   subst ho
   obtain rfl : i = l.length := by omega
   clear HO
   go_wp2
   go_ret
   exact ⟨rfl, HS.below⟩
theorem zde {a0 a1 : Int} {a2 : ByteArray} {a3 : Int} {A4 : Option Addr} {c4 : Nat} {l4 : List Int} {a5 : Int} {w : World} {b : Bool} (hr : Kd.C (Kd.int .i64) w A4 l4.length l4) (hl : l4.length ≤ c4) (hb : jo a0 a1 a2 a3 l4 a5 = b) : Calls Tryz.prog 23 #[.agg #[.int .i64 a0, .int .i64 a1, .string a2, .int .i64 a3, .slice A4 l4.length c4, .int .i64 a5]] w fun e w' => e = .returned (.bool b) ∧ Below w.heap.size w w' := by
 subst hb
 have HS := Sat.nil w
 have HR := za.mk hr
 have HL := za.mk hl
 clear hr hl
 unfold jo
 generalize gp : vX a0 a1 a2 = p
 replace gp := za.mk gp
 generalize gq : wiB a3 0 11 = q
 replace gq := za.mk gq
 generalize gu : js l4 4 = u
 replace gu := za.mk gu
 generalize gv : wiB a5 (-1) 1099511627776 = v
 replace gv := za.mk gv
 cases p
 case' true => cases q
 case' true.true => cases u
 all_goals
  go_enter Tryz.func23, Tryz.ntmps23
  go_wp2_with ((first | ((with_reducible refine gB rfl ?_); refine zz HS ?_) | ((with_reducible refine gA rfl ?_); refine zt HS ?_) | ((with_reducible refine gS rfl ?_); refine zu HS ?_) | (go_at_call 64; refine HS.go (zdm gp.out) ?_) | (go_at_call 65; refine HS.go (Yh gq.out) ?_) | (go_at_call 66; refine HS.go (za2 (Kd.C_below HR.out HS.below) HL.out gu.out) ?_) | (go_at_call 65; refine HS.go (Yh gv.out) ?_)); clear HS; (try clear hc); intros; rename_i HS; have hc := HS.lk; simp only [Lk, LkC, Value.cells, List.toList_toArray, Nat.reduceAdd, Nat.zero_add, and_true, zf, zg, ze, zh] at HS hc)
  go_ret
  exact ⟨by first | rfl | simp, HS.below⟩
theorem zds {l : List S108} {A : Option Addr} {c : Nat} {w : World} {b : Bool} (hr : k108.C w A l.length l) (hl : l.length ≤ c) (hz : ∀ x ∈ l, YL x) (hb : ju l = b) : Calls Tryz.prog 68 #[.slice A l.length c] w fun e w' => e = .returned (.bool b) ∧ Below w.heap.size w w' :=
 qq (yd.calls (l.length + (1048577 + 1)) _ _ _ _ _ hr hl (hb ▸ Qw l hr.2.1 1048577 (fun x hx => by have := (hz x hx).2.1; omega) _ (Nat.le_refl _)))
def Jy (s : ByteArray) (l : List S108) (q c : Int) : Bool := ((s.toList == ([] : List UInt8)) != decide (0 < l.length)) && (((s.toList == ([] : List UInt8)) || xq s) && (ju l && (wiB q 0 1099511627776 && (wiB c 0 63 && ((decide (0 < l.length) || !(q == 0)) && ((c == 0) || (!decide (0 < l.length) && decide (0 < q))))))))
theorem zax (a b c : Int) : inB a b c = wiB a b c := by unfold inB wiB; rw [← Bool.decide_and]
theorem zaG (y : S46) : Jy y.f1 y.f2 y.f3 y.f4 = Ze y := by
 have e3 : xq y.f1 = true → (y.f1.toList == ([] : List UInt8)) = false := fun h => by
  rw [beq_eq_false_iff_ne]
  intro h2
  have h3 := (ZU y.f1).1 h2
  have : y.f1 = ⟨#[]⟩ := vI (List.eq_nil_of_length_eq_zero (by rw [yo]; exact h3))
  rw [this] at h
  exact absurd h (by decide +kernel)
 have e5 : wiB y.f3 0 1099511627776 = true → decide (0 < y.f3) = !(y.f3 == 0) := fun h => by
  have := of_decide_eq_true h
  rw [Bool.eq_iff_iff]
  simp
  omega
 have e6 : ((if ju y.f2 = true then (0 : Int) else 2) == 0) = ju y.f2 := by cases ju y.f2 <;> rfl
 unfold Ze Jy Vb
 rw [e6, zax, zax]
 revert e3 e5
 generalize xq y.f1 = st
 generalize (y.f1.toList == ([] : List UInt8)) = z
 generalize ju y.f2 = ev
 generalize wiB y.f3 0 1099511627776 = w1
 generalize wiB y.f4 0 63 = w2
 generalize decide (0 < y.f2.length) = pn
 generalize decide (0 < y.f3) = qp
 generalize (y.f3 == 0) = q0
 generalize (y.f4 == 0) = c0
 revert st z ev w1 w2 pn qp q0 c0
 decide
theorem zcq {y : S46} {A : Option Addr} {c : Nat} {w : World} {b : Bool} (hr : k108.C w A y.f2.length y.f2) (hl : y.f2.length ≤ c) (hy : Yo y) (hb : Ze y = b) : Calls Tryz.prog 24 #[.agg #[.int .i64 y.f0, .string y.f1, .slice A y.f2.length c, .int .i64 y.f3, .int .i64 y.f4]] w fun e w' => e = .returned (.bool b) ∧ Below w.heap.size w w' := by
 rw [← zaG] at hb
 subst hb
 have HZ := za.mk hy.2.2.1.2
 have HR := za.mk hr
 have HL := za.mk hl
 clear hr hl hy
 obtain ⟨a0, a1, l2, a3, a4⟩ := y
 dsimp only at HZ HR HL ⊢
 have HS := Sat.nil w
 unfold Jy
 generalize gz : (a1.toList == ([] : List UInt8)) = z
 have gz2 : (a1.toList != ([] : List UInt8)) = !z := by rw [← gz]; rfl
 generalize gq : (a3 == 0) = q
 generalize gm : (a4 == 0) = m
 generalize go : (decide (0 < a3)) = o
 generalize gn : (decide (0 < l2.length)) = n
 generalize gt : (xq a1) = t
 generalize ge : (ju l2) = e
 generalize gu : (wiB a3 0 1099511627776) = u
 generalize gv : (wiB a4 0 63) = v
 have gn2 : decide ((0 : Int) < (l2.length : Int)) = n := by rw [← gn]; exact decide_eq_decide.mpr (by omega)
 have gn3 : ((l2.length : Int) == 0) = !n := by rw [← gn, Bool.eq_iff_iff]; simp; try omega
 have gn4 : (l2.length == 0) = !n := by rw [← gn, Bool.eq_iff_iff]; simp; try omega
 replace gt := za.mk gt
 replace ge := za.mk ge
 replace gu := za.mk gu
 replace gv := za.mk gv
 cases z
 case' false => cases n
 case' false.true => cases t
 case' false.true.true => cases e
 case' false.true.true.true => cases u
 case' false.true.true.true.true => cases v
 case' false.true.true.true.true.true => cases m
 case' true => cases n
 case' true.false => cases e
 case' true.false.true => cases u
 case' true.false.true.true => cases v
 case' true.false.true.true.true => cases q
 case' true.false.true.true.true.false => cases m <;> cases o
 all_goals
  go_enter Tryz.func24, Tryz.ntmps24
  go_wp2_with ((first | ((with_reducible refine gB rfl ?_); refine zz HS ?_) | ((with_reducible refine gA rfl ?_); refine zt HS ?_) | ((with_reducible refine gS rfl ?_); refine zu HS ?_) | (go_at_call 68; refine HS.go (zds (Kd.C_below HR.out HS.below) HL.out HZ.out ge.out) ?_) | (go_at_call 67; refine HS.go (QP gt.out) ?_) | (go_at_call 20; refine HS.go (zY gu.out) ?_) | (go_at_call 20; refine HS.go (zY gv.out) ?_)); clear HS; (try clear hc); intros; rename_i HS; have hc := HS.lk; simp only [Lk, LkC, Value.cells, List.toList_toArray, Nat.reduceAdd, Nat.zero_add, and_true, zf, zg, ze, zh] at HS hc)
  go_ret
  exact ⟨by first | rfl | simp, HS.below⟩
theorem zdv {l : List ByteArray} {A : Option Addr} {c : Nat} {w : World} {t : Bool} (hr : Kd.string.C w A l.length l) (hn : l.length ≤ 1048576 ∧ l.length ≤ c) (h : vv l = t) : Calls Tryz.prog 22 #[.slice A l.length c] w fun e w' => e = .returned (.bool t) ∧ Below w.heap.size w w' := qh.calls (l.length + 301) A c l t w hr hn.2 (h ▸ Jf l (by omega) _ (Nat.le_refl _))
theorem za1 {a1 a2 a3 a4 : Int} {A5 : Option Addr} {d5 : Nat} {l5 : List ByteArray} {A6 : Option Addr} {m6 d6 : Nat} {A7 : Option Addr} {m7 d7 : Nat} {A8 : Option Addr} {m8 d8 : Nat} {A9 : Option Addr} {m9 d9 : Nat} {w : World} (hr5 : Kd.string.C w A5 l5.length l5) (hn : l5.length ≤ 1048576 ∧ l5.length ≤ d5) : Calls Tryz.prog 10 #[.agg #[.int .i64 1, .int .i64 a1, .int .i64 a2, .int .i64 a3, .int .i64 a4, .slice A5 l5.length d5, .slice A6 m6 d6, .slice A7 m7 d7, .slice A8 m8 d8, .slice A9 m9 d9]] w fun e w' => e = .returned (.bool (wiB a1 0 5 && (wiB a2 1 1099511627776 && (((m6 == 0) && ((m7 == 0) && ((m8 == 0) && (m9 == 0)))) && (wiB a3 0 1099511627776 && (wiB a4 0 1099511627776 && (decide (0 < a4) && vv l5))))))) ∧ Below w.heap.size w w' := by
 have HS := Sat.nil w
 generalize gq : wiB a1 0 5 = q
 generalize gu : wiB a2 1 1099511627776 = u
 generalize gv : ((m6 == 0) && ((m7 == 0) && ((m8 == 0) && (m9 == 0)))) = v
 generalize gs : wiB a3 0 1099511627776 = s
 have w0 : wiB 1 1 5 = true := rfl
 generalize gt : wiB a4 0 1099511627776 = t
 generalize gx : (decide (0 < a4)) = x
 have fx0 : decide (a4 > 0) = x := by exact gx
 generalize gy : (vv l5) = y
 replace w0 := za.mk w0
 replace gq := za.mk gq
 replace gu := za.mk gu
 replace gv := za.mk gv
 replace gs := za.mk gs
 replace gt := za.mk gt
 replace gy := za.mk gy
 replace hr5 := za.mk hr5
 replace hn := za.mk hn
 cases q
 case' true => cases u
 case' true.true => cases v
 case' true.true.true => cases s
 case' true.true.true.true => cases t
 case' true.true.true.true.true => cases x
 case' true.true.true.true.true.true => cases y
 all_goals
  go_enter Tryz.func10, Tryz.ntmps10
  go_wp2_with ((first | ((with_reducible refine gB rfl ?_); refine zz HS ?_) | ((with_reducible refine gA rfl ?_); refine zt HS ?_) | ((with_reducible refine gS rfl ?_); refine zu HS ?_) | (go_at_call 20; refine HS.go (zY w0.out) ?_) | (go_at_call 20; refine HS.go (zY gq.out) ?_) | (go_at_call 20; refine HS.go (zY gu.out) ?_) | (go_at_call 20; refine HS.go (zY gs.out) ?_) | (go_at_call 20; refine HS.go (zY gt.out) ?_) | (go_at_call 21; refine HS.go (zcf gv.out) ?_) | (go_at_call 22; refine HS.go (zdv (Kd.C_below hr5.out HS.below) hn.out gy.out) ?_)); clear HS; (try clear hc); intros; rename_i HS; have hc := HS.lk; simp only [Lk, LkC, Value.cells, List.toList_toArray, Nat.reduceAdd, Nat.zero_add, and_true, zf, zg, ze, zh] at HS hc)
  go_ret
  exact ⟨by first | rfl | simp, HS.below⟩
theorem zbE {a1 a2 a3 a4 : Int} {A5 : Option Addr} {m5 d5 : Nat} {A6 : Option Addr} {m6 d6 : Nat} {A7 : Option Addr} {m7 d7 : Nat} {A8 : Option Addr} {m8 d8 : Nat} {A9 : Option Addr} {m9 d9 : Nat} {w : World} : Calls Tryz.prog 10 #[.agg #[.int .i64 3, .int .i64 a1, .int .i64 a2, .int .i64 a3, .int .i64 a4, .slice A5 m5 d5, .slice A6 m6 d6, .slice A7 m7 d7, .slice A8 m8 d8, .slice A9 m9 d9]] w fun e w' => e = .returned (.bool (wiB a1 0 5 && (wiB a2 1 1099511627776 && (((m5 == 0) && ((m6 == 0) && ((m7 == 0) && ((m8 == 0) && (m9 == 0))))) && (wiB a3 0 1099511627776 && (wiB a4 0 1099511627776 && (a3 == 0))))))) ∧ Below w.heap.size w w' := by
 have HS := Sat.nil w
 generalize gq : wiB a1 0 5 = q
 generalize gu : wiB a2 1 1099511627776 = u
 generalize gv : ((m5 == 0) && ((m6 == 0) && ((m7 == 0) && ((m8 == 0) && (m9 == 0))))) = v
 generalize gs : wiB a3 0 1099511627776 = s
 have w0 : wiB 3 1 5 = true := rfl
 generalize gt : wiB a4 0 1099511627776 = t
 generalize gx : (a3 == 0) = x
 have fx0 : (a3 == 0) = x := by exact gx
 replace w0 := za.mk w0
 replace gq := za.mk gq
 replace gu := za.mk gu
 replace gv := za.mk gv
 replace gs := za.mk gs
 replace gt := za.mk gt
 cases q
 case' true => cases u
 case' true.true => cases v
 case' true.true.true => cases s
 case' true.true.true.true => cases t
 case' true.true.true.true.true => cases x
 all_goals
  go_enter Tryz.func10, Tryz.ntmps10
  go_wp2_with ((first | ((with_reducible refine gB rfl ?_); refine zz HS ?_) | ((with_reducible refine gA rfl ?_); refine zt HS ?_) | ((with_reducible refine gS rfl ?_); refine zu HS ?_) | (go_at_call 20; refine HS.go (zY w0.out) ?_) | (go_at_call 20; refine HS.go (zY gq.out) ?_) | (go_at_call 20; refine HS.go (zY gu.out) ?_) | (go_at_call 20; refine HS.go (zY gs.out) ?_) | (go_at_call 20; refine HS.go (zY gt.out) ?_) | (go_at_call 21; refine HS.go (zcm gv.out) ?_)); clear HS; (try clear hc); intros; rename_i HS; have hc := HS.lk; simp only [Lk, LkC, Value.cells, List.toList_toArray, Nat.reduceAdd, Nat.zero_add, and_true, zf, zg, ze, zh] at HS hc)
  go_ret
  exact ⟨by first | rfl | simp, HS.below⟩
theorem zbu {a1 a2 a3 a4 : Int} {A5 : Option Addr} {m5 d5 : Nat} {A6 : Option Addr} {m6 d6 : Nat} {A7 : Option Addr} {m7 d7 : Nat} {A8 : Option Addr} {d8 : Nat} {l8 : List S86} {A9 : Option Addr} {d9 : Nat} {l9 : List S77} {w : World} (hr8 : k86.C w A8 l8.length l8) (hr9 : k77.C w A9 l9.length l9) (hz : ∀ y ∈ l8, y.f0.size ≤ 1048576) : Calls Tryz.prog 10 #[.agg #[.int .i64 5, .int .i64 a1, .int .i64 a2, .int .i64 a3, .int .i64 a4, .slice A5 m5 d5, .slice A6 m6 d6, .slice A7 m7 d7, .slice A8 l8.length d8, .slice A9 l9.length d9]] w fun e w' => e = .returned (.bool (wiB a1 0 5 && (wiB a2 1 1099511627776 && (((m5 == 0) && ((m6 == 0) && (m7 == 0))) && (wiB a3 0 1099511627776 && (wiB a4 0 1099511627776 && ((a3 == 0) && (xR l8 && yY l9)))))))) ∧ Below w.heap.size w w' := by
 have HS := Sat.nil w
 generalize gq : wiB a1 0 5 = q
 generalize gu : wiB a2 1 1099511627776 = u
 generalize gv : ((m5 == 0) && ((m6 == 0) && (m7 == 0))) = v
 generalize gs : wiB a3 0 1099511627776 = s
 have w0 : wiB 5 1 5 = true := rfl
 generalize gt : wiB a4 0 1099511627776 = t
 generalize gx : (a3 == 0) = x
 have fx0 : (a3 == 0) = x := by exact gx
 generalize gy : (xR l8) = y
 generalize gz : (yY l9) = z
 replace w0 := za.mk w0
 replace gq := za.mk gq
 replace gu := za.mk gu
 replace gv := za.mk gv
 replace gs := za.mk gs
 replace gt := za.mk gt
 replace gy := za.mk gy
 replace gz := za.mk gz
 replace hr8 := za.mk hr8
 replace hr9 := za.mk hr9
 replace hz := za.mk hz
 cases q
 case' true => cases u
 case' true.true => cases v
 case' true.true.true => cases s
 case' true.true.true.true => cases t
 case' true.true.true.true.true => cases x
 case' true.true.true.true.true.true => cases y
 case' true.true.true.true.true.true.true => cases z
 all_goals
  go_enter Tryz.func10, Tryz.ntmps10
  go_wp2_with ((first | ((with_reducible refine gB rfl ?_); refine zz HS ?_) | ((with_reducible refine gA rfl ?_); refine zt HS ?_) | ((with_reducible refine gS rfl ?_); refine zu HS ?_) | (go_at_call 20; refine HS.go (zY w0.out) ?_) | (go_at_call 20; refine HS.go (zY gq.out) ?_) | (go_at_call 20; refine HS.go (zY gu.out) ?_) | (go_at_call 20; refine HS.go (zY gs.out) ?_) | (go_at_call 20; refine HS.go (zY gt.out) ?_) | (go_at_call 21; refine HS.go (zcE gv.out) ?_) | (go_at_call 25; refine HS.go (gy.out ▸ zcw (Kd.C_below hr8.out HS.below) hz.out) ?_) | (go_at_call 26; refine HS.go (gz.out ▸ Vs (Kd.C_below hr9.out HS.below)) ?_)); clear HS; (try clear hc); intros; rename_i HS; have hc := HS.lk; simp only [Lk, LkC, Value.cells, List.toList_toArray, Nat.reduceAdd, Nat.zero_add, and_true, zf, zg, ze, zh] at HS hc)
  go_ret
  exact ⟨by first | rfl | simp, HS.below⟩
end Go.Proofs.YtepipnpfggnadaaGreat.Q
