/- Texts of this session laid together (shrink.py): what the claim's law rests on. -/
import Derived.Below
import Derived.Deep.Draws
import Derived.Deep.AppendLies
import Derived.Maps.AppendAt
import Derived.OwnWalk
import Derived.Laws.BytesArg
import Derived.Laws.MakeOwn
import Derived.Laws.OwnMore
import Derived.Deep.OwnRows
import Derived.Tactics
import Derived.Lib.ConvBytes
import Derived.Laws.Slices
import Derived.WalkKit
import Derived.KernelRfl
import Derived.RowKit3
import Derived.Deep.LoopGhost
import Derived.Deep.QuietTactic
import Derived.BigQuiet
import Derived.WideLaws
import Derived.Deep.DeepCutAuto
import Derived.Deep.CutBlock
import Derived.Deep.RegionHeld3
import Derived.Laws.Rows
import Derived.Lib.AppendStr
import Derived.ArgAppend
import Derived.Laws.IdiomCopy
import Derived.RowKit
import Derived.OrdersHeld
import Derived.Laws.BitsLemmas
import Derived.Laws.StructEq
import Derived.Test.YtepipnpfggnadaaGreatProg
import Derived.WalkMore
import Derived.Lib.Strings
import Derived.ChangeArms
import Derived.Deep.Slices
import Derived.SizedLaws
import Derived.Test.YtepipnpfggnadaaGreatRows
import Derived.Test.YtepipnpfggnadaaGreatTFramesSpoiltf
set_option linter.unusedVariables false
set_option linter.unusedSimpArgs false
set_option maxRecDepth 100000
set_option maxHeartbeats 8000000
open List renaming setIfInBounds_toArray → zcT
open List renaming set_cons_zero → zcU
open List renaming set_cons_succ → zcV
open List renaming map_toArray → zcW
open Option renaming bind_eq_some_iff → zcX
open Go.World renaming block_lt_of_cell? → zcY
open Bool renaming eq_false_iff → zcZ
open List renaming length_append → zc0
namespace Go.Proofs.YtepipnpfggnadaaGreat.Q
open Go.RowKit Go.Proofs.YtepipnpfggnadaaGreatW.PrintWords Go.Proofs.YtepipnpfggnadaaGreatW.PrintLast Go.Proofs.YtepipnpfggnadaaGreatW.PrintMore Go.Proofs.YtepipnpfggnadaaGreat.Crc
theorem refZ {A5 A6 A7 A8 A9 : Option Addr} {c5 c6 c7 c8 c9 : Nat} (w : World) : Calls Tryz.prog 14 #[.agg #[.int .i64 0, .int .i64 0, .int .i64 0, .int .i64 0, .int .i64 0, .slice A5 0 c5, .slice A6 0 c6, .slice A7 0 c7, .slice A8 0 c8, .slice A9 0 c9], .agg #[.int .i64 0, .int .i64 0, .int .i64 0, .int .i64 0, .int .i64 0, .slice none 0 0, .slice none 0 0, .slice none 0 0, .slice none 0 0, .slice none 0 0]] w fun e w' => e = .returned (.bool true) ∧ Below w.heap.size w w' :=
 zb3 (zb7 w _ _ _ _) (zb5 w _ _ _ _) (zch w _ _ _ _) (zck w _ _ _ _) (zcu w _ _ _ _)
theorem Sat.wn {gs : List Nat} {w0 w : World} {bs : List Bk} {rs : List Rw} (H : Sat gs w0 w bs rs) : ∃ w', w' = w := ⟨w, rfl⟩
theorem zcF {s : ByteArray} (hs : s.size ≤ 140737488351232) (h : ZR s = (⟨#[]⟩, 7)) : Zc s fm0 7 := ⟨⟨#[]⟩, 7, ⟨s.size + 10, by rw [← h]; exact Y9 s hs _ (by omega)⟩, .inl ⟨by decide, rfl, rfl⟩⟩
theorem JD {x : Fm} {cs : List Value} {at_ bits : Int} {w : World} (hx : FmC w x cs) (hB : FmB x) (h0 : -9223372036854775808 ≤ at_) (h1 : at_ ≤ 9223372036854775807) (hb0 : 0 ≤ bits) (hb1 : bits < 4294967296) : Calls Tryz.prog 6 #[.agg cs.toArray, .int .i64 at_, .int .u32 bits] w fun e w' => e = .returned (.bool true) ∧ Below w.heap.size w w' := by
 have HX := hx
 obtain ⟨v5, v6, v7, v8, v9, rfl, h5, h6, h7, h8, h9⟩ := hx
 obtain ⟨A5, c5, rfl, _⟩ := h5.id
 obtain ⟨A6, c6, rfl, _⟩ := h6.id
 obtain ⟨A7, c7, rfl, _⟩ := h7.id
 obtain ⟨A8, c8, rfl, _⟩ := h8.id
 obtain ⟨A9, c9, rfl, _⟩ := h9.id
 clear h5 h6 h7 h8 h9
 replace HX := za.mk HX
 have HS := Sat.nil w
 rcases J0 hB with ⟨_, hp⟩ | ⟨_, hp, hz⟩
 ·replace hp := za.mk hp
  clear hB
  go_enter Tryz.func6, Tryz.ntmps6
  go_wp2_with ((first | ((with_reducible refine gB rfl ?_); refine zC HS ?_) | ((with_reducible refine gA rfl ?_); refine zr HS ?_) | ((with_reducible refine gS rfl ?_); refine zt HS ?_) | (go_at_call 7; refine HS.go (vL.calls hp.out (HX.out.below HS.below)) ?_) | (go_at_call 9; refine HS.go (YD _) ?_)); clear HS; (try clear hc); intros; rename_i HS; have hc := HS.lk; simp only [Lk, LkC, Value.cells, List.toList_toArray, Nat.reduceAdd, Nat.zero_add, and_true, zf, zg, ze, zh] at HS hc)
  go_ret
  exact ⟨rfl, HS.below⟩
 obtain ⟨t, ht⟩ : ∃ t, t = Y2 x := ⟨_, rfl⟩
 rw [← ht] at hp hz
 obtain ⟨S, hS⟩ : ∃ S, S = YJ t := ⟨_, rfl⟩
 rw [← hS] at hp
 have hSz : S.size = t.size + 4 := by rw [hS, Vx]
 have hN : S.size ≤ 1000034 := by omega
 have hN4 : 4 ≤ S.size := by omega
 replace hp := za.mk hp
 have HSS := za.mk (And.intro hS hSz)
 clear hS hSz hz ht hB
 by_cases hneg : at_ < 0
 ·go_enter Tryz.func6, Tryz.ntmps6
  go_wp2_with ((first | ((with_reducible refine gB rfl ?_); refine zC HS ?_) | ((with_reducible refine gA rfl ?_); refine zr HS ?_) | ((with_reducible refine gS rfl ?_); refine zt HS ?_) | (go_at_call 7; refine HS.go (vL.calls hp.out (HX.out.below HS.below)) ?_) | (go_at_call 9; refine HS.go (YD _) ?_)); clear HS; (try clear hc); intros; rename_i HS; have hc := HS.lk; simp only [Lk, LkC, Value.cells, List.toList_toArray, Nat.reduceAdd, Nat.zero_add, and_true, zf, zg, ze, zh] at HS hc)
  go_ret
  exact ⟨rfl, HS.below⟩
 by_cases hbig : 8 * (S.size : Int) ≤ at_
 ·go_enter Tryz.func6, Tryz.ntmps6
  go_wp2_with ((first | ((with_reducible refine gB rfl ?_); refine zC HS ?_) | ((with_reducible refine gA rfl ?_); refine zr HS ?_) | ((with_reducible refine gS rfl ?_); refine zt HS ?_) | (go_at_call 7; refine HS.go (vL.calls hp.out (HX.out.below HS.below)) ?_) | (go_at_call 9; refine HS.go (YD _) ?_)); clear HS; (try clear hc); intros; rename_i HS; have hc := HS.lk; simp only [Lk, LkC, Value.cells, List.toList_toArray, Nat.reduceAdd, Nat.zero_add, and_true, zf, zg, ze, zh] at HS hc)
  go_ret
  exact ⟨rfl, HS.below⟩
 have ha0 : 0 ≤ at_ := by omega
 have ha1 : at_ < 8 * (S.size : Int) := by omega
 clear hneg h0 h1 hbig
 have hcv := fun W : World => Lib.run_convert_string_bytes (P := Tryz.prog) W 9 41 5 S Tryz.underlying9 Tryz.underlying41 Tryz.underlying5
 go_enter Tryz.func6, Tryz.ntmps6
 go_upto_region 4 with ((first | ((with_reducible refine gB rfl ?_); refine zC HS ?_) | ((with_reducible refine gA rfl ?_); refine zr HS ?_) | ((with_reducible refine gS rfl ?_); refine zt HS ?_) | (go_at_call 7; refine HS.go (vL.calls hp.out (HX.out.below HS.below)) ?_) | (go_at_call 9; refine HS.go (YD _) ?_)); clear HS; (try clear hc); intros; rename_i HS; have hc := HS.lk; simp only [Lk, LkC, Value.cells, List.toList_toArray, Nat.reduceAdd, Nat.zero_add, and_true, zf, zg, ze, zh] at HS hc)
 obtain ⟨w2, rfl⟩ := HS.wn
 have HB1 := za.mk (xD HS.below HS.keep.size 5 S)
 have HM1 := za.mk (yg.of_bytes _ w.heap.size 5 S HS.keep.size (by simp only [maxLen]; omega))
 clear HS hc HX hp
 go_wp2
 have HM3 : za (yg (Lib.bytesWorld w2 5 S) w.heap.size 5 (.slice (some ⟨w2.heap.size, 0, none⟩) S.size (grownCap w2 S.size 0 5)) (Y4 (bl S))) := ⟨by rw [zb9, ← xy]; exact HM1.out⟩
 obtain ⟨g, hg⟩ : ∃ g, g = w2.heap.size := ⟨_, rfl⟩
 obtain ⟨cap, hcap⟩ : ∃ cap, cap = grownCap w2 S.size 0 5 := ⟨_, rfl⟩
 have HGL : za (w.heap.size ≤ g) := ⟨by
  rcases HM3.out with ⟨h, _⟩ | ⟨g', c', cur, fr, he, hb, _⟩
  ·cases h
  ·simp only [Value.slice.injEq, Option.some.injEq, Addr.mk.injEq] at he
   rw [hg]
   omega⟩
 rw [← hg, ← hcap] at HM3
 rw [← hg, ← hcap]
 have HX := za.mk (And.intro hb0 hb1)
 clear HM1 hg hcap hcv hb0 hb1
 go_loopg [10, 11] 32 (fun kq v10 v11 wr => ∃ (l : List Nat) (i : Nat) (b : Bool), v10 = .bool b ∧ v11 = .int .i64 i ∧ za (i + kq = 32) ∧ za (vG l S at_.toNat bits.toNat i) ∧ za (b = decide (bits.toNat % 2 ^ i ≠ 0)) ∧ za (yg wr w.heap.size 5 (.slice (some ⟨g, 0, none⟩) S.size cap) (Y4 l)) ∧ za (Below w.heap.size w wr))
 case atStart => exact ⟨bl S, 0, false, rfl, rfl, ⟨rfl⟩, ⟨⟨z9 S, jk S, by simp [Nat.mod_one]⟩⟩, ⟨by simp [Nat.mod_one]⟩, HM3, HB1⟩
 case round =>
  clear HM3 HB1
  obtain ⟨l, i, b, rfl, rfl, HI, HTn, HBb, HM, HB⟩ := hrel
  have hi32 : i ≤ 32 := by have := HI.out; omega
  by_cases hin : i < 32 ∧ (i : Int) < 8 * (S.size : Int) - at_
  ·obtain ⟨hi, hj⟩ := hin
   by_cases hbit : Go.bits .and .u32 (bits / 2 ^ i) 1 = 1
   ·have hb0 : (Go.bits .and .u32 (bits / 2 ^ i) 1 == 1) = true := beq_iff_eq.mpr hbit
    have hq0 : 0 ≤ (at_ + (i : Int)) / 8 := by omega
    have hq1 : (at_ + (i : Int)) / 8 < (S.size : Int) := by omega
    have hjl : ((at_ + (i : Int)) / 8).toNat < l.length := by rw [HTn.out.len]; omega
    obtain ⟨y, hy⟩ : ∃ y, y = l[((at_ + (i : Int)) / 8).toNat] := ⟨_, rfl⟩
    have HY : za (∃ h : ((at_ + (i : Int)) / 8).toNat < l.length, y = l[((at_ + (i : Int)) / 8).toNat]) := ⟨⟨hjl, hy⟩⟩
    have hcf : wr.cell? ⟨g, ((at_ + (i : Int)) / 8).toNat, none⟩ = some (.int .u8 (y : Int)) ∧ wr.frozen? ⟨g, ((at_ + (i : Int)) / 8).toNat, none⟩ = false := by
     obtain ⟨g', c', he, _, hc, hf⟩ := yg.at_ HM.out ((at_ + (i : Int)) / 8).toNat (by rw [List.length_map]; exact hjl)
     simp only [Value.slice.injEq, Option.some.injEq, Addr.mk.injEq] at he
     obtain ⟨⟨rfl, _⟩, _⟩ := he
     refine ⟨?_, hf⟩
     rw [hc, hy]
     simp [hjl]
    obtain ⟨hcell, hfro⟩ := hcf
    have HBit := za.mk hbit
    clear hbit hy hjl
    go_wp2
    go_region
    go_wp2
    have hx := HX.out
    have hbn : bits.toNat / 2 ^ i % 2 = 1 := by
     have := V8 bits hx.1 hx.2 i
     have := HBit.out
     omega
    obtain ⟨hjl, hyl⟩ := HY.out
    have hj8 : ((at_ + (i : Int)) / 8).toNat = (at_.toNat + i) / 8 := by omega
    have hjl2 : (at_.toNat + i) / 8 < l.length := by omega
    have hyl2 : y = l[(at_.toNat + i) / 8] := by
     rw [hyl]
     congr 1
    have hy8 : y < 256 := by rw [hyl2]; exact HTn.out.lt _ (List.getElem_mem hjl2)
    have HM2 : za (yg (wr.setCell ⟨g, ((at_ + (i : Int)) / 8).toNat, none⟩ (.int .u8 (Go.bits .xor .u8 (y : Int) (2 ^ ((at_ + (i : Int)) % 8).toNat % 256)))).drew w.heap.size 5 (.slice (some ⟨g, 0, none⟩) S.size cap) (Y4 (l.set ((at_.toNat + i) / 8) (l[(at_.toNat + i) / 8] ^^^ 2 ^ ((at_.toNat + i) % 8))))) := ⟨by
     have h := yg.set_ HM.out ((at_.toNat + i) / 8) (by rw [List.length_map]; exact hjl2) ((y ^^^ 2 ^ ((at_.toNat + i) % 8) : Nat) : Int)
     rw [zbC] at h
     rw [zb6 at_ ha0 i y hy8, hj8, ← hyl2]
     exact h⟩
    have HB2 : za (Below w.heap.size w (wr.setCell ⟨g, ((at_ + (i : Int)) / 8).toNat, none⟩ (.int .u8 (Go.bits .xor .u8 (y : Int) (2 ^ ((at_ + (i : Int)) % 8).toNat % 256)))).drew) := ⟨ZV (HB.out.setCell HGL.out _)⟩
    go_roundg (gk - 1)
    case measure => have := HI.out; omega
    case rel => exact ⟨_, i + 1, true, rfl, by go_num, ⟨by have := HI.out; omega⟩, ⟨HTn.out.step hbn hjl2⟩, ⟨(decide_eq_true ((Qv _ _).2 (.inl hbn))).symm⟩, HM2, HB2⟩
   ·have hb0 : (Go.bits .and .u32 (bits / 2 ^ i) 1 == 1) = false := beq_eq_false_iff_ne.mpr hbit
    have HBit := za.mk hbit
    clear hbit
    go_wp2
    have hx := HX.out
    have hbn : ¬ bits.toNat / 2 ^ i % 2 = 1 := by
     have := V8 bits hx.1 hx.2 i
     have := HBit.out
     omega
    have hiff : decide (bits.toNat % 2 ^ (i + 1) ≠ 0) = decide (bits.toNat % 2 ^ i ≠ 0) := by
     apply decide_eq_decide.2
     rw [Qv]
     exact ⟨fun h => h.resolve_left hbn, .inr⟩
    go_roundg (gk - 1)
    case measure => have := HI.out; omega
    case rel => exact ⟨l, i + 1, b, rfl, by go_num, ⟨by have := HI.out; omega⟩, ⟨HTn.out.skip hbn⟩, ⟨by rw [hiff]; exact HBb.out⟩, HM, HB⟩
  ·obtain ⟨U, hU⟩ : ∃ U, U = strOfNums (l.map fun (n : Nat) => (n : Int)) := ⟨_, rfl⟩
   have hbl : bl U = l := by
    rw [hU, X2 _ (by intro x hx; rw [List.mem_map] at hx; obtain ⟨n, hn, rfl⟩ := hx; have := HTn.out.lt n hn; omega), List.map_map]
    have e : (Int.toNat ∘ fun (n : Nat) => (n : Int)) = id := by funext n; rfl
    rw [e, List.map_id]
   have hUs : U.size = S.size := by rw [← z9, hbl, HTn.out.len]
   have hcs := yg.to_string (P := Tryz.prog) Tryz.underlying41 Tryz.underlying5 Tryz.underlying9 HM.out
   rw [← hU] at hcs
   have HS : Sat [] w wr [] [] := ⟨yX.of_below HB.out, by simp, .nil, by simp⟩
   have hg1 : b = true → Zc U fm0 7 := by
    intro hb
    have hne : bits.toNat % 2 ^ i ≠ 0 := of_decide_eq_true (HBb.out.symm.trans hb)
    have hlt : bits.toNat % 2 ^ i < 4294967296 := Nat.lt_of_le_of_lt (Nat.mod_le _ _) (by have := HX.out; omega)
    exact zcF (by omega) (VG t U at_.toNat (bits.toNat % 2 ^ i) hlt hne (by rw [hUs, HSS.out.2]) (by rw [hbl, HTn.out.val, HSS.out.1, YJ, qq, Xc]))
   obtain ⟨y, er, hg2⟩ := zbW (s := U) (by omega)
   have HG2 := za.mk hg2
   clear hg2 hbl hUs hU
   cases b with
   | true =>
    have HG := za.mk (hg1 rfl)
    clear hg1 HG2
    by_cases hi : i < 32
    all_goals
     go_wp2_with ((first | ((with_reducible refine gB rfl ?_); refine zC HS ?_) | ((with_reducible refine gA rfl ?_); refine zr HS ?_) | ((with_reducible refine gS rfl ?_); refine zt HS ?_) | (go_at_call 13; refine HS.got (F := fun cs => .tuple #[.agg cs.toArray, .int .i64 7]) (Zc.calls HG.out) ?_) | (go_at_call 14; with_reducible refine HS.go (refZ _) ?_)); clear HS; (try clear hc); intros; rename_i HS; have hc := HS.lk; simp only [Lk, LkC, Value.cells, List.toList_toArray, Nat.reduceAdd, Nat.zero_add, and_true, zf, zg, ze, zh, List.length_nil, fm0] at HS hc)
     go_ret
     exact ⟨rfl, HS.below⟩
   | false =>
    clear hg1
    by_cases hi : i < 32
    all_goals
     go_wp2_with ((first | ((with_reducible refine gB rfl ?_); refine zC HS ?_) | ((with_reducible refine gA rfl ?_); refine zr HS ?_) | ((with_reducible refine gS rfl ?_); refine zt HS ?_) | (go_at_call 13; refine HS.got (F := fun cs => .tuple #[.agg cs.toArray, .int .i64 er]) (Zc.calls HG2.out) ?_)); clear HS; (try clear hc); intros; rename_i HS; have hc := HS.lk; simp only [Lk, LkC, Value.cells, List.toList_toArray, Nat.reduceAdd, Nat.zero_add, and_true, zf, zg, ze, zh] at HS hc)
     go_ret
     exact ⟨rfl, HS.below⟩
open Go.RowKit Go.Proofs.YtepipnpfggnadaaGreatW.PrintWords Go.Proofs.YtepipnpfggnadaaGreatW.PrintLast Go.Proofs.YtepipnpfggnadaaGreatW.PrintMore
theorem Yp {α : Type} (f : α → Nat) (l : List α) : ∀ x ∈ l, f x ≤ (l.map f).sum := by
 induction l with
 | nil => simp
 | cons y l ih =>
  intro x hx
  rw [List.map_cons, List.sum_cons]
  rcases List.mem_cons.1 hx with rfl | hx
  ·omega
  ·have := ih x hx; omega
theorem jM {α : Type} (f : α → Nat) (c : Nat) (h : ∀ x, c ≤ f x) (l : List α) : c * l.length ≤ (l.map f).sum := by
 induction l with
 | nil => simp
 | cons y l ih =>
  have := h y
  rw [List.map_cons, List.sum_cons, List.length_cons, Nat.mul_succ]
  omega
theorem X8 {l : List Int} (h : (l.map fun _ => 1).sum ≤ 1048576) (hw : ∀ y ∈ l, (Lit.int .i64 y).wf = true) : j8 l :=
 ⟨by have := jM (fun _ : Int => 1) 1 (fun _ => Nat.le_refl _) l; omega, hw⟩
theorem FmB.of (a0 a1 a2 a3 a4 : Int) (l5 : List ByteArray) (l6 : List S52) (l7 : List S46) (l8 : List S86) (l9 : List S77) (g0 : (Lit.int .i64 a0).wf = true) (g1 : (Lit.int .i64 a1).wf = true) (g2 : (Lit.int .i64 a2).wf = true) (g3 : (Lit.int .i64 a3).wf = true) (g4 : (Lit.int .i64 a4).wf = true)
  (g5 : l5.length * 16 ≤ 140737488351232 ∧ l5.length ≤ 9223372036854775807 ∧ ∀ y2 ∈ l5, y2.size ≤ 140737488351232)
  (g6 : l6.length * 72 ≤ 140737488351232 ∧ l6.length ≤ 9223372036854775807 ∧ ∀ y2 ∈ l6, ((Lit.int .i64 y2.f0).wf = true ∧ (Lit.int .i64 y2.f1).wf = true ∧ y2.f2.size ≤ 140737488351232 ∧ (Lit.int .i64 y2.f3).wf = true ∧ (y2.f4.length * 8 ≤ 140737488351232 ∧ y2.f4.length ≤ 9223372036854775807 ∧ ∀ y3 ∈ y2.f4, (Lit.int .i64 y3).wf = true) ∧ (Lit.int .i64 y2.f5).wf = true))
  (g7 : l7.length * 64 ≤ 140737488351232 ∧ l7.length ≤ 9223372036854775807 ∧ ∀ y2 ∈ l7, ((Lit.int .i64 y2.f0).wf = true ∧ y2.f1.size ≤ 140737488351232 ∧ (y2.f2.length * 32 ≤ 140737488351232 ∧ y2.f2.length ≤ 9223372036854775807 ∧ ∀ y3 ∈ y2.f2, ((Lit.int .i64 y3.f0).wf = true ∧ (y3.f1.length * 8 ≤ 140737488351232 ∧ y3.f1.length ≤ 9223372036854775807 ∧ ∀ y4 ∈ y3.f1, (Lit.int .i64 y4).wf = true))) ∧ (Lit.int .i64 y2.f3).wf = true ∧ (Lit.int .i64 y2.f4).wf = true))
  (g8 : l8.length * 56 ≤ 140737488351232 ∧ l8.length ≤ 9223372036854775807 ∧ ∀ y2 ∈ l8, (y2.f0.size ≤ 140737488351232 ∧ ((Lit.int .i64 y2.f1.f0).wf = true ∧ (Lit.int .i64 y2.f1.f1).wf = true ∧ (y2.f1.f2.length * 8 ≤ 140737488351232 ∧ y2.f1.f2.length ≤ 9223372036854775807 ∧ ∀ y3 ∈ y2.f1.f2, (Lit.int .i64 y3).wf = true))))
  (g9 : l9.length * 16 ≤ 140737488351232 ∧ l9.length ≤ 9223372036854775807 ∧ ∀ y2 ∈ l9, ((Lit.int .i64 y2.f0).wf = true ∧ (Lit.int .i64 y2.f1).wf = true))
  (hM : (1 + (1 + (1 + (1 + (1 + (((l5.map fun y2 => (y2.size + 1)).sum + 1) + (((l6.map fun y2 => (1 + (1 + ((y2.f2.size + 1) + (1 + (((y2.f4.map fun y3 => 1).sum + 1) + 1)))))).sum + 1) + (((l7.map fun y2 => (1 + ((y2.f1.size + 1) + (((y2.f2.map fun y3 => (1 + ((y3.f1.map fun y4 => 1).sum + 1))).sum + 1) + (1 + 1))))).sum + 1) + (((l8.map fun y2 => ((y2.f0.size + 1) + (1 + (1 + ((y2.f1.f2.map fun y3 => 1).sum + 1))))).sum + 1) + ((l9.map fun y2 => (1 + 1)).sum + 1)))))))))) ≤ 1048576) : FmB ⟨a0, a1, a2, a3, a4, l5, l6, l7, l8, l9⟩ := by
 have b5 := jM (fun y2 : ByteArray => y2.size + 1) 1 (fun _ => by omega) l5
 have b6 := jM (fun y2 : S52 => (1 + (1 + ((y2.f2.size + 1) + (1 + (((y2.f4.map fun y3 => 1).sum + 1) + 1)))))) 1 (fun _ => by omega) l6
 have b7 := jM (fun y2 : S46 => (1 + ((y2.f1.size + 1) + (((y2.f2.map fun y3 => (1 + ((y3.f1.map fun y4 => 1).sum + 1))).sum + 1) + (1 + 1))))) 1 (fun _ => by omega) l7
 have b8 := jM (fun y2 : S86 => ((y2.f0.size + 1) + (1 + (1 + ((y2.f1.f2.map fun y3 => 1).sum + 1))))) 2 (fun _ => by omega) l8
 have b9 := jM (fun y2 : S77 => 1 + 1) 1 (fun _ => by omega) l9
 refine ⟨g0, g1, g2, g3, g4, ⟨by show l5.length ≤ _; omega, g5.2.2⟩, ⟨by show l6.length ≤ _; omega, fun y hy => ?_⟩, ⟨by show l7.length ≤ _; omega, fun y hy => ?_⟩, ⟨by show l8.length ≤ _; omega, fun y hy => ?_, fun y hy => ?_⟩, ⟨by show l9.length ≤ _; omega, g9.2.2⟩⟩
 ·have h := g6.2.2 y hy
  have m := Yp (fun y2 : S52 => (1 + (1 + ((y2.f2.size + 1) + (1 + (((y2.f4.map fun y3 => 1).sum + 1) + 1)))))) l6 y hy
  exact ⟨h.1, h.2.1, h.2.2.1, h.2.2.2.1, X8 (by omega) h.2.2.2.2.1.2.2, h.2.2.2.2.2⟩
 ·have h := g7.2.2 y hy
  have m := Yp (fun y2 : S46 => (1 + ((y2.f1.size + 1) + (((y2.f2.map fun y3 => (1 + ((y3.f1.map fun y4 => 1).sum + 1))).sum + 1) + (1 + 1))))) l7 y hy
  have b := jM (fun y3 : S108 => 1 + ((y3.f1.map fun y4 => 1).sum + 1)) 1 (fun _ => by omega) y.f2
  refine ⟨h.1, h.2.1, ⟨by omega, fun e he => ⟨(h.2.2.1.2.2 e he).1, X8 ?_ (h.2.2.1.2.2 e he).2.2.2⟩⟩, h.2.2.2.1, h.2.2.2.2⟩
  have m2 := Yp (fun y3 : S108 => 1 + ((y3.f1.map fun y4 => 1).sum + 1)) y.f2 e he
  omega
 ·have m := Yp (fun y2 : S86 => ((y2.f0.size + 1) + (1 + (1 + ((y2.f1.f2.map fun y3 => 1).sum + 1))))) l8 y hy
  omega
 ·have h := g8.2.2 y hy
  have m := Yp (fun y2 : S86 => ((y2.f0.size + 1) + (1 + (1 + ((y2.f1.f2.map fun y3 => 1).sum + 1))))) l8 y hy
  exact ⟨h.1, h.2.1, h.2.2.1, X8 (by omega) h.2.2.2.2.2⟩
theorem YK (a0 a1 a2 a3 a4 : Int) (A5 : Option Addr) (c5 : Nat) (l5 : List ByteArray) (A6 : Option Addr) (c6 : Nat) (l6 : List S52) (A7 : Option Addr) (c7 : Nat) (l7 : List S46) (A8 : Option Addr) (c8 : Nat) (l8 : List S86) (A9 : Option Addr) (c9 : Nat) (l9 : List S77) (at_ bits : Int) (W : World) (g0 : (Lit.int .i64 a0).wf = true) (g1 : (Lit.int .i64 a1).wf = true) (g2 : (Lit.int .i64 a2).wf = true) (g3 : (Lit.int .i64 a3).wf = true) (g4 : (Lit.int .i64 a4).wf = true)
  (g5 : l5.length * 16 ≤ 140737488351232 ∧ l5.length ≤ 9223372036854775807 ∧ ∀ y2 ∈ l5, y2.size ≤ 140737488351232)
  (g6 : l6.length * 72 ≤ 140737488351232 ∧ l6.length ≤ 9223372036854775807 ∧ ∀ y2 ∈ l6, ((Lit.int .i64 y2.f0).wf = true ∧ (Lit.int .i64 y2.f1).wf = true ∧ y2.f2.size ≤ 140737488351232 ∧ (Lit.int .i64 y2.f3).wf = true ∧ (y2.f4.length * 8 ≤ 140737488351232 ∧ y2.f4.length ≤ 9223372036854775807 ∧ ∀ y3 ∈ y2.f4, (Lit.int .i64 y3).wf = true) ∧ (Lit.int .i64 y2.f5).wf = true))
  (g7 : l7.length * 64 ≤ 140737488351232 ∧ l7.length ≤ 9223372036854775807 ∧ ∀ y2 ∈ l7, ((Lit.int .i64 y2.f0).wf = true ∧ y2.f1.size ≤ 140737488351232 ∧ (y2.f2.length * 32 ≤ 140737488351232 ∧ y2.f2.length ≤ 9223372036854775807 ∧ ∀ y3 ∈ y2.f2, ((Lit.int .i64 y3.f0).wf = true ∧ (y3.f1.length * 8 ≤ 140737488351232 ∧ y3.f1.length ≤ 9223372036854775807 ∧ ∀ y4 ∈ y3.f1, (Lit.int .i64 y4).wf = true))) ∧ (Lit.int .i64 y2.f3).wf = true ∧ (Lit.int .i64 y2.f4).wf = true))
  (g8 : l8.length * 56 ≤ 140737488351232 ∧ l8.length ≤ 9223372036854775807 ∧ ∀ y2 ∈ l8, (y2.f0.size ≤ 140737488351232 ∧ ((Lit.int .i64 y2.f1.f0).wf = true ∧ (Lit.int .i64 y2.f1.f1).wf = true ∧ (y2.f1.f2.length * 8 ≤ 140737488351232 ∧ y2.f1.f2.length ≤ 9223372036854775807 ∧ ∀ y3 ∈ y2.f1.f2, (Lit.int .i64 y3).wf = true))))
  (g9 : l9.length * 16 ≤ 140737488351232 ∧ l9.length ≤ 9223372036854775807 ∧ ∀ y2 ∈ l9, ((Lit.int .i64 y2.f0).wf = true ∧ (Lit.int .i64 y2.f1).wf = true))
  (w1 : (Lit.int .i64 at_).wf = true) (w2 : (Lit.int .u32 bits).wf = true) (hC5 : Kd.C Kd.string W A5 l5.length l5) (hl5 : l5.length ≤ c5) (hC6 : Kd.C k52 W A6 l6.length l6) (hl6 : l6.length ≤ c6) (hC7 : Kd.C k46 W A7 l7.length l7) (hl7 : l7.length ≤ c7) (hC8 : Kd.C k86 W A8 l8.length l8) (hl8 : l8.length ≤ c8) (hC9 : Kd.C k77 W A9 l9.length l9) (hl9 : l9.length ≤ c9)
  (hM : (1 + (1 + (1 + (1 + (1 + (((l5.map fun y2 => (y2.size + 1)).sum + 1) + (((l6.map fun y2 => (1 + (1 + ((y2.f2.size + 1) + (1 + (((y2.f4.map fun y3 => 1).sum + 1) + 1)))))).sum + 1) + (((l7.map fun y2 => (1 + ((y2.f1.size + 1) + (((y2.f2.map fun y3 => (1 + ((y3.f1.map fun y4 => 1).sum + 1))).sum + 1) + (1 + 1))))).sum + 1) + (((l8.map fun y2 => ((y2.f0.size + 1) + (1 + (1 + ((y2.f1.f2.map fun y3 => 1).sum + 1))))).sum + 1) + ((l9.map fun y2 => (1 + 1)).sum + 1)))))))))) ≤ 1048576) :
  Calls Tryz.prog 6 #[.agg #[.int .i64 a0, .int .i64 a1, .int .i64 a2, .int .i64 a3, .int .i64 a4, .slice A5 l5.length c5, .slice A6 l6.length c6, .slice A7 l7.length c7, .slice A8 l8.length c8, .slice A9 l9.length c9], .int .i64 at_, .int .u32 bits] W fun e w' => e = .returned (.bool true) ∧ Below W.heap.size W w' := by
 have m1 : IntKind.i64.min = -9223372036854775808 := rfl
 have m2 : IntKind.i64.max = 9223372036854775807 := rfl
 have m3 : IntKind.u32.min = 0 := rfl
 have m4 : IntKind.u32.max = 4294967295 := rfl
 simp only [Lit.wf, Bool.and_eq_true, decide_eq_true_eq] at w1 w2
 exact JD (x := ⟨a0, a1, a2, a3, a4, l5, l6, l7, l8, l9⟩) ⟨_, _, _, _, _, rfl, ⟨A5, c5, rfl, hl5, hC5⟩, ⟨A6, c6, rfl, hl6, hC6⟩, ⟨A7, c7, rfl, hl7, hC7⟩, ⟨A8, c8, rfl, hl8, hC8⟩, ⟨A9, c9, rfl, hl9, hC9⟩⟩ (FmB.of a0 a1 a2 a3 a4 l5 l6 l7 l8 l9 g0 g1 g2 g3 g4 g5 g6 g7 g8 g9 hM) (by omega) (by omega) (by omega) (by omega)
section
variable {H : Type} (enc : TypeId × Value → H) (P : Program) (W : World)
def qH {α : Type} (t : TypeId) (d : Kd α) (G : α → Prop) : Prop :=
 P.cellsOf t = d.sz ∧ ∀ (fuel : Nat) (cs : List Value) (x : DataW H × List MemPlace), DataW.trod enc P W 0 (fun _ => true) true fuel t cs = some x → (∀ n ∈ x.1.weights P t, n ≤ reachBytes) → ∃ y, d.K W y cs ∧ G y
def jz {α : Type} (ts : List TypeId) (d : Kd α) (G : α → Prop) : Prop :=
 (ts.map P.cellsOf).sum = d.sz ∧ ∀ (fuel : Nat) (cs : List Value) (xs : List (DataW H × List MemPlace)), cs.length = (ts.map P.cellsOf).sum → xs.length = ts.length →
  (∀ i t, ts[i]? = some t → DataW.trod enc P W 0 (fun _ => true) true fuel t ((cs.drop ((ts.take i).map P.cellsOf).sum).take (P.cellsOf t)) = xs[i]?) →
  (∀ n ∈ DataW.weightsEach P ts (xs.map (·.1)), n ≤ reachBytes) → ∃ y, d.K W y cs ∧ G y
variable {enc P W}
theorem qH.int {t : TypeId} {k : IntKind} (ht : P.underlying t = some (.int k)) (hc : P.cellsOf t = 1) : qH enc P W t (Kd.int k) (fun n => (Lit.int k n).wf = true) := by
 refine ⟨hc, fun fuel cs x h _ => ?_⟩
 obtain ⟨n, rfl, _, hw⟩ := DataW.trod_int ht h
 exact ⟨n, rfl, hw⟩
theorem qH.bool {t : TypeId} (ht : P.underlying t = some .bool) (hc : P.cellsOf t = 1) : qH enc P W t Kd.bool (fun _ => True) := by
 refine ⟨hc, fun fuel cs x h _ => ?_⟩
 cases fuel with
 | zero => simp [DataW.trod] at h
 | succ n =>
  unfold DataW.trod at h
  rw [ht] at h
  split at h <;> first | exact ⟨_, rfl, trivial⟩ | simp_all
theorem qH.string {t : TypeId} (ht : P.underlying t = some .string) (hc : P.cellsOf t = 1) : qH enc P W t Kd.string (fun s => s.size ≤ 140737488351232) := by
 refine ⟨hc, fun fuel cs x h hw => ?_⟩
 obtain ⟨s, rfl, rfl, _⟩ := DataW.trod_string ht h
 refine ⟨s, rfl, ?_⟩
 have := hw s.data.toList.length (by simp [DataW.weights])
 simpa [reachBytes, Array.length_toList] using this
theorem YP {e : TypeId} {ds : List (DataW H)} {d : DataW H} (h : d ∈ ds) : ∀ n ∈ d.weights P e, n ∈ DataW.weightsAll P e ds := by
 induction ds with
 | nil => cases h
 | cons d' ds ih =>
  intro n hn
  rw [DataW.weightsAll, List.mem_append]
  rcases List.mem_cons.1 h with rfl | h
  ·exact .inl hn
  ·exact .inr (ih h n hn)
open Classical in
theorem YM {α : Type} (z : α) (R : Nat → α → Prop) (n : Nat) (h : ∀ i, i < n → ∃ y, R i y) : ∃ l : List α, l.length = n ∧ ∀ i (hi : i < n) (hl : i < l.length), R i l[i] := by
 refine ⟨(List.range n).map fun i => if h' : ∃ y, R i y then Classical.choose h' else z, by simp, fun i hi hl => ?_⟩
 have he := h i hi
 simp only [List.getElem_map, List.getElem_range, dif_pos he]
 exact Classical.choose_spec he
theorem qH.slice {α : Type} (z : α) {t e : TypeId} {d : Kd α} {G : α → Prop} (bytes : Nat) (ht : P.underlying t = some (.slice e)) (hc : P.cellsOf t = 1) (hb : P.bytesOf e = bytes) (h : qH enc P W e d G) :
  qH enc P W t (Kd.slice e d) (fun xs => xs.length * bytes ≤ 140737488351232 ∧ xs.length ≤ 9223372036854775807 ∧ ∀ x ∈ xs, G x) := by
 refine ⟨hc, fun fuel cs x hx hw => ?_⟩
 rcases Go.Deep.open_slice ht hx with ⟨rfl, rfl⟩ | ⟨a, len, cap, m, n, D, Pl, rfl, _, hlc, hcm, hm, rfl, hel⟩
 ·exact ⟨[], ⟨none, 0, rfl, Nat.le_refl _, Kd.C_nil d W⟩, by simp, by simp, fun x hx => by cases hx⟩
 ·have hlm : len ≤ m := by rw [hm]; split <;> omega
  have hwt : DataW.weights P t (.slice ((List.range len).map D) ((List.range (m - len)).map fun j => D (len + j))) =
    (((List.range len).map D).length + ((List.range (m - len)).map fun j => D (len + j)).length) * P.bytesOf e :: (DataW.weightsAll P e ((List.range len).map D) ++ DataW.weightsAll P e ((List.range (m - len)).map fun j => D (len + j))) := by
   rw [DataW.weights]
   simp only [ht]
  have hel' : ∀ i, i < len → ∃ y, (∃ cs', W.cells? 0 (a.add (i * P.cellsOf e)) (P.cellsOf e) = some cs' ∧ d.K W y cs') ∧ G y := by
   intro i hi
   obtain ⟨cs', h1, h2⟩ := hel i (by omega)
   obtain ⟨y, hy, hg⟩ := h.2 n cs' _ h2 (fun n hn => hw n (by
    rw [hwt]
    exact List.mem_cons_of_mem _ (List.mem_append_left _ (YP (List.mem_map.2 ⟨i, List.mem_range.2 hi, rfl⟩) n hn))))
   exact ⟨y, ⟨cs', h1, hy⟩, hg⟩
  obtain ⟨l, hll, hl⟩ := YM z _ len hel'
  have hb1 := hw _ (by rw [hwt]; exact List.mem_cons_self)
  have hle : len * bytes ≤ 140737488351232 := by
   simp only [List.length_map, List.length_range, hb, reachBytes] at hb1
   exact Nat.le_trans (Nat.mul_le_mul_right _ (by omega)) hb1
  have hmx : len ≤ 9223372036854775807 := by
   simp only [maxLen] at hcm
   omega
  refine ⟨l, ⟨some a, cap, by rw [hll], by omega, by rw [hll], by omega, fun _ => ⟨a, rfl, fun j p hj => ?_⟩⟩, by rw [hll]; exact hle, by omega, fun x hx => ?_⟩
  ·obtain ⟨hjl, rfl⟩ := List.getElem?_eq_some_iff.1 hj
   obtain ⟨⟨cs', h1, hK⟩, _⟩ := hl j (by omega) hjl
   obtain ⟨_, hcl, hcell⟩ := World.cells?_some h1
   refine ⟨cs', by rw [hcl, h.1], hK, fun i u hu => ?_⟩
   have hi : i < P.cellsOf e := by
    have := (List.getElem?_eq_some_iff.1 hu).1
    omega
   have := hcell i hi
   rw [hu, JQ, h.1] at this
   exact this
  ·obtain ⟨j, hj, rfl⟩ := List.getElem_of_mem hx
   exact (hl j (by omega) hj).2
theorem jz.one {α : Type} {t : TypeId} {d : Kd α} {G : α → Prop} (h : qH enc P W t d G) : jz enc P W [t] d G := by
 refine ⟨by simp [h.1], fun fuel cs xs hl hx hr hw => ?_⟩
 have hr0 := hr 0 t rfl
 simp only [List.take_zero, List.map_nil, List.sum_nil, List.drop_zero] at hr0
 have hc : cs.length = P.cellsOf t := by simpa using hl
 rw [List.take_of_length_le (by omega)] at hr0
 match xs, hx with
 | [x], _ =>
  exact h.2 fuel cs x hr0 (fun n hn => hw n (by simp [DataW.weightsEach, hn]))
theorem jz.cons {α β : Type} {t : TypeId} {ts : List TypeId} {d : Kd α} {d' : Kd β} {G : α → Prop} {G' : β → Prop} (h : qH enc P W t d G) (h' : jz enc P W ts d' G') :
  jz enc P W (t :: ts) (Kd.pair d d') (fun y => G y.1 ∧ G' y.2) := by
 refine ⟨by simp [Kd.pair, h.1, h'.1], fun fuel cs xs hl hx hr hw => ?_⟩
 match xs, hx with
 | x :: xs, hx =>
  have hr0 := hr 0 t rfl
  simp only [List.take_zero, List.map_nil, List.sum_nil, List.drop_zero] at hr0
  obtain ⟨y, hy, hg⟩ := h.2 fuel _ x hr0 (fun n hn => hw n (by simp [DataW.weightsEach, hn]))
  have hl2 : (cs.drop (P.cellsOf t)).length = (ts.map P.cellsOf).sum := by
   rw [List.length_drop, hl, List.map_cons, List.sum_cons]
   omega
  obtain ⟨y', hy', hg'⟩ := h'.2 fuel (cs.drop (P.cellsOf t)) xs hl2 (by simpa using hx) (fun i t' ht' => by
   have := hr (i + 1) t' (by simpa using ht')
   simp only [List.take_succ_cons, List.map_cons, List.sum_cons, List.getElem?_cons_succ] at this
   rw [List.drop_drop]
   exact this) (fun n hn => hw n (by simp only [List.map_cons, DataW.weightsEach, List.mem_append]; exact .inr hn))
  exact ⟨(y, y'), ⟨_, _, (List.take_append_drop (P.cellsOf t) cs).symm, hy, hy'⟩, hg, hg'⟩
theorem qH.struct {α β : Type} {t : TypeId} {fs : Array Field} (ts : List TypeId) {d : Kd α} {G : α → Prop} (f : β → α) (g : α → β) (hfg : ∀ a, f (g a) = a) (ht : P.underlying t = some (.struct fs)) (hts : fs.toList.map (·.type) = ts)
  (hoff0 : fs.toList.map (·.offset) = (List.range fs.size).map fun i => ((ts.take i).map P.cellsOf).sum) (hc : P.cellsOf t = (ts.map P.cellsOf).sum) (h : jz enc P W ts d G) : qH enc P W t (Kd.iso d f) (fun y => G (f y)) := by
 have hoff : ∀ i fd, fs[i]? = some fd → fd.offset = ((ts.take i).map P.cellsOf).sum := by
  intro i fd hi
  have h1 : (fs.toList.map (·.offset))[i]? = some fd.offset := by rw [List.getElem?_map, Array.getElem?_toList, hi]; rfl
  have hlt : i < fs.size := (Array.getElem?_eq_some_iff.1 hi).1
  rw [hoff0, List.getElem?_map, List.getElem?_range hlt] at h1
  simpa using h1.symm
 refine ⟨hc.trans h.1, fun fuel cs x hx hw => ?_⟩
 obtain ⟨xs, n, rfl, rfl, hcl, hxl, hfd⟩ := DataW.trod_struct ht hx
 have hwt : DataW.weights P t (.agg (xs.map (·.1)) : DataW H) = DataW.weightsEach P ts (xs.map (·.1)) := by
  rw [DataW.weights]
  simp only [ht, hts]
 obtain ⟨y, hy, hg⟩ := h.2 n cs xs (hcl.trans hc) (by rw [hxl, ← hts]; simp) (fun i t' ht' => by
  rw [← hts, List.getElem?_map, Option.map_eq_some_iff] at ht'
  obtain ⟨fd, hfi, rfl⟩ := ht'
  rw [Array.getElem?_toList] at hfi
  rw [← hoff i fd hfi]
  exact hfd i fd hfi) (fun n hn => hw n (by rw [hwt]; exact hn))
 exact ⟨g y, by show d.K W (f (g y)) cs; rw [hfg]; exact hy, by show G (f (g y)); rw [hfg]; exact hg⟩
theorem QY {ts : List TypeId} : ∀ {ds : List (DataW H)} {j : Nat} {t : TypeId} {d : DataW H}, ts[j]? = some t → ds[j]? = some d → ∀ n ∈ d.weights P t, n ∈ DataW.weightsEach P ts ds := by
 induction ts with
 | nil => intro ds j t d h; simp at h
 | cons t' ts ih =>
  intro ds j t d h h' n hn
  cases ds with
  | nil => simp at h'
  | cons d' ds =>
   rw [DataW.weightsEach, List.mem_append]
   cases j with
   | zero =>
    simp only [List.getElem?_cons_zero, Option.some.injEq] at h h'
    subst h h'
    exact .inl hn
   | succ j => exact .inr (ih (by simpa using h) (by simpa using h') n hn)
end
theorem zbh {H : Type} {α : Type} (m : α → Nat) (D : Nat → DataW H) (l : List α) (n : Nat) (hl : l.length = n) (h : ∀ i (hi : i < n) (hl' : i < l.length), m l[i] ≤ Rows.uptoBulk (D i)) : (l.map m).sum ≤ Rows.uptoBulkAll ((List.range n).map D) := by
 subst hl
 induction l generalizing D with
 | nil => exact Nat.zero_le _
 | cons x l ih =>
  rw [List.length_cons, List.range_succ_eq_map, List.map_cons, List.map_cons, List.map_map, List.sum_cons, Rows.uptoBulkAll]
  exact Nat.add_le_add (h 0 (by simp) (by simp)) (ih (D ∘ Nat.succ) (fun i hi hl' => h (i + 1) (by simpa using hi) (by simpa using hl')))
section
variable {H : Type} (enc : TypeId × Value → H) (P : Program) (W : World)
def zT {α : Type} (t : TypeId) (d : Kd α) (G : α → Prop) (m : α → Nat) : Prop :=
 P.cellsOf t = d.sz ∧ ∀ (fuel : Nat) (cs : List Value) (x : DataW H × List MemPlace), DataW.trod enc P W 0 (fun _ => true) true fuel t cs = some x → (∀ n ∈ x.1.weights P t, n ≤ reachBytes) → ∃ y, d.K W y cs ∧ G y ∧ m y ≤ Rows.uptoBulk x.1
def zZ {α : Type} (ts : List TypeId) (d : Kd α) (G : α → Prop) (m : α → Nat) : Prop :=
 (ts.map P.cellsOf).sum = d.sz ∧ ∀ (fuel : Nat) (cs : List Value) (xs : List (DataW H × List MemPlace)), cs.length = (ts.map P.cellsOf).sum → xs.length = ts.length →
  (∀ i t, ts[i]? = some t → DataW.trod enc P W 0 (fun _ => true) true fuel t ((cs.drop ((ts.take i).map P.cellsOf).sum).take (P.cellsOf t)) = xs[i]?) →
  (∀ n ∈ DataW.weightsEach P ts (xs.map (·.1)), n ≤ reachBytes) → ∃ y, d.K W y cs ∧ G y ∧ m y ≤ Rows.uptoBulkAll (xs.map (·.1))
variable {enc P W}
theorem zT.int {t : TypeId} {k : IntKind} (ht : P.underlying t = some (.int k)) (hc : P.cellsOf t = 1) : zT enc P W t (Kd.int k) (fun n => (Lit.int k n).wf = true) (fun _ => 1) := by
 refine ⟨hc, fun fuel cs x h _ => ?_⟩
 obtain ⟨n, rfl, rfl, hw⟩ := DataW.trod_int ht h
 exact ⟨n, rfl, hw, Nat.le_refl _⟩
theorem zT.bool {t : TypeId} (ht : P.underlying t = some .bool) (hc : P.cellsOf t = 1) : zT enc P W t Kd.bool (fun _ => True) (fun _ => 0) := by
 refine ⟨hc, fun fuel cs x h _ => ?_⟩
 cases fuel with
 | zero => simp [DataW.trod] at h
 | succ n =>
  unfold DataW.trod at h
  rw [ht] at h
  split at h <;> first | exact ⟨_, rfl, trivial, Nat.zero_le _⟩ | simp_all
theorem zT.string {t : TypeId} (ht : P.underlying t = some .string) (hc : P.cellsOf t = 1) : zT enc P W t Kd.string (fun s => s.size ≤ 140737488351232) (fun s => s.size + 1) := by
 refine ⟨hc, fun fuel cs x h hw => ?_⟩
 obtain ⟨s, rfl, rfl, _⟩ := DataW.trod_string ht h
 refine ⟨s, rfl, ?_, ?_⟩
 ·have := hw s.data.toList.length (by simp [DataW.weights])
  simpa [reachBytes, Array.length_toList] using this
 ·show s.size + 1 ≤ s.data.toList.length + 1
  rw [Array.length_toList]
  exact Nat.le_refl _
theorem zT.slice {α : Type} (z : α) {t e : TypeId} {d : Kd α} {G : α → Prop} {m : α → Nat} (bytes : Nat) (ht : P.underlying t = some (.slice e)) (hc : P.cellsOf t = 1) (hb : P.bytesOf e = bytes) (h : zT enc P W e d G m) :
  zT enc P W t (Kd.slice e d) (fun xs => xs.length * bytes ≤ 140737488351232 ∧ xs.length ≤ 9223372036854775807 ∧ ∀ x ∈ xs, G x) (fun xs => (xs.map m).sum + 1) := by
 refine ⟨hc, fun fuel cs x hx hw => ?_⟩
 rcases Go.Deep.open_slice ht hx with ⟨rfl, rfl⟩ | ⟨a, len, cap, mm, n, D, Pl, rfl, _, hlc, hcm, hm, rfl, hel⟩
 ·exact ⟨[], ⟨none, 0, rfl, Nat.le_refl _, Kd.C_nil d W⟩, ⟨by simp, by simp, fun x hx => by cases hx⟩, by simp [Rows.uptoBulk]⟩
 ·have hlm : len ≤ mm := by rw [hm]; split <;> omega
  have hwt : DataW.weights P t (.slice ((List.range len).map D) ((List.range (mm - len)).map fun j => D (len + j))) =
    (((List.range len).map D).length + ((List.range (mm - len)).map fun j => D (len + j)).length) * P.bytesOf e :: (DataW.weightsAll P e ((List.range len).map D) ++ DataW.weightsAll P e ((List.range (mm - len)).map fun j => D (len + j))) := by
   rw [DataW.weights]
   simp only [ht]
  have hel' : ∀ i, i < len → ∃ y, (∃ cs', W.cells? 0 (a.add (i * P.cellsOf e)) (P.cellsOf e) = some cs' ∧ d.K W y cs') ∧ G y ∧ m y ≤ Rows.uptoBulk (D i) := by
   intro i hi
   obtain ⟨cs', h1, h2⟩ := hel i (by omega)
   obtain ⟨y, hy, hg, hmm⟩ := h.2 n cs' _ h2 (fun n hn => hw n (by
    rw [hwt]
    exact List.mem_cons_of_mem _ (List.mem_append_left _ (YP (List.mem_map.2 ⟨i, List.mem_range.2 hi, rfl⟩) n hn))))
   exact ⟨y, ⟨cs', h1, hy⟩, hg, hmm⟩
  obtain ⟨l, hll, hl⟩ := YM z _ len hel'
  have hb1 := hw _ (by rw [hwt]; exact List.mem_cons_self)
  have hle : len * bytes ≤ 140737488351232 := by
   simp only [List.length_map, List.length_range, hb, reachBytes] at hb1
   exact Nat.le_trans (Nat.mul_le_mul_right _ (by omega)) hb1
  have hmx : len ≤ 9223372036854775807 := by
   simp only [maxLen] at hcm
   omega
  refine ⟨l, ⟨some a, cap, by rw [hll], by omega, by rw [hll], by omega, fun _ => ⟨a, rfl, fun j p hj => ?_⟩⟩, ⟨by rw [hll]; exact hle, by omega, fun x hx => ?_⟩, ?_⟩
  ·obtain ⟨hjl, rfl⟩ := List.getElem?_eq_some_iff.1 hj
   obtain ⟨⟨cs', h1, hK⟩, _, _⟩ := hl j (by omega) hjl
   obtain ⟨_, hcl, hcell⟩ := World.cells?_some h1
   refine ⟨cs', by rw [hcl, h.1], hK, fun i u hu => ?_⟩
   have hi : i < P.cellsOf e := by
    have := (List.getElem?_eq_some_iff.1 hu).1
    omega
   have := hcell i hi
   rw [hu, JQ, h.1] at this
   exact this
  ·obtain ⟨j, hj, rfl⟩ := List.getElem_of_mem hx
   exact (hl j (by omega) hj).2.1
  ·have hsum : (l.map m).sum ≤ Rows.uptoBulkAll ((List.range len).map D) := zbh m D l len hll (fun i hi hl' => (hl i hi hl').2.2)
   show (l.map m).sum + 1 ≤ Rows.uptoBulkAll _ + Rows.uptoBulkAll _ + 1
   omega
theorem zZ.one {α : Type} {t : TypeId} {d : Kd α} {G : α → Prop} {m : α → Nat} (h : zT enc P W t d G m) : zZ enc P W [t] d G m := by
 refine ⟨by simp [h.1], fun fuel cs xs hl hx hr hw => ?_⟩
 have hr0 := hr 0 t rfl
 simp only [List.take_zero, List.map_nil, List.sum_nil, List.drop_zero] at hr0
 have hc : cs.length = P.cellsOf t := by simpa using hl
 rw [List.take_of_length_le (by omega)] at hr0
 match xs, hx with
 | [x], _ =>
  obtain ⟨y, hy, hg, hmm⟩ := h.2 fuel cs x hr0 (fun n hn => hw n (by simp [DataW.weightsEach, hn]))
  exact ⟨y, hy, hg, by simpa [Rows.uptoBulkAll] using hmm⟩
theorem zZ.cons {α β : Type} {t : TypeId} {ts : List TypeId} {d : Kd α} {d' : Kd β} {G : α → Prop} {G' : β → Prop} {m : α → Nat} {m' : β → Nat} (h : zT enc P W t d G m) (h' : zZ enc P W ts d' G' m') :
  zZ enc P W (t :: ts) (Kd.pair d d') (fun y => G y.1 ∧ G' y.2) (fun y => m y.1 + m' y.2) := by
 refine ⟨by simp [Kd.pair, h.1, h'.1], fun fuel cs xs hl hx hr hw => ?_⟩
 match xs, hx with
 | x :: xs, hx =>
  have hr0 := hr 0 t rfl
  simp only [List.take_zero, List.map_nil, List.sum_nil, List.drop_zero] at hr0
  obtain ⟨y, hy, hg, hm1⟩ := h.2 fuel _ x hr0 (fun n hn => hw n (by simp [DataW.weightsEach, hn]))
  have hl2 : (cs.drop (P.cellsOf t)).length = (ts.map P.cellsOf).sum := by
   rw [List.length_drop, hl, List.map_cons, List.sum_cons]
   omega
  obtain ⟨y', hy', hg', hm2⟩ := h'.2 fuel (cs.drop (P.cellsOf t)) xs hl2 (by simpa using hx) (fun i t' ht' => by
   have := hr (i + 1) t' (by simpa using ht')
   simp only [List.take_succ_cons, List.map_cons, List.sum_cons, List.getElem?_cons_succ] at this
   rw [List.drop_drop]
   exact this) (fun n hn => hw n (by simp only [List.map_cons, DataW.weightsEach, List.mem_append]; exact .inr hn))
  exact ⟨(y, y'), ⟨_, _, (List.take_append_drop (P.cellsOf t) cs).symm, hy, hy'⟩, ⟨hg, hg'⟩, Nat.add_le_add hm1 hm2⟩
theorem zT.struct {α β : Type} {t : TypeId} {fs : Array Field} (ts : List TypeId) {d : Kd α} {G : α → Prop} {m : α → Nat} (f : β → α) (g : α → β) (hfg : ∀ a, f (g a) = a) (ht : P.underlying t = some (.struct fs)) (hts : fs.toList.map (·.type) = ts)
  (hoff0 : fs.toList.map (·.offset) = (List.range fs.size).map fun i => ((ts.take i).map P.cellsOf).sum) (hc : P.cellsOf t = (ts.map P.cellsOf).sum) (h : zZ enc P W ts d G m) : zT enc P W t (Kd.iso d f) (fun y => G (f y)) (fun y => m (f y)) := by
 have hoff : ∀ i fd, fs[i]? = some fd → fd.offset = ((ts.take i).map P.cellsOf).sum := by
  intro i fd hi
  have h1 : (fs.toList.map (·.offset))[i]? = some fd.offset := by rw [List.getElem?_map, Array.getElem?_toList, hi]; rfl
  have hlt : i < fs.size := (Array.getElem?_eq_some_iff.1 hi).1
  rw [hoff0, List.getElem?_map, List.getElem?_range hlt] at h1
  simpa using h1.symm
 refine ⟨hc.trans h.1, fun fuel cs x hx hw => ?_⟩
 obtain ⟨xs, n, rfl, rfl, hcl, hxl, hfd⟩ := DataW.trod_struct ht hx
 have hwt : DataW.weights P t (.agg (xs.map (·.1)) : DataW H) = DataW.weightsEach P ts (xs.map (·.1)) := by
  rw [DataW.weights]
  simp only [ht, hts]
 obtain ⟨y, hy, hg, hmm⟩ := h.2 n cs xs (hcl.trans hc) (by rw [hxl, ← hts]; simp) (fun i t' ht' => by
  rw [← hts, List.getElem?_map, Option.map_eq_some_iff] at ht'
  obtain ⟨fd, hfi, rfl⟩ := ht'
  rw [Array.getElem?_toList] at hfi
  rw [← hoff i fd hfi]
  exact hfd i fd hfi) (fun n hn => hw n (by rw [hwt]; exact hn))
 exact ⟨g y, by show d.K W (f (g y)) cs; rw [hfg]; exact hy, by show G (f (g y)); rw [hfg]; exact hg, by show m (f (g y)) ≤ Rows.uptoBulkAll _ + 1; rw [hfg]; omega⟩
end
end Go.Proofs.YtepipnpfggnadaaGreat.Q
