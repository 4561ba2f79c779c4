/- Texts of this session laid together (merge.py): YtclmhodgfhkgcaaNKeep, YtclmhodgfhkgcaaNCutA, YtclmhodgfhkgcaaRT, YtclmhodgfhkgcaaNRef, YtclmhodgfhkgcaaNRefS, YtclmhodgfhkgcaaNRefT, YtclmhodgfhkgcaaNDuo, YtclmhodgfhkgcaaNDoA. -/
import Derived.Test.YtclmhodgfhkgcaaTNetCutsc
/- The contracts of the net's keep and of the closure that Cut hands it. -/
namespace Go.Proofs.Ytclmhodgfhkgcaa.Q
open Go.RowKit Go.Proofs.YtclmhodgfhkgcaaW.PrintWords Go.Proofs.YtclmhodgfhkgcaaW.PrintLast Go.Proofs.YtclmhodgfhkgcaaW.PrintMore
set_option linter.unusedVariables false
set_option linter.unusedSimpArgs false

theorem eqAL (d : Nat) (w : World) (x0 y0 : Int) (x1 y1 : Int) : (Op.equalIn (d + 2) 60 (KL x0 x1) (KL y0 y1)).run Try.prog w = .ok (x0 == y0 && (x1 == y1)) w := by
  refine eqA_of Try.underlying60 (by kernel_rfl) ?_
  refine eqf_cons (by rfl) (by go_simp; rfl) (by go_simp; rfl) (by go_simp) ?_
  exact eqf_last (by rfl) (by go_simp; rfl) (by go_simp; rfl) (by go_simp)
attribute [local go_sem high] eqAL
/-- Is a message meant, of a link? -/
def meantB (mn mx : Int) (m : Msg) : Bool := min m.f0 m.f1 == mn && (max m.f0 m.f1 == mx)
set_option maxHeartbeats 2000000 in
theorem meant_calls (ok : Nat → Prop) (b c n : Nat) (X : Nt) (p q : Nat) (mn mx : Int) (m : Msg) (w : World) (hT : NetAt ok w b c n X) (hp : w.heap[p]? = some (.cells #[.pointer (some ⟨b, 0, none⟩)] 23 (0, 0))) (hq : w.heap[q]? = some (.cells #[.int .i64 mn, .int .i64 mx] 60 (0, 0))) :
    Calls Try.prog 34 #[MsgV m, .pointer (some ⟨p, 0, none⟩), .pointer (some ⟨q, 0, none⟩)] w fun e w' => e = .returned (.bool (meantB mn mx m)) ∧ Chg (fun _ => False) w w' := by
  have HT := Aside0.mk hT
  have HP := Aside0.mk hp
  have HQ := Aside0.mk hq
  have HB := Aside0.mk (fun w0 h => between_calls ok b c n X m.f0 m.f1 w0 h)
  obtain ⟨x, hx⟩ : ∃ x, decide (Two X m.f0 m.f1) = x := ⟨_, rfl⟩
  rw [hx] at HB
  obtain ⟨r, hr⟩ : ∃ r, meantB mn mx m = r := ⟨_, rfl⟩
  rw [hr]
  unfold meantB at hr
  have HR := Aside0.mk hr
  clear hr hx hT
  generalize min m.f0 m.f1 = un at *
  generalize max m.f0 m.f1 = ux at *
  obtain ⟨d0, -⟩ := box1 hp
  obtain ⟨k0, k1, -, -⟩ := box2 hq
  have hpl := blk_lt hp
  have hql := blk_lt hq
  clear hp hq
  go_enter Try.func34, Try.ntmps34
  go_wp2_with (first
    | (go_at_call 25; refine (HB.out _ (HT.out.ofBelow ((Chg.refl _ _).alloc _))).mono ?_; rintro e w1 ⟨rfl, hc⟩; have HC := Aside0.mk (((Chg.refl (fun _ => False) w).alloc _).trans hc); clear hc; clear k0 k1 d0; have hq1 := chg_blk HC.out (fun h => h) HQ.out; obtain ⟨k0, k1, -, -⟩ := box2 hq1; have hql1 := blk_lt hq1; clear hq1))
  go_ret
  exact ⟨ret_bool HR.out, HC.out.alloc _⟩
def keepX (X : Nt) (mn mx : Int) : Nt := { X with l := X.l.filter (fun m => !meantB mn mx m), lost := X.lost + (X.l.filter (meantB mn mx)).length }
theorem filter_take {f : Msg → Bool} {l : List Msg} {i : Nat} (hi : i < l.length) : (l.take (i + 1)).filter f = if f l[i] then (l.take i).filter f ++ [l[i]] else (l.take i).filter f := by
  rw [List.take_succ_eq_append_getElem hi, List.filter_append]
  by_cases h : f l[i] = true
  · rw [if_pos h]
    simp [List.filter_cons, h]
  · rw [if_neg h]
    simp [List.filter_cons, h]
def kLost (l : List Msg) (mn mx : Int) (i : Nat) : Int := ((l.take i).filter (meantB mn mx)).length
theorem kLost_le (l : List Msg) (mn mx : Int) (i : Nat) : 0 ≤ kLost l mn mx i ∧ kLost l mn mx i ≤ i := by
  unfold kLost
  have h1 := List.length_filter_le (meantB mn mx) (l.take i)
  have h2 := List.length_take_le i l
  omega
theorem kLost_succ {l : List Msg} {mn mx : Int} {i : Nat} (hi : i < l.length) : kLost l mn mx (i + 1) = kLost l mn mx i + if meantB mn mx l[i] then 1 else 0 := by
  unfold kLost
  rw [filter_take hi]
  split
  · simp
  · simp
structure KeepAt (ok : Nat → Prop) (w wr : World) (b c n : Nat) (X : Nt) (z : Int) (v : Value) (s : List Msg) : Prop where
  net : NetAt (fun k => ok k ∧ k < w.heap.size) wr b c n { X with lost := X.lost + z }
  row : Kd.R kM 30 wr w.heap.size (fun k => ok k ∧ w.heap.size ≤ k) v s
  chg : Chg (fun k => k = b) w wr
  lt : b < w.heap.size ∧ c < w.heap.size
section
variable {ok : Nat → Prop} {w wr w' : World} {b c n : Nat} {X : Nt} {z : Int} {v : Value} {s : List Msg}
theorem KeepAt.quiet (h : KeepAt ok w wr b c n X z v s) (hc : Chg (fun _ => False) wr w') : KeepAt ok w w' b c n X z v s :=
  ⟨h.net.ofBelow hc, Kd.R_step h.row (fun k hk hlt => hc.keep k hlt (fun h => h)), h.chg.trans hc.only, h.lt⟩
theorem KeepAt.lose (h : KeepAt ok w wr b c n X z v s) (hok : ∀ k, ok k → k ≠ b) : KeepAt ok w (wr.setCell ⟨b, 3, none⟩ (.int .i64 (X.lost + z + 1))) b c n X (z + 1) v s := by
  have h1 := h.net.setLost (fun k hk => hok k hk.1) (X.lost + z + 1)
  refine ⟨by rw [Int.add_assoc] at h1 ⊢; exact h1, Kd.R_far h.row (p := ⟨b, 3, none⟩) (fun k hk => hok k hk.1) _, Chg.set (p := ⟨b, 3, none⟩) h.chg (.inl rfl) _, h.lt⟩
theorem KeepAt.app (h : KeepAt ok w wr b c n X z v s) {v1 : Value} {m : Msg} (hr : Kd.R kM 30 w' w.heap.size (fun k => ok k ∧ w.heap.size ≤ k) v1 (s ++ [m])) (hg : wr.grownBy w' v.ownBlock) : KeepAt ok w w' b c n X z v1 (s ++ [m]) := by
  have hb : ∀ k, v.ownBlock = some k → w.heap.size ≤ k := fun k e => Kd.R_base h.row k e
  have hc : Chg (fun k => some k = v.ownBlock) wr w' := (Chg.refl _ _).grown hg (fun k e => .inl e.symm)
  refine ⟨h.net.chg hc (fun e => by have := hb b e.symm; have := h.lt.1; omega) (fun e => by have := hb c e.symm; have := h.lt.2; omega) (fun k hk e => by have := hb k e.symm; have := hk.2; omega), hr, ?_, h.lt⟩
  exact h.chg.grown hg (fun k e => .inr (hb k e))
theorem KeepAt.new (h : KeepAt ok w wr b c n X z v s) (hnew : ∀ k, w.heap.size ≤ k → ok k) : ∀ k, wr.heap.size ≤ k → ok k ∧ w.heap.size ≤ k := fun k hk => by
  have := h.chg.low.size
  exact ⟨hnew k (by omega), by omega⟩
end
set_option maxHeartbeats 4000000 in
set_option maxRecDepth 100000 in
theorem keep_calls (ok : Nat → Prop) (b c n : Nat) (X : Nt) (p q : Nat) (mn mx : Int) (w : World) (hT : NetAt ok w b c n X) (hF : Fine X) (hok : ∀ k, ok k → k ≠ b) (hnew : ∀ k, w.heap.size ≤ k → ok k) (hp : w.heap[p]? = some (.cells #[.pointer (some ⟨b, 0, none⟩)] 23 (0, 0))) (hq : w.heap[q]? = some (.cells #[.int .i64 mn, .int .i64 mx] 60 (0, 0))) (hpb : p ≠ b) (hqb : q ≠ b) :
    Calls Try.prog 33 #[.pointer (some ⟨b, 0, none⟩), .func (.func 34) #[] #[.pointer (some ⟨p, 0, none⟩), .pointer (some ⟨q, 0, none⟩)]] w fun e w' => e = .returned (.tuple #[]) ∧ NetAt ok w' b c n (keepX X mn mx) ∧ Chg (fun k => k = b) w w' := by
  have HP := Aside0.mk hp
  have HQ := Aside0.mk hq
  have HO := Aside0.mk hok
  have HN := Aside0.mk hnew
  have HPB := Aside0.mk hpb
  have HQB := Aside0.mk hqb
  have HA0 : Aside0 (KeepAt ok w w b c n X 0 (.slice none 0 0) []) := ⟨⟨by have h := hT.bound; rw [show X.lost + 0 = X.lost by omega]; exact h, Kd.R_nil _ _ _ _ _, Chg.refl _ _, hT.lt, hT.cuts.lt⟩⟩
  obtain ⟨-, ⟨A, k, h1, hk, hR⟩, -, -, -⟩ := hT.open
  have l0 := hF.l0
  have l1 := hF.l1
  have HL := Aside0.mk hF.len
  obtain ⟨l, hl⟩ : ∃ l, X.l = l := ⟨_, rfl⟩
  have HXL := Aside0.mk hl
  rw [hl] at h1 hk hR HL
  have HR := Aside0.mk hR
  clear hp hq hok hnew hT hF hR hl hpb hqb
  go_enter Try.func33, Try.ntmps33
  go_wp2
  clear h1
  go_loopg [4, 12] l.length (fun kq vo vi wr => ∃ i : Nat, vi = .int .i64 i ∧ Aside0 (i + kq = l.length) ∧ Aside0 (KeepAt ok w wr b c n X (kLost l mn mx i) vo ((l.take i).filter (fun m => !meantB mn mx m))))
  case atStart => exact ⟨0, rfl, ⟨by omega⟩, HA0⟩
  case round =>
    obtain ⟨i, rfl, HK, HI⟩ := hrel
    have hil : i ≤ l.length := by have := HK.out; omega
    have hl256 := HL.out
    by_cases hlt : i < l.length
    · obtain ⟨-, ⟨A1, k1, -, -, hR1⟩, -, -, -⟩ := HI.out.net.open
      obtain ⟨ad, rfl, y0, y1, y2⟩ := msg_cells (HR.out.chg HI.out.chg (fun k hk => HO.out k hk)).fC i hlt
      clear hR1
      have hi0 : (0 : Int) ≤ (i : Int) := by omega
      have hi1 : (i : Int) < (l.length : Int) := by omega
      have hi2 : (i : Int) < 256 := by omega
      have HF := Aside0.mk (filter_take (f := fun m => !meantB mn mx m) hlt)
      have HF2 := Aside0.mk (kLost_succ (mn := mn) (mx := mx) hlt)
      have HKL := kLost_le l mn mx i
      obtain ⟨z, hz⟩ : ∃ z, kLost l mn mx i = z := ⟨_, rfl⟩
      rw [hz] at HI HKL
      rw [hz] at HF2
      obtain ⟨z0, z1⟩ := HKL
      clear hz
      have HM := Aside0.mk (fun w0 h1 h2 h3 => meant_calls (fun k => ok k ∧ k < w.heap.size) b c n { X with lost := X.lost + z } p q mn mx l[i] w0 h1 h2 h3)
      have HS : Aside0 (((l.take i).filter (fun m => !meantB mn mx m)).length ≤ 256) := ⟨by
        have h1 := List.length_filter_le (fun m => !meantB mn mx m) (l.take i)
        have h2 := List.length_take_le i l
        omega⟩
      obtain ⟨s, hs⟩ : ∃ s, (l.take i).filter (fun m => !meantB mn mx m) = s := ⟨_, rfl⟩
      rw [hs] at HI HF HS
      clear hs
      obtain ⟨r, hr⟩ : ∃ r, meantB mn mx l[i] = r := ⟨_, rfl⟩
      rw [hr] at HM HF HF2
      clear hr
      cases r
      all_goals
        go_wp2_with (first
          | (go_at_call 34; refine (HM.out _ (HI.out.net.ofBelow ((Chg.refl _ _).alloc _)) (blk_alloc (chg_blk HI.out.chg HPB.out HP.out) _) (blk_alloc (chg_blk HI.out.chg HQB.out HQ.out) _)).mono ?_; rintro e w1 ⟨rfl, hc⟩; have HI1 := Aside0.mk (HI.out.quiet (((Chg.refl _ _).alloc _).trans hc)); obtain ⟨d0, d1, d2, -⟩ := box3 (chg_blk hc (fun h => h) (blk_new _ _)); obtain ⟨-, -, -, h3, hfz⟩ := HI1.out.net.open; have f3 := hfz 3; have hbl := HI1.out.net.lt; have hgl := blk_lt (chg_blk hc (fun h => h) (blk_new _ _)); clear hfz hc HI HM y0 y1 y2)
          | ((with_reducible refine gate_builtin (b := .append) (xs := #[.tmp 26, .tmp 28]) rfl ?_); at_builtin; refine Kd.R_append kM (w0 := w1) w.heap.size rfl (.tmp 26) (.tmp 28) 22 30 (.agg #[.int .i64 0, .int .i64 0, .string ⟨#[]⟩]) 32 rfl Try.underlying22 infoM rfl (by decide) (by decide) _ s l[i] [.int .i64 l[i].f0, .int .i64 l[i].f1, .string l[i].f2] (fun k => ok k ∧ w.heap.size ≤ k) (fun _ => False) rfl rfl (k30_mkM _ _ _ l[i]) (fun _ hk => hk.elim) (fun k hk => HI1.out.new HN.out k hk) HI1.out.row (Below.refl _ _) HI1.out.chg.low.size (by have := HS.out; omega) ?_; intro v4 w4 ho4 hb4 hg4 hat4; have HI4 := Aside0.mk (HI1.out.app ho4 hg4); clear ho4 hb4 hg4 hat4))
        go_roundg (l.length - (i + 1))
        case measure => have := HK.out; omega
        case rel => exact ⟨i + 1, by go_num, ⟨by omega⟩, ⟨by rw [HF.out, HF2.out]; first | (simpa using HI4.out) | (simpa using HI1.out.lose HO.out)⟩⟩
    · obtain rfl : i = l.length := by omega
      have h := HI.out
      rw [List.take_length] at h
      have HI1 := Aside0.mk h
      clear HI h
      obtain ⟨-, ⟨A1, k1, h1, -, -⟩, -, -, hfz⟩ := HI1.out.net.open
      have f1 := hfz 1
      clear hfz
      obtain ⟨Av, cv, rfl⟩ := Kd.R_slice HI1.out.row
      go_wp2
      go_end0
      refine ⟨rfl, ?_, Chg.set (p := ⟨b, 1, none⟩) HI1.out.chg (.inl rfl) _⟩
      have h2 := (HI1.out.net.mono (ok' := ok) (fun k hk => hk.1)).setL HO.out (Kd.V_mono (Kd.R_V HI1.out.row) (fun k hk => hk.1))
      unfold keepX
      rw [HXL.out]
      have e : kLost l mn mx l.length = ((l.filter (meantB mn mx)).length : Int) := by
        unfold kLost
        rw [List.take_length]
      rw [← e]
      exact h2

end Go.Proofs.Ytclmhodgfhkgcaa.Q

/- The contracts of the net's Cut, with loss or without, and Join. -/
namespace Go.Proofs.Ytclmhodgfhkgcaa.Q
open Go.RowKit Go.Proofs.YtclmhodgfhkgcaaW.PrintWords Go.Proofs.YtclmhodgfhkgcaaW.PrintLast Go.Proofs.YtclmhodgfhkgcaaW.PrintMore
set_option linter.unusedVariables false
set_option linter.unusedSimpArgs false

set_option maxHeartbeats 4000000 in
set_option maxRecDepth 100000 in
theorem cut_all (ok : Nat → Prop) (b c n : Nat) (X : Nt) (p q : Int) (w : World) (hT : NetAt ok w b c n X) (hF : Fine X) (h : Two X p q) (hok : ∀ k, ok k → k ≠ b ∧ k ≠ c) (hnew : ∀ k, w.heap.size ≤ k → ok k) (hn : n < 1000000) :
    Calls Try.prog 23 #[.pointer (some ⟨b, 0, none⟩), .int .i64 p, .int .i64 q, .bool true] w fun e w' => e = .returned (.int .i64 0) ∧ NetAt ok w' b c (n + 1) (keepX (cutX X p q true) (min p q) (max p q)) ∧ Chg (fun k => k = b ∨ k = c) w w' := by
  have HT := Aside0.mk hT
  have HO := Aside0.mk hok
  have HNW := Aside0.mk hnew
  have HNN := Aside0.mk hn
  have HB := Aside0.mk (fun w0 h => between_calls ok b c n X p q w0 h)
  rw [decide_eq_true h] at HB
  have HND := Aside0.mk (h.nd hF.few)
  have HFX : Aside0 (Fine (cutX X p q true)) := ⟨⟨hF.few, hF.len, hF.l0, hF.l1⟩⟩
  have hmf : ∀ (fn : Fn) (first cap : Array Value) (w : World), (Instr.makeFunc fn first cap).run Try.prog w = .ok (.func fn first cap) w := fun _ _ _ _ => rfl
  unfold cutX at HFX ⊢
  generalize min p q = mn at *
  generalize max p q = mx at *
  clear hT h hok hF hn hnew
  go_enter Try.func23, Try.ntmps23
  go_wp2_with (first
    | (go_at_call 25; refine (HB.out _ (HT.out.ofBelow ((Chg.refl _ _).alloc _))).mono ?_; rintro e w1 ⟨rfl, hc⟩; have HC := Aside0.mk (((Chg.refl (fun _ => False) w).alloc _).trans hc); have B1 := Aside0.mk (chg_blk hc (fun h => h) (blk_new _ _)); have HZ1 := Aside0.mk hc.low.size; clear hc))
  obtain ⟨W1, hW1⟩ : ∃ W1, w1.alloc (.cells #[.int .i64 mn, .int .i64 mx] 60 (0, 0)) = W1 := ⟨_, rfl⟩
  have HC1 : Aside0 (Chg (fun _ => False) w W1) := ⟨hW1 ▸ HC.out.alloc _⟩
  have B2 : Aside0 (W1.heap[w.heap.size]? = some (.cells #[.pointer (some ⟨b, 0, none⟩)] 23 (0, 0))) := ⟨hW1 ▸ blk_alloc B1.out _⟩
  have B3 : Aside0 (W1.heap[w1.heap.size]? = some (.cells #[.int .i64 mn, .int .i64 mx] 60 (0, 0))) := ⟨hW1 ▸ blk_new _ _⟩
  have HG1 : Aside0 (w.heap.size ≤ w1.heap.size) := ⟨HC.out.low.size⟩
  rw [hW1]
  generalize w1.heap.size = g at *
  clear hW1 HC B1 HZ1
  have HT1 := Aside0.mk (HT.out.ofBelow HC1.out)
  obtain ⟨-, -, hm, -, -⟩ := HT1.out.open
  have hlt := HT1.out.lt
  obtain ⟨k0, k1, -, -⟩ := box2 B3.out
  obtain ⟨d0, -⟩ := box1 B2.out
  refine wp_plan [(0, 0, 22), (1, 0, 23), (2, 0, 24), (3, 0, 25), (4, 0, 26), (5, 3, 0)] [5] (fun W => W.cell? ⟨w.heap.size, 0, none⟩ = some (.pointer (some ⟨b, 0, none⟩)) ∧ W.cell? ⟨b, 2, none⟩ = some (.map (some c)) ∧ W.cell? ⟨g, 0, none⟩ = some (.int .i64 mn) ∧ W.cell? ⟨g, 1, none⟩ = some (.int .i64 mx)) (by kernel_rfl) rfl (by kernel_rfl) (fun _ t _ _ _ h => by cases t <;> exact h) ⟨d0, hm, k0, k1⟩ (fun hS => ?_)
  repeat (refine RP.take (v := ?_) (a' := ?_) rfl rfl (by assumption) (Or.inl ⟨by rfl, ?_⟩) ?_ ?_; rotate_left; (focus (rintro w' ⟨hS0, hS1, hS2, hS3⟩; go_simp; with_reducible rfl)); rotate_left; (focus (simp only [Act.put, List.setIfInBounds_toArray, List.set_cons_zero, List.set_cons_succ, i64_w, i32_w]; rfl)))
  refine RP.last rfl rfl (fun K hK => ?_)
  refine step_put (c := c) (n := n) (f := X.cut) (p := mn) (q := mx) (by rfl) (.tmp 25) (.tmp 26) (by rfl) (by rfl) (by rfl) ((HT1.out.ofBelow ((Chg.refl _ _).drewN 1)).cuts) HND.out.1 HND.out.2 HNN.out ?_
  intro w2 hC2 hg2
  have HN2 := Aside0.mk ((HT1.out.ofBelow ((Chg.refl _ _).drewN 1)).setCut (fun k hk => (HO.out k hk).2) hC2 hg2)
  have hcw : c < w.heap.size := HT.out.cuts.lt
  have hbw : b < w.heap.size := HT.out.lt
  have hc12 := ((Chg.refl (fun k => k = c) W1).drewN 1).grown hg2 (fun k e => by cases e; exact .inl rfl)
  have HC2 := Aside0.mk (((HC1.out.drewN 1).only (b := c)).grown hg2 (fun k e => by cases e; exact .inl rfl))
  have P2 := Aside0.mk (chg_blk hc12 (by omega) B2.out)
  have P3 := Aside0.mk (chg_blk hc12 (by have := HG1.out; omega) B3.out)
  have HKP := Aside0.mk (keep_calls ok b c (n + 1) _ w.heap.size g mn mx w2 HN2.out HFX.out (fun k hk => (HO.out k hk).1) (fun k hk => HNW.out k (Nat.le_trans HC2.out.low.size hk)) P2.out P3.out (by omega) (by have := HG1.out; omega))
  obtain ⟨d0, -⟩ := box1 P2.out
  clear hC2 hg2 hm k0 k1 hS hc12
  refine hK.out _ _ (RP.nil ?_)
  clear hK K
  go_wp2_with (first
    | (go_at_call 33; refine HKP.out.mono ?_; rintro e w3 ⟨rfl, hn3, hc3⟩; have HN3 := Aside0.mk hn3; have HC3 := Aside0.mk ((HC2.out.mono (fun k e => .inr e)).trans (hc3.mono (fun k e => Or.inl e)) : Chg (fun k => k = b ∨ k = c) w w3); clear hn3 hc3 d0))
  go_ret
  exact ⟨rfl, HN3.out, HC3.out⟩
def nCut (X : Nt) (p q : Int) (all : Bool) : Int × Nt := if Two X p q then (0, if all then keepX (cutX X p q true) (min p q) (max p q) else cutX X p q true) else (2, X)
def nJoin (X : Nt) (p q : Int) : Int × Nt := if Two X p q then (0, cutX X p q false) else (2, X)
theorem Cut_calls (ok : Nat → Prop) (b c n : Nat) (X : Nt) (p q : Int) (all : Bool) (w : World) (hT : NetAt ok w b c n X) (hF : Fine X) (hok : ∀ k, ok k → k ≠ b ∧ k ≠ c) (hnew : ∀ k, w.heap.size ≤ k → ok k) (hn : n < 1000000) :
    Calls Try.prog 23 #[.pointer (some ⟨b, 0, none⟩), .int .i64 p, .int .i64 q, .bool all] w fun e w' => e = .returned (.int .i64 (nCut X p q all).1) ∧ (∃ n', n' ≤ n + 1 ∧ NetAt ok w' b c n' (nCut X p q all).2) ∧ Chg (fun k => k = b ∨ k = c) w w' := by
  unfold nCut
  by_cases h : Two X p q
  · rw [if_pos h]
    cases all
    · refine (cut_yes ok b c n X p q w hT hF.few h (fun k hk => (hok k hk).2) hn).mono ?_
      rintro e w' ⟨he, hN, hc⟩
      exact ⟨he, ⟨n + 1, Nat.le_refl _, hN⟩, hc.mono (fun k e => Or.inr e)⟩
    · refine (cut_all ok b c n X p q w hT hF h hok hnew hn).mono ?_
      rintro e w' ⟨he, hN, hc⟩
      exact ⟨he, ⟨n + 1, Nat.le_refl _, hN⟩, hc⟩
  · rw [if_neg h]
    refine (cut_no ok b c n X p q all w hT h).mono ?_
    rintro e w' ⟨he, hc⟩
    exact ⟨he, ⟨n, by omega, hT.ofBelow hc⟩, hc.mono (fun _ h => h.elim)⟩
theorem Join_calls (ok : Nat → Prop) (b c n : Nat) (X : Nt) (p q : Int) (w : World) (hT : NetAt ok w b c n X) (hF : Fine X) (hok : ∀ k, ok k → k ≠ b ∧ k ≠ c) :
    Calls Try.prog 24 #[.pointer (some ⟨b, 0, none⟩), .int .i64 p, .int .i64 q] w fun e w' => e = .returned (.int .i64 (nJoin X p q).1) ∧ NetAt ok w' b c n (nJoin X p q).2 ∧ Chg (fun k => k = b ∨ k = c) w w' := by
  unfold nJoin
  by_cases h : Two X p q
  · rw [if_pos h]
    refine (join_yes ok b c n X p q w hT hF.few h (fun k hk => (hok k hk).2)).mono ?_
    rintro e w' ⟨he, hN, hc⟩
    exact ⟨he, hN, hc.mono (fun k e => Or.inr e)⟩
  · rw [if_neg h]
    refine (join_no ok b c n X p q w hT h).mono ?_
    rintro e w' ⟨he, hc⟩
    exact ⟨he, hT.ofBelow hc, hc.mono (fun _ h => h.elim)⟩

end Go.Proofs.Ytclmhodgfhkgcaa.Q

/- A region that draws its order, walked by a plan that may fork: as common/XRP, with a fork where two operations that write may come up. -/
namespace Go.Proofs.Ytclmhodgfhkgcaa.Q
open Go.RowKit Go.Proofs.YtclmhodgfhkgcaaW.PrintWords Go.Proofs.YtclmhodgfhkgcaaW.PrintLast Go.Proofs.YtclmhodgfhkgcaaW.PrintMore
set_option linter.unusedVariables false
set_option linter.unusedSimpArgs false

/-- A plan: op i k d r: operation i of kind k (0 reads, 1 yields everywhere, 2 alone, 3 alone and the last to touch what is read). -/
inductive PT where
  | nil
  | op (i k d : Nat) (r : PT)
  | two (i di j dj : Nat) (p q : PT)
def PT.len : PT → Nat
  | .nil => 0
  | .op _ _ _ r => r.len + 1
  | .two _ _ _ _ p _ => p.len + 1
section
variable {P : Program} {ops : Array Oper} {Q : Exit → Act → World → Prop} {S : World → Prop}
def RT (P : Program) (ops : Array Oper) (Q : Exit → Act → World → Prop) (S : World → Prop) : PT → Act → World → Prop
  | .nil, a, w => Q .normal a w
  | .op i 0 d r, a, w => ∃ o v, ops[i]? = some o ∧ o.dst = some d ∧ S w ∧ YieldsIf P ops S o v a ∧ RT P ops Q S r (a.put (some d) v) w
  | .op i 1 d r, a, w => ∃ o v, ops[i]? = some o ∧ o.dst = some d ∧ Yields P ops o v a ∧ RT P ops Q S r (a.put (some d) v) w
  | .op i 2 d r, a, w => ∃ o, ops[i]? = some o ∧ o.dst = some d ∧ ∀ K : Act → World → Prop, Shut (∀ a' w', S w' → (S w' → RT P ops Q S r a' w') → K a' w') → if Region.wanted o (yielded ops a.tmps) = true then Oper.wp P o a w K Q else K (a.put (some d) undef) w
  | .op i _ d r, a, w => ∃ o, ops[i]? = some o ∧ o.dst = none ∧ ∀ K : Act → World → Prop, Shut (∀ a' w', RT P ops Q S r a' w' → K a' w') → if Region.wanted o (yielded ops a.tmps) = true then Oper.wp P o a w K Q else K (a.put (none) undef) w
  | .two i di j dj p q, a, w => ∃ oi oj, ops[i]? = some oi ∧ ops[j]? = some oj ∧ oi.dst = some di ∧ oj.dst = some dj ∧
      (∀ K : Act → World → Prop, Shut (∀ a' w', S w' → (S w' → RT P ops Q S p a' w') → K a' w') → if Region.wanted oi (yielded ops a.tmps) = true then Oper.wp P oi a w K Q else K (a.put (some di) undef) w) ∧
      (∀ K : Act → World → Prop, Shut (∀ a' w', S w' → (S w' → RT P ops Q S q a' w') → K a' w') → if Region.wanted oj (yielded ops a.tmps) = true then Oper.wp P oj a w K Q else K (a.put (some dj) undef) w)
def treeOk (ops : Array Oper) (ds : List Nat) : PT → Array Bool → Bool
  | .nil, l => Region.ready .any ops l == []
  | .op i 0 _ r, l => takeB .any ops ds l (l.setIfInBounds i true) i && treeOk ops ds r (l.setIfInBounds i true)
  | .op i 1 _ r, l => anyB .any ops l (l.setIfInBounds i true) i && treeOk ops ds r (l.setIfInBounds i true)
  | .op i 2 _ r, l => (readyB .any ops l (l.setIfInBounds i true) i && !ds.contains i) && treeOk ops ds r (l.setIfInBounds i true)
  | .op i _ _ r, l => (readyB .any ops l (l.setIfInBounds i true) i && ds.contains i) && treeOk ops ds r (l.setIfInBounds i true)
  | .two i _ j _ p q, l => ((Region.ready .any ops l == [i, j]) && !ds.contains i && !ds.contains j && p.len == q.len) && (treeOk ops ds p (l.setIfInBounds i true) && treeOk ops ds q (l.setIfInBounds j true))
theorem RT.sound {ds : List Nat} (hQ : ∀ c t v a w, Q (.panic c) (Act.put a t v) w → Q (.panic c) a w) : ∀ (p : PT) (l : Array Bool) (a : Act) (w : World), treeOk ops ds p l = true → RT P ops Q S p a w → wpAnyLast P .any ops Q S ds p.len l a w
  | .nil, l, a, w, hp, h => done_ hp h
  | .op i 0 d r, l, a, w, hp, h => by
    obtain ⟨o, v, ho, hd, hS, hy, h⟩ := h
    simp only [treeOk, Bool.and_eq_true] at hp
    exact take_ _ ho hd hp.1 (fun c a w => hQ c _ _ a w) hy hS rfl (RT.sound hQ r _ _ _ hp.2 h)
  | .op i 1 d r, l, a, w, hp, h => by
    obtain ⟨o, v, ho, hd, hy, h⟩ := h
    simp only [treeOk, Bool.and_eq_true] at hp
    exact pure_ _ ho hd hp.1 (fun c a w => hQ c _ _ a w) hy rfl (RT.sound hQ r _ _ _ hp.2 h)
  | .op i 2 d r, l, a, w, hp, h => by
    obtain ⟨o, ho, hd, h⟩ := h
    simp only [treeOk, Bool.and_eq_true, Bool.not_eq_true'] at hp
    exact one_ _ ho hd hp.1.1 (by have := hp.1.2; simpa using this) (fun K hK => h K (fun a' w' hS' hr => hK a' w' hS' (fun hS2 => RT.sound hQ r _ _ _ hp.2 (hr hS2))))
  | .op i (k + 3) d r, l, a, w, hp, h => by
    obtain ⟨o, ho, hd, h⟩ := h
    simp only [treeOk, Bool.and_eq_true] at hp
    exact last_ _ ho hd hp.1.1 (by have := hp.1.2; simpa using this) (fun K hK => h K (fun a' w' hr => hK a' w' (RT.sound hQ r _ _ _ hp.2 hr)))
  | .two i di j dj p q, l, a, w, hp, h => by
    obtain ⟨oi, oj, hi, hj, hdi, hdj, h1, h2⟩ := h
    simp only [treeOk, Bool.and_eq_true, Bool.not_eq_true', beq_iff_eq] at hp
    obtain ⟨⟨⟨⟨hr, hi'⟩, hj'⟩, hl⟩, hp, hq⟩ := hp
    exact two_ (l.setIfInBounds i true) (l.setIfInBounds j true) hi hj hdi hdj (by simp [hr]) (by simpa using hi') (by simpa using hj') (fun K hK => h1 K (fun a' w' hS' hr => hK a' w' hS' (fun hS2 => RT.sound hQ p _ _ _ hp (hr hS2)))) (fun K hK => h2 K (fun a' w' hS' hr => hK a' w' hS' (fun hS2 => by have := RT.sound hQ q _ _ _ hq (hr hS2); rwa [← hl] at this)))
/-- The region, by a plan that may fork. -/
theorem wp_tree {id : Nat} {a : Act} {w : World} (p : PT) (ds : List Nat) (S : World → Prop) (hm : P.follows .mixedOrders = true) (hn : ops.size = p.len) (hp : treeOk ops ds p (Array.replicate p.len false) = true)
    (hQ : ∀ c t v a w, Q (.panic c) (Act.put a t v) w → Q (.panic c) a w) (hS : S (w.drewN 1)) (h : S (w.drewN 1) → RT P ops Q S p a (w.drewN 1)) : (Code.region id ops true).wp P Q a w :=
  start_ _ hm hn rfl hS (fun hs => RT.sound hQ p _ _ _ hp (h hs))
theorem RT.take {i d : Nat} {r : PT} {a : Act} {w : World} {o : Oper} {v : Value} (ho : ops[i]? = some o) (hd : o.dst = some d) (hS : S w) (hy : YieldsIf P ops S o v a) {a' : Act} (ha : a.put (some d) v = a') (h : RT P ops Q S r a' w) : RT P ops Q S (.op i 0 d r) a w := by
  subst ha
  exact ⟨o, v, ho, hd, hS, hy, h⟩
theorem RT.pure {i d : Nat} {r : PT} {a : Act} {w : World} {o : Oper} {v : Value} (ho : ops[i]? = some o) (hd : o.dst = some d) (hy : Yields P ops o v a) {a' : Act} (ha : a.put (some d) v = a') (h : RT P ops Q S r a' w) : RT P ops Q S (.op i 1 d r) a w := by
  subst ha
  exact ⟨o, v, ho, hd, hy, h⟩
theorem RT.one {i d : Nat} {r : PT} {a : Act} {w : World} {o : Oper} (ho : ops[i]? = some o) (hd : o.dst = some d) (h : ∀ K : Act → World → Prop, Shut (∀ a' w', S w' → (S w' → RT P ops Q S r a' w') → K a' w') → if Region.wanted o (yielded ops a.tmps) = true then Oper.wp P o a w K Q else K (a.put (some d) undef) w) : RT P ops Q S (.op i 2 d r) a w := ⟨o, ho, hd, h⟩
theorem RT.last {i d : Nat} {r : PT} {a : Act} {w : World} {o : Oper} (ho : ops[i]? = some o) (hd : o.dst = none) (h : ∀ K : Act → World → Prop, Shut (∀ a' w', RT P ops Q S r a' w' → K a' w') → if Region.wanted o (yielded ops a.tmps) = true then Oper.wp P o a w K Q else K (a.put (none) undef) w) : RT P ops Q S (.op i 3 d r) a w := ⟨o, ho, hd, h⟩
theorem RT.fork {i di j dj : Nat} {p q : PT} {a : Act} {w : World} {oi oj : Oper} (hi : ops[i]? = some oi) (hj : ops[j]? = some oj) (hdi : oi.dst = some di) (hdj : oj.dst = some dj)
    (h1 : ∀ K : Act → World → Prop, Shut (∀ a' w', S w' → (S w' → RT P ops Q S p a' w') → K a' w') → if Region.wanted oi (yielded ops a.tmps) = true then Oper.wp P oi a w K Q else K (a.put (some di) undef) w)
    (h2 : ∀ K : Act → World → Prop, Shut (∀ a' w', S w' → (S w' → RT P ops Q S q a' w') → K a' w') → if Region.wanted oj (yielded ops a.tmps) = true then Oper.wp P oj a w K Q else K (a.put (some dj) undef) w) : RT P ops Q S (.two i di j dj p q) a w := ⟨oi, oj, hi, hj, hdi, hdj, h1, h2⟩
theorem RT.nil {a : Act} {w : World} (h : Q .normal a w) : RT P ops Q S .nil a w := h
theorem RT.norm {p : PT} {a a' : Act} {w : World} (ha : a = a') (h : RT P ops Q S p a' w) : RT P ops Q S p a w := by
  subst ha
  exact h
/-- What follows, shown once: s the values that the orders leave, F what is known of them and of the world. -/
theorem RT.join {σ : Type} {p r : PT} {a : Act} {w : World} (f : σ → Act) (F : σ → World → Prop) (hcont : ∀ s w', F s w' → RT P ops Q S r (f s) w') (h : (∀ s w', F s w' → RT P ops Q S r (f s) w') → RT P ops Q S p a w) : RT P ops Q S p a w := h hcont
end

end Go.Proofs.Ytclmhodgfhkgcaa.Q

/- The reference's net in memory; its New, Two, Cut, Set, Is. -/
namespace Go.Proofs.Ytclmhodgfhkgcaa.Q
open Go.RowKit Go.Proofs.YtclmhodgfhkgcaaW.PrintWords Go.Proofs.YtclmhodgfhkgcaaW.PrintLast Go.Proofs.YtclmhodgfhkgcaaW.PrintMore
set_option linter.unusedVariables false
set_option linter.unusedSimpArgs false

/-- The same state, as the reference keeps it: block o says of each two nodes whether their link is cut. -/
structure RefAt (ok : Nat → Prop) (w : World) (x o : Nat) (X : Nt) : Prop where
  mk ::
  ne : x ≠ o
  cells : ∃ v, w.heap[x]? = some (.cells #[.int .i64 X.nodes, v, .slice (some ⟨o, 0, none⟩) 256 256, .int .i64 X.lost] 45 (0, 0)) ∧ RowM w ok v X.l
  off : ∃ cs : Array Value, w.heap[o]? = some (.cells cs 4 (0, 0)) ∧ cs.size = 256 ∧ ∀ a b, Nd a → Nd b → cs[(16 * a + b).toNat]? = some (.bool (isCut X a b))
section
variable {w w' : World} {ok ok' S : Nat → Prop} {x o : Nat} {X : Nt}
theorem RefAt.lt (h : RefAt ok w x o X) : x < w.heap.size ∧ o < w.heap.size := by
  obtain ⟨-, ⟨v, hv, -⟩, cs, hb, -⟩ := h
  exact ⟨blk_lt hv, blk_lt hb⟩
theorem RefAt.chg (h : RefAt ok w x o X) (hc : Chg S w w') (hx : ¬ S x) (ho : ¬ S o) (hs : ∀ k, ok k → ¬ S k) : RefAt ok w' x o X := by
  obtain ⟨hne, ⟨v, hv, hR⟩, cs, hb, hz⟩ := h
  exact ⟨hne, ⟨v, (hc.keep x (blk_lt hv) hx).trans hv, hR.chg hc hs⟩, cs, (hc.keep o (blk_lt hb) ho).trans hb, hz⟩
theorem RefAt.ofBelow (h : RefAt ok w x o X) (hc : Chg (fun _ => False) w w') : RefAt ok w' x o X := h.chg hc (fun h => h) (fun h => h) (fun _ _ h => h)
theorem RefAt.bound (h : RefAt ok w x o X) : RefAt (fun k => ok k ∧ k < w.heap.size) w x o X := by
  obtain ⟨hne, ⟨v, hv, hR⟩, hC⟩ := h
  exact ⟨hne, ⟨v, hv, Kd.V_bound hR⟩, hC⟩
theorem RefAt.mono (h : RefAt ok w x o X) (hk : ∀ k, ok k → ok' k) : RefAt ok' w x o X := by
  obtain ⟨hne, ⟨v, hv, hR⟩, hC⟩ := h
  exact ⟨hne, ⟨v, hv, Kd.V_mono hR hk⟩, hC⟩
theorem RefAt.open (h : RefAt ok w x o X) : w.cell? ⟨x, 0, none⟩ = some (.int .i64 X.nodes) ∧ (∃ A k, w.cell? ⟨x, 1, none⟩ = some (.slice A X.l.length k) ∧ X.l.length ≤ k ∧ RowM w ok (.slice A X.l.length k) X.l) ∧ w.cell? ⟨x, 2, none⟩ = some (.slice (some ⟨o, 0, none⟩) 256 256) ∧ w.cell? ⟨x, 3, none⟩ = some (.int .i64 X.lost) ∧ (∀ j, w.frozen? ⟨x, j, none⟩ = false) := by
  obtain ⟨-, ⟨v, hv, hR⟩, -⟩ := h
  obtain ⟨A, k, rfl⟩ := Kd.V_slice hR
  exact ⟨(blk_cell hv _).trans rfl, ⟨A, k, (blk_cell hv _).trans rfl, (Kd.V_at hR).2.1, hR⟩, (blk_cell hv _).trans rfl, (blk_cell hv _).trans rfl, fun j => blk_frozen hv j⟩
theorem RefAt.bit (h : RefAt ok w x o X) {a b : Int} (ha : Nd a) (hb : Nd b) : w.cell? ⟨o, (16 * a + b).toNat, none⟩ = some (.bool (isCut X a b)) ∧ ∀ j, w.frozen? ⟨o, j, none⟩ = false := by
  obtain ⟨-, -, cs, hcs, hz, h⟩ := h
  exact ⟨(blk_cell hcs _).trans (h a b ha hb), fun j => blk_frozen hcs j⟩
theorem RefAt.setL (h : RefAt ok w x o X) (hok : ∀ k, ok k → k ≠ x) {v : Value} {xs : List Msg} (hv : RowM w ok v xs) : RefAt ok (w.setCell ⟨x, 1, none⟩ v) x o { X with l := xs } := by
  obtain ⟨hne, ⟨u, hu, hR⟩, cs, hcs, hz⟩ := h
  exact ⟨hne, ⟨v, blk_set hu _ _, Kd.V_far hv hok _⟩, cs, blk_far hcs (fun e => hne e.symm) _, hz⟩
theorem RefAt.setL2 (h : RefAt ok w x o X) (hok : ∀ k, ok' k → k ≠ x) {v : Value} {xs : List Msg} (hv : RowM w ok' v xs) : RefAt ok' (w.setCell ⟨x, 1, none⟩ v) x o { X with l := xs } := by
  obtain ⟨hne, ⟨u, hu, hR⟩, cs, hcs, hz⟩ := h
  exact ⟨hne, ⟨v, blk_set hu _ _, Kd.V_far hv hok _⟩, cs, blk_far hcs (fun e => hne e.symm) _, hz⟩
theorem RefAt.setLost (h : RefAt ok w x o X) (hok : ∀ k, ok k → k ≠ x) (z : Int) : RefAt ok (w.setCell ⟨x, 3, none⟩ (.int .i64 z)) x o { X with lost := z } := by
  obtain ⟨hne, ⟨u, hu, hR⟩, cs, hcs, hz⟩ := h
  exact ⟨hne, ⟨u, blk_set hu _ _, Kd.V_far hR hok _⟩, cs, blk_far hcs (fun e => hne e.symm) _, hz⟩
theorem isCut_cutX (X : Nt) (p q a b : Int) (t : Bool) : isCut (cutX X p q t) a b = if min a b = min p q ∧ max a b = max p q then t else isCut X a b := rfl
/-- Both bits of a link are set. -/
theorem RefAt.setBits (h : RefAt ok w x o X) (hok : ∀ k, ok k → k ≠ o) {p q : Int} (hp : Nd p) (hq : Nd q) (t : Bool) : RefAt ok ((w.setCell ⟨o, (16 * p + q).toNat, none⟩ (.bool t)).setCell ⟨o, (16 * q + p).toNat, none⟩ (.bool t)) x o (cutX X p q t) := by
  obtain ⟨hne, ⟨u, hu, hR⟩, cs, hcs, hz, hb⟩ := h
  refine ⟨hne, ⟨u, blk_far (blk_far hu (p := ⟨o, _, none⟩) hne _) (p := ⟨o, _, none⟩) hne _, Kd.V_far (Kd.V_far hR (p := ⟨o, _, none⟩) hok _) (p := ⟨o, _, none⟩) hok _⟩, _, blk_set (blk_set hcs _ _) _ _, by simpa using hz, fun a b ha hb' => ?_⟩
  unfold Nd at *
  have h1 := hb a b ha hb'
  rw [isCut_cutX]
  by_cases e : min a b = min p q ∧ max a b = max p q
  · rw [if_pos e]
    have e2 : (a = p ∧ b = q) ∨ (a = q ∧ b = p) := by omega
    rcases e2 with ⟨rfl, rfl⟩ | ⟨rfl, rfl⟩
    · rw [Array.getElem?_setIfInBounds]
      split
      · rename_i e3
        rw [if_pos (by simp; omega)]
      · rw [Array.getElem?_setIfInBounds, if_pos rfl, if_pos (by omega)]
    · rw [Array.getElem?_setIfInBounds, if_pos rfl, if_pos (by simp; omega)]
  · rw [if_neg e]
    have e2 : ¬ ((a = p ∧ b = q) ∨ (a = q ∧ b = p)) := by omega
    rw [Array.getElem?_setIfInBounds, if_neg (by omega), Array.getElem?_setIfInBounds, if_neg (by omega)]
    exact h1
end
theorem make_off (w : World) : (Instr.makeSlice 43 (.int .i64 256) (.int .i64 256)).run Try.prog w = .ok (.slice (some ⟨w.heap.size, 0, none⟩) 256 256) (w.alloc (.cells (Array.replicate 256 (.bool false)) 4)) := by kernel_rfl
set_option maxHeartbeats 1000000 in
set_option maxRecDepth 100000 in
theorem rNew_calls (n : Int) (w : World) : Calls Try.prog 15 #[.int .i64 n] w fun e w' => e = .returned (.pointer (some ⟨w.heap.size + 1, 0, none⟩)) ∧ (∀ ok, RefAt ok w' (w.heap.size + 1) w.heap.size (X0 n)) ∧ Below w.heap.size w w' ∧ w'.heap.size = w.heap.size + 2 := by
  have hmk := make_off
  obtain ⟨R, hR⟩ : ∃ R : Array Value, Array.replicate 256 (.bool false) = R := ⟨_, rfl⟩
  have HR := Aside0.mk hR
  rw [hR] at hmk
  clear hR
  go_enter Try.func15, Try.ntmps15
  go_wp2
  go_ret
  refine ⟨rfl, fun ok => ⟨by omega, ⟨_, ?_, Kd.V_nil _ _ _ _ _⟩, R, blk_alloc (blk_new _ _) _, by rw [← HR.out]; simp, fun a b ha hb => ?_⟩, below_alloc (below_alloc (Below.refl _ _) _) _, by simp⟩
  · have := blk_new (w.alloc (.cells R 4)) (.cells #[.int .i64 n, .slice none 0 0, .slice (some ⟨w.heap.size, 0, none⟩) 256 256, .int .i64 0] 45 (0, 0))
    simpa [X0] using this
  · unfold Nd at ha hb
    rw [← HR.out, Array.getElem?_replicate, if_pos (by omega)]
    rfl
set_option maxHeartbeats 1000000 in
theorem rTwo_calls (ok : Nat → Prop) (x o : Nat) (X : Nt) (p q : Int) (w : World) (hT : RefAt ok w x o X) :
    Calls Try.prog 19 #[.pointer (some ⟨x, 0, none⟩), .int .i64 p, .int .i64 q] w fun e w' => e = .returned (.bool (decide (Two X p q))) ∧ w = w' := by
  obtain ⟨h0, -, -, -, -⟩ := hT.open
  clear hT
  have hcs : (p < 0) ∨ (0 ≤ p ∧ X.nodes ≤ p) ∨ (0 ≤ p ∧ p < X.nodes ∧ q < 0) ∨ (0 ≤ p ∧ p < X.nodes ∧ 0 ≤ q ∧ X.nodes ≤ q) ∨ (0 ≤ p ∧ p < X.nodes ∧ 0 ≤ q ∧ q < X.nodes ∧ p = q) ∨ (0 ≤ p ∧ p < X.nodes ∧ 0 ≤ q ∧ q < X.nodes ∧ p ≠ q) := by omega
  have D0 : ¬ Two X p q → Aside0 (decide (Two X p q) = false) := fun h => ⟨decide_eq_false h⟩
  have D1 : Two X p q → Aside0 (decide (Two X p q) = true) := fun h => ⟨decide_eq_true h⟩
  unfold Two at D0 D1
  rcases hcs with c1 | ⟨c1, c2⟩ | ⟨c1, c2, c3⟩ | ⟨c1, c2, c3, c4⟩ | ⟨c1, c2, c3, c4, c5⟩ | ⟨c1, c2, c3, c4, c5⟩
  case' inr.inr.inr.inr.inl => have c6 : (p == q) = true := by simpa using c5
  case' inr.inr.inr.inr.inr => have c6 : (p == q) = false := by simpa using c5
  all_goals
    first | (have E := D0 (by omega)) | (have E := D1 (by omega))
    clear D0 D1
    go_enter Try.func19, Try.ntmps19
    go_wp2
    go_ret
    refine ⟨ret_bool ?_, rfl⟩
    unfold Two
    rw [E.out]
    try first | rfl | (simp; done) | (simp; omega) | (simp [bne, c6]; done) | (simp [bne, c6]; omega)
set_option maxHeartbeats 1000000 in
theorem rCut_calls (ok : Nat → Prop) (x o : Nat) (X : Nt) (p q : Int) (w : World) (hT : RefAt ok w x o X) (hp : Nd p) (hq : Nd q) :
    Calls Try.prog 20 #[.pointer (some ⟨x, 0, none⟩), .int .i64 p, .int .i64 q] w fun e w' => e = .returned (.bool (isCut X p q)) ∧ w = w' := by
  obtain ⟨-, -, h2, -, -⟩ := hT.open
  obtain ⟨hb, -⟩ := hT.bit hp hq
  generalize isCut X p q = r at *
  unfold Nd at hp hq
  obtain ⟨p0, p1⟩ := hp
  obtain ⟨q0, q1⟩ := hq
  obtain ⟨k, hk⟩ : ∃ k : Nat, 16 * p + q = k := ⟨(16 * p + q).toNat, by omega⟩
  have k1 : (k : Int) < 256 := by omega
  rw [hk, Int.toNat_natCast] at hb
  clear hT
  have m1 : IntKind.i64.wrap (16 * p) = 16 * p := IntWalk.i64_in _ (by omega)
  go_enter Try.func20, Try.ntmps20
  go_wp2
  go_ret
  exact ⟨rfl, rfl⟩
set_option maxHeartbeats 1000000 in
set_option maxRecDepth 100000 in
theorem rSet_calls (ok : Nat → Prop) (x o : Nat) (X : Nt) (p q : Int) (t : Bool) (w : World) (hT : RefAt ok w x o X) (hp : Nd p) (hq : Nd q) (hpq : p ≠ q) (hok : ∀ k, ok k → k ≠ o) :
    Calls Try.prog 37 #[.pointer (some ⟨x, 0, none⟩), .int .i64 p, .int .i64 q, .bool t] w fun e w' => e = .returned (.tuple #[]) ∧ RefAt ok w' x o (cutX X p q t) ∧ Chg (fun k => k = o) w w' := by
  have HE : Aside0 (RefAt ok ((w.setCell ⟨o, (16 * p + q).toNat, none⟩ (.bool t)).setCell ⟨o, (16 * q + p).toNat, none⟩ (.bool t)) x o (cutX X p q t) ∧ Chg (fun k => k = o) w ((w.setCell ⟨o, (16 * p + q).toNat, none⟩ (.bool t)).setCell ⟨o, (16 * q + p).toNat, none⟩ (.bool t))) :=
    ⟨hT.setBits hok hp hq t, Chg.set (S := fun k => k = o) (p := ⟨o, _, none⟩) (Chg.set (S := fun k => k = o) (p := ⟨o, _, none⟩) (Chg.refl _ _) (.inl rfl) _) (.inl rfl) _⟩
  obtain ⟨-, -, h2, -, -⟩ := hT.open
  obtain ⟨hb, hf⟩ := hT.bit hp hq
  obtain ⟨hb2, -⟩ := hT.bit hq hp
  have hne := hT.ne
  have hol := hT.lt.2
  unfold Nd at hp hq
  obtain ⟨p0, p1⟩ := hp
  obtain ⟨q0, q1⟩ := hq
  obtain ⟨k, hk⟩ : ∃ k : Nat, 16 * p + q = k := ⟨(16 * p + q).toNat, by omega⟩
  obtain ⟨j, hj⟩ : ∃ j : Nat, 16 * q + p = j := ⟨(16 * q + p).toNat, by omega⟩
  have k1 : (k : Int) < 256 := by omega
  have j1 : (j : Int) < 256 := by omega
  have jk : ¬ k = j := by omega
  have kj : ¬ j = k := by omega
  rw [hk, Int.toNat_natCast] at hb HE
  rw [hj, Int.toNat_natCast] at hb2 HE
  have f1 := hf k
  have f2 := hf j
  clear hT hf
  have m1 : IntKind.i64.wrap (16 * p) = 16 * p := IntWalk.i64_in _ (by omega)
  have m2 : IntKind.i64.wrap (16 * q) = 16 * q := IntWalk.i64_in _ (by omega)
  go_enter Try.func37, Try.ntmps37
  go_wp2
  go_end0
  exact ⟨rfl, HE.out⟩
set_option maxHeartbeats 1000000 in
theorem rIs_calls (ok : Nat → Prop) (x o : Nat) (X : Nt) (i : Int) (w : World) (hT : RefAt ok w x o X) :
    Calls Try.prog 30 #[.pointer (some ⟨x, 0, none⟩), .int .i64 i] w fun e w' => e = .returned (.bool (decide (Is X i))) ∧ w = w' := by
  obtain ⟨-, ⟨A, k, h1, -, -⟩, -, -, -⟩ := hT.open
  clear hT
  have hcs : (i < 0) ∨ (0 ≤ i ∧ (X.l.length : Int) ≤ i) ∨ (0 ≤ i ∧ i < (X.l.length : Int)) := by omega
  have D0 : ¬ Is X i → Aside0 (decide (Is X i) = false) := fun h => ⟨decide_eq_false h⟩
  have D1 : Is X i → Aside0 (decide (Is X i) = true) := fun h => ⟨decide_eq_true h⟩
  unfold Is at D0 D1
  rcases hcs with c1 | ⟨c1, c2⟩ | ⟨c1, c2⟩
  all_goals
    first | (have E := D0 (by omega)) | (have E := D1 (by omega))
    clear D0 D1
    go_enter Try.func30, Try.ntmps30
    go_wp2
    go_ret
    refine ⟨ret_bool ?_, rfl⟩
    unfold Is
    rw [E.out]
    try first | rfl | (simp; done) | (simp; omega)

end Go.Proofs.Ytclmhodgfhkgcaa.Q

/- The contracts of the reference's Take and Send. (Printed by gen_ref.py.) -/
namespace Go.Proofs.Ytclmhodgfhkgcaa.Q
open Go.RowKit Go.Proofs.YtclmhodgfhkgcaaW.PrintWords Go.Proofs.YtclmhodgfhkgcaaW.PrintLast Go.Proofs.YtclmhodgfhkgcaaW.PrintMore
set_option linter.unusedVariables false
set_option linter.unusedSimpArgs false

theorem Chg.bel {w w' : World} (h : Chg (fun _ => False) w w') : Below w.heap.size w w' := h.below (Below.refl _ _) (Nat.le_refl _) (fun k h => h.elim)
section
variable {P : Program} {ops : Array Oper} {Q : Exit → Act → World → Prop} {S : World → Prop}
theorem RT.join3 {p r : PT} {a : Act} {w : World} (di dj dk : Nat) (F : Value → Value → Nat → World → Prop) (hcont : ∀ v1 v2 g w', F v1 v2 g w' → RT P ops Q S r (((a.put (some di) v1).put (some dj) v2).put (some dk) (.slice (some ⟨g, 0, none⟩) 1 1)) w')
    (h : (∀ v1 v2 g w', F v1 v2 g w' → RT P ops Q S r (((a.put (some di) v1).put (some dj) v2).put (some dk) (.slice (some ⟨g, 0, none⟩) 1 1)) w') → RT P ops Q S p a w) : RT P ops Q S p a w := h hcont
end
set_option maxHeartbeats 4000000 in
set_option maxRecDepth 100000 in
theorem rsend_ok (ok : Nat → Prop) (x o : Nat) (X : Nt) (m : Msg) (w : World) (hX : RefAt ok w x o X) (hF : Fine X) (h2 : Two X m.f0 m.f1) (hs : ¬ 8192 < (m.f2.size : Int)) (hcut : isCut X m.f0 m.f1 = false) (hfull : ¬ 256 ≤ X.l.length) (hok : ∀ k, ok k → k ≠ x ∧ k ≠ o) (hnew : ∀ k, w.heap.size ≤ k → ok k) :
    Calls Try.prog 29 #[.pointer (some ⟨x, 0, none⟩), MsgV m] w fun e w' => e = .returned (.int .i64 0) ∧ RefAt ok w' x o { X with l := X.l ++ [m] } ∧ Chg (fun k => k = x) w w' := by
  have HX := Aside0.mk hX
  have HOK := Aside0.mk hok
  have HNW := Aside0.mk hnew
  have nd : Nd m.f0 ∧ Nd m.f1 := by
    obtain ⟨a, b, c, d, e⟩ := h2
    obtain ⟨f, g⟩ := hF.few
    unfold Nd
    omega
  have HT := Aside0.mk (fun w0 h => rTwo_calls ok x o X m.f0 m.f1 w0 h)
  rw [decide_eq_true h2] at HT
  have HC := Aside0.mk (fun w0 h => rCut_calls ok x o X m.f0 m.f1 w0 h nd.1 nd.2)
  rw [hcut] at HC
  obtain ⟨W, hW⟩ : ∃ W, w.alloc (.cells #[.int .i64 m.f0, .int .i64 m.f1, .string m.f2] 30 (0, 0)) = W := ⟨_, rfl⟩
  have HCW : Aside0 (Chg (fun _ => False) w W) := ⟨hW ▸ (Chg.refl _ _).alloc _⟩
  have BW : Aside0 (W.heap[w.heap.size]? = some (.cells #[.int .i64 m.f0, .int .i64 m.f1, .string m.f2] 30 (0, 0))) := ⟨hW ▸ blk_new _ _⟩
  have HXW := Aside0.mk (hX.ofBelow HCW.out)
  obtain ⟨-, ⟨A, k, h1, hlk, hR⟩, -, -, hfz⟩ := HXW.out.open
  obtain ⟨l, hl⟩ : ∃ l, X.l = l := ⟨_, rfl⟩
  rw [hl] at h1 hlk hR hfull ⊢
  have hfr := hfz 1
  have HR := Aside0.mk hR
  have hlt := HXW.out.lt.1
  obtain ⟨d0, d1, d2, -, -, -⟩ := box3 BW.out
  have hgl := blk_lt BW.out
  have HL := Aside0.mk hfull
  have HN : Aside0 (∀ k, W.heap.size ≤ k → ok k) := ⟨fun k hk => HNW.out k (Nat.le_trans HCW.out.low.size hk)⟩
  have hfull' : (l.length : Int) < 256 := by omega
  have hWW := Aside0.mk hW
  clear hX hF h2 hcut hok hnew nd hR hl hfz hfull hlk hW
  go_enter Try.func29, Try.ntmps29
  go_wp2_with (first
    | (go_at_call 19; refine (HT.out _ (HX.out.ofBelow ((Chg.refl _ _).alloc _))).mono ?_; rintro e w1 ⟨rfl, rfl⟩; rw [hWW.out]; clear HT)
    | (go_at_call 20; refine (HC.out _ HXW.out).mono ?_; rintro e w1 ⟨rfl, rfl⟩; clear HC))
  refine wp_tree (.op 0 0 44 (.op 2 0 46 (.op 3 0 47 (.op 4 0 48 (.op 5 0 49 (.op 7 0 51 (.two 1 45 8 52 (.two 6 50 8 52 (.op 8 2 52 (.op 9 2 53 (.op 10 1 54 (.op 11 1 55 (.op 12 3 0 PT.nil))))) (.op 6 2 50 (.op 9 2 53 (.op 10 1 54 (.op 11 1 55 (.op 12 3 0 PT.nil)))))) (.op 1 2 45 (.op 6 2 50 (.op 9 2 53 (.op 10 1 54 (.op 11 1 55 (.op 12 3 0 PT.nil))))))))))))) [12] (fun W' => W'.cell? ⟨x, 1, none⟩ = some (.slice A l.length k) ∧ W'.cell? ⟨w.heap.size, 0, none⟩ = some (.int .i64 m.f0) ∧ W'.cell? ⟨w.heap.size, 1, none⟩ = some (.int .i64 m.f1) ∧ W'.cell? ⟨w.heap.size, 2, none⟩ = some (.string m.f2)) (by kernel_rfl) rfl (by kernel_rfl) (fun _ t _ _ _ h => by cases t <;> exact h) ⟨h1, d0, d1, d2⟩ (fun hS => ?_)
  repeat (refine RT.take (v := ?_) (a' := ?_) rfl rfl (by assumption) (Or.inl ⟨by rfl, ?_⟩) ?_ ?_; rotate_left; (focus (rintro w' ⟨hS0, hS1, hS2, hS3⟩; go_simp; with_reducible rfl)); rotate_left; (focus (simp only [Act.put, List.setIfInBounds_toArray, List.set_cons_zero, List.set_cons_succ, i64_w, i32_w]; rfl)))
  have hk0 := (Chg.refl (fun _ => False) W).drewN 1
  refine RT.join3 (r := (.op 9 2 53 (.op 10 1 54 (.op 11 1 55 (.op 12 3 0 PT.nil))))) 45 50 52 (fun v1 v2 g w' => Chg (fun _ => False) W w' ∧ Kd.R kM 30 w' W.heap.size ok v2 l ∧ w'.heap[g]? = some (.cells #[.int .i64 m.f0, .int .i64 m.f1, .string m.f2] 30 (0, 0))) (fun v1 v2 g wJ hF => ?_) (fun hcont => ?_)
  rotate_left
  · refine RT.fork rfl rfl rfl rfl (fun K hK => ?_) (fun K hK => ?_)
    · refine Kd.R_lit_step (w0 := W) kM W.heap.size 30 (by rfl) (N := 45) (by rfl) (xs := ([] : List Msg)) (inner := []) (ok := ok) (okp := ok) ?_ (Reps.none _ _) (fun _ h => h) (HN.out _ hk0.low.size) hk0.bel hk0.low.size (by simp) ?_
      · go_simp
      intro v1 w1 ho1 hb1 hg1 hat1
      have hk1 := hk0.grown hg1 (fun k e => by cases e)
      refine hK.out _ _ ⟨(hk1.cell (p := ⟨x, 1, none⟩) hlt).trans h1, (hk1.cell (p := ⟨w.heap.size, 0, none⟩) hgl).trans d0, (hk1.cell (p := ⟨w.heap.size, 1, none⟩) hgl).trans d1, (hk1.cell (p := ⟨w.heap.size, 2, none⟩) hgl).trans d2⟩ (fun hS => ?_)
      clear hK K
      refine RT.norm (a' := ?_) ?_ ?_
      rotate_left
      · show Act.put _ (some 45) _ = _
        simp only [Act.put, List.setIfInBounds_toArray, List.set_cons_zero, List.set_cons_succ, i64_w, i32_w]
        rfl
      refine RT.fork rfl rfl rfl rfl (fun K hK => ?_) (fun K hK => ?_)
      · refine Kd.R_append_rows_step kM (Rr := kM.K _) W.heap.size (by rfl) (.tmp 45) (.tmp 49) 22 30 (.agg #[.int .i64 0, .int .i64 0, .string ⟨#[]⟩]) 32 (by rfl) Try.underlying22 infoM rfl (by decide) (by decide) v1 [] l A l.length k ok (fun _ => False) (by rfl) (by rfl) ho1 (HR.out.chg hk1 (fun _ _ h => h)).fC (fun x cs h => msgKM x cs h) (fun _ h => h.elim) (fun k hk => HN.out k (Nat.le_trans hk1.low.size hk)) hk1.bel hk1.low.size (by have := HL.out; simp; omega) ?_
        intro v2 w2 ho2 hb2 hg2 hat2
        rw [List.nil_append] at ho2
        have hk2 := hk1.grownN hg2 (fun k e => Kd.R_base ho1 k e)
        refine hK.out _ _ ⟨(hk2.cell (p := ⟨x, 1, none⟩) hlt).trans h1, (hk2.cell (p := ⟨w.heap.size, 0, none⟩) hgl).trans d0, (hk2.cell (p := ⟨w.heap.size, 1, none⟩) hgl).trans d1, (hk2.cell (p := ⟨w.heap.size, 2, none⟩) hgl).trans d2⟩ (fun hS => ?_)
        clear hK K
        refine RT.norm (a' := ?_) ?_ ?_
        rotate_left
        · show Act.put _ (some 50) _ = _
          simp only [Act.put, List.setIfInBounds_toArray, List.set_cons_zero, List.set_cons_succ, i64_w, i32_w]
          rfl
        refine RT.one rfl rfl (fun K hK => ?_)
        go_simp
        have hk3 := hk2.alloc (.cells #[.int .i64 m.f0, .int .i64 m.f1, .string m.f2] 30 (0, 0))
        have ho3 := Kd.R_alloc ho2 (.cells #[.int .i64 m.f0, .int .i64 m.f1, .string m.f2] 30 (0, 0))
        have hn_g3 : ∀ k, v2.ownBlock = some k → k ≠ _ := fun k e => Nat.ne_of_lt (R_lt ho2 e)
        refine hK.out _ _ ⟨(hk3.cell (p := ⟨x, 1, none⟩) hlt).trans h1, (hk3.cell (p := ⟨w.heap.size, 0, none⟩) hgl).trans d0, (hk3.cell (p := ⟨w.heap.size, 1, none⟩) hgl).trans d1, (hk3.cell (p := ⟨w.heap.size, 2, none⟩) hgl).trans d2⟩ (fun hS => ?_)
        clear hK K
        refine RT.norm ?_ (hcont v1 v2 _ _ ⟨hk3, ho3, blk_new _ _⟩)
        first | rfl | (simp only [Act.put, List.setIfInBounds_toArray, List.set_cons_zero, List.set_cons_succ]; done) | (simp only [Act.put, List.setIfInBounds_toArray, List.set_cons_zero, List.set_cons_succ]; rfl)
      · go_simp
        have hk4 := hk1.alloc (.cells #[.int .i64 m.f0, .int .i64 m.f1, .string m.f2] 30 (0, 0))
        have ho4 := Kd.R_alloc ho1 (.cells #[.int .i64 m.f0, .int .i64 m.f1, .string m.f2] 30 (0, 0))
        have hn_g4 : ∀ k, v1.ownBlock = some k → k ≠ _ := fun k e => Nat.ne_of_lt (R_lt ho1 e)
        refine hK.out _ _ ⟨(hk4.cell (p := ⟨x, 1, none⟩) hlt).trans h1, (hk4.cell (p := ⟨w.heap.size, 0, none⟩) hgl).trans d0, (hk4.cell (p := ⟨w.heap.size, 1, none⟩) hgl).trans d1, (hk4.cell (p := ⟨w.heap.size, 2, none⟩) hgl).trans d2⟩ (fun hS => ?_)
        have hb_g4 := blk_new w1 (.cells #[.int .i64 m.f0, .int .i64 m.f1, .string m.f2] 30 (0, 0))
        clear hK K
        refine RT.one rfl rfl (fun K hK => ?_)
        refine Kd.R_append_rows_step kM (Rr := kM.K _) W.heap.size (by rfl) (.tmp 45) (.tmp 49) 22 30 (.agg #[.int .i64 0, .int .i64 0, .string ⟨#[]⟩]) 32 (by rfl) Try.underlying22 infoM rfl (by decide) (by decide) v1 [] l A l.length k ok (fun _ => False) (by rfl) (by rfl) ho4 (HR.out.chg hk4 (fun _ _ h => h)).fC (fun x cs h => msgKM x cs h) (fun _ h => h.elim) (fun k hk => HN.out k (Nat.le_trans hk4.low.size hk)) hk4.bel hk4.low.size (by have := HL.out; simp; omega) ?_
        intro v5 w5 ho5 hb5 hg5 hat5
        rw [List.nil_append] at ho5
        have hk5 := hk4.grownN hg5 (fun k e => Kd.R_base ho4 k e)
        have hb_g5 := (hg5.block _ (blk_lt hb_g4) (fun e => hn_g4 _ e.symm rfl)).trans hb_g4
        have hn_g5 : ∀ k, v5.ownBlock = some k → k ≠ w1.heap.size := fun k e => by rcases hat5 with h1 | ⟨q, h1, h2⟩; exact hn_g4 k (h1 ▸ e); rw [h1] at e; cases e; have := blk_lt hb_g4; omega
        refine hK.out _ _ ⟨(hk5.cell (p := ⟨x, 1, none⟩) hlt).trans h1, (hk5.cell (p := ⟨w.heap.size, 0, none⟩) hgl).trans d0, (hk5.cell (p := ⟨w.heap.size, 1, none⟩) hgl).trans d1, (hk5.cell (p := ⟨w.heap.size, 2, none⟩) hgl).trans d2⟩ (fun hS => ?_)
        clear hK K
        refine RT.norm ?_ (hcont v1 v5 _ _ ⟨hk5, ho5, hb_g5⟩)
        first | rfl | (simp only [Act.put, List.setIfInBounds_toArray, List.set_cons_zero, List.set_cons_succ]; done) | (simp only [Act.put, List.setIfInBounds_toArray, List.set_cons_zero, List.set_cons_succ]; rfl)
    · go_simp
      have hk6 := hk0.alloc (.cells #[.int .i64 m.f0, .int .i64 m.f1, .string m.f2] 30 (0, 0))
      refine hK.out _ _ ⟨(hk6.cell (p := ⟨x, 1, none⟩) hlt).trans h1, (hk6.cell (p := ⟨w.heap.size, 0, none⟩) hgl).trans d0, (hk6.cell (p := ⟨w.heap.size, 1, none⟩) hgl).trans d1, (hk6.cell (p := ⟨w.heap.size, 2, none⟩) hgl).trans d2⟩ (fun hS => ?_)
      have hb_g6 := blk_new (W.drewN 1) (.cells #[.int .i64 m.f0, .int .i64 m.f1, .string m.f2] 30 (0, 0))
      clear hK K
      refine RT.one rfl rfl (fun K hK => ?_)
      refine Kd.R_lit_step (w0 := W) kM W.heap.size 30 (by rfl) (N := 45) (by rfl) (xs := ([] : List Msg)) (inner := []) (ok := ok) (okp := ok) ?_ (Reps.none _ _) (fun _ h => h) (HN.out _ hk6.low.size) hk6.bel hk6.low.size (by simp) ?_
      · go_simp
      intro v7 w7 ho7 hb7 hg7 hat7
      have hk7 := hk6.grown hg7 (fun k e => by cases e)
      have hb_g7 := (hg7.block _ (blk_lt hb_g6) (by simp)).trans hb_g6
      have hn_g7 : ∀ k, v7.ownBlock = some k → k ≠ (W.drewN 1).heap.size := fun k e => by obtain ⟨q, h1, h2⟩ := hat7; rw [h1] at e; cases e; have := blk_lt hb_g6; omega
      refine hK.out _ _ ⟨(hk7.cell (p := ⟨x, 1, none⟩) hlt).trans h1, (hk7.cell (p := ⟨w.heap.size, 0, none⟩) hgl).trans d0, (hk7.cell (p := ⟨w.heap.size, 1, none⟩) hgl).trans d1, (hk7.cell (p := ⟨w.heap.size, 2, none⟩) hgl).trans d2⟩ (fun hS => ?_)
      clear hK K
      refine RT.norm (a' := ?_) ?_ ?_
      rotate_left
      · show Act.put _ (some 45) _ = _
        simp only [Act.put, List.setIfInBounds_toArray, List.set_cons_zero, List.set_cons_succ, i64_w, i32_w]
        rfl
      refine RT.one rfl rfl (fun K hK => ?_)
      refine Kd.R_append_rows_step kM (Rr := kM.K _) W.heap.size (by rfl) (.tmp 45) (.tmp 49) 22 30 (.agg #[.int .i64 0, .int .i64 0, .string ⟨#[]⟩]) 32 (by rfl) Try.underlying22 infoM rfl (by decide) (by decide) v7 [] l A l.length k ok (fun _ => False) (by rfl) (by rfl) ho7 (HR.out.chg hk7 (fun _ _ h => h)).fC (fun x cs h => msgKM x cs h) (fun _ h => h.elim) (fun k hk => HN.out k (Nat.le_trans hk7.low.size hk)) hk7.bel hk7.low.size (by have := HL.out; simp; omega) ?_
      intro v8 w8 ho8 hb8 hg8 hat8
      rw [List.nil_append] at ho8
      have hk8 := hk7.grownN hg8 (fun k e => Kd.R_base ho7 k e)
      have hb_g8 := (hg8.block _ (blk_lt hb_g7) (fun e => hn_g7 _ e.symm rfl)).trans hb_g7
      have hn_g8 : ∀ k, v8.ownBlock = some k → k ≠ (W.drewN 1).heap.size := fun k e => by rcases hat8 with h1 | ⟨q, h1, h2⟩; exact hn_g7 k (h1 ▸ e); rw [h1] at e; cases e; have := blk_lt hb_g7; omega
      refine hK.out _ _ ⟨(hk8.cell (p := ⟨x, 1, none⟩) hlt).trans h1, (hk8.cell (p := ⟨w.heap.size, 0, none⟩) hgl).trans d0, (hk8.cell (p := ⟨w.heap.size, 1, none⟩) hgl).trans d1, (hk8.cell (p := ⟨w.heap.size, 2, none⟩) hgl).trans d2⟩ (fun hS => ?_)
      clear hK K
      refine RT.norm ?_ (hcont v7 v8 _ _ ⟨hk8, ho8, hb_g8⟩)
      first | rfl | (simp only [Act.put, List.setIfInBounds_toArray, List.set_cons_zero, List.set_cons_succ]; done) | (simp only [Act.put, List.setIfInBounds_toArray, List.set_cons_zero, List.set_cons_succ]; rfl)
  obtain ⟨hkJ, hoJ, hbJ⟩ := hF
  refine RT.norm (a' := ?_) ?_ ?_
  rotate_left
  · simp only [Act.put, List.setIfInBounds_toArray, List.set_cons_zero, List.set_cons_succ, i64_w, i32_w]
    rfl
  refine RT.one rfl rfl (fun K hK => ?_)
  refine Kd.R_append_rows_step kM (Rr := kM.K _) W.heap.size (by rfl) (.tmp 50) (.tmp 52) 22 30 (.agg #[.int .i64 0, .int .i64 0, .string ⟨#[]⟩]) 32 (by rfl) Try.underlying22 infoM rfl (by decide) (by decide) v2 l [m] (some ⟨g, 0, none⟩) 1 1 ok (fun _ => False) (by rfl) (by rfl) hoJ (one_rows hbJ) (fun x cs h => msgKM x cs h) (fun _ h => h.elim) (fun k hk => HN.out k (Nat.le_trans hkJ.low.size hk)) hkJ.bel hkJ.low.size (by have := HL.out; simp; omega) ?_
  intro v9 w9 ho9 hb9 hg9 hat9
  have hk9 := hkJ.grownN hg9 (fun k e => Kd.R_base hoJ k e)
  refine hK.out _ _ ⟨(hk9.cell (p := ⟨x, 1, none⟩) hlt).trans h1, (hk9.cell (p := ⟨w.heap.size, 0, none⟩) hgl).trans d0, (hk9.cell (p := ⟨w.heap.size, 1, none⟩) hgl).trans d1, (hk9.cell (p := ⟨w.heap.size, 2, none⟩) hgl).trans d2⟩ (fun hS => ?_)
  clear hK K
  have HOF := Aside0.mk ho9
  have HKF := Aside0.mk hk9
  have hcz := (hk9.cell (p := ⟨x, 1, none⟩) hlt).trans h1
  have hfz := (hk9.frozen (p := ⟨x, 1, none⟩) hlt).trans hfr
  obtain ⟨A4, n4, c4, hv4⟩ : ∃ A4 n4 c4, v9 = .slice A4 n4 c4 := by
    obtain ⟨A4, c4, e⟩ := Kd.R_slice HOF.out
    exact ⟨A4, _, c4, e⟩
  subst hv4
  clear hk0
  refine RT.norm (a' := ?_) ?_ ?_
  rotate_left
  · show Act.put _ (some 53) _ = _
    simp only [Act.put, List.setIfInBounds_toArray, List.set_cons_zero, List.set_cons_succ, i64_w, i32_w]
    rfl
  repeat (refine RT.pure (v := ?_) (a' := ?_) rfl rfl (Or.inl ⟨by rfl, ?_⟩) ?_ ?_; rotate_left; (focus (intro w'; go_simp; with_reducible rfl)); rotate_left; (focus (simp only [Act.put, List.setIfInBounds_toArray, List.set_cons_zero, List.set_cons_succ, i64_w, i32_w]; rfl)))
  refine RT.last rfl rfl (fun K hK => ?_)
  go_simp
  refine hK.out _ _ (RT.nil ?_)
  clear hK K hS
  go_wp2
  go_ret
  exact ⟨rfl, (HXW.out.ofBelow HKF.out).setL (fun k hk => (HOK.out k hk).1) (Kd.R_V HOF.out), Chg.set (S := fun k => k = x) (p := ⟨x, 1, none⟩) ((HCW.out.trans HKF.out).mono (fun _ h => h.elim)) (.inl rfl) _⟩

end Go.Proofs.Ytclmhodgfhkgcaa.Q

/- The contract of the reference's Take. (Printed by gen_ref.py.) -/
namespace Go.Proofs.Ytclmhodgfhkgcaa.Q
open Go.RowKit Go.Proofs.YtclmhodgfhkgcaaW.PrintWords Go.Proofs.YtclmhodgfhkgcaaW.PrintLast Go.Proofs.YtclmhodgfhkgcaaW.PrintMore
set_option linter.unusedVariables false
set_option linter.unusedSimpArgs false

set_option maxHeartbeats 4000000 in
set_option maxRecDepth 100000 in
theorem rTake_calls (ok : Nat → Prop) (x o : Nat) (X : Nt) (i : Nat) (w : World) (hX : RefAt ok w x o X) (hi : i < X.l.length) (hl : X.l.length ≤ 256) (hok : ∀ k, ok k → k ≠ x ∧ k ≠ o) (hnew : ∀ k, w.heap.size ≤ k → ok k) :
    Calls Try.prog 31 #[.pointer (some ⟨x, 0, none⟩), .int .i64 (i : Int)] w fun e w' => e = .returned (MsgV (X.l[i]'hi)) ∧ RefAt ok w' x o { X with l := takeL X.l i } ∧ Chg (fun k => k = x) w w' := by
  have HOK := Aside0.mk hok
  have HNW := Aside0.mk hnew
  have HX := Aside0.mk hX
  have HMM := Aside0.mk (rfl : X.l[i]'hi = X.l[i]'hi)
  obtain ⟨m, hm⟩ : ∃ m, X.l[i]'hi = m := ⟨_, rfl⟩
  rw [hm]
  obtain ⟨W, hW⟩ : ∃ W, (w.alloc (.cells #[.int .i64 0, .int .i64 0, .string ⟨#[]⟩] 30 (0, 0))).alloc (.cells #[.int .i64 m.f0, .int .i64 m.f1, .string m.f2] 30 (0, 0)) = W := ⟨_, rfl⟩
  have HCW : Aside0 (Chg (fun _ => False) w W) := ⟨hW ▸ ((Chg.refl _ _).alloc _).alloc _⟩
  have B0 : Aside0 (W.heap[w.heap.size]? = some (.cells #[.int .i64 0, .int .i64 0, .string ⟨#[]⟩] 30 (0, 0))) := ⟨hW ▸ blk_alloc (blk_new _ _) _⟩
  have B1 : Aside0 (W.heap[w.heap.size + 1]? = some (.cells #[.int .i64 m.f0, .int .i64 m.f1, .string m.f2] 30 (0, 0))) := ⟨hW ▸ by have := blk_new (w.alloc (.cells #[.int .i64 0, .int .i64 0, .string ⟨#[]⟩] 30 (0, 0))) (.cells #[.int .i64 m.f0, .int .i64 m.f1, .string m.f2] 30 (0, 0)); simpa using this⟩
  have HXW := Aside0.mk (hX.ofBelow HCW.out)
  have hx1 : ∀ o, (w.alloc o).cell? ⟨x, 1, none⟩ = w.cell? ⟨x, 1, none⟩ := fun o => ((Chg.refl (fun _ => False) w).alloc o).cell (p := ⟨x, 1, none⟩) hX.lt.1
  obtain ⟨-, ⟨A0, k0, h10, hlk0, hR0⟩, -, -, -⟩ := hX.open
  have hc0 := fun o => RowM.chg hR0 ((Chg.refl (fun _ => False) w).alloc o) (fun _ _ h => h)
  obtain ⟨-, ⟨A, k, h1, hlk, hR⟩, -, -, hfz⟩ := HXW.out.open
  have e0 : (Value.slice A0 X.l.length k0) = .slice A X.l.length k := by
    have h2 := (HCW.out.cell (p := ⟨x, 1, none⟩) hX.lt.1).trans h10
    rw [h1] at h2
    exact (Option.some.inj h2).symm
  injection e0 with e1 _ e2
  subst e1
  subst e2
  obtain ⟨ad, rfl, y0, y1, y2⟩ := msg_cells (hc0 (.cells #[.int .i64 0, .int .i64 0, .string ⟨#[]⟩] 30 (0, 0))).fC i hi
  rw [hm] at y0 y1 y2
  clear hc0 hR0 hlk0 hm HMM
  obtain ⟨l, hll⟩ : ∃ l, X.l = l := ⟨_, rfl⟩
  rw [hll] at h1 hlk hR hi hl h10 ⊢
  have hfr := hfz 1
  obtain ⟨hs1, hR1⟩ := hR.head (j := i) (by omega)
  obtain ⟨A2, hs2, hR2⟩ := hR.cut (j := i + 1) (by omega)
  have HR1 := Aside0.mk hR1
  have HR2 := Aside0.mk hR2
  have s1 : IntKind.i64.wrap ((i : Int) + 1) = ((i + 1 : Nat) : Int) := by rw [IntWalk.i64_in _ (by omega)]; rfl
  obtain ⟨i1, hi1⟩ : ∃ i1, i + 1 = i1 := ⟨_, rfl⟩
  unfold takeL
  rw [hi1] at hs2 s1 HR2 ⊢
  have HI := Aside0.mk hi1
  have HL := Aside0.mk hl
  have HI2 := Aside0.mk hi
  have hi0 : (0 : Int) ≤ (i : Int) := by omega
  have hi3 : (i : Int) < (l.length : Int) := by omega
  have hlt := HXW.out.lt.1
  have hxw := hX.lt.1
  have HN : Aside0 (∀ k, W.heap.size ≤ k → ok k) := ⟨fun k hk => HNW.out k (Nat.le_trans HCW.out.low.size hk)⟩
  have hWW := Aside0.mk hW
  clear hX hok hnew hR hR1 hR2 hll hfz hlk hW hi1 hl
  go_enter Try.func31, Try.ntmps31
  go_wp2
  rw [hWW.out]
  clear hx1 y0 y1 y2 h10
  refine wp_tree (.op 0 0 13 (.op 2 0 15 (.op 3 0 16 (.op 4 0 17 (.op 5 0 18 (.op 6 0 19 (.op 7 0 20 (.op 9 0 22 (.op 10 0 23 (.op 11 0 24 (.op 12 0 25 (.op 13 0 26 (.op 14 0 27 (.op 15 0 28 (.op 1 2 14 (.op 8 2 21 (.op 16 2 29 (.op 17 1 30 (.op 18 1 31 (.op 19 3 0 PT.nil)))))))))))))))))))) [19] (fun W' => W'.cell? ⟨x, 1, none⟩ = some (.slice (some ad) l.length k0)) (by kernel_rfl) rfl (by kernel_rfl) (fun _ t _ _ _ h => by cases t <;> exact h) h1 (fun hS => ?_)
  repeat (refine RT.take (v := ?_) (a' := ?_) rfl rfl (by assumption) (Or.inl ⟨by rfl, ?_⟩) ?_ ?_; rotate_left; (focus (rintro w' hS0; go_simp; with_reducible rfl)); rotate_left; (focus (simp only [Act.put, List.setIfInBounds_toArray, List.set_cons_zero, List.set_cons_succ, i64_w, i32_w]; rfl)))
  have hk0 := (Chg.refl (fun _ => False) W).drewN 1
  refine RT.one rfl rfl (fun K hK => ?_)
  refine Kd.R_lit_step (w0 := W) kM W.heap.size 30 (by rfl) (N := 14) (by rfl) (xs := ([] : List Msg)) (inner := []) (ok := ok) (okp := ok) ?_ (Reps.none _ _) (fun _ h => h) (HN.out _ hk0.low.size) hk0.bel hk0.low.size (by simp) ?_
  · go_simp
  intro v1 w1 ho1 hb1 hg1 hat1
  have hk1 := hk0.grown hg1 (fun k e => by cases e)
  refine hK.out _ _ ((hk1.cell (p := ⟨x, 1, none⟩) hlt).trans h1) (fun hS => ?_)
  clear hK K
  refine RT.norm (a' := ?_) ?_ ?_
  rotate_left
  · show Act.put _ (some 14) _ = _
    simp only [Act.put, List.setIfInBounds_toArray, List.set_cons_zero, List.set_cons_succ, i64_w, i32_w]
    rfl
  refine RT.one rfl rfl (fun K hK => ?_)
  refine Kd.R_append_rows_step kM (Rr := kM.K _) W.heap.size (by rfl) (.tmp 14) (.tmp 20) 22 30 (.agg #[.int .i64 0, .int .i64 0, .string ⟨#[]⟩]) 32 (by rfl) Try.underlying22 infoM rfl (by decide) (by decide) v1 [] (l.take i) (some ad) i k0 ok (fun _ => False) (by rfl) (by rfl) ho1 (HR1.out.chg hk1 (fun _ _ h => h)).fC (fun x cs h => msgKM x cs h) (fun _ h => h.elim) (fun k hk => HN.out k (Nat.le_trans hk1.low.size hk)) hk1.bel hk1.low.size (by have := HL.out; have := HI2.out; simp; omega) ?_
  intro v2 w2 ho2 hb2 hg2 hat2
  rw [List.nil_append] at ho2
  have hk2 := hk1.grownN hg2 (fun k e => Kd.R_base ho1 k e)
  refine hK.out _ _ ((hk2.cell (p := ⟨x, 1, none⟩) hlt).trans h1) (fun hS => ?_)
  clear hK K
  refine RT.norm (a' := ?_) ?_ ?_
  rotate_left
  · show Act.put _ (some 21) _ = _
    simp only [Act.put, List.setIfInBounds_toArray, List.set_cons_zero, List.set_cons_succ, i64_w, i32_w]
    rfl
  refine RT.one rfl rfl (fun K hK => ?_)
  refine Kd.R_append_rows_step kM (Rr := kM.K _) W.heap.size (by rfl) (.tmp 21) (.tmp 28) 22 30 (.agg #[.int .i64 0, .int .i64 0, .string ⟨#[]⟩]) 32 (by rfl) Try.underlying22 infoM rfl (by decide) (by decide) v2 (l.take i) (l.drop i1) A2 (l.length - i1) (k0 - i1) ok (fun _ => False) (by rfl) (by rfl) ho2 (HR2.out.chg hk2 (fun _ _ h => h)).fC (fun x cs h => msgKM x cs h) (fun _ h => h.elim) (fun k hk => HN.out k (Nat.le_trans hk2.low.size hk)) hk2.bel hk2.low.size (by have := HL.out; have := HI2.out; simp; omega) ?_
  intro v3 w3 ho3 hb3 hg3 hat3
  have hk3 := hk2.grownN hg3 (fun k e => Kd.R_base ho2 k e)
  refine hK.out _ _ ((hk3.cell (p := ⟨x, 1, none⟩) hlt).trans h1) (fun hS => ?_)
  clear hK K
  have HOF := Aside0.mk ho3
  have HKF := Aside0.mk hk3
  have hcz := (hk3.cell (p := ⟨x, 1, none⟩) hlt).trans h1
  have hfz := (hk3.frozen (p := ⟨x, 1, none⟩) hlt).trans hfr
  obtain ⟨A4, n4, c4, hv4⟩ : ∃ A4 n4 c4, v3 = .slice A4 n4 c4 := by
    obtain ⟨A4, c4, e⟩ := Kd.R_slice HOF.out
    exact ⟨A4, _, c4, e⟩
  subst hv4
  clear hk0
  refine RT.norm (a' := ?_) ?_ ?_
  rotate_left
  · show Act.put _ (some 29) _ = _
    simp only [Act.put, List.setIfInBounds_toArray, List.set_cons_zero, List.set_cons_succ, i64_w, i32_w]
    rfl
  repeat (refine RT.pure (v := ?_) (a' := ?_) rfl rfl (Or.inl ⟨by rfl, ?_⟩) ?_ ?_; rotate_left; (focus (intro w'; go_simp; with_reducible rfl)); rotate_left; (focus (simp only [Act.put, List.setIfInBounds_toArray, List.set_cons_zero, List.set_cons_succ, i64_w, i32_w]; rfl)))
  refine RT.last rfl rfl (fun K hK => ?_)
  go_simp
  refine hK.out _ _ (RT.nil ?_)
  clear hK K hS
  have HC5 := Aside0.mk (Chg.set (S := fun k => k = x) (p := ⟨x, 1, none⟩) ((HCW.out.trans HKF.out).mono (fun _ h => h.elim)) (.inl rfl) (.slice A4 n4 c4))
  have HWS : Aside0 (w.heap.size < W.heap.size) := ⟨blk_lt B0.out⟩
  have HX5 := Aside0.mk ((HXW.out.ofBelow HKF.out).setL2 (ok' := fun k => ok k ∧ W.heap.size ≤ k) (fun k hk => (HOK.out k hk.1).1) (Kd.R_V (Kd.R_mono (Kd.R_bound HOF.out) (fun k hk => ⟨hk.1, hk.2.1⟩))))
  have C0 := Aside0.mk (blk_far (p := ⟨x, 1, none⟩) (chg_blk HKF.out (fun h => h) B0.out) (Nat.ne_of_gt hxw) (.slice A4 n4 c4))
  have C1 := Aside0.mk (blk_far (p := ⟨x, 1, none⟩) (chg_blk HKF.out (fun h => h) B1.out) (by have := hxw; exact fun e => by simp at e; omega) (.slice A4 n4 c4))
  obtain ⟨q0, q1, q2, f0, f1, f2⟩ := box3 C0.out
  obtain ⟨t0, t1, t2, -, -, -⟩ := box3 C1.out
  generalize hw9 : w3.setCell ⟨x, 1, none⟩ (.slice A4 n4 c4) = w9 at *
  clear hw9 h1 hcz hfz hfr
  go_wp2
  refine bodyPost_ret (results_single rfl (Vals.cell w.heap.size 30 _ (0, 0) _ rfl (blk_put (blk_put (blk_put C0.out 0 _ rfl) 1 _ rfl) 2 _ rfl) Try.underlying30 rfl (by kernel_rfl) .nil)) rfl ?_
  refine ⟨rfl, ?_, ?_⟩
  · exact RefAt.mono (HX5.out.chg (S := fun k => k = w.heap.size) (Chg.set3 _ _ _ _ _) (Nat.ne_of_lt hxw) (Nat.ne_of_lt HX.out.lt.2) (fun k hk e => by have := HWS.out; have := hk.2; omega)) (fun k hk => hk.1)
  · exact ((HC5.out.set (p := ⟨w.heap.size, 0, none⟩) (.inr (Nat.le_refl _)) _).set (p := ⟨w.heap.size, 1, none⟩) (.inr (Nat.le_refl _)) _).set (p := ⟨w.heap.size, 2, none⟩) (.inr (Nat.le_refl _)) _

end Go.Proofs.Ytclmhodgfhkgcaa.Q

/- The net and the reference side by side: every call of either one. -/
namespace Go.Proofs.Ytclmhodgfhkgcaa.Q
open Go.RowKit Go.Proofs.YtclmhodgfhkgcaaW.PrintWords Go.Proofs.YtclmhodgfhkgcaaW.PrintLast Go.Proofs.YtclmhodgfhkgcaaW.PrintMore
set_option linter.unusedVariables false
set_option linter.unusedSimpArgs false

set_option maxHeartbeats 4000000 in
set_option maxRecDepth 100000 in
theorem rsend_not (ok : Nat → Prop) (x o : Nat) (X : Nt) (m : Msg) (r : Int) (w : World) (hX : RefAt ok w x o X) (h : (¬ Two X m.f0 m.f1 ∧ r = 2) ∨ (Two X m.f0 m.f1 ∧ 8192 < (m.f2.size : Int) ∧ r = 4)) :
    Calls Try.prog 29 #[.pointer (some ⟨x, 0, none⟩), MsgV m] w fun e w' => e = .returned (.int .i64 r) ∧ Chg (fun _ => False) w w' := by
  have HX := Aside0.mk hX
  have HT := Aside0.mk (fun w0 h => rTwo_calls ok x o X m.f0 m.f1 w0 h)
  rcases h with ⟨h2, rfl⟩ | ⟨h2, hs, rfl⟩
  case' inl => rw [decide_eq_false h2] at HT
  case' inr => rw [decide_eq_true h2] at HT
  all_goals
    clear hX h2
    go_enter Try.func29, Try.ntmps29
    go_wp2_with (first
      | (go_at_call 19; refine (HT.out _ (HX.out.ofBelow ((Chg.refl _ _).alloc _))).mono ?_; rintro e w1 ⟨rfl, rfl⟩; clear HT))
    go_ret
    exact ⟨rfl, (Chg.refl _ _).alloc _⟩
set_option maxHeartbeats 4000000 in
set_option maxRecDepth 100000 in
theorem rsend_lost (ok : Nat → Prop) (x o : Nat) (X : Nt) (m : Msg) (r : Int) (w : World) (hX : RefAt ok w x o X) (hF : Fine X) (h2 : Two X m.f0 m.f1) (hs : ¬ 8192 < (m.f2.size : Int)) (hok : ∀ k, ok k → k ≠ x ∧ k ≠ o) (h : (isCut X m.f0 m.f1 = true ∧ r = 11) ∨ (isCut X m.f0 m.f1 = false ∧ 256 ≤ X.l.length ∧ r = 10)) :
    Calls Try.prog 29 #[.pointer (some ⟨x, 0, none⟩), MsgV m] w fun e w' => e = .returned (.int .i64 r) ∧ RefAt ok w' x o (lose X) ∧ Chg (fun k => k = x) w w' := by
  have HX := Aside0.mk hX
  have HOK := Aside0.mk hok
  have nd : Nd m.f0 ∧ Nd m.f1 := by
    obtain ⟨a, b, c, d, e⟩ := h2
    obtain ⟨f, g⟩ := hF.few
    unfold Nd
    omega
  have HT := Aside0.mk (fun w0 h => rTwo_calls ok x o X m.f0 m.f1 w0 h)
  rw [decide_eq_true h2] at HT
  have HC := Aside0.mk (fun w0 h => rCut_calls ok x o X m.f0 m.f1 w0 h nd.1 nd.2)
  have l0 := hF.l0
  have l1 := hF.l1
  have HXW := Aside0.mk (hX.ofBelow ((Chg.refl _ w).alloc (.cells #[.int .i64 m.f0, .int .i64 m.f1, .string m.f2] 30 (0, 0))))
  obtain ⟨-, ⟨A, k, h1, -, -⟩, -, h3, hfz⟩ := HXW.out.open
  have f3 := hfz 3
  have hlt := HXW.out.lt.1
  have hx := hX.lt.1
  rcases h with ⟨hc, rfl⟩ | ⟨hc, hfull, rfl⟩
  all_goals
    rw [hc] at HC
    clear hX hF h2 hc hok nd hfz
    go_enter Try.func29, Try.ntmps29
    go_wp2_with (first
      | (go_at_call 19; refine (HT.out _ HXW.out).mono ?_; rintro e w1 ⟨rfl, rfl⟩; clear HT)
      | (go_at_call 20; refine (HC.out _ HXW.out).mono ?_; rintro e w1 ⟨rfl, rfl⟩; clear HC))
    go_ret
    exact ⟨rfl, (HX.out.setLost (fun k hk => (HOK.out k hk).1) _).ofBelow ((Chg.refl _ _).alloc _), (Chg.set (S := fun k => k = x) (p := ⟨x, 3, none⟩) (Chg.refl _ _) (.inl rfl) _).alloc _⟩
theorem rSend_calls (ok : Nat → Prop) (x o : Nat) (X : Nt) (m : Msg) (w : World) (hX : RefAt ok w x o X) (hF : Fine X) (hok : ∀ k, ok k → k ≠ x ∧ k ≠ o) (hnew : ∀ k, w.heap.size ≤ k → ok k) :
    Calls Try.prog 29 #[.pointer (some ⟨x, 0, none⟩), MsgV m] w fun e w' => e = .returned (.int .i64 (nSend X m).1) ∧ RefAt ok w' x o (nSend X m).2 ∧ Chg (fun k => k = x) w w' := by
  unfold nSend
  by_cases h2 : Two X m.f0 m.f1
  · rw [if_pos h2]
    by_cases hs : 8192 < (m.f2.size : Int)
    · rw [if_pos hs]
      refine (rsend_not ok x o X m 4 w hX (.inr ⟨h2, hs, rfl⟩)).mono ?_
      rintro e w' ⟨he, hc⟩
      exact ⟨he, hX.ofBelow hc, hc.only⟩
    · rw [if_neg hs]
      cases hcut : isCut X m.f0 m.f1
      · rw [if_neg (by decide)]
        by_cases hfull : 256 ≤ X.l.length
        · rw [if_pos hfull]
          exact rsend_lost ok x o X m 10 w hX hF h2 hs hok (.inr ⟨hcut, hfull, rfl⟩)
        · rw [if_neg hfull]
          exact rsend_ok ok x o X m w hX hF h2 hs hcut hfull hok hnew
      · rw [if_pos rfl]
        exact rsend_lost ok x o X m 11 w hX hF h2 hs hok (.inl ⟨hcut, rfl⟩)
  · rw [if_neg h2]
    refine (rsend_not ok x o X m 2 w hX (.inl ⟨h2, rfl⟩)).mono ?_
    rintro e w' ⟨he, hc⟩
    exact ⟨he, hX.ofBelow hc, hc.only⟩

def okD (b c x o : Nat) (k : Nat) : Prop := k ≠ b ∧ k ≠ c ∧ k ≠ x ∧ k ≠ o
def SD (b c x o : Nat) (k : Nat) : Prop := k = b ∨ k = c ∨ k = x ∨ k = o
/-- The net as X, the reference as Y, apart. -/
structure Duo (w0 w : World) (b c x o n : Nat) (X Y : Nt) : Prop where
  net : ∃ n', n' ≤ n ∧ NetAt (okD b c x o) w b c n' X
  ref : RefAt (okD b c x o) w x o Y
  ne : b ≠ x ∧ b ≠ o ∧ c ≠ x ∧ c ≠ o
  low : Below w0.heap.size w0 w
  ge : w0.heap.size ≤ b ∧ w0.heap.size ≤ c ∧ w0.heap.size ≤ x ∧ w0.heap.size ≤ o
section
variable {w0 w w' : World} {b c x o n : Nat} {X Y : Nt}
theorem Duo.lt (h : Duo w0 w b c x o n X Y) : b < w.heap.size ∧ c < w.heap.size ∧ x < w.heap.size ∧ o < w.heap.size := by
  obtain ⟨n', -, hn⟩ := h.net
  exact ⟨hn.lt, hn.cuts.lt, h.ref.lt.1, h.ref.lt.2⟩
theorem Duo.away (h : Duo w0 w b c x o n X Y) {g : Nat} (hg : w.heap.size ≤ g) : ¬ SD b c x o g := by
  have := h.lt
  unfold SD
  omega
theorem Duo.old (h : Duo w0 w b c x o n X Y) : ∀ k, w.heap.size ≤ k → okD b c x o k := fun k hk => by
  have := h.lt
  unfold okD
  omega
theorem Duo.netc (h : Duo w0 w b c x o n X Y) {n' n'' : Nat} {X' : Nt} (hn' : n'' ≤ n') (hn : NetAt (okD b c x o) w' b c n'' X') (hc : Chg (fun k => k = b ∨ k = c) w w') : Duo w0 w' b c x o n' X' Y ∧ Chg (SD b c x o) w w' := by
  obtain ⟨h1, h2, h3, h4⟩ := h.ne
  refine ⟨⟨⟨n'', hn', hn⟩, h.ref.chg hc (by omega) (by omega) (fun k hk e => by rcases e with e | e; exact hk.1 e; exact hk.2.1 e), h.ne, ?_, h.ge⟩, hc.mono (fun k e => by rcases e with e | e; exact .inl e; exact .inr (.inl e))⟩
  exact hc.below h.low h.low.size (fun k e => by rcases e with rfl | rfl; exact h.ge.1; exact h.ge.2.1)
theorem Duo.refc (h : Duo w0 w b c x o n X Y) {Y' : Nt} (hr : RefAt (okD b c x o) w' x o Y') (hc : Chg (fun k => k = x ∨ k = o) w w') : Duo w0 w' b c x o n X Y' ∧ Chg (SD b c x o) w w' := by
  obtain ⟨h1, h2, h3, h4⟩ := h.ne
  obtain ⟨n', hn', hn⟩ := h.net
  refine ⟨⟨⟨n', hn', hn.chg hc (by omega) (by omega) (fun k hk e => by rcases e with e | e; exact hk.2.2.1 e; exact hk.2.2.2 e)⟩, hr, h.ne, ?_, h.ge⟩, hc.mono (fun k e => by rcases e with e | e; exact .inr (.inr (.inl e)); exact .inr (.inr (.inr e)))⟩
  exact hc.below h.low h.low.size (fun k e => by rcases e with rfl | rfl; exact h.ge.2.2.1; exact h.ge.2.2.2)
theorem Duo.quiet (h : Duo w0 w b c x o n X Y) (hc : Chg (fun _ => False) w w') : Duo w0 w' b c x o n X Y := by
  obtain ⟨n', hn', hn⟩ := h.net
  exact (h.netc hn' (hn.ofBelow hc) (hc.mono (fun _ h => h.elim))).1
theorem one_b (hc : Chg (fun k => k = b) w w') : Chg (fun k => k = b ∨ k = c) w w' := hc.mono (fun k e => .inl e)
theorem one_c (hc : Chg (fun k => k = c) w w') : Chg (fun k => k = b ∨ k = c) w w' := hc.mono (fun k e => .inr e)
theorem Duo.send (h : Duo w0 w b c x o n X Y) (hF : Fine X) (m : Msg) : Calls Try.prog 10 #[.pointer (some ⟨b, 0, none⟩), MsgV m] w fun e w' => e = .returned (.int .i64 (nSend X m).1) ∧ Duo w0 w' b c x o n (nSend X m).2 Y ∧ Chg (SD b c x o) w w' := by
  obtain ⟨n', hn', hn⟩ := h.net
  exact (Send_calls _ b c n' X m w hn hF (fun k hk => hk.1) h.old).mono fun e w' ⟨he, hN, hc⟩ => ⟨he, h.netc hn' hN (one_b hc)⟩
theorem Duo.double (h : Duo w0 w b c x o n X Y) (i : Int) : Calls Try.prog 12 #[.pointer (some ⟨b, 0, none⟩), .int .i64 i] w fun e w' => e = .returned (.int .i64 (nDouble X i).1) ∧ Duo w0 w' b c x o n (nDouble X i).2 Y ∧ Chg (SD b c x o) w w' := by
  obtain ⟨n', hn', hn⟩ := h.net
  exact (Double_calls _ b c n' X i w hn (fun k hk => hk.1) h.old).mono fun e w' ⟨he, hN, hc⟩ => ⟨he, h.netc hn' hN (one_b hc)⟩
theorem Duo.drop (h : Duo w0 w b c x o n X Y) (hF : Fine X) (i : Int) : Calls Try.prog 13 #[.pointer (some ⟨b, 0, none⟩), .int .i64 i] w fun e w' => e = .returned (.int .i64 (nDrop X i).1) ∧ Duo w0 w' b c x o n (nDrop X i).2 Y ∧ Chg (SD b c x o) w w' := by
  obtain ⟨n', hn', hn⟩ := h.net
  exact (Drop_calls _ b c n' X i w hn hF (fun k hk => hk.1) h.old).mono fun e w' ⟨he, hN, hc⟩ => ⟨he, h.netc hn' hN (one_b hc)⟩
theorem Duo.move (h : Duo w0 w b c x o n X Y) (hl : X.l.length ≤ 256) (i j : Int) : Calls Try.prog 11 #[.pointer (some ⟨b, 0, none⟩), .int .i64 i, .int .i64 j] w fun e w' => e = .returned (.int .i64 (nMove X i j).1) ∧ Duo w0 w' b c x o n (nMove X i j).2 Y ∧ Chg (SD b c x o) w w' := by
  obtain ⟨n', hn', hn⟩ := h.net
  exact (Move_calls _ b c n' X i j w hn hl (fun k hk => hk.1) h.old).mono fun e w' ⟨he, hN, hc⟩ => ⟨he, h.netc hn' hN (one_b hc)⟩
theorem Duo.deliver (h : Duo w0 w b c x o n X Y) (hF : Fine X) (i : Int) : Calls Try.prog 14 #[.pointer (some ⟨b, 0, none⟩), .int .i64 i] w fun e w' => e = .returned (.tuple #[MsgV (nDeliver X i).1.1, .int .i64 (nDeliver X i).1.2]) ∧ Duo w0 w' b c x o n (nDeliver X i).2 Y ∧ Chg (SD b c x o) w w' := by
  obtain ⟨n', hn', hn⟩ := h.net
  exact (Deliver_calls _ b c n' X i w hn hF (fun k hk => hk.1) h.old).mono fun e w' ⟨he, hN, hc⟩ => ⟨he, h.netc hn' hN (one_b hc)⟩
theorem Duo.cut (h : Duo w0 w b c x o n X Y) (hF : Fine X) (hn : n < 1000000) (p q : Int) (all : Bool) : Calls Try.prog 23 #[.pointer (some ⟨b, 0, none⟩), .int .i64 p, .int .i64 q, .bool all] w fun e w' => e = .returned (.int .i64 (nCut X p q all).1) ∧ Duo w0 w' b c x o (n + 1) (nCut X p q all).2 Y ∧ Chg (SD b c x o) w w' := by
  obtain ⟨n', hn', hN⟩ := h.net
  exact (Cut_calls _ b c n' X p q all w hN hF (fun k hk => ⟨hk.1, hk.2.1⟩) h.old (by omega)).mono fun e w' ⟨he, ⟨n2, hn2, hN2⟩, hc⟩ => ⟨he, h.netc (by omega) hN2 hc⟩
theorem Duo.join (h : Duo w0 w b c x o n X Y) (hF : Fine X) (p q : Int) : Calls Try.prog 24 #[.pointer (some ⟨b, 0, none⟩), .int .i64 p, .int .i64 q] w fun e w' => e = .returned (.int .i64 (nJoin X p q).1) ∧ Duo w0 w' b c x o n (nJoin X p q).2 Y ∧ Chg (SD b c x o) w w' := by
  obtain ⟨n', hn', hN⟩ := h.net
  exact (Join_calls _ b c n' X p q w hN hF (fun k hk => ⟨hk.1, hk.2.1⟩)).mono fun e w' ⟨he, hN2, hc⟩ => ⟨he, h.netc hn' hN2 hc⟩
theorem Duo.up (h : Duo w0 w b c x o n X Y) (hF : Few X) (p q : Int) : Calls Try.prog 18 #[.pointer (some ⟨b, 0, none⟩), .int .i64 p, .int .i64 q] w fun e w' => e = .returned (.bool (upB X p q)) ∧ Duo w0 w' b c x o n X Y ∧ Chg (SD b c x o) w w' := by
  obtain ⟨n', hn', hN⟩ := h.net
  exact (Up_calls _ b c n' X p q w hN hF).mono fun e w' ⟨he, hc⟩ => ⟨he, h.quiet hc, hc.mono (fun _ h => h.elim)⟩
theorem Duo.lost (h : Duo w0 w b c x o n X Y) : Calls Try.prog 17 #[.pointer (some ⟨b, 0, none⟩)] w fun e w' => e = .returned (.int .i64 X.lost) ∧ w = w' := by
  obtain ⟨n', hn', hN⟩ := h.net
  exact Lost_calls _ b c n' X w hN
theorem Duo.flying (h : Duo w0 w b c x o n X Y) (hl : X.l.length ≤ 256) : Calls Try.prog 22 #[.pointer (some ⟨b, 0, none⟩)] w fun e w' => ∃ v, e = .returned v ∧ RowM w' (fun k => w.heap.size ≤ k) v X.l ∧ Duo w0 w' b c x o n X Y ∧ Chg (fun _ => False) w w' := by
  obtain ⟨n', hn', hN⟩ := h.net
  exact (Flying_calls _ b c n' X w hN hl).mono fun e w' ⟨v, he, hv, hc⟩ => ⟨v, he, hv, h.quiet hc, hc⟩
theorem Duo.rsend (h : Duo w0 w b c x o n X Y) (hF : Fine Y) (m : Msg) : Calls Try.prog 29 #[.pointer (some ⟨x, 0, none⟩), MsgV m] w fun e w' => e = .returned (.int .i64 (nSend Y m).1) ∧ Duo w0 w' b c x o n X (nSend Y m).2 ∧ Chg (SD b c x o) w w' :=
  (rSend_calls _ x o Y m w h.ref hF (fun k hk => ⟨hk.2.2.1, hk.2.2.2⟩) h.old).mono fun e w' ⟨he, hR, hc⟩ => ⟨he, h.refc hR (one_b hc)⟩
theorem Duo.rtake (h : Duo w0 w b c x o n X Y) (i : Nat) (hi : i < Y.l.length) (hl : Y.l.length ≤ 256) : Calls Try.prog 31 #[.pointer (some ⟨x, 0, none⟩), .int .i64 (i : Int)] w fun e w' => e = .returned (MsgV (Y.l[i]'hi)) ∧ Duo w0 w' b c x o n X { Y with l := takeL Y.l i } ∧ Chg (SD b c x o) w w' :=
  (rTake_calls _ x o Y i w h.ref hi hl (fun k hk => ⟨hk.2.2.1, hk.2.2.2⟩) h.old).mono fun e w' ⟨he, hR, hc⟩ => ⟨he, h.refc hR (one_b hc)⟩
theorem Duo.rset (h : Duo w0 w b c x o n X Y) {p q : Int} (hp : Nd p) (hq : Nd q) (hpq : p ≠ q) (t : Bool) : Calls Try.prog 37 #[.pointer (some ⟨x, 0, none⟩), .int .i64 p, .int .i64 q, .bool t] w fun e w' => e = .returned (.tuple #[]) ∧ Duo w0 w' b c x o n X (cutX Y p q t) ∧ Chg (SD b c x o) w w' :=
  (rSet_calls _ x o Y p q t w h.ref hp hq hpq (fun k hk => hk.2.2.2)).mono fun e w' ⟨he, hR, hc⟩ => ⟨he, h.refc hR (one_c hc)⟩
theorem Duo.rlost (h : Duo w0 w b c x o n X Y) (z : Int) : Duo w0 (w.setCell ⟨x, 3, none⟩ (.int .i64 z)) b c x o n X { Y with lost := z } ∧ Chg (SD b c x o) w (w.setCell ⟨x, 3, none⟩ (.int .i64 z)) :=
  h.refc (h.ref.setLost (fun k hk => hk.2.2.1) z) (one_b (Chg.set (S := fun k => k = x) (p := ⟨x, 3, none⟩) (Chg.refl _ _) (.inl rfl) _))
theorem Duo.rrow (h : Duo w0 w b c x o n X Y) {v : Value} {xs : List Msg} (hv : RowM w (okD b c x o) v xs) : Duo w0 (w.setCell ⟨x, 1, none⟩ v) b c x o n X { Y with l := xs } ∧ Chg (SD b c x o) w (w.setCell ⟨x, 1, none⟩ v) :=
  h.refc (h.ref.setL (fun k hk => hk.2.2.1) hv) (one_b (Chg.set (S := fun k => k = x) (p := ⟨x, 1, none⟩) (Chg.refl _ _) (.inl rfl) _))
end
theorem Duo.more {w0 w : World} {b c x o n n' : Nat} {X Y : Nt} (h : Duo w0 w b c x o n X Y) (hn : n ≤ n') : Duo w0 w b c x o n' X Y := by
  obtain ⟨k, hk, hN⟩ := h.net
  exact ⟨⟨k, by omega, hN⟩, h.ref, h.ne, h.low, h.ge⟩
theorem Duo.ris_yes {w0 w : World} {b c x o n : Nat} {X Y : Nt} (h : Duo w0 w b c x o n X Y) {i : Int} (hi : Is Y i) : Calls Try.prog 30 #[.pointer (some ⟨x, 0, none⟩), .int .i64 i] w fun e w' => e = .returned (.bool true) ∧ w = w' := by
  have h1 := rIs_calls _ x o Y i w h.ref
  rwa [decide_eq_true hi] at h1
theorem Duo.ris_no {w0 w : World} {b c x o n : Nat} {X Y : Nt} (h : Duo w0 w b c x o n X Y) {i : Int} (hi : ¬ Is Y i) : Calls Try.prog 30 #[.pointer (some ⟨x, 0, none⟩), .int .i64 i] w fun e w' => e = .returned (.bool false) ∧ w = w' := by
  have h1 := rIs_calls _ x o Y i w h.ref
  rwa [decide_eq_false hi] at h1
/-- .. and a block that is neither's. -/
structure DuoB (w0 ws w : World) (b c x o n : Nat) (X Y : Nt) (g : Nat) (cs : Array Value) (t : Nat) : Prop where
  duo : Duo w0 w b c x o n X Y
  box : w.heap[g]? = some (.cells cs t (0, 0))
  far : ¬ SD b c x o g
  chg : Chg (SD b c x o) ws w
section
variable {w0 ws w w' : World} {b c x o n n' : Nat} {X Y X' Y' : Nt} {g t : Nat} {cs : Array Value}
theorem DuoB.of (h : DuoB w0 ws w b c x o n X Y g cs t) (hd : Duo w0 w' b c x o n' X' Y' ∧ Chg (SD b c x o) w w') : DuoB w0 ws w' b c x o n' X' Y' g cs t := ⟨hd.1, chg_blk hd.2 h.far h.box, h.far, h.chg.trans hd.2⟩
theorem DuoB.call (h : DuoB w0 ws w b c x o n X Y g cs t) {f : FuncId} {args : Array Value} {v : Value} (hc : Calls Try.prog f args w fun e w' => e = .returned v ∧ Duo w0 w' b c x o n' X' Y' ∧ Chg (SD b c x o) w w') : Calls Try.prog f args w fun e w' => e = .returned v ∧ DuoB w0 ws w' b c x o n' X' Y' g cs t :=
  hc.mono fun e w' ⟨he, hd⟩ => ⟨he, h.of hd⟩
theorem DuoB.quiet (h : DuoB w0 ws w b c x o n X Y g cs t) (hc : Chg (fun _ => False) w w') : DuoB w0 ws w' b c x o n X Y g cs t := ⟨h.duo.quiet hc, chg_blk hc (fun h => h) h.box, h.far, h.chg.trans (hc.mono (fun _ h => h.elim))⟩
end

end Go.Proofs.Ytclmhodgfhkgcaa.Q

/- The contract of do: kinds 0 to 5. (Printed by gen_do.py.) -/
namespace Go.Proofs.Ytclmhodgfhkgcaa.Q
open Go.RowKit Go.Proofs.YtclmhodgfhkgcaaW.PrintWords Go.Proofs.YtclmhodgfhkgcaaW.PrintLast Go.Proofs.YtclmhodgfhkgcaaW.PrintMore
set_option linter.unusedVariables false
set_option linter.unusedSimpArgs false

theorem nDrop_no {X : Nt} {i : Int} (h : ¬ Is X i) : nDrop X i = (3, X) := if_neg h
theorem nDrop_yes {X : Nt} {k : Nat} (h : k < X.l.length) : nDrop X k = (0, { X with l := takeL X.l k, lost := X.lost + 1 }) := by
  unfold nDrop
  rw [if_pos ⟨by omega, by omega⟩]
  rfl
theorem nDouble_no {X : Nt} {i : Int} (h : ¬ Is X i) : nDouble X i = (3, X) := if_neg h
theorem nDouble_full {X : Nt} {i : Int} (h : Is X i) (hf : 256 ≤ X.l.length) : nDouble X i = (10, X) := by
  unfold nDouble
  rw [if_pos h, if_pos hf]
theorem nDouble_yes {X : Nt} {k : Nat} (h : k < X.l.length) (hf : ¬ 256 ≤ X.l.length) : nDouble X k = (0, { X with l := X.l ++ [X.l[k]] }) := by
  unfold nDouble
  rw [if_pos ⟨by omega, by omega⟩, if_neg hf, rdM_nat h]
theorem is_nat {X : Nt} {k : Nat} (h : k < X.l.length) : Is X (k : Int) := ⟨by omega, by omega⟩
set_option maxHeartbeats 4000000 in
set_option maxRecDepth 100000 in
theorem do_send (w0 w : World) (b c x o n : Nat) (X : Nt) (kd i j : Int) (m : Msg) (all : Bool) (h0 : Duo w0 w b c x o n X X) (hF : Fine X) (hk : kd = 0 ∨ kd = 1 ∨ kd = 2) :
    Calls Try.prog 16 #[.pointer (some ⟨b, 0, none⟩), .pointer (some ⟨x, 0, none⟩), .agg #[.int .i64 kd, .int .i64 i, .int .i64 j, .int .i64 m.f0, .int .i64 m.f1, .string m.f2, .bool all]] w fun e w' => e = .returned (.bool true) ∧ Duo w0 w' b c x o (n + 1) ((nSend X m).2) ((nSend X m).2) ∧ Chg (SD b c x o) w w' := by
  have H0 := Aside0.mk h0
  have HF := Aside0.mk hF
  clear h0 hF
  rcases hk with hk | hk | hk
  case' inl => have k0 : (kd == 0) = true := by simpa using hk
  case' inr.inl => (have k0 : (kd == 0) = false := by (rw [hk]; rfl)); (have k1 : (kd == 1) = true := by simpa using hk)
  case' inr.inr => (have k0 : (kd == 0) = false := by (rw [hk]; rfl)); (have k1 : (kd == 1) = false := by (rw [hk]; rfl)); (have k2 : (kd == 2) = true := by simpa using hk)
  all_goals
    clear hk
    go_enter Try.func16, Try.ntmps16
    go_wp2_with (first | ((with_reducible refine gate_dst (N := 5) rfl ?_); refine box_event ?hg (N := 5) ?hd (cs := #[.int .i64 kd, .int .i64 i, .int .i64 j, .int .i64 m.f0, .int .i64 m.f1, .string m.f2, .bool all]) (t := 41) ?hr ?_; (case hd => rfl); (case hg => rfl); (case hr => first | (go_simp; done) | (go_simp; rfl)); intro gA hgA w1 hbox hb1; have HB := Aside0.mk (DuoB.mk (H0.out.quiet (Chg.of_below hb1 _)) hbox (H0.out.away (Nat.le_of_eq hgA.symm)) (Chg.of_below hb1 _)); obtain ⟨d0, d1, d2, d3, d4, d5, d6, f0, f1, f2, f3, f4, f5, f6⟩ := box7 hbox; have lgA := blk_lt hbox; clear hb1 hbox hgA))
    refine wp_plan [(0, 0, 17), (1, 0, 18), (2, 0, 19), (4, 0, 21), (5, 0, 22), (6, 0, 23), (3, 2, 20), (7, 2, 24), (8, 1, 25), (9, 1, 6)] [] (fun W => W.cell? ⟨gA, 3, none⟩ = some (.int .i64 m.f0) ∧ W.cell? ⟨gA, 4, none⟩ = some (.int .i64 m.f1) ∧ W.cell? ⟨gA, 5, none⟩ = some (.string m.f2)) (by kernel_rfl) rfl (by kernel_rfl) (fun _ t _ _ _ h => by cases t <;> exact h) ⟨d3, d4, d5⟩ (fun hS => ?_)
    clear d0 d1 d2 d3 d4 d5 d6 f0 f1 f2 f3 f4 f5 f6
    have n0 := Aside0.mk (HB.out.quiet ((Chg.refl _ _).drewN 1)); clear HB; have HB := n0; clear n0
    repeat (refine RP.take (v := ?_) (a' := ?_) rfl rfl (by assumption) (Or.inl ⟨by rfl, ?_⟩) ?_ ?_; rotate_left; (focus (rintro w' ⟨hS0, hS1, hS2⟩; go_simp; with_reducible rfl)); rotate_left; (focus (simp only [Act.put, List.setIfInBounds_toArray, List.set_cons_zero, List.set_cons_succ, i64_w, i32_w]; rfl)))
    refine RP.one rfl rfl (fun K hK => ?_)
    refine goes_ Try.func10 (by kernel_rfl) rfl #[.pointer (some ⟨b, 0, none⟩), MsgV m] (by rfl) rfl rfl (by (try simp only [List.map_toArray, List.map_cons, List.map_nil]); first | done | rfl) ?_
    (with_reducible refine (HB.out.call (HB.out.duo.send HF.out m)).mono ?_)
    rintro e w2 ⟨rfl, hB⟩
    refine ⟨_, rfl, ?_⟩
    have n0 := Aside0.mk hB; clear HB hB; have HB := n0; clear n0
    refine hK.out _ _ ⟨(blk_cell HB.out.box 3).trans rfl, (blk_cell HB.out.box 4).trans rfl, (blk_cell HB.out.box 5).trans rfl⟩ (fun hS => ?_)
    clear hK K
    refine RP.norm (a' := ?_) ?_ ?_
    rotate_left
    · show Act.put _ (some 20) _ = _
      simp only [Act.put, List.setIfInBounds_toArray, List.set_cons_zero, List.set_cons_succ, i64_w, i32_w]
      rfl
    refine RP.one rfl rfl (fun K hK => ?_)
    refine goes_ Try.func29 (by kernel_rfl) rfl #[.pointer (some ⟨x, 0, none⟩), MsgV m] (by rfl) rfl rfl (by (try simp only [List.map_toArray, List.map_cons, List.map_nil]); first | done | rfl) ?_
    (with_reducible refine (HB.out.call (HB.out.duo.rsend HF.out m)).mono ?_)
    rintro e w2 ⟨rfl, hB⟩
    refine ⟨_, rfl, ?_⟩
    have n0 := Aside0.mk hB; clear HB hB; have HB := n0; clear n0
    refine hK.out _ _ ⟨(blk_cell HB.out.box 3).trans rfl, (blk_cell HB.out.box 4).trans rfl, (blk_cell HB.out.box 5).trans rfl⟩ (fun hS => ?_)
    clear hK K
    refine RP.norm (a' := ?_) ?_ ?_
    rotate_left
    · show Act.put _ (some 24) _ = _
      simp only [Act.put, List.setIfInBounds_toArray, List.set_cons_zero, List.set_cons_succ, i64_w, i32_w]
      rfl
    repeat (refine RP.pure (v := ?_) (a' := ?_) rfl rfl (Or.inl ⟨by rfl, ?_⟩) ?_ ?_; rotate_left; (focus (intro w'; go_simp; with_reducible rfl)); rotate_left; (focus (simp only [Act.put, List.setIfInBounds_toArray, List.set_cons_zero, List.set_cons_succ, i64_w, i32_w]; rfl)))
    refine RP.nil ?_
    go_wp2
    go_ret
    exact ⟨rfl, HB.out.duo.more (Nat.le_succ _), HB.out.chg⟩
set_option maxHeartbeats 4000000 in
set_option maxRecDepth 100000 in
theorem do_drop_no (w0 w : World) (b c x o n : Nat) (X : Nt) (i j : Int) (m : Msg) (all : Bool) (h0 : Duo w0 w b c x o n X X) (hF : Fine X) (hi : ¬ Is X i) :
    Calls Try.prog 16 #[.pointer (some ⟨b, 0, none⟩), .pointer (some ⟨x, 0, none⟩), .agg #[.int .i64 4, .int .i64 i, .int .i64 j, .int .i64 m.f0, .int .i64 m.f1, .string m.f2, .bool all]] w fun e w' => e = .returned (.bool true) ∧ Duo w0 w' b c x o (n + 1) (X) (X) ∧ Chg (SD b c x o) w w' := by
  have H0 := Aside0.mk h0
  have HF := Aside0.mk hF
  clear h0 hF
  have HI := Aside0.mk hi
  have HD := Aside0.mk (fun w1 (h : Duo w0 w1 b c x o n X X) => h.drop HF.out i)
  rw [nDrop_no hi] at HD
  clear hi
  go_enter Try.func16, Try.ntmps16
  go_wp2_with (first | ((with_reducible refine gate_dst (N := 5) rfl ?_); refine box_event ?hg (N := 5) ?hd (cs := #[.int .i64 4, .int .i64 i, .int .i64 j, .int .i64 m.f0, .int .i64 m.f1, .string m.f2, .bool all]) (t := 41) ?hr ?_; (case hd => rfl); (case hg => rfl); (case hr => first | (go_simp; done) | (go_simp; rfl)); intro gA hgA w1 hbox hb1; have HB := Aside0.mk (DuoB.mk (H0.out.quiet (Chg.of_below hb1 _)) hbox (H0.out.away (Nat.le_of_eq hgA.symm)) (Chg.of_below hb1 _)); obtain ⟨d0, d1, d2, d3, d4, d5, d6, f0, f1, f2, f3, f4, f5, f6⟩ := box7 hbox; have lgA := blk_lt hbox; clear hb1 hbox hgA) | (go_at_call 30; (with_reducible refine (HB.out.duo.ris_no HI.out).mono ?_); rintro e w2 ⟨rfl, rfl⟩) | (go_at_call 13; (with_reducible refine (HB.out.call (HD.out _ HB.out.duo)).mono ?_); rintro e w2 ⟨rfl, hB⟩; clear lgA d0 d1 d2 d3 d4 d5 d6 f0 f1 f2 f3 f4 f5 f6; have n0 := Aside0.mk hB; clear HB hB; have HB := n0; clear n0; obtain ⟨d0, d1, d2, d3, d4, d5, d6, f0, f1, f2, f3, f4, f5, f6⟩ := box7 HB.out.box; have lgA := blk_lt HB.out.box))
  go_ret
  exact ⟨rfl, HB.out.duo.more (Nat.le_succ _), HB.out.chg⟩
set_option maxHeartbeats 4000000 in
set_option maxRecDepth 100000 in
theorem do_drop (w0 w : World) (b c x o n : Nat) (X : Nt) (j : Int) (m : Msg) (all : Bool) (h0 : Duo w0 w b c x o n X X) (hF : Fine X) (k : Nat) (hk : k < X.l.length) :
    Calls Try.prog 16 #[.pointer (some ⟨b, 0, none⟩), .pointer (some ⟨x, 0, none⟩), .agg #[.int .i64 4, .int .i64 (k : Int), .int .i64 j, .int .i64 m.f0, .int .i64 m.f1, .string m.f2, .bool all]] w fun e w' => e = .returned (.bool true) ∧ Duo w0 w' b c x o (n + 1) ({ X with l := takeL X.l k, lost := X.lost + 1 }) ({ X with l := takeL X.l k, lost := X.lost + 1 }) ∧ Chg (SD b c x o) w w' := by
  have H0 := Aside0.mk h0
  have HF := Aside0.mk hF
  clear h0 hF
  have HK := Aside0.mk hk
  have HD := Aside0.mk (fun w1 (h : Duo w0 w1 b c x o n X { X with l := takeL X.l k, lost := X.lost + 1 }) => h.drop HF.out k)
  rw [nDrop_yes hk] at HD
  have l0 := HF.out.l0
  have l1 := HF.out.l1
  clear hk
  go_enter Try.func16, Try.ntmps16
  go_wp2_with (first | ((with_reducible refine gate_dst (N := 5) rfl ?_); refine box_event ?hg (N := 5) ?hd (cs := #[.int .i64 4, .int .i64 (k : Int), .int .i64 j, .int .i64 m.f0, .int .i64 m.f1, .string m.f2, .bool all]) (t := 41) ?hr ?_; (case hd => rfl); (case hg => rfl); (case hr => first | (go_simp; done) | (go_simp; rfl)); intro gA hgA w1 hbox hb1; have HB := Aside0.mk (DuoB.mk (H0.out.quiet (Chg.of_below hb1 _)) hbox (H0.out.away (Nat.le_of_eq hgA.symm)) (Chg.of_below hb1 _)); obtain ⟨d0, d1, d2, d3, d4, d5, d6, f0, f1, f2, f3, f4, f5, f6⟩ := box7 hbox; have lgA := blk_lt hbox; clear hb1 hbox hgA) | (go_at_call 30; (with_reducible refine (HB.out.duo.ris_yes (is_nat HK.out)).mono ?_); rintro e w2 ⟨rfl, rfl⟩) | (go_at_call 31; (with_reducible refine (HB.out.call (HB.out.duo.rtake k HK.out HF.out.len)).mono ?_); rintro e w2 ⟨rfl, hB⟩; clear lgA d0 d1 d2 d3 d4 d5 d6 f0 f1 f2 f3 f4 f5 f6; have n0 := Aside0.mk hB; clear HB hB; have HB := n0; clear n0; obtain ⟨d0, d1, d2, d3, d4, d5, d6, f0, f1, f2, f3, f4, f5, f6⟩ := box7 HB.out.box; have lgA := blk_lt HB.out.box; have t3 : w2.cell? ⟨x, 3, none⟩ = some (.int .i64 X.lost) := HB.out.duo.ref.open.2.2.2.1; have tf := HB.out.duo.ref.open.2.2.2.2 3; have hxg : x ≠ gA := fun e => HB.out.far (.inr (.inr (.inl e.symm)))) | (go_at_call 13; (with_reducible refine ((HB.out.of (HB.out.duo.rlost (X.lost + 1))).call (HD.out _ (HB.out.of (HB.out.duo.rlost (X.lost + 1))).duo)).mono ?_); rintro e w2 ⟨rfl, hB⟩; clear lgA d0 d1 d2 d3 d4 d5 d6 f0 f1 f2 f3 f4 f5 f6; have n0 := Aside0.mk hB; clear HB hB; have HB := n0; clear n0; obtain ⟨d0, d1, d2, d3, d4, d5, d6, f0, f1, f2, f3, f4, f5, f6⟩ := box7 HB.out.box; have lgA := blk_lt HB.out.box))
  go_ret
  exact ⟨rfl, HB.out.duo.more (Nat.le_succ _), HB.out.chg⟩
set_option maxHeartbeats 4000000 in
set_option maxRecDepth 100000 in
theorem do_double_no (w0 w : World) (b c x o n : Nat) (X : Nt) (i j : Int) (m : Msg) (all : Bool) (h0 : Duo w0 w b c x o n X X) (hF : Fine X) (hi : ¬ Is X i) :
    Calls Try.prog 16 #[.pointer (some ⟨b, 0, none⟩), .pointer (some ⟨x, 0, none⟩), .agg #[.int .i64 5, .int .i64 i, .int .i64 j, .int .i64 m.f0, .int .i64 m.f1, .string m.f2, .bool all]] w fun e w' => e = .returned (.bool true) ∧ Duo w0 w' b c x o (n + 1) (X) (X) ∧ Chg (SD b c x o) w w' := by
  have H0 := Aside0.mk h0
  have HF := Aside0.mk hF
  clear h0 hF
  have HI := Aside0.mk hi
  have HD := Aside0.mk (fun w1 (h : Duo w0 w1 b c x o n X X) => h.double i)
  rw [nDouble_no hi] at HD
  clear hi
  go_enter Try.func16, Try.ntmps16
  go_wp2_with (first | ((with_reducible refine gate_dst (N := 5) rfl ?_); refine box_event ?hg (N := 5) ?hd (cs := #[.int .i64 5, .int .i64 i, .int .i64 j, .int .i64 m.f0, .int .i64 m.f1, .string m.f2, .bool all]) (t := 41) ?hr ?_; (case hd => rfl); (case hg => rfl); (case hr => first | (go_simp; done) | (go_simp; rfl)); intro gA hgA w1 hbox hb1; have HB := Aside0.mk (DuoB.mk (H0.out.quiet (Chg.of_below hb1 _)) hbox (H0.out.away (Nat.le_of_eq hgA.symm)) (Chg.of_below hb1 _)); obtain ⟨d0, d1, d2, d3, d4, d5, d6, f0, f1, f2, f3, f4, f5, f6⟩ := box7 hbox; have lgA := blk_lt hbox; clear hb1 hbox hgA) | (go_at_call 30; (with_reducible refine (HB.out.duo.ris_no HI.out).mono ?_); rintro e w2 ⟨rfl, rfl⟩) | (go_at_call 12; (with_reducible refine (HB.out.call (HD.out _ HB.out.duo)).mono ?_); rintro e w2 ⟨rfl, hB⟩; clear lgA d0 d1 d2 d3 d4 d5 d6 f0 f1 f2 f3 f4 f5 f6; have n0 := Aside0.mk hB; clear HB hB; have HB := n0; clear n0; obtain ⟨d0, d1, d2, d3, d4, d5, d6, f0, f1, f2, f3, f4, f5, f6⟩ := box7 HB.out.box; have lgA := blk_lt HB.out.box))
  go_ret
  exact ⟨rfl, HB.out.duo.more (Nat.le_succ _), HB.out.chg⟩
set_option maxHeartbeats 4000000 in
set_option maxRecDepth 100000 in
theorem do_double_full (w0 w : World) (b c x o n : Nat) (X : Nt) (i j : Int) (m : Msg) (all : Bool) (h0 : Duo w0 w b c x o n X X) (hF : Fine X) (hi : Is X i) (hf : 256 ≤ X.l.length) :
    Calls Try.prog 16 #[.pointer (some ⟨b, 0, none⟩), .pointer (some ⟨x, 0, none⟩), .agg #[.int .i64 5, .int .i64 i, .int .i64 j, .int .i64 m.f0, .int .i64 m.f1, .string m.f2, .bool all]] w fun e w' => e = .returned (.bool true) ∧ Duo w0 w' b c x o (n + 1) (X) (X) ∧ Chg (SD b c x o) w w' := by
  have H0 := Aside0.mk h0
  have HF := Aside0.mk hF
  clear h0 hF
  have HI := Aside0.mk hi
  have HD := Aside0.mk (fun w1 (h : Duo w0 w1 b c x o n X X) => h.double i)
  rw [nDouble_full hi hf] at HD
  clear hi
  have hfi : (256 : Int) ≤ (X.l.length : Int) := by omega
  go_enter Try.func16, Try.ntmps16
  go_wp2_with (first | ((with_reducible refine gate_dst (N := 5) rfl ?_); refine box_event ?hg (N := 5) ?hd (cs := #[.int .i64 5, .int .i64 i, .int .i64 j, .int .i64 m.f0, .int .i64 m.f1, .string m.f2, .bool all]) (t := 41) ?hr ?_; (case hd => rfl); (case hg => rfl); (case hr => first | (go_simp; done) | (go_simp; rfl)); intro gA hgA w1 hbox hb1; have HB := Aside0.mk (DuoB.mk (H0.out.quiet (Chg.of_below hb1 _)) hbox (H0.out.away (Nat.le_of_eq hgA.symm)) (Chg.of_below hb1 _)); obtain ⟨d0, d1, d2, d3, d4, d5, d6, f0, f1, f2, f3, f4, f5, f6⟩ := box7 hbox; have lgA := blk_lt hbox; clear hb1 hbox hgA) | (go_at_call 30; (with_reducible refine (HB.out.duo.ris_yes HI.out).mono ?_); rintro e w2 ⟨rfl, rfl⟩; obtain ⟨-, ⟨A, kk, t1, -, -⟩, -, -, -⟩ := HB.out.duo.ref.open) | (go_at_call 12; (with_reducible refine (HB.out.call (HD.out _ HB.out.duo)).mono ?_); rintro e w2 ⟨rfl, hB⟩; clear lgA d0 d1 d2 d3 d4 d5 d6 f0 f1 f2 f3 f4 f5 f6; have n0 := Aside0.mk hB; clear HB hB; have HB := n0; clear n0; obtain ⟨d0, d1, d2, d3, d4, d5, d6, f0, f1, f2, f3, f4, f5, f6⟩ := box7 HB.out.box; have lgA := blk_lt HB.out.box))
  go_ret
  exact ⟨rfl, HB.out.duo.more (Nat.le_succ _), HB.out.chg⟩
set_option maxHeartbeats 4000000 in
set_option maxRecDepth 100000 in
theorem do_double (w0 w : World) (b c x o n : Nat) (X : Nt) (j : Int) (m : Msg) (all : Bool) (h0 : Duo w0 w b c x o n X X) (hF : Fine X) (k : Nat) (hk : k < X.l.length) (hf : ¬ 256 ≤ X.l.length) :
    Calls Try.prog 16 #[.pointer (some ⟨b, 0, none⟩), .pointer (some ⟨x, 0, none⟩), .agg #[.int .i64 5, .int .i64 (k : Int), .int .i64 j, .int .i64 m.f0, .int .i64 m.f1, .string m.f2, .bool all]] w fun e w' => e = .returned (.bool true) ∧ Duo w0 w' b c x o (n + 1) ({ X with l := X.l ++ [X.l[k]'hk] }) ({ X with l := X.l ++ [X.l[k]'hk] }) ∧ Chg (SD b c x o) w w' := by
  have H0 := Aside0.mk h0
  have HF := Aside0.mk hF
  clear h0 hF
  have HD := Aside0.mk (fun w1 (h : Duo w0 w1 b c x o n X { X with l := X.l ++ [X.l[k]'hk] }) => h.double k)
  rw [nDouble_yes hk hf] at HD
  obtain ⟨mm, hmm⟩ : ∃ mm, X.l[k]'hk = mm := ⟨_, rfl⟩
  rw [hmm] at HD ⊢
  have HK := Aside0.mk hk
  have HMM := Aside0.mk (show X.l[k]'HK.out = mm from hmm)
  have hfi : ¬ (256 : Int) ≤ (X.l.length : Int) := by omega
  have hk0 : (0 : Int) ≤ (k : Int) := by omega
  have hk1 : (k : Int) < (X.l.length : Int) := by omega
  have HL : Aside0 (X.l.length ≤ 256) := ⟨by omega⟩
  clear hmm hk hf
  go_enter Try.func16, Try.ntmps16
  go_wp2_with (first | ((with_reducible refine gate_dst (N := 5) rfl ?_); refine box_event ?hg (N := 5) ?hd (cs := #[.int .i64 5, .int .i64 (k : Int), .int .i64 j, .int .i64 m.f0, .int .i64 m.f1, .string m.f2, .bool all]) (t := 41) ?hr ?_; (case hd => rfl); (case hg => rfl); (case hr => first | (go_simp; done) | (go_simp; rfl)); intro gA hgA w1 hbox hb1; have HB := Aside0.mk (DuoB.mk (H0.out.quiet (Chg.of_below hb1 _)) hbox (H0.out.away (Nat.le_of_eq hgA.symm)) (Chg.of_below hb1 _)); obtain ⟨d0, d1, d2, d3, d4, d5, d6, f0, f1, f2, f3, f4, f5, f6⟩ := box7 hbox; have lgA := blk_lt hbox; clear hb1 hbox hgA) | (go_at_call 30; (with_reducible refine (HB.out.duo.ris_yes (is_nat HK.out)).mono ?_); rintro e w2 ⟨rfl, rfl⟩; obtain ⟨-, ⟨A, kk, t1, -, -⟩, -, -, -⟩ := HB.out.duo.ref.open))
  clear t1
  obtain ⟨W, rfl⟩ : ∃ W, W = w1 := ⟨_, rfl⟩
  obtain ⟨-, ⟨A, kk, t1, -, hR⟩, -, -, hfz⟩ := HB.out.duo.ref.open
  have tf := hfz 1
  have lx := HB.out.duo.lt.2.2.1
  have lg := blk_lt HB.out.box
  obtain ⟨ad, rfl, y0, y1, y2⟩ := msg_cells hR.fC k HK.out
  rw [HMM.out] at y0 y1 y2
  have la := World.block_lt_of_cell? W _ y0
  have HR := Aside0.mk hR
  have HN : Aside0 (∀ k, W.heap.size ≤ k → okD b c x o k) := ⟨HB.out.duo.old⟩
  obtain ⟨l, hl⟩ : ∃ l, X.l = l := ⟨_, rfl⟩
  have HXL := Aside0.mk hl
  rw [hl] at HL HR t1 hfi hk1
  clear hl hR hfz
  refine wp_tree (.op 0 0 77 (.op 2 0 79 (.op 3 0 80 (.op 4 0 81 (.op 5 0 82 (.op 7 0 84 (.op 8 0 85 (.op 9 0 86 (.op 10 0 87 (.op 11 0 88 (.op 12 0 89 (.op 13 0 90 (.op 14 0 91 (.two 1 78 15 92 (.two 6 83 15 92 (.op 15 2 92 (.op 16 2 93 (.op 17 1 94 (.op 18 1 95 (.op 19 3 0 PT.nil))))) (.op 6 2 83 (.op 16 2 93 (.op 17 1 94 (.op 18 1 95 (.op 19 3 0 PT.nil)))))) (.op 1 2 78 (.op 6 2 83 (.op 16 2 93 (.op 17 1 94 (.op 18 1 95 (.op 19 3 0 PT.nil)))))))))))))))))))) [19] (fun W' => W'.cell? ⟨x, 1, none⟩ = some (.slice (some ad) l.length kk) ∧ W'.cell? ⟨gA, 1, none⟩ = some (.int .i64 (k : Int)) ∧ W'.cell? (ad.add (k * 3)) = some (.int .i64 mm.f0) ∧ W'.cell? ⟨(ad.add (k * 3)).block, (ad.add (k * 3)).off + 1, none⟩ = some (.int .i64 mm.f1) ∧ W'.cell? ⟨(ad.add (k * 3)).block, (ad.add (k * 3)).off + 2, none⟩ = some (.string mm.f2)) (by kernel_rfl) rfl (by kernel_rfl) (fun _ t _ _ _ h => by cases t <;> exact h) ⟨t1, d1, y0, y1, y2⟩ (fun hS => ?_)
  repeat (refine RT.take (v := ?_) (a' := ?_) rfl rfl (by assumption) (Or.inl ⟨by rfl, ?_⟩) ?_ ?_; rotate_left; (focus (rintro w' ⟨hS0, hS1, hS2, hS3, hS4⟩; go_simp; with_reducible rfl)); rotate_left; (focus (simp only [Act.put, List.setIfInBounds_toArray, List.set_cons_zero, List.set_cons_succ, i64_w, i32_w]; rfl)))
  have hk0 := (Chg.refl (fun _ => False) W).drewN 1
  refine RT.join3 (r := (.op 16 2 93 (.op 17 1 94 (.op 18 1 95 (.op 19 3 0 PT.nil))))) 78 83 92 (fun v1 v2 g w' => Chg (fun _ => False) W w' ∧ Kd.R kM 30 w' W.heap.size (okD b c x o) v2 l ∧ w'.heap[g]? = some (.cells #[.int .i64 mm.f0, .int .i64 mm.f1, .string mm.f2] 30 (0, 0))) (fun v1 v2 g wJ hF => ?_) (fun hcont => ?_)
  rotate_left
  · refine RT.fork rfl rfl rfl rfl (fun K hK => ?_) (fun K hK => ?_)
    · refine Kd.R_lit_step (w0 := W) kM W.heap.size 30 (by rfl) (N := 78) (by rfl) (xs := ([] : List Msg)) (inner := []) (ok := (okD b c x o)) (okp := (okD b c x o)) ?_ (Reps.none _ _) (fun _ h => h) (HN.out _ hk0.low.size) hk0.bel hk0.low.size (by simp) ?_
      · go_simp
      intro v1 w1 ho1 hb1 hg1 hat1
      have hk1 := hk0.grown hg1 (fun k e => by cases e)
      refine hK.out _ _ ⟨(hk1.cell (p := ⟨x, 1, none⟩) lx).trans t1, (hk1.cell (p := ⟨gA, 1, none⟩) lg).trans d1, (hk1.cell (p := (ad.add (k * 3))) la).trans y0, (hk1.cell (p := ⟨(ad.add (k * 3)).block, (ad.add (k * 3)).off + 1, none⟩) la).trans y1, (hk1.cell (p := ⟨(ad.add (k * 3)).block, (ad.add (k * 3)).off + 2, none⟩) la).trans y2⟩ (fun hS => ?_)
      clear hK K
      refine RT.norm (a' := ?_) ?_ ?_
      rotate_left
      · show Act.put _ (some 78) _ = _
        simp only [Act.put, List.setIfInBounds_toArray, List.set_cons_zero, List.set_cons_succ, i64_w, i32_w]
        rfl
      refine RT.fork rfl rfl rfl rfl (fun K hK => ?_) (fun K hK => ?_)
      · refine Kd.R_append_rows_step kM (Rr := kM.K _) W.heap.size (by rfl) (.tmp 78) (.tmp 82) 22 30 (.agg #[.int .i64 0, .int .i64 0, .string ⟨#[]⟩]) 32 (by rfl) Try.underlying22 infoM rfl (by decide) (by decide) v1 [] l (some ad) l.length kk (okD b c x o) (fun _ => False) (by rfl) (by rfl) ho1 (HR.out.chg hk1 (fun _ _ h => h)).fC (fun x cs h => msgKM x cs h) (fun _ h => h.elim) (fun k hk => HN.out k (Nat.le_trans hk1.low.size hk)) hk1.bel hk1.low.size (by have := HL.out; simp; omega) ?_
        intro v2 w2 ho2 hb2 hg2 hat2
        rw [List.nil_append] at ho2
        have hk2 := hk1.grownN hg2 (fun k e => Kd.R_base ho1 k e)
        refine hK.out _ _ ⟨(hk2.cell (p := ⟨x, 1, none⟩) lx).trans t1, (hk2.cell (p := ⟨gA, 1, none⟩) lg).trans d1, (hk2.cell (p := (ad.add (k * 3))) la).trans y0, (hk2.cell (p := ⟨(ad.add (k * 3)).block, (ad.add (k * 3)).off + 1, none⟩) la).trans y1, (hk2.cell (p := ⟨(ad.add (k * 3)).block, (ad.add (k * 3)).off + 2, none⟩) la).trans y2⟩ (fun hS => ?_)
        clear hK K
        refine RT.norm (a' := ?_) ?_ ?_
        rotate_left
        · show Act.put _ (some 83) _ = _
          simp only [Act.put, List.setIfInBounds_toArray, List.set_cons_zero, List.set_cons_succ, i64_w, i32_w]
          rfl
        refine RT.one rfl rfl (fun K hK => ?_)
        go_simp
        have hk3 := hk2.alloc (.cells #[.int .i64 mm.f0, .int .i64 mm.f1, .string mm.f2] 30 (0, 0))
        have ho3 := Kd.R_alloc ho2 (.cells #[.int .i64 mm.f0, .int .i64 mm.f1, .string mm.f2] 30 (0, 0))
        have hn_g3 : ∀ k, v2.ownBlock = some k → k ≠ _ := fun k e => Nat.ne_of_lt (R_lt ho2 e)
        refine hK.out _ _ ⟨(hk3.cell (p := ⟨x, 1, none⟩) lx).trans t1, (hk3.cell (p := ⟨gA, 1, none⟩) lg).trans d1, (hk3.cell (p := (ad.add (k * 3))) la).trans y0, (hk3.cell (p := ⟨(ad.add (k * 3)).block, (ad.add (k * 3)).off + 1, none⟩) la).trans y1, (hk3.cell (p := ⟨(ad.add (k * 3)).block, (ad.add (k * 3)).off + 2, none⟩) la).trans y2⟩ (fun hS => ?_)
        clear hK K
        refine RT.norm ?_ (hcont v1 v2 _ _ ⟨hk3, ho3, blk_new _ _⟩)
        first | rfl | (simp only [Act.put, List.setIfInBounds_toArray, List.set_cons_zero, List.set_cons_succ]; done) | (simp only [Act.put, List.setIfInBounds_toArray, List.set_cons_zero, List.set_cons_succ]; rfl)
      · go_simp
        have hk4 := hk1.alloc (.cells #[.int .i64 mm.f0, .int .i64 mm.f1, .string mm.f2] 30 (0, 0))
        have ho4 := Kd.R_alloc ho1 (.cells #[.int .i64 mm.f0, .int .i64 mm.f1, .string mm.f2] 30 (0, 0))
        have hn_g4 : ∀ k, v1.ownBlock = some k → k ≠ _ := fun k e => Nat.ne_of_lt (R_lt ho1 e)
        refine hK.out _ _ ⟨(hk4.cell (p := ⟨x, 1, none⟩) lx).trans t1, (hk4.cell (p := ⟨gA, 1, none⟩) lg).trans d1, (hk4.cell (p := (ad.add (k * 3))) la).trans y0, (hk4.cell (p := ⟨(ad.add (k * 3)).block, (ad.add (k * 3)).off + 1, none⟩) la).trans y1, (hk4.cell (p := ⟨(ad.add (k * 3)).block, (ad.add (k * 3)).off + 2, none⟩) la).trans y2⟩ (fun hS => ?_)
        have hb_g4 := blk_new w1 (.cells #[.int .i64 mm.f0, .int .i64 mm.f1, .string mm.f2] 30 (0, 0))
        clear hK K
        refine RT.one rfl rfl (fun K hK => ?_)
        refine Kd.R_append_rows_step kM (Rr := kM.K _) W.heap.size (by rfl) (.tmp 78) (.tmp 82) 22 30 (.agg #[.int .i64 0, .int .i64 0, .string ⟨#[]⟩]) 32 (by rfl) Try.underlying22 infoM rfl (by decide) (by decide) v1 [] l (some ad) l.length kk (okD b c x o) (fun _ => False) (by rfl) (by rfl) ho4 (HR.out.chg hk4 (fun _ _ h => h)).fC (fun x cs h => msgKM x cs h) (fun _ h => h.elim) (fun k hk => HN.out k (Nat.le_trans hk4.low.size hk)) hk4.bel hk4.low.size (by have := HL.out; simp; omega) ?_
        intro v5 w5 ho5 hb5 hg5 hat5
        rw [List.nil_append] at ho5
        have hk5 := hk4.grownN hg5 (fun k e => Kd.R_base ho4 k e)
        have hb_g5 := (hg5.block _ (blk_lt hb_g4) (fun e => hn_g4 _ e.symm rfl)).trans hb_g4
        have hn_g5 : ∀ k, v5.ownBlock = some k → k ≠ w1.heap.size := fun k e => by rcases hat5 with h1 | ⟨q, h1, h2⟩; exact hn_g4 k (h1 ▸ e); rw [h1] at e; cases e; have := blk_lt hb_g4; omega
        refine hK.out _ _ ⟨(hk5.cell (p := ⟨x, 1, none⟩) lx).trans t1, (hk5.cell (p := ⟨gA, 1, none⟩) lg).trans d1, (hk5.cell (p := (ad.add (k * 3))) la).trans y0, (hk5.cell (p := ⟨(ad.add (k * 3)).block, (ad.add (k * 3)).off + 1, none⟩) la).trans y1, (hk5.cell (p := ⟨(ad.add (k * 3)).block, (ad.add (k * 3)).off + 2, none⟩) la).trans y2⟩ (fun hS => ?_)
        clear hK K
        refine RT.norm ?_ (hcont v1 v5 _ _ ⟨hk5, ho5, hb_g5⟩)
        first | rfl | (simp only [Act.put, List.setIfInBounds_toArray, List.set_cons_zero, List.set_cons_succ]; done) | (simp only [Act.put, List.setIfInBounds_toArray, List.set_cons_zero, List.set_cons_succ]; rfl)
    · go_simp
      have hk6 := hk0.alloc (.cells #[.int .i64 mm.f0, .int .i64 mm.f1, .string mm.f2] 30 (0, 0))
      refine hK.out _ _ ⟨(hk6.cell (p := ⟨x, 1, none⟩) lx).trans t1, (hk6.cell (p := ⟨gA, 1, none⟩) lg).trans d1, (hk6.cell (p := (ad.add (k * 3))) la).trans y0, (hk6.cell (p := ⟨(ad.add (k * 3)).block, (ad.add (k * 3)).off + 1, none⟩) la).trans y1, (hk6.cell (p := ⟨(ad.add (k * 3)).block, (ad.add (k * 3)).off + 2, none⟩) la).trans y2⟩ (fun hS => ?_)
      have hb_g6 := blk_new (W.drewN 1) (.cells #[.int .i64 mm.f0, .int .i64 mm.f1, .string mm.f2] 30 (0, 0))
      clear hK K
      refine RT.one rfl rfl (fun K hK => ?_)
      refine Kd.R_lit_step (w0 := W) kM W.heap.size 30 (by rfl) (N := 78) (by rfl) (xs := ([] : List Msg)) (inner := []) (ok := (okD b c x o)) (okp := (okD b c x o)) ?_ (Reps.none _ _) (fun _ h => h) (HN.out _ hk6.low.size) hk6.bel hk6.low.size (by simp) ?_
      · go_simp
      intro v7 w7 ho7 hb7 hg7 hat7
      have hk7 := hk6.grown hg7 (fun k e => by cases e)
      have hb_g7 := (hg7.block _ (blk_lt hb_g6) (by simp)).trans hb_g6
      have hn_g7 : ∀ k, v7.ownBlock = some k → k ≠ (W.drewN 1).heap.size := fun k e => by obtain ⟨q, h1, h2⟩ := hat7; rw [h1] at e; cases e; have := blk_lt hb_g6; omega
      refine hK.out _ _ ⟨(hk7.cell (p := ⟨x, 1, none⟩) lx).trans t1, (hk7.cell (p := ⟨gA, 1, none⟩) lg).trans d1, (hk7.cell (p := (ad.add (k * 3))) la).trans y0, (hk7.cell (p := ⟨(ad.add (k * 3)).block, (ad.add (k * 3)).off + 1, none⟩) la).trans y1, (hk7.cell (p := ⟨(ad.add (k * 3)).block, (ad.add (k * 3)).off + 2, none⟩) la).trans y2⟩ (fun hS => ?_)
      clear hK K
      refine RT.norm (a' := ?_) ?_ ?_
      rotate_left
      · show Act.put _ (some 78) _ = _
        simp only [Act.put, List.setIfInBounds_toArray, List.set_cons_zero, List.set_cons_succ, i64_w, i32_w]
        rfl
      refine RT.one rfl rfl (fun K hK => ?_)
      refine Kd.R_append_rows_step kM (Rr := kM.K _) W.heap.size (by rfl) (.tmp 78) (.tmp 82) 22 30 (.agg #[.int .i64 0, .int .i64 0, .string ⟨#[]⟩]) 32 (by rfl) Try.underlying22 infoM rfl (by decide) (by decide) v7 [] l (some ad) l.length kk (okD b c x o) (fun _ => False) (by rfl) (by rfl) ho7 (HR.out.chg hk7 (fun _ _ h => h)).fC (fun x cs h => msgKM x cs h) (fun _ h => h.elim) (fun k hk => HN.out k (Nat.le_trans hk7.low.size hk)) hk7.bel hk7.low.size (by have := HL.out; simp; omega) ?_
      intro v8 w8 ho8 hb8 hg8 hat8
      rw [List.nil_append] at ho8
      have hk8 := hk7.grownN hg8 (fun k e => Kd.R_base ho7 k e)
      have hb_g8 := (hg8.block _ (blk_lt hb_g7) (fun e => hn_g7 _ e.symm rfl)).trans hb_g7
      have hn_g8 : ∀ k, v8.ownBlock = some k → k ≠ (W.drewN 1).heap.size := fun k e => by rcases hat8 with h1 | ⟨q, h1, h2⟩; exact hn_g7 k (h1 ▸ e); rw [h1] at e; cases e; have := blk_lt hb_g7; omega
      refine hK.out _ _ ⟨(hk8.cell (p := ⟨x, 1, none⟩) lx).trans t1, (hk8.cell (p := ⟨gA, 1, none⟩) lg).trans d1, (hk8.cell (p := (ad.add (k * 3))) la).trans y0, (hk8.cell (p := ⟨(ad.add (k * 3)).block, (ad.add (k * 3)).off + 1, none⟩) la).trans y1, (hk8.cell (p := ⟨(ad.add (k * 3)).block, (ad.add (k * 3)).off + 2, none⟩) la).trans y2⟩ (fun hS => ?_)
      clear hK K
      refine RT.norm ?_ (hcont v7 v8 _ _ ⟨hk8, ho8, hb_g8⟩)
      first | rfl | (simp only [Act.put, List.setIfInBounds_toArray, List.set_cons_zero, List.set_cons_succ]; done) | (simp only [Act.put, List.setIfInBounds_toArray, List.set_cons_zero, List.set_cons_succ]; rfl)
  obtain ⟨hkJ, hoJ, hbJ⟩ := hF
  refine RT.norm (a' := ?_) ?_ ?_
  rotate_left
  · simp only [Act.put, List.setIfInBounds_toArray, List.set_cons_zero, List.set_cons_succ, i64_w, i32_w]
    rfl
  refine RT.one rfl rfl (fun K hK => ?_)
  refine Kd.R_append_rows_step kM (Rr := kM.K _) W.heap.size (by rfl) (.tmp 83) (.tmp 92) 22 30 (.agg #[.int .i64 0, .int .i64 0, .string ⟨#[]⟩]) 32 (by rfl) Try.underlying22 infoM rfl (by decide) (by decide) v2 l [mm] (some ⟨g, 0, none⟩) 1 1 (okD b c x o) (fun _ => False) (by rfl) (by rfl) hoJ (one_rows hbJ) (fun x cs h => msgKM x cs h) (fun _ h => h.elim) (fun k hk => HN.out k (Nat.le_trans hkJ.low.size hk)) hkJ.bel hkJ.low.size (by have := HL.out; simp; omega) ?_
  intro v9 w9 ho9 hb9 hg9 hat9
  have hk9 := hkJ.grownN hg9 (fun k e => Kd.R_base hoJ k e)
  refine hK.out _ _ ⟨(hk9.cell (p := ⟨x, 1, none⟩) lx).trans t1, (hk9.cell (p := ⟨gA, 1, none⟩) lg).trans d1, (hk9.cell (p := (ad.add (k * 3))) la).trans y0, (hk9.cell (p := ⟨(ad.add (k * 3)).block, (ad.add (k * 3)).off + 1, none⟩) la).trans y1, (hk9.cell (p := ⟨(ad.add (k * 3)).block, (ad.add (k * 3)).off + 2, none⟩) la).trans y2⟩ (fun hS => ?_)
  clear hK K
  have HOF := Aside0.mk ho9
  have HKF := Aside0.mk hk9
  have hcz := (hk9.cell (p := ⟨x, 1, none⟩) lx).trans t1
  have hfz := (hk9.frozen (p := ⟨x, 1, none⟩) lx).trans tf
  obtain ⟨A4, n4, c4, hv4⟩ : ∃ A4 n4 c4, v9 = .slice A4 n4 c4 := by
    obtain ⟨A4, c4, e⟩ := Kd.R_slice HOF.out
    exact ⟨A4, _, c4, e⟩
  subst hv4
  clear hk0
  refine RT.norm (a' := ?_) ?_ ?_
  rotate_left
  · show Act.put _ (some 93) _ = _
    simp only [Act.put, List.setIfInBounds_toArray, List.set_cons_zero, List.set_cons_succ, i64_w, i32_w]
    rfl
  repeat (refine RT.pure (v := ?_) (a' := ?_) rfl rfl (Or.inl ⟨by rfl, ?_⟩) ?_ ?_; rotate_left; (focus (intro w'; go_simp; with_reducible rfl)); rotate_left; (focus (simp only [Act.put, List.setIfInBounds_toArray, List.set_cons_zero, List.set_cons_succ, i64_w, i32_w]; rfl)))
  refine RT.last rfl rfl (fun K hK => ?_)
  go_simp
  refine hK.out _ _ (RT.nil ?_)
  clear hK K hS
  rw [← HXL.out] at HOF
  have HB2 := Aside0.mk ((HB.out.quiet HKF.out).of ((HB.out.quiet HKF.out).duo.rrow (Kd.R_V HOF.out)))
  clear HB hcz hfz t1 tf d0 d1 d2 d3 d4 d5 d6 f0 f1 f2 f3 f4 f5 f6
  have HB := HB2
  clear HB2
  obtain ⟨d0, d1, d2, d3, d4, d5, d6, f0, f1, f2, f3, f4, f5, f6⟩ := box7 HB.out.box
  clear y0 y1 y2 la lx lg
  go_wp2_with (first | (go_at_call 12; (with_reducible refine (HB.out.call (HD.out _ HB.out.duo)).mono ?_); rintro e w2 ⟨rfl, hB⟩; clear lgA d0 d1 d2 d3 d4 d5 d6 f0 f1 f2 f3 f4 f5 f6; have n0 := Aside0.mk hB; clear HB hB; have HB := n0; clear n0; obtain ⟨d0, d1, d2, d3, d4, d5, d6, f0, f1, f2, f3, f4, f5, f6⟩ := box7 HB.out.box; have lgA := blk_lt HB.out.box))
  go_ret
  exact ⟨rfl, HB.out.duo.more (Nat.le_succ _), HB.out.chg⟩

end Go.Proofs.Ytclmhodgfhkgcaa.Q
