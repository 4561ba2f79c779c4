/- Texts of this session laid together (merge.py): YtfmlamnkpoloaaaJSame, YtfmlamnkpoloaaaFAwake, YtfmlamnkpoloaaaKBack, YtfmlamnkpoloaaaHOpen. -/
import Derived.Laws.Concat
import Derived.ChangeArms
import Derived.Deep.Slices
import Derived.SizedLaws
import Derived.Test.YtfmlamnkpoloaaaTDedupBackf
/- The contract of same: both tables say the same. -/
namespace Go.Proofs.Ytfmlamnkpoloaaa.Q
open Go.RowKit Go.Proofs.YtfmlamnkpoloaaaW.PrintWords Go.Proofs.YtfmlamnkpoloaaaW.PrintLast Go.Proofs.YtfmlamnkpoloaaaW.PrintMore
set_option linter.unusedVariables false
set_option linter.unusedSimpArgs false

theorem drew_bel {f : FuncId} {args : Array Value} {v : Value} {w : World} (hc : Calls Try.prog f args w fun e w' => e = .returned v ∧ ∃ k, w' = w.drewN k) : Calls Try.prog f args w fun e w' => e = .returned v ∧ Below w.heap.size w w' :=
  hc.mono fun e w' he => by
    obtain ⟨he, k, rfl⟩ := he
    exact ⟨he, pw_below_drewN (Below.refl _ _) k⟩
theorem Both.bel {ok : Nat → Prop} {N B : Nat} {w w' : World} {t x xl : Nat} {T : Tb} {X : Rb} (h : Both ok N B w t x xl T X) (hb : Below w.heap.size w w') : Both ok N B w' t x xl T X := h.chg (Chg.of_below hb (fun _ => False)) (fun _ h => h)
theorem kept_few {T : Tb} (hF : ∀ m, m < 6 → Fine (T m)) (n : Int) : (dKept T n).length ≤ 1099511627776 := by
  unfold dKept
  split
  · rename_i hn
    rw [kv_length]
    exact (hF _ (isC_lt hn)).2.2
  · simp
set_option maxHeartbeats 8000000 in
set_option maxRecDepth 100000 in
theorem same_holds (ok : Nat → Prop) (N B t x xl : Nat) (T : Tb) (X : Rb) (w : World) (hU : Both ok N B w t x xl T X) (hR : Rel T X) (hL : ∀ m, Lcd (T m)) :
    Calls Try.prog 22 #[.pointer (some ⟨t, 0, none⟩), .pointer (some ⟨x, 0, none⟩)] w fun e w' => e = .returned (.bool true) ∧ Below w.heap.size w w' := by
  have HU := Aside0.mk hU
  have HR := Aside0.mk hR
  have HLM := Aside0.mk (lim_both hU hL)
  have HF := Aside0.mk hU.fines
  have HRF := Aside0.mk hU.rfines
  have HTX := Aside0.mk (rfl : tabB T 6 = tabB T 6)
  clear hU hR hL
  go_enter Try.func22, Try.ntmps22
  go_wp2
  go_loopg [5] 8 (fun kq vn wr => ∃ n : Int, vn = .int .i64 n ∧ Aside0 (n + (kq : Int) = 7 ∧ -1 ≤ n) ∧ Aside0 (Both ok N B wr t x xl T X) ∧ Aside0 (Below w.heap.size w wr))
  case atStart => exact ⟨-1, rfl, ⟨by omega⟩, HU, ⟨Below.refl _ _⟩⟩
  case round =>
    clear HU
    obtain ⟨n, rfl, HK, HU, HB⟩ := hrel
    have hn1 : n ≤ 7 := by have := HK.out.1; omega
    have hn0 : -1 ≤ n := HK.out.2
    by_cases hlt : n < 7
    · have HNX := Aside0.mk (fun w0 (h : Both ok N B w0 t x xl T X) => drew_bel (Next_calls ok t T n w0 h.tab HF.out))
      have HRN := Aside0.mk (fun w0 (h : Both ok N B w0 t x xl T X) => drew_bel (rNext_calls ok x xl X n w0 h.ref HRF.out))
      have HFI := Aside0.mk (fun w0 (h : Both ok N B w0 t x xl T X) => drew_bel (First_calls ok t T n w0 h.tab HF.out))
      have HKP := Aside0.mk (fun w0 (h : Both ok N B w0 t x xl T X) => Kept_calls ok t T n w0 h.tab HF.out)
      have HRK := Aside0.mk (fun w0 (h : Both ok N B w0 t x xl T X) => rKept_calls ok x xl X n w0 h.ref HRF.out)
      rw [← rel_kept HR.out n] at HRK
      rw [HR.out.next n] at HNX
      have HKL := Aside0.mk (kept_few HF.out n)
      generalize dKept T n = ks at *
      generalize rNext X n = nx at *
      by_cases hin : isC n
      · obtain ⟨m, hm, rfl⟩ := isC_nat hin
        obtain ⟨hc0, -, -, hc3, -⟩ := HU.out.ref.cells hm
        have hlm := HLM.out m hm
        have e1 := (HR.out m hm).1
        rw [show dFirst T (m : Int) = (X m).got + 1 by unfold dFirst; rw [if_pos hin, Int.toNat_natCast, e1]] at HFI
        have g0 : 0 ≤ (X m).got := by have := hlm.g0; omega
        have g1 : (X m).got ≤ 1099511627776 := by have := hlm.g1; omega
        have b0 : (0 : Int) ≤ (m : Int) := by omega
        have b1 : (m : Int) < 6 := by omega
        have HIS := Aside0.mk (fun w0 => is_yes m hm w0)
        clear hlm e1 hin
        generalize (X m).got = g at *
        go_wp2_with (first
          | (go_at_call 10; (with_reducible refine (HIS.out _).mono ?_); rintro e w2 ⟨rfl, rfl⟩)
          | (go_at_call 12; (with_reducible refine (HNX.out _ HU.out).mono ?_); rintro e w2 ⟨rfl, hb⟩; have n0 := Aside0.mk (HU.out.bel hb); have n1 := Aside0.mk (below_step HB.out hb); clear HU HB hb hc0 hc3; have HU := n0; have HB := n1; clear n0 n1)
          | (go_at_call 18; (with_reducible refine (HRN.out _ HU.out).mono ?_); rintro e w3 ⟨rfl, hb⟩; have n0 := Aside0.mk (HU.out.bel hb); have n1 := Aside0.mk (below_step HB.out hb); clear HU HB hb; have HU := n0; have HB := n1; clear n0 n1)
          | (go_at_call 23; (with_reducible refine (HFI.out _ HU.out).mono ?_); rintro e w4 ⟨rfl, hb⟩; have n0 := Aside0.mk (HU.out.bel hb); have n1 := Aside0.mk (below_step HB.out hb); clear HU HB hb; have HU := n0; have HB := n1; clear n0 n1)
          | (go_at_call 20; (with_reducible refine (HKP.out _ HU.out).mono ?_); rintro e w5 ⟨v5, rfl, hr, hb⟩; have HV5 := Aside0.mk hr; have n0 := Aside0.mk (HU.out.bel hb); have n1 := Aside0.mk (below_step HB.out hb); clear HU HB hb hr; have HU := n0; have HB := n1; clear n0 n1)
          | (go_at_call 21; (with_reducible refine (HRK.out _ HU.out).mono ?_); rintro e w6 ⟨v6, rfl, hr, hb⟩; have HV6 := Aside0.mk hr; have n2 := Aside0.mk (Kd.R_below HV5.out hb); have n0 := Aside0.mk (HU.out.bel hb); have n1 := Aside0.mk (below_step HB.out hb); clear HU HB hb hr HV5; have HU := n0; have HB := n1; have HV5 := n2; clear n0 n1 n2)
          | (go_at_call 19; (with_reducible refine (same_calls v5 v6 ks HKL.out _ HV5.out HV6.out).mono ?_); rintro e w7 ⟨rfl, hb⟩; have n0 := Aside0.mk (HU.out.bel hb); have n1 := Aside0.mk (below_step HB.out hb); clear HU HB hb; have HU := n0; have HB := n1; clear n0 n1))
        go_roundg (7 - ((m : Int) + 1)).toNat
        case measure => have := HK.out.1; omega
        case rel => exact ⟨(m : Int) + 1, by go_num, ⟨by omega⟩, HU, HB⟩
      · rw [show dFirst T n = 0 from if_neg hin] at HFI
        have HIS := Aside0.mk (fun w0 => is_no n hin w0)
        clear hin
        go_wp2_with (first
          | (go_at_call 10; (with_reducible refine (HIS.out _).mono ?_); rintro e w2 ⟨rfl, rfl⟩)
          | (go_at_call 12; (with_reducible refine (HNX.out _ HU.out).mono ?_); rintro e w2 ⟨rfl, hb⟩; have n0 := Aside0.mk (HU.out.bel hb); have n1 := Aside0.mk (below_step HB.out hb); clear HU HB hb; have HU := n0; have HB := n1; clear n0 n1)
          | (go_at_call 18; (with_reducible refine (HRN.out _ HU.out).mono ?_); rintro e w3 ⟨rfl, hb⟩; have n0 := Aside0.mk (HU.out.bel hb); have n1 := Aside0.mk (below_step HB.out hb); clear HU HB hb; have HU := n0; have HB := n1; clear n0 n1)
          | (go_at_call 23; (with_reducible refine (HFI.out _ HU.out).mono ?_); rintro e w4 ⟨rfl, hb⟩; have n0 := Aside0.mk (HU.out.bel hb); have n1 := Aside0.mk (below_step HB.out hb); clear HU HB hb; have HU := n0; have HB := n1; clear n0 n1)
          | (go_at_call 20; (with_reducible refine (HKP.out _ HU.out).mono ?_); rintro e w5 ⟨v5, rfl, hr, hb⟩; have HV5 := Aside0.mk hr; have n0 := Aside0.mk (HU.out.bel hb); have n1 := Aside0.mk (below_step HB.out hb); clear HU HB hb hr; have HU := n0; have HB := n1; clear n0 n1)
          | (go_at_call 21; (with_reducible refine (HRK.out _ HU.out).mono ?_); rintro e w6 ⟨v6, rfl, hr, hb⟩; have HV6 := Aside0.mk hr; have n2 := Aside0.mk (Kd.R_below HV5.out hb); have n0 := Aside0.mk (HU.out.bel hb); have n1 := Aside0.mk (below_step HB.out hb); clear HU HB hb hr HV5; have HU := n0; have HB := n1; have HV5 := n2; clear n0 n1 n2)
          | (go_at_call 19; (with_reducible refine (same_calls v5 v6 ks HKL.out _ HV5.out HV6.out).mono ?_); rintro e w7 ⟨rfl, hb⟩; have n0 := Aside0.mk (HU.out.bel hb); have n1 := Aside0.mk (below_step HB.out hb); clear HU HB hb; have HU := n0; have HB := n1; clear n0 n1))
        go_roundg (7 - (n + 1)).toNat
        case measure => have := HK.out.1; omega
        case rel => exact ⟨n + 1, by go_num, ⟨by omega⟩, HU, HB⟩
    · have HBY := Aside0.mk (fun w0 (h : Both ok N B w0 t x xl T X) => Bytes_calls ok t T w0 h.tab HF.out HLM.out)
      have HRB := Aside0.mk (fun w0 (h : Both ok N B w0 t x xl T X) => rBytes_calls ok x xl T X w0 h.ref HRF.out HR.out HLM.out)
      generalize tabB T 6 = tx at *
      go_wp2_with (first
        | (go_at_call 24; (with_reducible refine (HBY.out _ HU.out).mono ?_); rintro e w2 ⟨rfl, hb⟩; have n0 := Aside0.mk (HU.out.bel hb); have n1 := Aside0.mk (below_step HB.out hb); clear HU HB hb; have HU := n0; have HB := n1; clear n0 n1)
        | (go_at_call 32; (with_reducible refine (HRB.out _ HU.out).mono ?_); rintro e w3 ⟨rfl, hb⟩; have n0 := Aside0.mk (HU.out.bel hb); have n1 := Aside0.mk (below_step HB.out hb); clear HU HB hb; have HU := n0; have HB := n1; clear n0 n1))
      go_ret
      exact ⟨rfl, HB.out⟩

end Go.Proofs.Ytfmlamnkpoloaaa.Q

/- The contract of awake. -/
namespace Go.Proofs.Ytfmlamnkpoloaaa.Q
open Go.RowKit Go.Proofs.YtfmlamnkpoloaaaW.PrintWords Go.Proofs.YtfmlamnkpoloaaaW.PrintLast Go.Proofs.YtfmlamnkpoloaaaW.PrintMore
attribute [local go_sem high] eqA58
set_option linter.unusedVariables false
set_option linter.unusedSimpArgs false

/-- A table of the call's own. -/
structure Own (w0 w : World) (t : Nat) (T : Tb) : Prop where
  tab : TabAt (fun k => k ≠ t) w t T
  fine : ∀ m, m < 6 → Fine (T m)
  low : Below w0.heap.size w0 w
  ge : w0.heap.size ≤ t
section
variable {w0 w w' : World} {t : Nat} {T T' : Tb} {n seq code r : Int}
theorem Own.step (h : Own w0 w t T) (ht : TabAt (fun k => k ≠ t) w' t T') (hF : ∀ m, m < 6 → Fine (T' m)) (hc : Chg (fun k => k = t) w w') : Own w0 w' t T' := ⟨ht, hF, hc.below h.low h.low.size (fun k hk => by subst hk; exact h.ge), h.ge⟩
theorem Own.below (h : Own w0 w t T) (hb : Below w.heap.size w w') : Own w0 w' t T := ⟨h.tab.chg (Chg.of_below hb (fun _ => False)) (fun h => h) (fun _ _ h => h), h.fine, Below.trans h.low (hb.mono h.low.size), h.ge⟩
theorem own_put (h : Own w0 w t T) (hr : dPut T n seq code = (r, T')) (hF : ∀ m, m < 6 → Fine (T' m)) : Calls Try.prog 13 #[.pointer (some ⟨t, 0, none⟩), .int .i64 n, .int .i64 seq, .int .i64 code] w fun e w' => e = .returned (.int .i64 r) ∧ Own w0 w' t T' :=
  (Put_calls _ t T n seq code w h.tab h.fine (fun _ h => h) (fun k hk => by have := h.tab.lt; omega)).mono fun e w' he => by
    obtain ⟨h1, h2, h3⟩ := he
    rw [hr] at h1 h2
    exact ⟨h1, h.step h2 hF h3⟩
theorem own_got (h : Own w0 w t T) (hr : dGot T n seq = (r, T')) (hF : ∀ m, m < 6 → Fine (T' m)) : Calls Try.prog 11 #[.pointer (some ⟨t, 0, none⟩), .int .i64 n, .int .i64 seq] w fun e w' => e = .returned (.int .i64 r) ∧ Own w0 w' t T' :=
  (Got_calls _ t T n seq w h.tab h.fine (fun _ h => h) (fun k hk => by have := h.tab.lt; omega)).mono fun e w' he => by
    obtain ⟨h1, h2, h3⟩ := he
    rw [hr] at h1 h2
    exact ⟨h1, h.step h2 hF h3⟩
theorem own_drew (h : Own w0 w t T) (k : Nat) : Own w0 (w.drewN k) t T := h.below (pw_below_drewN (Below.refl _ _) k)
theorem own_next (h : Own w0 w t T) (hr : dNext T n = r) : Calls Try.prog 12 #[.pointer (some ⟨t, 0, none⟩), .int .i64 n] w fun e w' => e = .returned (.int .i64 r) ∧ Below w.heap.size w w' :=
  (Next_calls _ t T n w h.tab h.fine).mono fun e w' he => by
    obtain ⟨h1, k, rfl⟩ := he
    rw [hr] at h1
    exact ⟨h1, pw_below_drewN (Below.refl _ _) k⟩
theorem own_first (h : Own w0 w t T) (hr : dFirst T n = r) : Calls Try.prog 23 #[.pointer (some ⟨t, 0, none⟩), .int .i64 n] w fun e w' => e = .returned (.int .i64 r) ∧ Below w.heap.size w w' :=
  (First_calls _ t T n w h.tab h.fine).mono fun e w' he => by
    obtain ⟨h1, k, rfl⟩ := he
    rw [hr] at h1
    exact ⟨h1, pw_below_drewN (Below.refl _ _) k⟩
theorem own_code {a b : Int} (h : Own w0 w t T) (hr : dCode T n seq = (a, b)) : Calls Try.prog 14 #[.pointer (some ⟨t, 0, none⟩), .int .i64 n, .int .i64 seq] w fun e w' => e = .returned (.tuple #[.int .i64 a, .int .i64 b]) ∧ Below w.heap.size w w' :=
  (Code_calls _ t T n seq w h.tab h.fine).mono fun e w' he => by
    obtain ⟨h1, k, rfl⟩ := he
    rw [hr] at h1
    exact ⟨h1, pw_below_drewN (Below.refl _ _) k⟩
theorem own_kept {x : S58} (h : Own w0 w t T) (hr : dKept T n = [x]) : Calls Try.prog 20 #[.pointer (some ⟨t, 0, none⟩), .int .i64 n] w fun e w' => ∃ ad c, e = .returned (.slice (some ad) 1 c) ∧ 1 ≤ c ∧ w'.cell? ad = some (.int .i64 x.f0) ∧ w'.cell? ⟨ad.block, ad.off + 1, none⟩ = some (.int .i64 x.f1) ∧ Below w.heap.size w w' :=
  (Kept_calls _ t T n w h.tab h.fine).mono fun e w' he => by
    obtain ⟨v, h1, h2, h3⟩ := he
    rw [hr] at h2
    obtain ⟨A, c, rfl, hlc, hC⟩ := Kd.R_reads h2
    obtain ⟨ad, rfl, y0, y1⟩ := at_T58 hC 0 (by decide) (by simp)
    have e0 : ad.add ((0 : Int).toNat * 2) = ad := by simp [Addr.add]
    rw [e0] at y0 y1
    exact ⟨ad, c, h1, hlc, y0, y1, h3⟩
end
def Ta : Tb := T0.upd 1 ⟨0, [0]⟩
def Tc : Tb := T0.upd 1 ⟨0, [0, 16]⟩
def Te : Tb := T0.upd 1 ⟨1, [16]⟩
theorem fine0 : Fine ⟨0, []⟩ := by unfold Fine; decide
theorem upd_fine (c : Cl) (hc : Fine c) : ∀ m, m < 6 → Fine (T0.upd 1 c m) := by
  intro m _
  unfold Tb.upd
  split
  · exact hc
  · exact fine0
theorem upd_upd (T : Tb) (n : Nat) (c c' : Cl) : (T.upd n c).upd n c' = T.upd n c' := by
  funext m
  unfold Tb.upd
  by_cases e : m = n <;> simp [e]
theorem f0 : ∀ m, m < 6 → Fine (T0 m) := fun m _ => fine0
theorem fa : ∀ m, m < 6 → Fine (Ta m) := upd_fine _ (by unfold Fine; decide)
theorem fc : ∀ m, m < 6 → Fine (Tc m) := upd_fine _ (by unfold Fine; decide)
theorem fe : ∀ m, m < 6 → Fine (Te m) := upd_fine _ (by unfold Fine; decide)
theorem p1 : dPut T0 1 1 0 = (0, Ta) := rfl
theorem p2 : dPut Ta 1 2 16 = (0, Tc) := by
  have e : dPut Ta 1 2 16 = (0, Ta.upd 1 ⟨0, [0, 16]⟩) := rfl
  rw [e, Ta, upd_upd]
  rfl
theorem p3 : dPut Tc 1 2 0 = (9, Tc) := rfl
theorem p4 : dGot Tc 1 1 = (0, Te) := by
  have e : dGot Tc 1 1 = (0, Tc.upd 1 ⟨1, [16]⟩) := rfl
  rw [e, Tc, upd_upd]
  rfl
set_option maxHeartbeats 4000000 in
set_option maxRecDepth 100000 in
theorem awake_calls (w : World) : Calls Try.prog 9 #[] w fun e w' => e = .returned (.bool true) ∧ Below w.heap.size w w' := by
  go_enter Try.func9, Try.ntmps9
  go_wp2_with (first
    | (go_at_call 8; refine (new_calls _).mono ?_; rintro e w1 ⟨rfl, h1, b1, -⟩; have HO := Aside0.mk (show Own w w1 w.heap.size T0 from ⟨h1 _, f0, b1, Nat.le_refl _⟩); clear h1 b1)
    | (go_at_call 13; (with_reducible refine (own_put (n := 1) (seq := 1) (code := 0) HO.out p1 fa).mono ?_); rintro e w2 ⟨rfl, h⟩; have HO := Aside0.mk h; clear h)
    | (go_at_call 13; (with_reducible refine (own_put (n := 1) (seq := 2) (code := 16) HO.out p2 fc).mono ?_); rintro e w2 ⟨rfl, h⟩; have HO := Aside0.mk h; clear h)
    | (go_at_call 13; (with_reducible refine (own_put (n := 1) (seq := 2) (code := 0) HO.out p3 fc).mono ?_); rintro e w2 ⟨rfl, h⟩; have HO := Aside0.mk h; clear h)
    | (go_at_call 11; (with_reducible refine (own_got (n := 1) (seq := 1) HO.out p4 fe).mono ?_); rintro e w2 ⟨rfl, h⟩; have HO := Aside0.mk h; clear h)
    | (go_at_call 14; (with_reducible refine (own_code (n := 1) (seq := 1) (a := 0) (b := 13) HO.out rfl).mono ?_); rintro e w2 ⟨rfl, hb⟩; have HO := Aside0.mk (HO.out.below hb); clear hb)
    | (go_at_call 20; (with_reducible refine (own_kept (n := 1) (x := ⟨2, 16⟩) HO.out rfl).mono ?_); rintro e w2 ⟨ad, c, rfl, hlc, y0, y1, hb⟩; have HO := Aside0.mk (HO.out.below hb); clear hb)
    | (go_at_call 12; (with_reducible refine (own_next (n := 1) (r := 3) HO.out rfl).mono ?_); rintro e w3 ⟨rfl, hb⟩; have HO := Aside0.mk (HO.out.below hb); clear hb)
    | (go_at_call 23; (with_reducible refine (own_first (n := 1) (r := 2) HO.out rfl).mono ?_); rintro e w3 ⟨rfl, hb⟩; have HO := Aside0.mk (HO.out.below hb); clear hb)
    | (go_at_call 12; (with_reducible refine (own_next (n := 0) (r := 1) HO.out rfl).mono ?_); rintro e w3 ⟨rfl, hb⟩; have HO := Aside0.mk (HO.out.below hb); clear hb))
  go_ret
  exact ⟨rfl, HO.out.low⟩

end Go.Proofs.Ytfmlamnkpoloaaa.Q

/- The law DedupBack: a table's bytes are read back. -/
namespace Go.Proofs.Ytfmlamnkpoloaaa.Q
open Go.RowKit Go.Proofs.YtfmlamnkpoloaaaW.PrintWords Go.Proofs.YtfmlamnkpoloaaaW.PrintLast Go.Proofs.YtfmlamnkpoloaaaW.PrintMore
set_option linter.unusedVariables false
set_option linter.unusedSimpArgs false

theorem made_two (A : Option Addr) (c : Nat) (l : List S28) (w : World) (hG : ∀ a ∈ l, Wf a) (hm : l.length ≤ 9223372036854775807) (hC : k28.C w A l.length l) (hle : l.length ≤ c) :
    Calls Try.prog 15 #[.slice A l.length c] w fun e w' => e = .returned (.tuple #[.pointer (some ⟨w.heap.size, 0, none⟩), .pointer (some ⟨w.heap.size + 2, 0, none⟩), .bool true]) ∧ ∃ T X, Both (okOf w.heap.size) (w.heap.size + 3) 240 w' w.heap.size (w.heap.size + 2) (w.heap.size + 1) T X ∧ Rel T X ∧ (∀ m, Lcd (T m)) ∧ Below w.heap.size w w' :=
  (made_calls A c l w hG hm hC hle).mono fun e w' he => ⟨he.1, _, _, he.2.1, rel_runs _, lcd_runs _, he.2.2⟩
set_option maxHeartbeats 8000000 in
set_option maxRecDepth 100000 in
theorem dedupBack_hand (A : Option Addr) (c : Nat) (l : List S28) (ahead behind : ByteArray) (w : World) (hG : l.length * 32 ≤ 140737488351232 ∧ l.length ≤ 9223372036854775807 ∧ ∀ a ∈ l, Wf a) (ha : ahead.size ≤ 140737488351232) (hb : behind.size ≤ 140737488351232) (hC : Kd.C k28 w A l.length l) (hle : l.length ≤ c) :
    Calls Try.prog 7 #[.slice A l.length c, .string ahead, .string behind] w fun e w' => e = .returned (.bool true) ∧ Below w.heap.size w w' := by
  have HG := Aside0.mk hG
  have HC := Aside0.mk hC
  have hm := hG.2.1
  clear hG hC
  have hcs : ((5000 : Int) < ahead.size) ∨ (¬ (5000 : Int) < ahead.size ∧ (5000 : Int) < behind.size) ∨ (¬ (5000 : Int) < ahead.size ∧ ¬ (5000 : Int) < behind.size) := by omega
  rcases hcs with q1 | ⟨q1, q2⟩ | ⟨q1, q2⟩
  case inl =>
    go_enter Try.func7, Try.ntmps7
    go_wp2_with (first
      | (go_at_call 15; refine (made_two A c l _ HG.out.2.2 hm HC.out hle).mono ?_; rintro e w2 ⟨rfl, T, X, hbo, hr, hlc, hb⟩; have HU := Aside0.mk hbo; have HL := Aside0.mk hb; have HR := Aside0.mk hr; have HLM := Aside0.mk (lim_both hbo hlc); have HF := Aside0.mk hbo.fines; have HRF := Aside0.mk hbo.rfines; clear hbo hb hr hlc)
      | (go_at_call 9; refine (awake_calls _).mono ?_; rintro e w3 ⟨rfl, hb⟩; have n0 := Aside0.mk (HU.out.bel hb); have n1 := Aside0.mk (below_step HL.out hb); clear HU HL hb; have HU := n0; have HL := n1; clear n0 n1))
    go_ret
    exact ⟨rfl, HL.out⟩
  case inr.inl =>
    go_enter Try.func7, Try.ntmps7
    go_wp2_with (first
      | (go_at_call 15; refine (made_two A c l _ HG.out.2.2 hm HC.out hle).mono ?_; rintro e w2 ⟨rfl, T, X, hbo, hr, hlc, hb⟩; have HU := Aside0.mk hbo; have HL := Aside0.mk hb; have HR := Aside0.mk hr; have HLM := Aside0.mk (lim_both hbo hlc); have HF := Aside0.mk hbo.fines; have HRF := Aside0.mk hbo.rfines; clear hbo hb hr hlc)
      | (go_at_call 9; refine (awake_calls _).mono ?_; rintro e w3 ⟨rfl, hb⟩; have n0 := Aside0.mk (HU.out.bel hb); have n1 := Aside0.mk (below_step HL.out hb); clear HU HL hb; have HU := n0; have HL := n1; clear n0 n1))
    go_ret
    exact ⟨rfl, HL.out⟩
  case inr.inr =>
    have Q1 := Aside0.mk q1
    have Q2 := Aside0.mk q2
    go_enter Try.func7, Try.ntmps7
    go_wp2_with (first
      | (go_at_call 15; refine (made_two A c l _ HG.out.2.2 hm HC.out hle).mono ?_; rintro e w2 ⟨rfl, T, X, hbo, hr, hlc, hb⟩; have HU := Aside0.mk hbo; have HL := Aside0.mk hb; have HR := Aside0.mk hr; have HLM := Aside0.mk (lim_both hbo hlc); have HF := Aside0.mk hbo.fines; have HRF := Aside0.mk hbo.rfines; clear hbo hb hr hlc)
      | (go_at_call 9; refine (awake_calls _).mono ?_; rintro e w3 ⟨rfl, hb⟩; have n0 := Aside0.mk (HU.out.bel hb); have n1 := Aside0.mk (below_step HL.out hb); clear HU HL hb; have HU := n0; have HL := n1; clear n0 n1)
      | (go_at_call 24; (with_reducible refine (Bytes_calls _ _ T _ HT5.out HF.out HLM.out).mono ?_); rintro e w6 ⟨rfl, hb⟩; rw [HTX.out]; have n0 := Aside0.mk (HU.out.bel hb); have n1 := Aside0.mk (below_step HL.out hb); have n2 := Aside0.mk (HT5.out.chg (Chg.of_below hb (fun _ => False)) (fun h => h) (fun _ _ h => h)); clear HU HL HT5 hb; have HU := n0; have HL := n1; have HT5 := n2; clear n0 n1 n2)
      | (go_at_call 24; (with_reducible refine (Bytes_calls _ _ T _ HU.out.tab HF.out HLM.out).mono ?_); rintro e w4 ⟨rfl, hb⟩; have n0 := Aside0.mk (HU.out.bel hb); have n1 := Aside0.mk (below_step HL.out hb); clear HU HL hb; have HU := n0; have HL := n1; clear n0 n1; have HSZ := Aside0.mk (tabB_size HLM.out 6 (by omega)); have HAT := Aside0.mk (fun m (hm : m < 6) => at_tab (T := T) ahead behind hm); obtain ⟨tx, htx⟩ : ∃ tx, tabB T 6 = tx := ⟨_, rfl⟩; have HTX := Aside0.mk htx; rw [htx] at HSZ HAT ⊢; clear htx; have c1 : ¬ (ahead.size + tx.size > 9223372036854775807) := (by have := HSZ.out; have := Q1.out; omega); have c2 : ¬ (ahead.size + tx.size + behind.size > 9223372036854775807) := (by have := HSZ.out; have := Q1.out; have := Q2.out; omega); have c3 : ¬ (9223372036854775807 < ahead.size + tx.size) := (by omega); have c4 : ¬ (9223372036854775807 < ahead.size + tx.size + behind.size) := (by omega))
      | (go_at_call 25; (with_reducible refine (Read_ok (ahead ++ tx ++ behind) ahead.size T _ HLM.out (fun m hm => by have := HF.out m hm; have := HU.out.fine m hm; omega) (by rw [size_app, size_app]; have := HSZ.out; have := Q1.out; have := Q2.out; omega) HAT.out).mono ?_); rintro e w5 ⟨rfl, ht, hb⟩; rw [HTX.out]; have HT5 := Aside0.mk ht; have n0 := Aside0.mk (HU.out.bel hb); have n1 := Aside0.mk (below_step HL.out hb); clear HU HL ht hb; have HU := n0; have HL := n1; clear n0 n1; obtain ⟨nn, hnn⟩ : ∃ n : Nat, ahead.size + tx.size = n := ⟨_, rfl⟩; have hns : (ahead.size : Int) + (tx.size : Int) = (nn : Int) := (by omega); have hnb : nn ≤ 100000 := (by have := HSZ.out; have := Q1.out; omega); rw [hnn]; clear hnn))
    clear hns hnb c1 c2 c3 c4 HSZ HAT
    generalize w4.heap.size = u at *
    go_loopg [14] 6 (fun kq vi wr => ∃ m : Nat, vi = .int .i64 m ∧ Aside0 (m + kq = 6) ∧ Aside0 (Both (okOf w.heap.size) (w.heap.size + 3) 240 wr w.heap.size (w.heap.size + 2) (w.heap.size + 1) T X) ∧ Aside0 (TabAt (fun k => u < k) wr u T) ∧ Aside0 (Below w.heap.size w wr))
    case atStart => exact ⟨0, rfl, ⟨by omega⟩, HU, HT5, HL⟩
    case round =>
      clear HU HT5 HL
      obtain ⟨m, rfl, HK, HU, HT5, HL⟩ := hrel
      have hm6 : m ≤ 6 := by have := HK.out; omega
      by_cases hm : m < 6
      · have b0 : (0 : Int) ≤ (m : Int) := by omega
        have b1 : (m : Int) < 6 := by omega
        have HNX := Aside0.mk (fun w0 (h : TabAt (fun k => u < k) w0 u T) => drew_bel (Next_calls _ u T (m : Int) w0 h HF.out))
        have HRN := Aside0.mk (fun w0 (h : Both (okOf w.heap.size) (w.heap.size + 3) 240 w0 w.heap.size (w.heap.size + 2) (w.heap.size + 1) T X) => drew_bel (rNext_calls _ _ _ X (m : Int) w0 h.ref HRF.out))
        have HFU := Aside0.mk (fun w0 (h : TabAt (fun k => u < k) w0 u T) => drew_bel (First_calls _ u T (m : Int) w0 h HF.out))
        have HFT := Aside0.mk (fun w0 (h : Both (okOf w.heap.size) (w.heap.size + 3) 240 w0 w.heap.size (w.heap.size + 2) (w.heap.size + 1) T X) => drew_bel (First_calls _ _ T (m : Int) w0 h.tab HF.out))
        rw [HR.out.next] at HNX
        generalize rNext X (m : Int) = nx at *
        generalize dFirst T (m : Int) = fi at *
        go_wp2_with (first
          | (go_at_call 12; (with_reducible refine (HNX.out _ HT5.out).mono ?_); rintro e w7 ⟨rfl, hb⟩; have n0 := Aside0.mk (HU.out.bel hb); have n1 := Aside0.mk (below_step HL.out hb); have n2 := Aside0.mk (HT5.out.chg (Chg.of_below hb (fun _ => False)) (fun h => h) (fun _ _ h => h)); clear HU HL HT5 hb; have HU := n0; have HL := n1; have HT5 := n2; clear n0 n1 n2)
          | (go_at_call 18; (with_reducible refine (HRN.out _ HU.out).mono ?_); rintro e w7 ⟨rfl, hb⟩; have n0 := Aside0.mk (HU.out.bel hb); have n1 := Aside0.mk (below_step HL.out hb); have n2 := Aside0.mk (HT5.out.chg (Chg.of_below hb (fun _ => False)) (fun h => h) (fun _ _ h => h)); clear HU HL HT5 hb; have HU := n0; have HL := n1; have HT5 := n2; clear n0 n1 n2)
          | (go_at_call 23; (with_reducible refine (HFU.out _ HT5.out).mono ?_); rintro e w7 ⟨rfl, hb⟩; have n0 := Aside0.mk (HU.out.bel hb); have n1 := Aside0.mk (below_step HL.out hb); have n2 := Aside0.mk (HT5.out.chg (Chg.of_below hb (fun _ => False)) (fun h => h) (fun _ _ h => h)); clear HU HL HT5 hb; have HU := n0; have HL := n1; have HT5 := n2; clear n0 n1 n2)
          | (go_at_call 23; (with_reducible refine (HFT.out _ HU.out).mono ?_); rintro e w7 ⟨rfl, hb⟩; have n0 := Aside0.mk (HU.out.bel hb); have n1 := Aside0.mk (below_step HL.out hb); have n2 := Aside0.mk (HT5.out.chg (Chg.of_below hb (fun _ => False)) (fun h => h) (fun _ _ h => h)); clear HU HL HT5 hb; have HU := n0; have HL := n1; have HT5 := n2; clear n0 n1 n2))
        go_roundg (6 - (m + 1))
        case measure => have := HK.out; omega
        case rel => exact ⟨m + 1, by go_num, ⟨by omega⟩, HU, HT5, HL⟩
      · obtain rfl : m = 6 := by omega
        go_wp2
        go_ret
        exact ⟨rfl, HL.out⟩

end Go.Proofs.Ytfmlamnkpoloaaa.Q

/- Arguments of whatever depth (slices of texts, of structs, structs of slices): what the row reads is a row of the printed kinds. -/
namespace Go.Proofs.Ytfmlamnkpoloaaa.Q
open Go.RowKit Go.Proofs.YtfmlamnkpoloaaaW.PrintWords Go.Proofs.YtfmlamnkpoloaaaW.PrintLast Go.Proofs.YtfmlamnkpoloaaaW.PrintMore
set_option linter.unusedVariables false
set_option linter.unusedSimpArgs false

section
variable {H : Type} (enc : TypeId × Value → H) (P : Program) (W : World)

/-- What is read at type t is of the kind d, and good. -/
def Opens {α : Type} (t : TypeId) (d : Kd α) (G : α → Prop) : Prop :=
  P.cellsOf t = d.sz ∧ ∀ (fuel : Nat) (cs : List Value) (x : DataW H × List MemPlace), DataW.trod enc P W 0 (fun _ => true) true fuel t cs = some x → (∀ n ∈ x.1.weights P t, n ≤ reachBytes) → ∃ y, d.K W y cs ∧ G y
/-- What is read at types in line is of the kind d, and good. -/
def OpensSeq {α : Type} (ts : List TypeId) (d : Kd α) (G : α → Prop) : Prop :=
  (ts.map P.cellsOf).sum = d.sz ∧ ∀ (fuel : Nat) (cs : List Value) (xs : List (DataW H × List MemPlace)), cs.length = (ts.map P.cellsOf).sum → xs.length = ts.length →
    (∀ i t, ts[i]? = some t → DataW.trod enc P W 0 (fun _ => true) true fuel t ((cs.drop ((ts.take i).map P.cellsOf).sum).take (P.cellsOf t)) = xs[i]?) →
    (∀ n ∈ DataW.weightsEach P ts (xs.map (·.1)), n ≤ reachBytes) → ∃ y, d.K W y cs ∧ G y
variable {enc P W}

theorem Opens.int {t : TypeId} {k : IntKind} (ht : P.underlying t = some (.int k)) (hc : P.cellsOf t = 1) : Opens enc P W t (Kd.int k) (fun n => (Lit.int k n).wf = true) := by
  refine ⟨hc, fun fuel cs x h _ => ?_⟩
  obtain ⟨n, rfl, _, hw⟩ := DataW.trod_int ht h
  exact ⟨n, rfl, hw⟩
theorem Opens.bool {t : TypeId} (ht : P.underlying t = some .bool) (hc : P.cellsOf t = 1) : Opens enc P W t Kd.bool (fun _ => True) := by
  refine ⟨hc, fun fuel cs x h _ => ?_⟩
  cases fuel with
  | zero => simp [DataW.trod] at h
  | succ n =>
    unfold DataW.trod at h
    rw [ht] at h
    split at h <;> first | exact ⟨_, rfl, trivial⟩ | simp_all
theorem Opens.string {t : TypeId} (ht : P.underlying t = some .string) (hc : P.cellsOf t = 1) : Opens enc P W t Kd.string (fun s => s.size ≤ 140737488351232) := by
  refine ⟨hc, fun fuel cs x h hw => ?_⟩
  obtain ⟨s, rfl, rfl, _⟩ := DataW.trod_string ht h
  refine ⟨s, rfl, ?_⟩
  have := hw s.data.toList.length (by simp [DataW.weights])
  simpa [reachBytes, Array.length_toList] using this
theorem weights_all {e : TypeId} {ds : List (DataW H)} {d : DataW H} (h : d ∈ ds) : ∀ n ∈ d.weights P e, n ∈ DataW.weightsAll P e ds := by
  induction ds with
  | nil => cases h
  | cons d' ds ih =>
    intro n hn
    rw [DataW.weightsAll, List.mem_append]
    rcases List.mem_cons.1 h with rfl | h
    · exact .inl hn
    · exact .inr (ih h n hn)
open Classical in
theorem choose_list {α : Type} (z : α) (R : Nat → α → Prop) (n : Nat) (h : ∀ i, i < n → ∃ y, R i y) : ∃ l : List α, l.length = n ∧ ∀ i (hi : i < n) (hl : i < l.length), R i l[i] := by
  refine ⟨(List.range n).map fun i => if h' : ∃ y, R i y then Classical.choose h' else z, by simp, fun i hi hl => ?_⟩
  have he := h i hi
  simp only [List.getElem_map, List.getElem_range, dif_pos he]
  exact Classical.choose_spec he
theorem Opens.slice {α : Type} (z : α) {t e : TypeId} {d : Kd α} {G : α → Prop} (bytes : Nat) (ht : P.underlying t = some (.slice e)) (hc : P.cellsOf t = 1) (hb : P.bytesOf e = bytes) (h : Opens enc P W e d G) :
    Opens enc P W t (Kd.slice e d) (fun xs => xs.length * bytes ≤ 140737488351232 ∧ xs.length ≤ 9223372036854775807 ∧ ∀ x ∈ xs, G x) := by
  refine ⟨hc, fun fuel cs x hx hw => ?_⟩
  rcases Go.Deep.open_slice ht hx with ⟨rfl, rfl⟩ | ⟨a, len, cap, m, n, D, Pl, rfl, _, hlc, hcm, hm, rfl, hel⟩
  · exact ⟨[], ⟨none, 0, rfl, Nat.le_refl _, Kd.C_nil d W⟩, by simp, by simp, fun x hx => by cases hx⟩
  · have hlm : len ≤ m := by rw [hm]; split <;> omega
    have hwt : DataW.weights P t (.slice ((List.range len).map D) ((List.range (m - len)).map fun j => D (len + j))) =
        (((List.range len).map D).length + ((List.range (m - len)).map fun j => D (len + j)).length) * P.bytesOf e :: (DataW.weightsAll P e ((List.range len).map D) ++ DataW.weightsAll P e ((List.range (m - len)).map fun j => D (len + j))) := by
      rw [DataW.weights]
      simp only [ht]
    have hel' : ∀ i, i < len → ∃ y, (∃ cs', W.cells? 0 (a.add (i * P.cellsOf e)) (P.cellsOf e) = some cs' ∧ d.K W y cs') ∧ G y := by
      intro i hi
      obtain ⟨cs', h1, h2⟩ := hel i (by omega)
      obtain ⟨y, hy, hg⟩ := h.2 n cs' _ h2 (fun n hn => hw n (by
        rw [hwt]
        exact List.mem_cons_of_mem _ (List.mem_append_left _ (weights_all (List.mem_map.2 ⟨i, List.mem_range.2 hi, rfl⟩) n hn))))
      exact ⟨y, ⟨cs', h1, hy⟩, hg⟩
    obtain ⟨l, hll, hl⟩ := choose_list z _ len hel'
    have hb1 := hw _ (by rw [hwt]; exact List.mem_cons_self)
    have hle : len * bytes ≤ 140737488351232 := by
      simp only [List.length_map, List.length_range, hb, reachBytes] at hb1
      exact Nat.le_trans (Nat.mul_le_mul_right _ (by omega)) hb1
    have hmx : len ≤ 9223372036854775807 := by
      simp only [maxLen] at hcm
      omega
    refine ⟨l, ⟨some a, cap, by rw [hll], by omega, by rw [hll], by omega, fun _ => ⟨a, rfl, fun j p hj => ?_⟩⟩, by rw [hll]; exact hle, by omega, fun x hx => ?_⟩
    · obtain ⟨hjl, rfl⟩ := List.getElem?_eq_some_iff.1 hj
      obtain ⟨⟨cs', h1, hK⟩, _⟩ := hl j (by omega) hjl
      obtain ⟨_, hcl, hcell⟩ := World.cells?_some h1
      refine ⟨cs', by rw [hcl, h.1], hK, fun i u hu => ?_⟩
      have hi : i < P.cellsOf e := by
        have := (List.getElem?_eq_some_iff.1 hu).1
        omega
      have := hcell i hi
      rw [hu, add_add, h.1] at this
      exact this
    · obtain ⟨j, hj, rfl⟩ := List.getElem_of_mem hx
      exact (hl j (by omega) hj).2
theorem OpensSeq.one {α : Type} {t : TypeId} {d : Kd α} {G : α → Prop} (h : Opens enc P W t d G) : OpensSeq enc P W [t] d G := by
  refine ⟨by simp [h.1], fun fuel cs xs hl hx hr hw => ?_⟩
  have hr0 := hr 0 t rfl
  simp only [List.take_zero, List.map_nil, List.sum_nil, List.drop_zero] at hr0
  have hc : cs.length = P.cellsOf t := by simpa using hl
  rw [List.take_of_length_le (by omega)] at hr0
  match xs, hx with
  | [x], _ =>
    exact h.2 fuel cs x hr0 (fun n hn => hw n (by simp [DataW.weightsEach, hn]))
theorem OpensSeq.cons {α β : Type} {t : TypeId} {ts : List TypeId} {d : Kd α} {d' : Kd β} {G : α → Prop} {G' : β → Prop} (h : Opens enc P W t d G) (h' : OpensSeq enc P W ts d' G') :
    OpensSeq enc P W (t :: ts) (Kd.pair d d') (fun y => G y.1 ∧ G' y.2) := by
  refine ⟨by simp [Kd.pair, h.1, h'.1], fun fuel cs xs hl hx hr hw => ?_⟩
  match xs, hx with
  | x :: xs, hx =>
    have hr0 := hr 0 t rfl
    simp only [List.take_zero, List.map_nil, List.sum_nil, List.drop_zero] at hr0
    obtain ⟨y, hy, hg⟩ := h.2 fuel _ x hr0 (fun n hn => hw n (by simp [DataW.weightsEach, hn]))
    have hl2 : (cs.drop (P.cellsOf t)).length = (ts.map P.cellsOf).sum := by
      rw [List.length_drop, hl, List.map_cons, List.sum_cons]
      omega
    obtain ⟨y', hy', hg'⟩ := h'.2 fuel (cs.drop (P.cellsOf t)) xs hl2 (by simpa using hx) (fun i t' ht' => by
      have := hr (i + 1) t' (by simpa using ht')
      simp only [List.take_succ_cons, List.map_cons, List.sum_cons, List.getElem?_cons_succ] at this
      rw [List.drop_drop]
      exact this) (fun n hn => hw n (by simp only [List.map_cons, DataW.weightsEach, List.mem_append]; exact .inr hn))
    exact ⟨(y, y'), ⟨_, _, (List.take_append_drop (P.cellsOf t) cs).symm, hy, hy'⟩, hg, hg'⟩
theorem Opens.struct {α β : Type} {t : TypeId} {fs : Array Field} (ts : List TypeId) {d : Kd α} {G : α → Prop} (f : β → α) (g : α → β) (hfg : ∀ a, f (g a) = a) (ht : P.underlying t = some (.struct fs)) (hts : fs.toList.map (·.type) = ts)
    (hoff0 : fs.toList.map (·.offset) = (List.range fs.size).map fun i => ((ts.take i).map P.cellsOf).sum) (hc : P.cellsOf t = (ts.map P.cellsOf).sum) (h : OpensSeq enc P W ts d G) : Opens enc P W t (Kd.iso d f) (fun y => G (f y)) := by
  have hoff : ∀ i fd, fs[i]? = some fd → fd.offset = ((ts.take i).map P.cellsOf).sum := by
    intro i fd hi
    have h1 : (fs.toList.map (·.offset))[i]? = some fd.offset := by rw [List.getElem?_map, Array.getElem?_toList, hi]; rfl
    have hlt : i < fs.size := (Array.getElem?_eq_some_iff.1 hi).1
    rw [hoff0, List.getElem?_map, List.getElem?_range hlt] at h1
    simpa using h1.symm
  refine ⟨hc.trans h.1, fun fuel cs x hx hw => ?_⟩
  obtain ⟨xs, n, rfl, rfl, hcl, hxl, hfd⟩ := DataW.trod_struct ht hx
  have hwt : DataW.weights P t (.agg (xs.map (·.1)) : DataW H) = DataW.weightsEach P ts (xs.map (·.1)) := by
    rw [DataW.weights]
    simp only [ht, hts]
  obtain ⟨y, hy, hg⟩ := h.2 n cs xs (hcl.trans hc) (by rw [hxl, ← hts]; simp) (fun i t' ht' => by
    rw [← hts, List.getElem?_map, Option.map_eq_some_iff] at ht'
    obtain ⟨fd, hfi, rfl⟩ := ht'
    rw [Array.getElem?_toList] at hfi
    rw [← hoff i fd hfi]
    exact hfd i fd hfi) (fun n hn => hw n (by rw [hwt]; exact hn))
  exact ⟨g y, by show d.K W (f (g y)) cs; rw [hfg]; exact hy, by show G (f (g y)); rw [hfg]; exact hg⟩
/-- The weights of all arguments, and of one. -/
theorem weights_each {ts : List TypeId} : ∀ {ds : List (DataW H)} {j : Nat} {t : TypeId} {d : DataW H}, ts[j]? = some t → ds[j]? = some d → ∀ n ∈ d.weights P t, n ∈ DataW.weightsEach P ts ds := by
  induction ts with
  | nil => intro ds j t d h; simp at h
  | cons t' ts ih =>
    intro ds j t d h h' n hn
    cases ds with
    | nil => simp at h'
    | cons d' ds =>
      rw [DataW.weightsEach, List.mem_append]
      cases j with
      | zero =>
        simp only [List.getElem?_cons_zero, Option.some.injEq] at h h'
        subst h h'
        exact .inl hn
      | succ j => exact .inr (ih (by simpa using h) (by simpa using h') n hn)
end

end Go.Proofs.Ytfmlamnkpoloaaa.Q
