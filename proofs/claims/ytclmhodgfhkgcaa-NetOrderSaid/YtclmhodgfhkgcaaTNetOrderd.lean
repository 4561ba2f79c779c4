/- Texts of this session laid together (merge.py): YtclmhodgfhkgcaaLOrder, YtclmhodgfhkgcaaHOpen. -/
import Derived.ChangeArms
import Derived.Deep.Slices
import Derived.SizedLaws
import Derived.Test.YtclmhodgfhkgcaaTNetOrderc
/- The law NetOrder. -/
namespace Go.Proofs.Ytclmhodgfhkgcaa.Q
open Go.RowKit Go.Proofs.YtclmhodgfhkgcaaW.PrintWords Go.Proofs.YtclmhodgfhkgcaaW.PrintLast Go.Proofs.YtclmhodgfhkgcaaW.PrintMore
attribute [local go_sem high] eqA30
set_option linter.unusedVariables false
set_option linter.unusedSimpArgs false

theorem Ord.start {w w1 w2 : World} {X : Nt} (hn : ∀ ok, NetAt ok w1 (w.heap.size + 1) w.heap.size 0 X) (hb : Below w.heap.size w w1) (hb2 : Below w1.heap.size w1 w2) : Ord w w2 (w.heap.size + 1) w.heap.size 0 X (.slice none 0 0) [] :=
  ⟨(hn _).ofBelow (Chg.of_below hb2 _), Kd.R_nil _ _ _ _ _, below_step hb hb2, by omega, by omega⟩
set_option maxHeartbeats 4000000 in
set_option maxRecDepth 100000 in
theorem netOrder_hand (A : Option Addr) (cp : Nat) (l : List Msg) (at_ to_ : Int) (w : World) (hG : l.length * 32 ≤ 140737488351232 ∧ l.length ≤ 9223372036854775807 ∧ ∀ y2 ∈ l, ((Lit.int .i64 y2.f0).wf = true ∧ (Lit.int .i64 y2.f1).wf = true ∧ y2.f2.size ≤ 140737488351232)) (h0 : (Lit.int .i64 at_).wf = true) (h1 : (Lit.int .i64 to_).wf = true) (hC : Kd.C kM w A l.length l) (hle : l.length ≤ cp) :
    Calls Try.prog 3 #[.slice A l.length cp, .int .i64 at_, .int .i64 to_] w fun e w' => e = .returned (.bool true) ∧ Below w.heap.size w w' := by
  have HC := Aside0.mk hC
  have hm := hG.2.1
  clear hG h0 h1 hC hle
  go_enter Try.func3, Try.ntmps3
  go_wp2_with (first
    | (go_at_call 8; refine (New_ok 16 (by omega) (by omega) _).mono ?_; rintro e w1 ⟨rfl, hn, hb⟩; have HN := Aside0.mk hn; have HB := Aside0.mk hb; clear hn hb)
    | (go_at_call 9; refine (awake_calls _).mono ?_; rintro e w2 ⟨rfl, hb⟩; have HO := Aside0.mk (Ord.start HN.out HB.out hb); clear HN HB hb))
  generalize w.heap.size + 1 = b at *
  obtain ⟨c, hc⟩ : ∃ c, w.heap.size = c := ⟨_, rfl⟩
  have HO : Aside0 (Ord w w2 b c 0 (X0 16) (.slice none 0 0) []) := ⟨by rw [← hc]; exact HO.out⟩
  clear hc
  go_loopg [9, 10] 60 (fun kq vs vi wr => ∃ i : Nat, vi = .int .i64 i ∧ Aside0 (i + kq = 60) ∧ Aside0 (i ≤ l.length) ∧ Aside0 (Ord w wr b c 0 (oX (sentL (l.take i)) 0) vs (sentL (l.take i))))
  case atStart => exact ⟨0, rfl, ⟨by omega⟩, ⟨by omega⟩, HO⟩
  case round =>
    clear HO
    obtain ⟨i, rfl, HK, HI, HO⟩ := hrel
    have hi60 : i ≤ 60 := by have := HK.out; omega
    have HLN := Aside0.mk (sent_len l i)
    by_cases hgo : i < l.length ∧ i < 60
    · obtain ⟨hlt, h60⟩ := hgo
      obtain ⟨ad, rfl, y0, y1, y2⟩ := msg_cells (Kd.C_below HC.out HO.out.low) i hlt
      have HR := Aside0.mk (sent_snoc hlt)
      have hi0 : (0 : Int) ≤ (i : Int) := by omega
      have hi1 : (i : Int) < (l.length : Int) := by omega
      obtain ⟨s, hs⟩ : ∃ s, sentL (l.take i) = s := ⟨_, rfl⟩
      rw [hs] at HO HR HLN
      have HS := Aside0.mk (fun w0 h => Ord.send (w := w) (b := b) (c := c) (n := 0) (X := oX s 0) (v := u9) (s := s) (wr := w0) h (oF (by have := HLN.out; omega) (by omega) (by omega)) l[i])
      cases hok : okM l[i]
      · have hns := o_send_no (s := s) hok
        have HOK := Aside0.mk hok
        clear hs hok
        rcases hns with hns | hns
        all_goals
          rw [hns] at HS
          clear hns
          go_wp2_with (first
            | (go_at_call 10; refine (HS.out _ HO.out).mono ?_; rintro e w3 ⟨rfl, hO⟩; have HO3 := Aside0.mk hO; clear hO))
          go_roundg (60 - (i + 1))
          case measure => have := HK.out; omega
          case rel => exact ⟨i + 1, by go_num, ⟨by omega⟩, ⟨by omega⟩, ⟨by rw [HR.out, HOK.out]; exact HO3.out⟩⟩
      · rw [o_send_yes hok (by have := HLN.out; omega)] at HS
        have HOK := Aside0.mk hok
        clear hs hok
        go_wp2_with (first
          | (go_at_call 10; refine (HS.out _ HO.out).mono ?_; rintro e w3 ⟨rfl, hO⟩; have HO3 := Aside0.mk hO; clear hO y0 y1 y2; obtain ⟨ad2, e2, y0, y1, y2⟩ := msg_cells (Kd.C_below HC.out HO3.out.low) i hlt; cases e2)
          | ((with_reducible refine gate_builtin (b := .append) (xs := #[.tmp 47, .tmp 52]) rfl ?_); at_builtin; refine Kd.R_append kM w.heap.size rfl (.tmp 47) (.tmp 52) 22 30 (.agg #[.int .i64 0, .int .i64 0, .string ⟨#[]⟩]) 32 rfl Try.underlying22 infoM rfl (by decide) (by decide) _ s l[i] [.int .i64 l[i].f0, .int .i64 l[i].f1, .string l[i].f2] (fun k => k ≠ b ∧ k ≠ c) (fun _ => False) rfl rfl (k30_mkM _ _ _ l[i]) (fun _ hk => hk.elim) (fun k hk => ⟨(HO3.out.old k hk).1, (HO3.out.old k hk).2.1⟩) HO3.out.row HO3.out.low HO3.out.size (by have := HLN.out; omega) ?_; intro v4 w4 ho4 hb4 hg4 hat4; have HO4 := Aside0.mk (HO3.out.app ho4 hb4 hg4 hat4); clear ho4 hb4 hg4 hat4))
        go_roundg (60 - (i + 1))
        case measure => have := HK.out; omega
        case rel => exact ⟨i + 1, by go_num, ⟨by omega⟩, ⟨by omega⟩, ⟨by rw [HR.out, HOK.out]; exact HO4.out⟩⟩
    · have hends : i < l.length ∧ ¬ i < 60 ∨ ¬ i < l.length := by omega
      clear hgo
      have HSO := Aside0.mk (sent_ok (l := l) (i := i))
      obtain ⟨s, hs⟩ : ∃ s, sentL (l.take i) = s := ⟨_, rfl⟩
      rw [hs] at HO HLN HSO
      clear hs
      obtain ⟨As, cs, rfl⟩ := Kd.R_slice HO.out.row
      have hs256 : s.length ≤ 60 := by have := HLN.out; omega
      have HS6 := Aside0.mk hs256
      have hcase : (0 ≤ at_ ∧ at_ < s.length ∧ 0 ≤ to_ ∧ to_ < s.length) ∨ (0 ≤ at_ ∧ at_ < s.length ∧ ¬ (0 ≤ to_ ∧ to_ < s.length)) ∨ ¬ (0 ≤ at_ ∧ at_ < s.length) := by omega
      rcases hcase with ⟨q1, q2, q3, q4⟩ | ⟨q1, q2, q3⟩ | q1
      case' inl =>
        obtain ⟨a', rfl⟩ : ∃ k : Nat, at_ = k := ⟨at_.toNat, by omega⟩
        obtain ⟨t', rfl⟩ : ∃ k : Nat, to_ = k := ⟨to_.toNat, by omega⟩
        have ha' : a' < s.length := by omega
        have ht' : t' < s.length := by omega
        have l1 := insL_len (l := takeL s a') (m := s[a']) (j := t') (by have := takeL_len ha'; omega)
        have l2 := takeL_len ha'
        have HM1 := Aside0.mk (fun w0 h => Ord.move (w := w) (b := b) (c := c) (n := 0) (X := oX s 0) (v := .slice As s.length cs) (s := s) (wr := w0) h (by show s.length ≤ 256; omega) a' t')
        have HM2 := Aside0.mk (fun w0 h => Ord.move (w := w) (b := b) (c := c) (n := 0) (X := oX (insL (takeL s a') t' (s[a']'ha')) 0) (v := .slice As s.length cs) (s := s) (wr := w0) h (by show (insL (takeL s a') t' s[a']).length ≤ 256; omega) t' a')
        have HD := Aside0.mk (fun w0 h => Ord.double (w := w) (b := b) (c := c) (n := 0) (X := oX s 0) (v := .slice As s.length cs) (s := s) (wr := w0) h a')
        have HP := Aside0.mk (fun w0 h => Ord.drop (w := w) (b := b) (c := c) (n := 0) (X := oX (s ++ [s[a']'ha']) 0) (v := .slice As s.length cs) (s := s) (wr := w0) h (oF (by simp; omega) (by omega) (by omega)) s.length)
        rw [o_move ha' ht'] at HM1
        rw [o_back ha' ht'] at HM2
        rw [o_double ha' (by omega)] at HD
        rw [o_drop] at HP
        clear l1 l2 q1 q2 q3 q4
        obtain ⟨z, hz, hz1⟩ : ∃ z : Int, z = 1 ∧ 0 ≤ z ∧ z ≤ 1 := ⟨_, rfl, by omega⟩
        have HZ := Aside0.mk hz1
        rw [← hz] at HP
        clear hz hz1
      case' inr.inl =>
        obtain ⟨a', rfl⟩ : ∃ k : Nat, at_ = k := ⟨at_.toNat, by omega⟩
        have ha' : a' < s.length := by omega
        have HM1 := Aside0.mk (fun w0 h => Ord.move (w := w) (b := b) (c := c) (n := 0) (X := oX s 0) (v := .slice As s.length cs) (s := s) (wr := w0) h (by show s.length ≤ 256; omega) a' to_)
        have HD := Aside0.mk (fun w0 h => Ord.double (w := w) (b := b) (c := c) (n := 0) (X := oX s 0) (v := .slice As s.length cs) (s := s) (wr := w0) h a')
        have HP := Aside0.mk (fun w0 h => Ord.drop (w := w) (b := b) (c := c) (n := 0) (X := oX (s ++ [s[a']'ha']) 0) (v := .slice As s.length cs) (s := s) (wr := w0) h (oF (by simp; omega) (by omega) (by omega)) s.length)
        rw [o_move_no (by omega)] at HM1
        rw [o_double ha' (by omega)] at HD
        clear q1 q2 q3
        rw [o_drop] at HP
        obtain ⟨z, hz, hz1⟩ : ∃ z : Int, z = 1 ∧ 0 ≤ z ∧ z ≤ 1 := ⟨_, rfl, by omega⟩
        have HZ := Aside0.mk hz1
        rw [← hz] at HP
        clear hz hz1
      case' inr.inr =>
        have HM1 := Aside0.mk (fun w0 h => Ord.move (w := w) (b := b) (c := c) (n := 0) (X := oX s 0) (v := .slice As s.length cs) (s := s) (wr := w0) h (by show s.length ≤ 256; omega) at_ to_)
        have HD := Aside0.mk (fun w0 h => Ord.double (w := w) (b := b) (c := c) (n := 0) (X := oX s 0) (v := .slice As s.length cs) (s := s) (wr := w0) h at_)
        rw [o_move_no (by omega)] at HM1
        rw [o_double_no (by omega)] at HD
        clear q1
        obtain ⟨z, hz, hz1⟩ : ∃ z : Int, z = 0 ∧ 0 ≤ z ∧ z ≤ 1 := ⟨_, rfl, by omega⟩
        have HZ := Aside0.mk hz1
        rw [← hz] at HD HM1 HO
        clear hz hz1
      all_goals
        clear hs256 HLN
        rcases hends with ⟨e1, e2⟩ | e1
        all_goals
          go_wp2_with (first
            | (go_at_call 11; (with_reducible refine (HM1.out _ HO.out).mono ?_); rintro e w3 ⟨rfl, hO⟩; have HO3 := Aside0.mk hO; clear hO HO HM1)
            | (go_at_call 11; (with_reducible refine (HM2.out _ HO3.out).mono ?_); rintro e w3 ⟨rfl, hO⟩; clear HO3; have HO3 := Aside0.mk hO; clear hO)
            | (go_at_call 12; (with_reducible refine (HD.out _ HO3.out).mono ?_); rintro e w4 ⟨rfl, hO⟩; have HO4 := Aside0.mk hO; clear hO HO3)
            | (go_at_call 13; (with_reducible refine (HP.out _ HO4.out).mono ?_); rintro e w4 ⟨rfl, hO⟩; clear HO4; have HO4 := Aside0.mk hO; clear hO))
          go_loopg [11] s.length (fun kq vi wr => ∃ k : Nat, vi = .int .i64 k ∧ Aside0 (k + kq = s.length) ∧ Aside0 (Ord w wr b c 0 (oX (s.drop k) z) (.slice As s.length cs) s))
          case atStart => exact ⟨0, rfl, ⟨by omega⟩, by first | exact HO4 | exact HO3⟩
          case round =>
            obtain ⟨k, rfl, HK2, HOk⟩ := hrel
            have hk : k ≤ s.length := by have := HK2.out; omega
            have z0 := HZ.out
            by_cases hkl : k < s.length
            · have HV := Aside0.mk (fun w0 h => Ord.deliver (w := w) (b := b) (c := c) (n := 0) (X := oX (s.drop k) z) (v := .slice As s.length cs) (s := s) (wr := w0) h (oF (by have := HS6.out; simp; omega) (by omega) (by omega)) 0)
              have hm : okM s[k] = true := HSO.out _ (List.getElem_mem hkl)
              rw [List.drop_eq_getElem_cons hkl, o_deliver hm] at HV
              rw [List.drop_eq_getElem_cons hkl] at HOk
              clear hm z0
              have hk0 : (0 : Int) ≤ (k : Int) := by omega
              have hk1 : (k : Int) < (s.length : Int) := by omega
              have hk60 : (k : Int) < 60 := by have := HS6.out; omega
              go_wp2_with (first
                | (go_at_call 14; (with_reducible refine (HV.out _ HOk.out).mono ?_); rintro e w5 ⟨rfl, hO⟩; have HO5 := Aside0.mk hO; clear hO HOk HV))
              obtain ⟨d0, d1, d2, -, -, -⟩ := box3 (blk_new w5 (.cells #[.int .i64 s[k].f0, .int .i64 s[k].f1, .string s[k].f2] 30 (0, 0)))
              have HO6 := Aside0.mk (HO5.out.quiet (w' := w5.alloc (.cells #[.int .i64 s[k].f0, .int .i64 s[k].f1, .string s[k].f2] 30 (0, 0))) ((Chg.refl _ _).alloc _))
              obtain ⟨A6, c6, e6, -, hC6⟩ := Kd.R_reads (HO5.out.quiet (w' := w5.alloc (.cells #[.int .i64 s[k].f0, .int .i64 s[k].f1, .string s[k].f2] 30 (0, 0))) ((Chg.refl _ _).alloc _)).row
              injection e6 with e6 _ e7
              subst e6
              subst e7
              obtain ⟨ad6, rfl, y0, y1, y2⟩ := msg_cells hC6 k hkl
              clear hC6 HO5
              generalize s[k] = m at *
              go_quiet (fail)
              go_wp2
              go_roundg (s.length - (k + 1))
              case measure => have := HK2.out; omega
              case rel => exact ⟨k + 1, by go_num, ⟨by omega⟩, ⟨HO6.out.quiet ((Chg.refl _ _).drewN _)⟩⟩
            · obtain rfl : k = s.length := by omega
              have HV := Aside0.mk (fun w0 h => Ord.deliver (w := w) (b := b) (c := c) (n := 0) (X := oX [] z) (v := .slice As s.length cs) (s := s) (wr := w0) h (oF (by simp) (by omega) (by omega)) 0)
              rw [o_deliver_no] at HV
              rw [List.drop_length] at HOk
              clear z0
              go_wp2_with (first
                | (go_at_call 14; (with_reducible refine (HV.out _ HOk.out).mono ?_); rintro e w5 ⟨rfl, hO⟩; have HO5 := Aside0.mk hO; clear hO HOk HV))
              go_ret
              exact ⟨rfl, HO5.out.low.alloc (HO5.out.size) _⟩

end Go.Proofs.Ytclmhodgfhkgcaa.Q

/- Arguments of whatever depth (slices of texts, of structs, structs of slices): what the row reads is a row of the printed kinds. -/
namespace Go.Proofs.Ytclmhodgfhkgcaa.Q
open Go.RowKit Go.Proofs.YtclmhodgfhkgcaaW.PrintWords Go.Proofs.YtclmhodgfhkgcaaW.PrintLast Go.Proofs.YtclmhodgfhkgcaaW.PrintMore
set_option linter.unusedVariables false
set_option linter.unusedSimpArgs false

section
variable {H : Type} (enc : TypeId × Value → H) (P : Program) (W : World)

/-- What is read at type t is of the kind d, and good. -/
def Opens {α : Type} (t : TypeId) (d : Kd α) (G : α → Prop) : Prop :=
  P.cellsOf t = d.sz ∧ ∀ (fuel : Nat) (cs : List Value) (x : DataW H × List MemPlace), DataW.trod enc P W 0 (fun _ => true) true fuel t cs = some x → (∀ n ∈ x.1.weights P t, n ≤ reachBytes) → ∃ y, d.K W y cs ∧ G y
/-- What is read at types in line is of the kind d, and good. -/
def OpensSeq {α : Type} (ts : List TypeId) (d : Kd α) (G : α → Prop) : Prop :=
  (ts.map P.cellsOf).sum = d.sz ∧ ∀ (fuel : Nat) (cs : List Value) (xs : List (DataW H × List MemPlace)), cs.length = (ts.map P.cellsOf).sum → xs.length = ts.length →
    (∀ i t, ts[i]? = some t → DataW.trod enc P W 0 (fun _ => true) true fuel t ((cs.drop ((ts.take i).map P.cellsOf).sum).take (P.cellsOf t)) = xs[i]?) →
    (∀ n ∈ DataW.weightsEach P ts (xs.map (·.1)), n ≤ reachBytes) → ∃ y, d.K W y cs ∧ G y
variable {enc P W}

theorem Opens.int {t : TypeId} {k : IntKind} (ht : P.underlying t = some (.int k)) (hc : P.cellsOf t = 1) : Opens enc P W t (Kd.int k) (fun n => (Lit.int k n).wf = true) := by
  refine ⟨hc, fun fuel cs x h _ => ?_⟩
  obtain ⟨n, rfl, _, hw⟩ := DataW.trod_int ht h
  exact ⟨n, rfl, hw⟩
theorem Opens.bool {t : TypeId} (ht : P.underlying t = some .bool) (hc : P.cellsOf t = 1) : Opens enc P W t Kd.bool (fun _ => True) := by
  refine ⟨hc, fun fuel cs x h _ => ?_⟩
  cases fuel with
  | zero => simp [DataW.trod] at h
  | succ n =>
    unfold DataW.trod at h
    rw [ht] at h
    split at h <;> first | exact ⟨_, rfl, trivial⟩ | simp_all
theorem Opens.string {t : TypeId} (ht : P.underlying t = some .string) (hc : P.cellsOf t = 1) : Opens enc P W t Kd.string (fun s => s.size ≤ 140737488351232) := by
  refine ⟨hc, fun fuel cs x h hw => ?_⟩
  obtain ⟨s, rfl, rfl, _⟩ := DataW.trod_string ht h
  refine ⟨s, rfl, ?_⟩
  have := hw s.data.toList.length (by simp [DataW.weights])
  simpa [reachBytes, Array.length_toList] using this
theorem weights_all {e : TypeId} {ds : List (DataW H)} {d : DataW H} (h : d ∈ ds) : ∀ n ∈ d.weights P e, n ∈ DataW.weightsAll P e ds := by
  induction ds with
  | nil => cases h
  | cons d' ds ih =>
    intro n hn
    rw [DataW.weightsAll, List.mem_append]
    rcases List.mem_cons.1 h with rfl | h
    · exact .inl hn
    · exact .inr (ih h n hn)
open Classical in
theorem choose_list {α : Type} (z : α) (R : Nat → α → Prop) (n : Nat) (h : ∀ i, i < n → ∃ y, R i y) : ∃ l : List α, l.length = n ∧ ∀ i (hi : i < n) (hl : i < l.length), R i l[i] := by
  refine ⟨(List.range n).map fun i => if h' : ∃ y, R i y then Classical.choose h' else z, by simp, fun i hi hl => ?_⟩
  have he := h i hi
  simp only [List.getElem_map, List.getElem_range, dif_pos he]
  exact Classical.choose_spec he
theorem Opens.slice {α : Type} (z : α) {t e : TypeId} {d : Kd α} {G : α → Prop} (bytes : Nat) (ht : P.underlying t = some (.slice e)) (hc : P.cellsOf t = 1) (hb : P.bytesOf e = bytes) (h : Opens enc P W e d G) :
    Opens enc P W t (Kd.slice e d) (fun xs => xs.length * bytes ≤ 140737488351232 ∧ xs.length ≤ 9223372036854775807 ∧ ∀ x ∈ xs, G x) := by
  refine ⟨hc, fun fuel cs x hx hw => ?_⟩
  rcases Go.Deep.open_slice ht hx with ⟨rfl, rfl⟩ | ⟨a, len, cap, m, n, D, Pl, rfl, _, hlc, hcm, hm, rfl, hel⟩
  · exact ⟨[], ⟨none, 0, rfl, Nat.le_refl _, Kd.C_nil d W⟩, by simp, by simp, fun x hx => by cases hx⟩
  · have hlm : len ≤ m := by rw [hm]; split <;> omega
    have hwt : DataW.weights P t (.slice ((List.range len).map D) ((List.range (m - len)).map fun j => D (len + j))) =
        (((List.range len).map D).length + ((List.range (m - len)).map fun j => D (len + j)).length) * P.bytesOf e :: (DataW.weightsAll P e ((List.range len).map D) ++ DataW.weightsAll P e ((List.range (m - len)).map fun j => D (len + j))) := by
      rw [DataW.weights]
      simp only [ht]
    have hel' : ∀ i, i < len → ∃ y, (∃ cs', W.cells? 0 (a.add (i * P.cellsOf e)) (P.cellsOf e) = some cs' ∧ d.K W y cs') ∧ G y := by
      intro i hi
      obtain ⟨cs', h1, h2⟩ := hel i (by omega)
      obtain ⟨y, hy, hg⟩ := h.2 n cs' _ h2 (fun n hn => hw n (by
        rw [hwt]
        exact List.mem_cons_of_mem _ (List.mem_append_left _ (weights_all (List.mem_map.2 ⟨i, List.mem_range.2 hi, rfl⟩) n hn))))
      exact ⟨y, ⟨cs', h1, hy⟩, hg⟩
    obtain ⟨l, hll, hl⟩ := choose_list z _ len hel'
    have hb1 := hw _ (by rw [hwt]; exact List.mem_cons_self)
    have hle : len * bytes ≤ 140737488351232 := by
      simp only [List.length_map, List.length_range, hb, reachBytes] at hb1
      exact Nat.le_trans (Nat.mul_le_mul_right _ (by omega)) hb1
    have hmx : len ≤ 9223372036854775807 := by
      simp only [maxLen] at hcm
      omega
    refine ⟨l, ⟨some a, cap, by rw [hll], by omega, by rw [hll], by omega, fun _ => ⟨a, rfl, fun j p hj => ?_⟩⟩, by rw [hll]; exact hle, by omega, fun x hx => ?_⟩
    · obtain ⟨hjl, rfl⟩ := List.getElem?_eq_some_iff.1 hj
      obtain ⟨⟨cs', h1, hK⟩, _⟩ := hl j (by omega) hjl
      obtain ⟨_, hcl, hcell⟩ := World.cells?_some h1
      refine ⟨cs', by rw [hcl, h.1], hK, fun i u hu => ?_⟩
      have hi : i < P.cellsOf e := by
        have := (List.getElem?_eq_some_iff.1 hu).1
        omega
      have := hcell i hi
      rw [hu, add_add, h.1] at this
      exact this
    · obtain ⟨j, hj, rfl⟩ := List.getElem_of_mem hx
      exact (hl j (by omega) hj).2
theorem OpensSeq.one {α : Type} {t : TypeId} {d : Kd α} {G : α → Prop} (h : Opens enc P W t d G) : OpensSeq enc P W [t] d G := by
  refine ⟨by simp [h.1], fun fuel cs xs hl hx hr hw => ?_⟩
  have hr0 := hr 0 t rfl
  simp only [List.take_zero, List.map_nil, List.sum_nil, List.drop_zero] at hr0
  have hc : cs.length = P.cellsOf t := by simpa using hl
  rw [List.take_of_length_le (by omega)] at hr0
  match xs, hx with
  | [x], _ =>
    exact h.2 fuel cs x hr0 (fun n hn => hw n (by simp [DataW.weightsEach, hn]))
theorem OpensSeq.cons {α β : Type} {t : TypeId} {ts : List TypeId} {d : Kd α} {d' : Kd β} {G : α → Prop} {G' : β → Prop} (h : Opens enc P W t d G) (h' : OpensSeq enc P W ts d' G') :
    OpensSeq enc P W (t :: ts) (Kd.pair d d') (fun y => G y.1 ∧ G' y.2) := by
  refine ⟨by simp [Kd.pair, h.1, h'.1], fun fuel cs xs hl hx hr hw => ?_⟩
  match xs, hx with
  | x :: xs, hx =>
    have hr0 := hr 0 t rfl
    simp only [List.take_zero, List.map_nil, List.sum_nil, List.drop_zero] at hr0
    obtain ⟨y, hy, hg⟩ := h.2 fuel _ x hr0 (fun n hn => hw n (by simp [DataW.weightsEach, hn]))
    have hl2 : (cs.drop (P.cellsOf t)).length = (ts.map P.cellsOf).sum := by
      rw [List.length_drop, hl, List.map_cons, List.sum_cons]
      omega
    obtain ⟨y', hy', hg'⟩ := h'.2 fuel (cs.drop (P.cellsOf t)) xs hl2 (by simpa using hx) (fun i t' ht' => by
      have := hr (i + 1) t' (by simpa using ht')
      simp only [List.take_succ_cons, List.map_cons, List.sum_cons, List.getElem?_cons_succ] at this
      rw [List.drop_drop]
      exact this) (fun n hn => hw n (by simp only [List.map_cons, DataW.weightsEach, List.mem_append]; exact .inr hn))
    exact ⟨(y, y'), ⟨_, _, (List.take_append_drop (P.cellsOf t) cs).symm, hy, hy'⟩, hg, hg'⟩
theorem Opens.struct {α β : Type} {t : TypeId} {fs : Array Field} (ts : List TypeId) {d : Kd α} {G : α → Prop} (f : β → α) (g : α → β) (hfg : ∀ a, f (g a) = a) (ht : P.underlying t = some (.struct fs)) (hts : fs.toList.map (·.type) = ts)
    (hoff0 : fs.toList.map (·.offset) = (List.range fs.size).map fun i => ((ts.take i).map P.cellsOf).sum) (hc : P.cellsOf t = (ts.map P.cellsOf).sum) (h : OpensSeq enc P W ts d G) : Opens enc P W t (Kd.iso d f) (fun y => G (f y)) := by
  have hoff : ∀ i fd, fs[i]? = some fd → fd.offset = ((ts.take i).map P.cellsOf).sum := by
    intro i fd hi
    have h1 : (fs.toList.map (·.offset))[i]? = some fd.offset := by rw [List.getElem?_map, Array.getElem?_toList, hi]; rfl
    have hlt : i < fs.size := (Array.getElem?_eq_some_iff.1 hi).1
    rw [hoff0, List.getElem?_map, List.getElem?_range hlt] at h1
    simpa using h1.symm
  refine ⟨hc.trans h.1, fun fuel cs x hx hw => ?_⟩
  obtain ⟨xs, n, rfl, rfl, hcl, hxl, hfd⟩ := DataW.trod_struct ht hx
  have hwt : DataW.weights P t (.agg (xs.map (·.1)) : DataW H) = DataW.weightsEach P ts (xs.map (·.1)) := by
    rw [DataW.weights]
    simp only [ht, hts]
  obtain ⟨y, hy, hg⟩ := h.2 n cs xs (hcl.trans hc) (by rw [hxl, ← hts]; simp) (fun i t' ht' => by
    rw [← hts, List.getElem?_map, Option.map_eq_some_iff] at ht'
    obtain ⟨fd, hfi, rfl⟩ := ht'
    rw [Array.getElem?_toList] at hfi
    rw [← hoff i fd hfi]
    exact hfd i fd hfi) (fun n hn => hw n (by rw [hwt]; exact hn))
  exact ⟨g y, by show d.K W (f (g y)) cs; rw [hfg]; exact hy, by show G (f (g y)); rw [hfg]; exact hg⟩
/-- The weights of all arguments, and of one. -/
theorem weights_each {ts : List TypeId} : ∀ {ds : List (DataW H)} {j : Nat} {t : TypeId} {d : DataW H}, ts[j]? = some t → ds[j]? = some d → ∀ n ∈ d.weights P t, n ∈ DataW.weightsEach P ts ds := by
  induction ts with
  | nil => intro ds j t d h; simp at h
  | cons t' ts ih =>
    intro ds j t d h h' n hn
    cases ds with
    | nil => simp at h'
    | cons d' ds =>
      rw [DataW.weightsEach, List.mem_append]
      cases j with
      | zero =>
        simp only [List.getElem?_cons_zero, Option.some.injEq] at h h'
        subst h h'
        exact .inl hn
      | succ j => exact .inr (ih (by simpa using h) (by simpa using h') n hn)
end

end Go.Proofs.Ytclmhodgfhkgcaa.Q
