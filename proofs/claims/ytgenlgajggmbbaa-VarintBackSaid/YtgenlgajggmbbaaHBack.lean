/- What is laid is read again, and what is read was laid so. -/
import Derived.Test.YtgenlgajggmbbaaHReads
namespace Go.Proofs.Ytgenlgajggmbbaa.Q
open Go.RowKit Go.Proofs.YtgenlgajggmbbaaW.PrintWords Go.Proofs.YtgenlgajggmbbaaW.PrintLast Go.Proofs.YtgenlgajggmbbaaW.PrintMore
set_option linter.unusedVariables false
set_option linter.unusedSimpArgs false

theorem unz_zig (n : Int) : unz (zig n) = n := by
  unfold unz zig
  split <;> split <;> omega
theorem zig_unz (u : Nat) : zig (unz u) = u := by
  unfold unz zig
  split <;> split <;> omega
theorem scan_digL (f : Nat) : ∀ (k u : Nat) (rest : List Nat), f + k = 10 → 1 ≤ f → 128 ^ k * u < 18446744073709551616 → (0 < k → 0 < u) → scan (digL f u ++ rest) k = (u, (digL f u).length, 0) := by
  induction f with
  | zero => intro k u rest _ h; exact absurd h (by decide)
  | succ f ih =>
    intro k u rest hf _ hu h0
    have e9 : (128 : Nat) ^ 9 = 9223372036854775808 := by decide
    by_cases h : u < 128
    · rw [digL_last f u h, List.singleton_append, scan, if_neg ?_, if_neg (by omega), if_neg (by omega)]
      · rfl
      · rintro ⟨hk, h1⟩
        subst hk
        rw [e9] at hu
        omega
    · have hk9 : k ≠ 9 := by
        rintro rfl
        rw [e9] at hu
        omega
      have hk10 : k ≤ 8 := by
        have : k ≠ 10 := by
          rintro rfl
          omega
        omega
      have hm : 128 ^ (k + 1) * (u / 128) ≤ 128 ^ k * u := by
        rw [Nat.pow_succ, Nat.mul_assoc]
        exact Nat.mul_le_mul_left _ (by omega)
      have hi := ih (k + 1) (u / 128) rest (by omega) (by omega) (by omega) (fun _ => by omega)
      rw [digL_more f u (by omega), List.cons_append, scan, if_neg (fun h' => hk9 h'.1), if_pos (by omega), hi]
      have e : u % 128 + 128 - 128 + 128 * (u / 128) = u := by omega
      rw [if_pos rfl, List.length_cons]
      show (u % 128 + 128 - 128 + 128 * (u / 128), (digL f (u / 128)).length + 1, (0 : Int)) = _
      rw [e]
theorem digL_scan (l : List Nat) : ∀ (f k : Nat), f + k = 10 → k ≤ 9 → (∀ c ∈ l, c < 256) → (scan l k).2.2 = 0 → digL f (scan l k).1 = l.take (scan l k).2.1 ∧ (0 < k → 0 < (scan l k).1) := by
  induction l with
  | nil => intro f k _ _ _ h; rw [scan] at h; exact absurd h (by decide)
  | cons c l ih =>
    intro f k hf hk hl
    have hc := hl c (List.mem_cons_self ..)
    obtain ⟨f, rfl⟩ : ∃ f', f = f' + 1 := ⟨f - 1, by omega⟩
    rw [scan]
    split
    · intro h; exact absurd h (by decide)
    · rename_i h1
      split
      · rename_i h2
        split
        · rename_i h3
          intro _
          have hk9 : k ≠ 9 := fun h' => h1 ⟨h', by omega⟩
          obtain ⟨i1, i2⟩ := ih f (k + 1) (by omega) (by omega) (fun x hx => hl x (List.mem_cons_of_mem _ hx)) h3
          have i3 := i2 (by omega)
          generalize scan l (k + 1) = r at i1 i3 ⊢
          show digL (f + 1) (c - 128 + 128 * r.1) = List.take (r.2.1 + 1) (c :: l) ∧ (0 < k → 0 < c - 128 + 128 * r.1)
          have e1 : (c - 128 + 128 * r.1) % 128 + 128 = c := by omega
          have e2 : (c - 128 + 128 * r.1) / 128 = r.1 := by omega
          rw [digL_more f _ (by omega), e1, e2, i1, List.take_succ_cons]
          exact ⟨rfl, fun _ => by omega⟩
        · rename_i h3
          intro h
          exact absurd h h3
      · rename_i h2
        split
        · intro h; exact absurd h (by decide)
        · rename_i h3
          intro _
          show digL (f + 1) c = List.take 1 (c :: l) ∧ (0 < k → 0 < c)
          rw [digL_last f c (by omega)]
          exact ⟨rfl, fun h => by have := fun h' => h3 ⟨h', h⟩; omega⟩
theorem digL_lt (f : Nat) : ∀ u, ∀ c ∈ digL f u, c < 256 := by
  induction f with
  | zero => intro u c h; simp [digL] at h
  | succ f ih =>
    intro u c h
    by_cases hu : u < 128
    · rw [digL_last f u hu, List.mem_singleton] at h
      omega
    · rw [digL_more f u (by omega), List.mem_cons] at h
      rcases h with rfl | h
      · omega
      · exact ih _ c h
theorem ints_nat (l : List Nat) : (ints l).map Int.toNat = l := by
  rw [ints, List.map_map]
  have : (Int.toNat ∘ fun (n : Nat) => (n : Int)) = id := by
    funext n
    rfl
  rw [this, List.map_id]
theorem bl_numB (n : Int) : bl (numB n) = digL 10 (zig n) := by
  rw [numB, bl_nums _ (fun x hx => ?_), ints_nat]
  obtain ⟨m, hm, rfl⟩ := List.mem_map.mp hx
  have := digL_lt _ _ m hm
  omega

/-- At place p of s stands x. -/
def At (s : ByteArray) (p : Nat) (x : ByteArray) : Prop := p ≤ s.size ∧ ∃ rest, (bl s).drop p = bl x ++ rest
theorem At.left {s : ByteArray} {p : Nat} {x y : ByteArray} (h : At s p (x ++ y)) : At s p x := by
  obtain ⟨h0, r, h⟩ := h
  exact ⟨h0, bl y ++ r, by rw [h, bl_append, List.append_assoc]⟩
theorem At.le {s : ByteArray} {p : Nat} {x : ByteArray} (h : At s p x) : p + x.size ≤ s.size := by
  obtain ⟨h0, r, h⟩ := h
  have := congrArg List.length h
  rw [List.length_drop, List.length_append, bl_length, bl_length] at this
  omega
theorem At.right {s : ByteArray} {p : Nat} {x y : ByteArray} (h : At s p (x ++ y)) : At s (p + x.size) y := by
  have h1 := h.left.le
  obtain ⟨h0, r, h⟩ := h
  refine ⟨h1, r, ?_⟩
  rw [← List.drop_drop, h, bl_append, List.append_assoc, ← bl_length x, List.drop_left]
theorem At.mid (a x b : ByteArray) : At ((a ++ x) ++ b) a.size x := by
  refine ⟨by rw [ByteArray.size_append, ByteArray.size_append]; omega, bl b, ?_⟩
  rw [bl_append, bl_append, List.append_assoc, ← bl_length a, List.drop_left]
theorem At.cut {s : ByteArray} {p : Nat} {x : ByteArray} (h : At s p x) : s.extract p (p + x.size) = x := by
  obtain ⟨h0, r, h⟩ := h
  apply bl_inj
  rw [bl_extract, List.drop_take, h, Nat.add_sub_cancel_left, ← bl_length x, List.take_left]
theorem size_app (x y : ByteArray) : (x ++ y).size = x.size + y.size := ByteArray.size_append
theorem readN_num (s : ByteArray) (n : Int) (h0 : -9223372036854775808 ≤ n) (h1 : n ≤ 9223372036854775807) (p : Nat) (h : At s p (numB n)) : readN s (p : Int) = (n, ((p + (numB n).size : Nat) : Int), 0) := by
  obtain ⟨hp, r, h⟩ := h
  unfold readN
  rw [if_neg (by omega), Int.toNat_natCast, h, bl_numB, scan_digL 10 0 (zig n) r (by omega) (by omega) (by have := zig_lt n h0 h1; omega) (by omega), outR, if_pos rfl]
  have e1 : 0 + 128 ^ 0 * zig n = zig n := by omega
  have e2 : (p : Int) + ((0 : Nat) : Int) + ((digL 10 (zig n)).length : Int) = ((p + (numB n).size : Nat) : Int) := by
    rw [numB_len]
    omega
  show (unz (0 + 128 ^ 0 * zig n), (p : Int) + ((0 : Nat) : Int) + ((digL 10 (zig n)).length : Int), (0 : Int)) = _
  rw [e1, e2, unz_zig]
theorem countN_num (s : ByteArray) (n : Nat) (m : Int) (hm : (n : Int) ≤ m) (hn : n ≤ 4096) (p : Nat) (h : At s p (numB (n : Int))) : countN s (p : Int) m = ((n : Int), ((p + (numB (n : Int)).size : Nat) : Int), 0) := by
  unfold countN
  rw [readN_num s n (by omega) (by omega) p h, if_pos rfl]
  show (if (n : Int) < 0 then ((0 : Int), (0 : Int), (6 : Int)) else if (n : Int) > m then (0, 0, 4) else ((n : Int), ((p + (numB (n : Int)).size : Nat) : Int), 0)) = _
  rw [if_neg (by omega), if_neg (by omega)]
theorem readT_text (s t : ByteArray) (ht : t.size ≤ 4096) (p : Nat) (h : At s p (numB (t.size : Int) ++ t)) : readT s (p : Int) = (t, ((p + (numB (t.size : Int) ++ t).size : Nat) : Int), 0) := by
  unfold readT
  have hr := h.right
  have hc := hr.cut
  have hle := hr.le
  rw [countN_num s t.size 4096 (by omega) (by omega) p h.left, if_pos rfl, size_app]
  show (if (s.size : Int) < ((p + (numB (t.size : Int)).size : Nat) : Int) + (t.size : Int) then ((⟨#[]⟩ : ByteArray), (0 : Int), (5 : Int)) else (s.extract ((p + (numB (t.size : Int)).size : Nat) : Int).toNat (((p + (numB (t.size : Int)).size : Nat) : Int) + (t.size : Int)).toNat, ((p + (numB (t.size : Int)).size : Nat) : Int) + (t.size : Int), 0)) = _
  generalize (numB (t.size : Int)).size = m at hc hle ⊢
  have e : (((p + m : Nat) : Int) + (t.size : Int)) = ((p + m + t.size : Nat) : Int) := by omega
  have e2 : p + (m + t.size) = p + m + t.size := by omega
  rw [if_neg (by omega), e, Int.toNat_natCast, Int.toNat_natCast, hc, e2]

/-- Items laid one behind the other. -/
def catP {α : Type} (T : α → ByteArray × Int) : List α → ByteArray
  | [] => ⟨#[]⟩
  | x :: l => (T x).1 ++ catP T l
theorem app_assoc (a b c : ByteArray) : a ++ b ++ c = a ++ (b ++ c) := bl_inj (by simp only [bl_append, List.append_assoc])
theorem app_nil (a : ByteArray) : a ++ (⟨#[]⟩ : ByteArray) = a := bl_inj (by rw [bl_append]; exact List.append_nil _)
theorem listP_ok {α : Type} (T : α → ByteArray × Int) (l : List α) : ∀ acc, (listP T l acc).2 = 0 → (∀ x ∈ l, (T x).2 = 0) ∧ (listP T l acc).1 = acc ++ catP T l := by
  induction l with
  | nil => intro acc _; exact ⟨fun x hx => absurd hx (List.not_mem_nil), by rw [listP, catP, app_nil]⟩
  | cons x l ih =>
    intro acc
    rw [listP]
    by_cases h : (T x).2 = 0
    · rw [if_pos h]
      intro h2
      obtain ⟨i1, i2⟩ := ih _ h2
      refine ⟨fun y hy => ?_, by rw [i2, catP, app_assoc]⟩
      rcases List.mem_cons.mp hy with rfl | hy
      · exact h
      · exact i1 y hy
    · rw [if_neg h]
      intro h2
      exact absurd h2 h
theorem listP_all {α : Type} (T : α → ByteArray × Int) (l : List α) : ∀ acc, (∀ x ∈ l, (T x).2 = 0) → listP T l acc = (acc ++ catP T l, 0) := by
  induction l with
  | nil => intro acc _; rw [listP, catP, app_nil]
  | cons x l ih =>
    intro acc h
    rw [listP, if_pos (h x (List.mem_cons_self ..)), ih _ (fun y hy => h y (List.mem_cons_of_mem _ hy)), catP, app_assoc]
theorem readL_laid {α : Type} (s : ByteArray) (R : Int → α × Int × Int) (T : α → ByteArray × Int) (l : List α) : ∀ (p : Nat) (acc : List α), (∀ x ∈ l, ∀ q : Nat, At s q (T x).1 → R (q : Int) = (x, ((q + (T x).1.size : Nat) : Int), 0)) → At s p (catP T l) →
    readL R l.length (p : Int) acc = (acc ++ l, ((p + (catP T l).size : Nat) : Int), 0) := by
  induction l with
  | nil => intro p acc _ _; rw [List.append_nil]; rfl
  | cons x l ih =>
    intro p acc h hat
    rw [catP] at hat
    have h1 := h x (List.mem_cons_self ..) p hat.left
    rw [List.length_cons, readL, h1, if_pos rfl]
    have := ih (p + (T x).1.size) (acc ++ [x]) (fun y hy => h y (List.mem_cons_of_mem _ hy)) hat.right
    rw [catP, size_app, ← Nat.add_assoc]
    rw [List.append_assoc] at this
    exact this
theorem listN_laid {α : Type} (s : ByteArray) (R : Int → α × Int × Int) (T : α → ByteArray × Int) (l : List α) (hl : l.length ≤ 256) (p : Nat) (h : ∀ x ∈ l, ∀ q : Nat, At s q (T x).1 → R (q : Int) = (x, ((q + (T x).1.size : Nat) : Int), 0)) (hat : At s p (numB (l.length : Int) ++ catP T l)) :
    listN R s (p : Int) = (l, ((p + (numB (l.length : Int) ++ catP T l).size : Nat) : Int), 0) := by
  unfold listN
  rw [countN_num s l.length 256 (by omega) (by omega) p hat.left, if_pos rfl]
  have := readL_laid s R T l (p + (numB (l.length : Int)).size) [] h hat.right
  rw [size_app, ← Nat.add_assoc]
  exact this
/-- The numbers of a list are read as they were laid; likewise its texts. -/
theorem numbers_back (s : ByteArray) (l : List Int) (hw : ∀ n ∈ l, (Lit.int .i64 n).wf = true) (p : Nat) (h : (numbersP l).2 = 0) (hat : At s p (numbersP l).1) : listN (readN s) s (p : Int) = (l, ((p + (numbersP l).1.size : Nat) : Int), 0) := by
  unfold numbersP at h hat ⊢
  by_cases hl : 256 < l.length
  · rw [if_pos hl] at h; exact absurd h (by decide)
  · rw [if_neg hl] at h hat ⊢
    have h2 := (listP_ok _ l _ h).2
    rw [h2] at hat ⊢
    refine listN_laid s (readN s) (fun n => (numB n, 0)) l (by omega) p (fun x hx q hq => ?_) hat
    have hb := i64_of (hw x hx)
    exact readN_num s x hb.1 hb.2 q hq
theorem textP_ok (t : ByteArray) (h : (textP t).2 = 0) : t.size ≤ 4096 ∧ textP t = (numB (t.size : Int) ++ t, 0) := by
  unfold textP at h ⊢
  by_cases h0 : 4096 < t.size
  · rw [if_pos h0] at h; exact absurd h (by decide)
  · rw [if_neg h0]
    exact ⟨by omega, rfl⟩
theorem text_back (s t : ByteArray) (p : Nat) (h : (textP t).2 = 0) (hat : At s p (textP t).1) : readT s (p : Int) = (t, ((p + (textP t).1.size : Nat) : Int), 0) := by
  obtain ⟨h1, h2⟩ := textP_ok t h
  rw [h2] at hat ⊢
  exact readT_text s t h1 p hat
theorem texts_back (s : ByteArray) (l : List ByteArray) (p : Nat) (h : (textsP l).2 = 0) (hat : At s p (textsP l).1) : listN (readT s) s (p : Int) = (l, ((p + (textsP l).1.size : Nat) : Int), 0) := by
  unfold textsP at h hat ⊢
  by_cases hl : 256 < l.length
  · rw [if_pos hl] at h; exact absurd h (by decide)
  · rw [if_neg hl] at h hat ⊢
    obtain ⟨h1, h2⟩ := listP_ok _ l _ h
    rw [h2] at hat ⊢
    exact listN_laid s (readT s) textP l (by omega) p (fun x hx q hq => text_back s x q (h1 x hx) hq) hat

/-! ## what is read was laid so -/
theorem cut_join (s : ByteArray) (a b c : Nat) (h1 : a ≤ b) (h2 : b ≤ c) (h3 : c ≤ s.size) : s.extract a b ++ s.extract b c = s.extract a c := by
  apply bl_inj
  rw [bl_append, bl_extract, bl_extract, bl_extract]
  have hl : (bl s).length = s.size := bl_length s
  generalize bl s = l at hl ⊢
  have e1 : l.take b = (l.take c).take b := by rw [List.take_take, Nat.min_eq_left h2]
  rw [e1]
  have hm : (l.take c).length = c := by rw [List.length_take]; omega
  generalize l.take c = m at hm ⊢
  have e2 : m = m.take b ++ m.drop b := (List.take_append_drop b m).symm
  have e3 : m.drop a = (m.take b ++ m.drop b).drop a := by rw [List.take_append_drop]
  rw [e3, List.drop_append_of_le_length (by rw [List.length_take]; omega)]
/-- A read that ended well: the place moved ahead inside s. -/
def Ahead {α : Type} (s : ByteArray) (a : Int) (r : α × Int × Int) : Prop := 0 ≤ a ∧ a < r.2.1 ∧ r.2.1 ≤ (s.size : Int)
theorem readN_once (s : ByteArray) (a : Int) (h : (readN s a).2.2 = 0) : Ahead s a (readN s a) ∧ numB (readN s a).1 = s.extract a.toNat (readN s a).2.1.toNat := by
  obtain ⟨h1, h2, h3, h4, h5⟩ := readN_ok s a h
  refine ⟨⟨h1, h2, h3⟩, ?_⟩
  have hd := (digL_scan _ 10 0 (by omega) (by omega) (fun c hc => bl_lt s c (List.mem_of_mem_drop hc)) h4).1
  apply bl_inj
  rw [h5, bl_numB, bl_extract, List.drop_take]
  show digL 10 (zig (unz (scan ((bl s).drop a.toNat) 0).1)) = List.take ((a + ((scan ((bl s).drop a.toNat) 0).2.1 : Int)).toNat - a.toNat) ((bl s).drop a.toNat)
  rw [zig_unz, hd]
  congr 1
  omega
theorem countN_once (s : ByteArray) (hs : s.size ≤ 140737488351232) (a m : Int) (hm : 0 ≤ m) (h : (countN s a m).2.2 = 0) : numB (countN s a m).1 = s.extract a.toNat (countN s a m).2.1.toNat := by
  have h0 := countN_ok s a m hs hm h
  unfold countN at h ⊢
  by_cases h1 : (readN s a).2.2 = 0
  · rw [if_pos h1] at h ⊢
    by_cases h2 : (readN s a).1 < 0
    · rw [if_pos h2] at h; exact absurd h (by decide)
    · rw [if_neg h2] at h ⊢
      by_cases h3 : (readN s a).1 > m
      · rw [if_pos h3] at h; exact absurd h (by decide)
      · rw [if_neg h3]
        exact (readN_once s a h1).2
  · rw [if_neg h1] at h
    exact absurd h h1
theorem readT_once (s : ByteArray) (hs : s.size ≤ 140737488351232) (a : Int) (h : (readT s a).2.2 = 0) : Ahead s a (readT s a) ∧ textP (readT s a).1 = (s.extract a.toNat (readT s a).2.1.toNat, 0) := by
  unfold readT at h ⊢
  by_cases h1 : (countN s a 4096).2.2 = 0
  · obtain ⟨c1, c2, c3, c4, c5⟩ := countN_ok s a 4096 hs (by omega) h1
    have hc := countN_once s hs a 4096 (by omega) h1
    rw [if_pos h1] at h ⊢
    generalize countN s a 4096 = c at c1 c2 c4 c5 hc h ⊢
    by_cases h2 : (s.size : Int) < c.2.1 + c.1
    · rw [if_pos h2] at h; exact absurd h (by decide)
    · rw [if_neg h2]
      refine ⟨⟨c3, ?_, ?_⟩, ?_⟩
      · show a < c.2.1 + c.1
        omega
      · show c.2.1 + c.1 ≤ _
        omega
      · show textP (s.extract c.2.1.toNat (c.2.1 + c.1).toNat) = (s.extract a.toNat (c.2.1 + c.1).toNat, 0)
        have hz : (s.extract c.2.1.toNat (c.2.1 + c.1).toNat).size = c.1.toNat := by
          rw [← bl_length, bl_extract, List.length_drop, List.length_take, bl_length]
          omega
        have e : ((c.1.toNat : Nat) : Int) = c.1 := by omega
        rw [textP, hz, if_neg (by omega), e, hc, cut_join s _ _ _ (by omega) (by omega) (by omega)]
  · rw [if_neg h1] at h
    exact absurd h h1
theorem readL_once {α : Type} (s : ByteArray) (hs : s.size ≤ 140737488351232) (R : Int → α × Int × Int) (T : α → ByteArray × Int) (hR : ∀ a, (R a).2.2 = 0 → Ahead s a (R a) ∧ T (R a).1 = (s.extract a.toNat (R a).2.1.toNat, 0)) (d : Nat) : ∀ (a : Int) (acc : List α), 0 ≤ a → a ≤ (s.size : Int) → (readL R d a acc).2.2 = 0 →
    a ≤ (readL R d a acc).2.1 ∧ (readL R d a acc).2.1 ≤ (s.size : Int) ∧ ∃ l, (readL R d a acc).1 = acc ++ l ∧ l.length = d ∧ (∀ x ∈ l, (T x).2 = 0) ∧ catP T l = s.extract a.toNat (readL R d a acc).2.1.toNat := by
  induction d with
  | zero =>
    intro a acc h0 h1 _
    refine ⟨Int.le_refl _, h1, [], (List.append_nil _).symm, rfl, fun x hx => absurd hx (List.not_mem_nil), ?_⟩
    apply bl_inj
    show bl ⟨#[]⟩ = bl (s.extract a.toNat a.toNat)
    rw [bl_extract, List.drop_eq_nil_of_le (by rw [List.length_take]; omega)]
    rfl
  | succ d ih =>
    intro a acc h0 h1
    rw [readL]
    by_cases h : (R a).2.2 = 0
    · rw [if_pos h]
      intro h2
      obtain ⟨⟨r1, r2, r3⟩, r4⟩ := hR a h
      obtain ⟨i1, i2, l, i3, i4, i5, i6⟩ := ih (R a).2.1 (acc ++ [(R a).1]) (by omega) r3 h2
      generalize readL R d (R a).2.1 (acc ++ [(R a).1]) = r at i1 i2 i3 i6 ⊢
      refine ⟨by omega, i2, (R a).1 :: l, by rw [i3, List.append_assoc]; rfl, by rw [List.length_cons, i4], ?_, ?_⟩
      · intro x hx
        rcases List.mem_cons.mp hx with rfl | hx
        · rw [r4]
        · exact i5 x hx
      · rw [catP, r4, i6]
        exact cut_join s _ _ _ (by omega) (by omega) (by omega)
    · rw [if_neg h]
      intro h2
      exact absurd h2 h
theorem listN_once {α : Type} (s : ByteArray) (hs : s.size ≤ 140737488351232) (R : Int → α × Int × Int) (T : α → ByteArray × Int) (hR : ∀ a, (R a).2.2 = 0 → Ahead s a (R a) ∧ T (R a).1 = (s.extract a.toNat (R a).2.1.toNat, 0)) (a : Int) (h : (listN R s a).2.2 = 0) :
    Ahead s a (listN R s a) ∧ (listN R s a).1.length ≤ 256 ∧ listP T (listN R s a).1 (numB ((listN R s a).1.length : Int)) = (s.extract a.toNat (listN R s a).2.1.toNat, 0) := by
  have hlen := listN_len R s hs a
  unfold listN at h hlen ⊢
  by_cases h1 : (countN s a 256).2.2 = 0
  · obtain ⟨c1, c2, c3, c4, c5⟩ := countN_ok s a 256 hs (by omega) h1
    have hc := countN_once s hs a 256 (by omega) h1
    rw [if_pos h1] at h hlen ⊢
    generalize countN s a 256 = c at c1 c2 c4 c5 hc h hlen ⊢
    obtain ⟨i1, i2, l, i3, i4, i5, i6⟩ := readL_once s hs R T hR c.1.toNat c.2.1 [] (by omega) (by omega) h
    generalize readL R c.1.toNat c.2.1 [] = r at i1 i2 i3 i6 hlen ⊢
    have e : ((l.length : Nat) : Int) = c.1 := by rw [i4]; omega
    rw [List.nil_append] at i3
    refine ⟨⟨c3, by omega, i2⟩, hlen, ?_⟩
    rw [i3, listP_all T l _ i5, e, hc, i6, cut_join s _ _ _ (by omega) (by omega) (by omega)]
  · rw [if_neg h1] at h
    exact absurd h h1
theorem numbers_once (s : ByteArray) (hs : s.size ≤ 140737488351232) (a : Int) (h : (listN (readN s) s a).2.2 = 0) : Ahead s a (listN (readN s) s a) ∧ numbersP (listN (readN s) s a).1 = (s.extract a.toNat (listN (readN s) s a).2.1.toNat, 0) := by
  obtain ⟨h1, h2, h3⟩ := listN_once s hs (readN s) (fun n => (numB n, 0)) (fun b hb => by have := readN_once s b hb; exact ⟨this.1, by rw [this.2]⟩) a h
  refine ⟨h1, ?_⟩
  rw [numbersP, if_neg (by omega), h3]
theorem texts_once (s : ByteArray) (hs : s.size ≤ 140737488351232) (a : Int) (h : (listN (readT s) s a).2.2 = 0) : Ahead s a (listN (readT s) s a) ∧ textsP (listN (readT s) s a).1 = (s.extract a.toNat (listN (readT s) s a).2.1.toNat, 0) := by
  obtain ⟨h1, h2, h3⟩ := listN_once s hs (readT s) textP (fun b hb => readT_once s hs b hb) a h
  refine ⟨h1, ?_⟩
  rw [textsP, if_neg (by omega), h3]
theorem readL_all {α : Type} (Q : α → Prop) (R : Int → α × Int × Int) (hR : ∀ a, (R a).2.2 = 0 → Q (R a).1) (d : Nat) : ∀ (a : Int) (acc : List α), (∀ x ∈ acc, Q x) → ∀ x ∈ (readL R d a acc).1, Q x := by
  induction d with
  | zero => intro a acc h; exact h
  | succ d ih =>
    intro a acc h
    rw [readL]
    by_cases h1 : (R a).2.2 = 0
    · rw [if_pos h1]
      refine ih _ _ (fun x hx => ?_)
      rcases List.mem_append.mp hx with hx | hx
      · exact h x hx
      · rw [List.mem_singleton.mp hx]
        exact hR a h1
    · rw [if_neg h1]
      intro x hx
      exact absurd hx (List.not_mem_nil)
theorem listN_all {α : Type} (Q : α → Prop) (R : Int → α × Int × Int) (hR : ∀ a, (R a).2.2 = 0 → Q (R a).1) (s : ByteArray) (a : Int) : ∀ x ∈ (listN R s a).1, Q x := by
  unfold listN
  split
  · exact readL_all Q R hR _ _ [] (fun x hx => absurd hx (List.not_mem_nil))
  · intro x hx
    exact absurd hx (List.not_mem_nil)
theorem readL_err {α : Type} (R : Int → α × Int × Int) (d : Nat) : ∀ (a : Int) (acc : List α), (readL R d a acc).2.2 ≠ 0 → (readL R d a acc).1 = [] ∧ (readL R d a acc).2.1 = 0 := by
  induction d with
  | zero => intro a acc h; exact absurd rfl h
  | succ d ih =>
    intro a acc
    rw [readL]
    by_cases h1 : (R a).2.2 = 0
    · rw [if_pos h1]
      exact ih _ _
    · rw [if_neg h1]
      intro _
      exact ⟨rfl, rfl⟩
theorem listN_err {α : Type} (R : Int → α × Int × Int) (s : ByteArray) (a : Int) : (listN R s a).2.2 ≠ 0 → (listN R s a).1 = [] ∧ (listN R s a).2.1 = 0 := by
  unfold listN
  split
  · exact readL_err R _ _ _
  · intro _
    exact ⟨rfl, rfl⟩
theorem wf_i64 (n : Int) (h0 : -9223372036854775808 ≤ n) (h1 : n ≤ 9223372036854775807) : (Lit.int .i64 n).wf = true := by
  have m1 : IntKind.i64.min = -9223372036854775808 := rfl
  have m2 : IntKind.i64.max = 9223372036854775807 := rfl
  simp only [Lit.wf, Bool.and_eq_true, decide_eq_true_eq]
  omega
theorem catP_size {α : Type} (T : α → ByteArray × Int) (M : Nat) (l : List α) : (∀ x ∈ l, (T x).1.size ≤ M) → (catP T l).size ≤ M * l.length := by
  induction l with
  | nil => intro _; exact Nat.zero_le _
  | cons x l ih =>
    intro h
    have h1 := h x (List.mem_cons_self ..)
    have h2 := ih (fun y hy => h y (List.mem_cons_of_mem _ hy))
    rw [catP, size_app, List.length_cons, Nat.mul_succ]
    omega
theorem numbersP_size (l : List Int) : (numbersP l).2 = 0 → (numbersP l).1.size ≤ 10000000 := by
  unfold numbersP
  by_cases hl : 256 < l.length
  · rw [if_pos hl]; intro h; exact absurd h (by decide)
  · rw [if_neg hl]
    intro h
    rw [(listP_ok _ l _ h).2, size_app]
    have h1 := numB_size (l.length : Int)
    have h2 := catP_size (fun n => (numB n, (0 : Int))) 10 l (fun x _ => numB_size x)
    omega
theorem textsP_size (l : List ByteArray) : (textsP l).2 = 0 → (textsP l).1.size ≤ 10000000 := by
  unfold textsP
  by_cases hl : 256 < l.length
  · rw [if_pos hl]; intro h; exact absurd h (by decide)
  · rw [if_neg hl]
    intro h
    rw [(listP_ok _ l _ h).2, size_app]
    have h1 := numB_size (l.length : Int)
    have h2 := catP_size textP 4106 l (fun x _ => textP_size x)
    omega

end Go.Proofs.Ytgenlgajggmbbaa.Q
