/- Texts of this session laid together (merge.py): YtfmlamnkpoloaaaILim, YtfmlamnkpoloaaaIBytes, YtfmlamnkpoloaaaKRead, YtfmlamnkpoloaaaGKept, YtfmlamnkpoloaaaIRef, YtfmlamnkpoloaaaQeq58, YtfmlamnkpoloaaaQf19, YtfmlamnkpoloaaaGApart0. -/
import Derived.Test.YtfmlamnkpoloaaaTDedupBacke
/- What keeps a table's bytes right, behind any calls. -/
namespace Go.Proofs.Ytfmlamnkpoloaaa.Q
open Go.RowKit Go.Proofs.YtfmlamnkpoloaaaW.PrintWords Go.Proofs.YtfmlamnkpoloaaaW.PrintLast Go.Proofs.YtfmlamnkpoloaaaW.PrintMore
set_option linter.unusedVariables false
set_option linter.unusedSimpArgs false

def Lcd (c : Cl) : Prop := c.codes.length ≤ 32 ∧ ∀ x ∈ c.codes, 0 ≤ x ∧ x ≤ 63
theorem lcd_upd {T : Tb} (h : ∀ m, Lcd (T m)) {n : Nat} {c : Cl} (hc : Lcd c) : ∀ m, Lcd ((T.upd n c) m) := fun m => by
  unfold Tb.upd
  split
  · exact hc
  · exact h m
theorem lcd_put {T : Tb} (h : ∀ m, Lcd (T m)) (n seq code : Int) : ∀ m, Lcd ((dPut T n seq code).2 m) := by
  unfold dPut
  split
  · split
    · exact h
    · split
      · exact h
      · split
        · exact h
        · split
          · exact h
          · rename_i h1 h2 h3 h4 h5
            refine lcd_upd h ⟨?_, fun x hx => ?_⟩
            · simp only [List.length_append, List.length_cons, List.length_nil]
              omega
            · rcases List.mem_append.1 hx with hx | hx
              · exact (h _).2 x hx
              · rw [List.mem_singleton.1 hx]
                omega
  · exact h
theorem lcd_got {T : Tb} (h : ∀ m, Lcd (T m)) (n upto : Int) : ∀ m, Lcd ((dGot T n upto).2 m) := by
  unfold dGot
  split
  · split
    · exact h
    · split
      · refine lcd_upd h ⟨?_, fun x hx => (h _).2 x (List.mem_of_mem_drop hx)⟩
        have := (h n.toNat).1
        simp only [List.length_drop]
        omega
      · exact h
  · exact h
theorem lcd_do {T : Tb} {X : Rb} (h : ∀ m, Lcd (T m)) (kd cl sq co : Int) : ∀ m, Lcd ((tDo T X kd cl sq co) m) := by
  unfold tDo
  split
  · exact lcd_put h _ _ _
  · split
    · exact lcd_put h _ _ _
    · split
      · exact lcd_got h _ _
      · split
        · split
          · exact h
          · exact lcd_got h _ _
        · exact h
theorem lcd_runs (l : List S28) : ∀ m, Lcd ((runs l).1 m) := by
  have h : ∀ (l : List S28) (S : Tb × Rb), (∀ m, Lcd (S.1 m)) → ∀ m, Lcd ((l.foldl act S).1 m) := by
    intro l
    induction l with
    | nil => intro S hS; exact hS
    | cons a l ih => intro S hS; exact ih _ (lcd_do hS _ _ _ _)
  exact h l (T0, X0) (fun m => ⟨by simp [T0], by simp [T0]⟩)
theorem lim_both {ok : Nat → Prop} {N B : Nat} {w : World} {t x xl : Nat} {T : Tb} {X : Rb} (h : Both ok N B w t x xl T X) (hl : ∀ m, Lcd (T m)) : ∀ m, m < 6 → Lim (T m) := fun m hm => by
  have h1 := h.fine m hm
  have h2 := h.room
  exact ⟨h1.1, by omega, (hl m).1, (hl m).2⟩
def tabB (T : Tb) : Nat → ByteArray
  | 0 => ⟨#[]⟩
  | k + 1 => tabB T k ++ clB (T k)
theorem tabB_size {T : Tb} (h : ∀ m, m < 6 → Lim (T m)) : ∀ k, k ≤ 6 → (tabB T k).size ≤ 700 * k := by
  intro k
  induction k with
  | zero => intro _; exact Nat.zero_le _
  | succ k ih =>
    intro hk
    have h1 := ih (by omega)
    have h2 := clB_size (h k (by omega))
    show (tabB T k ++ clB (T k)).size ≤ _
    rw [size_app]
    omega

end Go.Proofs.Ytfmlamnkpoloaaa.Q

/- A table's Bytes. -/
namespace Go.Proofs.Ytfmlamnkpoloaaa.Q
open Go.RowKit Go.Proofs.YtfmlamnkpoloaaaW.PrintWords Go.Proofs.YtfmlamnkpoloaaaW.PrintLast Go.Proofs.YtfmlamnkpoloaaaW.PrintMore
set_option linter.unusedVariables false
set_option linter.unusedSimpArgs false

theorem BufAt.text {base : Nat} {w0 w : World} {p : Nat} {acc : ByteArray} (h : BufAt base w0 w p acc) : ∃ v, w.cell? ⟨p, 0, none⟩ = some v ∧ (convert 69 9 v).run Try.prog w = .ok (.string acc) w := by
  obtain ⟨v, h1, h2, -⟩ := h.cell
  obtain ⟨A, c, rfl, hr⟩ := own_reads h2
  refine ⟨.slice A (bytesOf acc).length c, (blk_cell h1 0).trans rfl, ?_⟩
  have h3 := string_of_reads (c := c) (dst := 9) Try.underlying69 Try.underlying5 Try.underlying9 hr
  rw [h3, strOfNums_bytesOf]
set_option maxHeartbeats 4000000 in
set_option maxRecDepth 100000 in
theorem Bytes_calls (ok : Nat → Prop) (t : Nat) (T : Tb) (w : World) (hT : TabAt ok w t T) (hF : ∀ m, m < 6 → Fine (T m)) (hL : ∀ m, m < 6 → Lim (T m)) :
    Calls Try.prog 24 #[.pointer (some ⟨t, 0, none⟩)] w fun e w' => e = .returned (.string (tabB T 6)) ∧ Below w.heap.size w w' := by
  have htl := hT.lt
  have HT0 : Aside0 (TabAt (fun k => k < w.heap.size) (w.alloc (.cells #[.slice none 0 0] 69 (0, 0))) t T) := ⟨by
    obtain ⟨cs, hb, hz, ha⟩ := hT.all
    have hc : Chg (fun _ => False) w (w.alloc (.cells #[.slice none 0 0] 69 (0, 0))) := (Chg.refl _ _).alloc _
    refine TabAt.chg (ok := fun k => k < w.heap.size) ⟨cs, hb, hz, fun n hn => ?_⟩ hc (fun h => h) (fun _ _ h => h)
    obtain ⟨h1, v, h2, h3⟩ := ha n hn
    exact ⟨h1, v, h2, Kd.V_mono (Kd.V_bound h3) (fun k hk => hk.2)⟩⟩
  have HB0 : Aside0 (BufAt w.heap.size w (w.alloc (.cells #[.slice none 0 0] 69 (0, 0))) w.heap.size ⟨#[]⟩) := ⟨⟨⟨_, blk_new _ _, World.ownsRow_nil _ _ _ _, by simp [Value.ownBlock]⟩, (Below.refl _ _).alloc (Nat.le_refl _) _, Nat.le_refl _, by simp⟩⟩
  have HF := Aside0.mk hF
  have HL := Aside0.mk hL
  have hmf : ∀ (fn : Fn) (first cap : Array Value) (w : World), (Instr.makeFunc fn first cap).run Try.prog w = .ok (.func fn first cap) w := fun _ _ _ _ => rfl
  clear hT hF hL
  go_enter Try.func24, Try.ntmps24
  go_wp2
  have HTL := Aside0.mk htl
  clear htl
  go_loopg [9] 6 (fun kq vi wr => ∃ m : Nat, vi = .int .i64 m ∧ Aside0 (m + kq = 6) ∧ Aside0 (BufAt w.heap.size w wr w.heap.size (tabB T m)) ∧ Aside0 (TabAt (fun k => k < w.heap.size) wr t T))
  case atStart => exact ⟨0, rfl, ⟨by omega⟩, HB0, HT0⟩
  case round =>
    clear HB0 HT0
    obtain ⟨m, rfl, HK, HB, HT⟩ := hrel
    have hm6 : m ≤ 6 := by have := HK.out; omega
    by_cases hm : m < 6
    · have HPB := Aside0.mk (put_bytes (fun k => k < w.heap.size) t m w.heap.size w.heap.size T (tabB T m) w wr hm HT.out (fun k hk => hk) HTL.out (HF.out m hm) (HL.out m hm) HB.out (by have := tabB_size HL.out m (by omega); omega))
      have b0 : (0 : Int) ≤ (m : Int) := by omega
      have b1 : (m : Int) < 6 := by omega
      clear hm6
      go_wp2_with (first | (go_at_call 33; refine HPB.out.mono ?_; rintro e w2 ⟨rfl, hb, ht⟩; have HB2 := Aside0.mk hb; have HT2 := Aside0.mk ht; clear hb ht))
      go_roundg (6 - (m + 1))
      case measure => have := HK.out; omega
      case rel => exact ⟨m + 1, by go_num, ⟨by omega⟩, HB2, HT2⟩
    · obtain rfl : m = 6 := by omega
      obtain ⟨v, hc, hcv⟩ := HB.out.text
      have HLW := Aside0.mk HB.out.low
      obtain ⟨tx, htx⟩ : ∃ tx, tabB T 6 = tx := ⟨_, rfl⟩
      rw [htx] at hcv
      have HTX := Aside0.mk htx
      clear HB hm6 hm htx
      go_wp2
      go_ret
      exact ⟨ret_str HTX.out.symm, HLW.out⟩

end Go.Proofs.Ytfmlamnkpoloaaa.Q

/- A client's bytes, and a table's, are read as they were. -/
namespace Go.Proofs.Ytfmlamnkpoloaaa.Q
open Go.RowKit Go.Proofs.YtfmlamnkpoloaaaW.PrintWords Go.Proofs.YtfmlamnkpoloaaaW.PrintLast Go.Proofs.YtfmlamnkpoloaaaW.PrintMore
set_option linter.unusedVariables false
set_option linter.unusedSimpArgs false

theorem kv_get : ∀ (l : List Int) (g : Int) (i : Nat) (h : i < l.length) (h2 : i < (kv g l).length), (kv g l)[i] = ⟨g + 1 + i, l[i]⟩ := by
  intro l
  induction l with
  | nil => intro g i h; exact absurd h (by simp)
  | cons x l ih =>
    intro g i h h2
    rcases i with _ | i
    · simp [kv]
    · have h3 : i < l.length := by simpa using h
      have e := ih (g + 1) i h3 (by rw [kv_length]; exact h3)
      have e2 : (kv g (x :: l))[i + 1]'h2 = (kv (g + 1) l)[i]'(by rw [kv_length]; exact h3) := rfl
      rw [e2, e]
      have e3 : g + 1 + 1 + (i : Int) = g + 1 + ((i + 1 : Nat) : Int) := by omega
      rw [e3]
      rfl
theorem ver_cells {w : World} {A : Option Addr} {l : List S58} (h : Kd.C k58 w A l.length l) (i : Nat) (hi : i < l.length) :
    ∃ ad, A = some ad ∧ w.cell? (ad.add (i * 2)) = some (.int .i64 l[i].f0) ∧ w.cell? ⟨(ad.add (i * 2)).block, (ad.add (i * 2)).off + 1, none⟩ = some (.int .i64 l[i].f1) := by
  have h1 := at_T58 h (i : Int) (by omega) (by omega)
  rw [rdV_at l i hi] at h1
  exact h1
/-- What the loop over verdicts knows. -/
structure RdAt (w6 wr : World) (g : Nat) (got : Int) (cs : List Int) : Prop where
  row : ∃ A c, wr.heap[g]? = some (.cells #[.int .i64 got, .slice A cs.length c] 53 (0, 0)) ∧ Kd.R (Kd.int .i64) 3 wr w6.heap.size (fun k => w6.heap.size ≤ k) (.slice A cs.length c) cs
  chg : Chg (fun k => k = g) w6 wr
  lt : g < w6.heap.size
theorem RdAt.drew {w6 wr : World} {g : Nat} {got : Int} {cs : List Int} (h : RdAt w6 wr g got cs) (n : Nat) : RdAt w6 (wr.drewN n) g got cs := by
  obtain ⟨A, c, h1, h2⟩ := h.row
  exact ⟨⟨A, c, blk_drewN h1 n, Kd.R_drewN h2 n⟩, h.chg.drewN n, h.lt⟩
theorem RdAt.quiet {w6 wr w' : World} {g : Nat} {got : Int} {cs : List Int} (h : RdAt w6 wr g got cs) (hc : Chg (fun _ => False) wr w') : RdAt w6 w' g got cs := by
  obtain ⟨A, c, h1, h2⟩ := h.row
  exact ⟨⟨A, c, (hc.keep g (blk_lt h1) (fun h => h)).trans h1, Kd.R_step h2 (fun k _ hk => hc.keep k hk (fun h => h))⟩, h.chg.trans (hc.mono (fun _ h => h.elim)), h.lt⟩
/-- A code more. -/
theorem RdAt.app {w6 wr w' : World} {g : Nat} {got x : Int} {cs : List Int} (h : RdAt w6 wr g got cs) {v0 v1 : Value} (h0 : wr.cell? ⟨g, 1, none⟩ = some v0) (hr : Kd.R (Kd.int .i64) 3 w' w6.heap.size (fun k => w6.heap.size ≤ k) v1 (cs ++ [x])) (hg : wr.grownBy w' v0.ownBlock) (hv : ∀ k, v0.ownBlock = some k → w6.heap.size ≤ k) : RdAt w6 (w'.setCell ⟨g, 1, none⟩ v1) g got (cs ++ [x]) := by
  obtain ⟨A, c, h1, -⟩ := h.row
  obtain ⟨A1, c1, rfl⟩ := Kd.R_slice hr
  have hg2 : w'.heap[g]? = _ := (hg.block g (blk_lt h1) (fun e => by have := hv g e.symm; have := h.lt; omega)).trans h1
  refine ⟨⟨A1, c1, blk_put hg2 1 _ rfl, Kd.R_far hr (p := ⟨g, 1, none⟩) (fun k hk e => by have := h.lt; have h3 : k = g := e; omega) _⟩, ?_, h.lt⟩
  refine Chg.set (S := fun k => k = g) (p := ⟨g, 1, none⟩) ?_ (.inl rfl) _
  refine ⟨h.chg.low.trans ((Below.refl 0 wr).grown hg (Nat.zero_le _) (fun k _ => Nat.zero_le _)), fun k hk hn => ?_⟩
  exact (hg.block k (Nat.lt_of_lt_of_le hk h.chg.low.size) (fun e => by have := hv k e.symm; omega)).trans (h.chg.keep k hk hn)
set_option maxHeartbeats 8000000 in
set_option maxRecDepth 100000 in
theorem read_ok (s : ByteArray) (p : Nat) (c : Cl) (w : World) (hL : Lim c) (hg : c.got ≤ 1099511627744) (hs : s.size ≤ 140737488351232) (hat : At s p (clB c)) :
    Calls Try.prog 36 #[.string s, .int .i64 (p : Int)] w fun e w' => ∃ A k, e = .returned (.tuple #[.agg #[.int .i64 c.got, .slice A c.codes.length k], .int .i64 ((p + (clB c).size : Nat) : Int), .int .i64 0]) ∧ RowI w' (fun k => w.heap.size ≤ k) (.slice A c.codes.length k) c.codes ∧ Below w.heap.size w w' := by
  have hg0 := hL.g0
  have hg1 := hL.g1
  have h1 := At.left hat
  have h2 := At.right hat
  obtain ⟨k1, -, k3⟩ := kv_ok c.codes c.got hL.g0 hL.g1 hL.code
  have hl := hL.len
  have hvb : verdictsB (kv c.got c.codes) = true := by
    unfold verdictsB
    rw [k3, kv_length, decide_eq_true (by omega)]
    rfl
  have HRN := Aside0.mk (readnumber_back s hs c.got (by omega) (by omega) p h1)
  have HRV := Aside0.mk (readverdicts_back s hs (kv c.got c.codes) hvb k1 (by rw [kv_length]; exact hl) (p + (numB c.got).size) h2)
  have HSZ : Aside0 (p + (numB c.got).size + (listB veY (kv c.got c.codes)).size = p + (clB c).size) := ⟨by unfold clB; rw [size_app]; omega⟩
  rw [HSZ.out] at HRV
  have HKG := Aside0.mk (fun i h h2 => kv_get c.codes c.got i h h2)
  have HKL := Aside0.mk (kv_length c.got c.codes)
  obtain ⟨got, hgot⟩ : ∃ g, c.got = g := ⟨_, rfl⟩
  obtain ⟨cs, hcs⟩ : ∃ l, c.codes = l := ⟨_, rfl⟩
  have HL32 := Aside0.mk hl
  rw [hgot, hcs] at HKG HKL HRV ⊢
  rw [hgot] at HRN hg0 hg hg1
  rw [hcs] at hg1 HL32
  clear hL hat h1 h2 k1 k3 hl hvb hgot hcs hs hg1 HSZ
  generalize kv got cs = ks at *
  generalize p + (numB got).size = p2 at *
  generalize p + (clB c).size = p3 at *
  go_enter Try.func36, Try.ntmps36
  go_wp2_with (first
    | (go_at_call 44; (with_reducible refine (varint_ReadNumber.calls 100 s (p : Int) got (p2 : Int) 0 _ HRN.out).mono ?_); rintro e w2 ⟨rfl, hb⟩; have HC2 := Aside0.mk (((Chg.refl (fun _ => False) w).alloc (.cells #[.int .i64 0, .slice none 0 0] 53 (0, 0))).trans (Chg.of_below (Drawn0.below hb) _)); have B2 := Aside0.mk (blk_below (blk_new w (.cells #[.int .i64 0, .slice none 0 0] 53 (0, 0))) (Drawn0.below hb)); clear hb)
    | (go_at_call 45; (with_reducible refine (codec_ReadVerdicts.calls 3000000 s (p2 : Int) ks (p3 : Int) 0 _ HRV.out).mono ?_); rintro e w5 ⟨v5, rfl, hr, hb⟩; obtain ⟨A5, c5, rfl, hl5, hC5⟩ := Kd.R_reads hr; have HV5 := Aside0.mk hr; have HC5 := Aside0.mk (HC2.out.trans (Chg.of_below hb _)); have B5 := Aside0.mk (blk_below B2.out hb); clear hr hb hl5 hC5; rw [HKL.out] at HV5 ⊢))
  obtain ⟨w6, hw6⟩ : ∃ w6, w5.alloc (.cells #[.int .i64 got, .slice none 0 0] 53 (0, 0)) = w6 := ⟨_, rfl⟩
  have HC6 : Aside0 (Chg (fun _ => False) w w6) := ⟨hw6 ▸ HC5.out.alloc _⟩
  have HC56 : Aside0 (Chg (fun _ => False) w5 w6) := ⟨hw6 ▸ (Chg.refl _ _).alloc _⟩
  have B6 : Aside0 (w6.heap[w.heap.size]? = some (.cells #[.int .i64 0, .slice none 0 0] 53 (0, 0))) := ⟨hw6 ▸ blk_alloc B5.out _⟩
  have HR0 : Aside0 (RdAt w6 w6 w5.heap.size got []) := ⟨⟨⟨none, 0, hw6 ▸ blk_new _ _, Kd.R_nil _ _ _ _ _⟩, Chg.refl _ _, by rw [← hw6]; simp⟩⟩
  have HG5 : Aside0 (w.heap.size < w5.heap.size) := ⟨blk_lt B5.out⟩
  rw [hw6]
  generalize hg5 : w5.heap.size = g at *
  clear hw6 HC5 B5 HC2 B2
  go_loopg [47] cs.length (fun kq vi wr => ∃ i : Nat, vi = .int .i64 i ∧ Aside0 (i + kq = cs.length) ∧ Aside0 (RdAt w6 wr g got (cs.take i)))
  case atStart => exact ⟨0, rfl, ⟨by omega⟩, HR0⟩
  case round =>
    clear HR0
    obtain ⟨i, rfl, HK, HB⟩ := hrel
    have hic : i ≤ cs.length := by have := HK.out; omega
    by_cases hlt : i < cs.length
    · have HV := Aside0.mk (Kd.R_step (w1 := wr) HV5.out (fun k _ hk => (HB.out.chg.keep k (Nat.lt_of_lt_of_le hk HC56.out.low.size) (by omega)).trans (HC56.out.keep k hk (fun h => h))))
      obtain ⟨A6, c6, e6, -, hC6⟩ := Kd.R_reads HV.out
      rw [HKL.out] at e6
      injection e6 with e7 _ e8
      subst e7
      subst e8
      have hik : i < ks.length := by rw [HKL.out]; exact hlt
      obtain ⟨ad, rfl, y0, y1⟩ := ver_cells hC6 i hik
      rw [HKG.out i hlt hik] at y0 y1
      have hTk : (cs.take i).length = i := by simp; omega
      have HTS := Aside0.mk (List.take_succ_eq_append_getElem hlt)
      have HTE := Aside0.mk (show ∀ y : Int, (cs.take i ++ [y]).length = i + 1 from fun y => by simp; omega)
      obtain ⟨A7, c7, hb7, hr7⟩ := HB.out.row
      rw [hTk] at hb7 hr7
      obtain ⟨b0, b1, f0, f1⟩ := box2 hb7
      have ltg := blk_lt hb7
      have HR7 := Aside0.mk hr7
      have i0 : (0 : Int) ≤ (i : Int) := by omega
      have i1 : (i : Int) < (cs.length : Int) := by omega
      have i2 : (i : Int) < 1000 := by have := HL32.out; omega
      obtain ⟨x, hx⟩ : ∃ x, cs[i] = x := ⟨_, rfl⟩
      rw [hx] at y1 HTS
      obtain ⟨sq, hsq⟩ : ∃ sq, got + 1 + (i : Int) = sq := ⟨_, rfl⟩
      have HSQ := Aside0.mk (show got + (i : Int) + 1 = sq by omega)
      have y0' : wr.cell? (ad.add (i * 2)) = some (.int .i64 sq) := y0.trans (by rw [← hsq])
      have y1' : wr.cell? ⟨(ad.add (i * 2)).block, (ad.add (i * 2)).off + 1, none⟩ = some (.int .i64 x) := y1
      have HX := Aside0.mk hx
      clear hC6 hr7 y0 y1 hx hsq hTk HV hik
      go_wp2
      obtain ⟨W, hW⟩ : ∃ W, wr.alloc (.cells #[.int .i64 sq, .int .i64 x] 58 (0, 0)) = W := ⟨_, rfl⟩
      have HBW : Aside0 (RdAt w6 W g got (cs.take i)) := ⟨hW ▸ HB.out.quiet ((Chg.refl _ _).alloc _)⟩
      have bx : W.heap[wr.heap.size]? = some (.cells #[.int .i64 sq, .int .i64 x] 58 (0, 0)) := hW ▸ blk_new wr _
      have hb8 : W.heap[g]? = some (.cells #[.int .i64 got, .slice A7 i c7] 53 (0, 0)) := hW ▸ blk_alloc hb7 _
      have hr8 : Kd.R (Kd.int .i64) 3 W w6.heap.size (fun k => w6.heap.size ≤ k) (.slice A7 i c7) (cs.take i) := hW ▸ Kd.R_alloc HR7.out _
      have hgx : g ≠ wr.heap.size := by omega
      rw [hW]
      generalize wr.heap.size = gx at *
      clear hW y0' y1' b0 b1 f0 f1 ltg hb7
      have HR8 := Aside0.mk hr8
      have HB8 := Aside0.mk hb8
      have HBX := Aside0.mk bx
      have HGX := Aside0.mk hgx
      obtain ⟨x0, x1, -, -⟩ := box2 bx
      clear hr8 bx hgx x1
      refine wp_plan [(0, 0, 51), (1, 0, 52), (2, 2, 53), (3, 1, 54)] [] (fun W => W.cell? ⟨gx, 0, none⟩ = some (.int .i64 sq)) (by kernel_rfl) rfl (by kernel_rfl) (fun _ t _ _ _ h => by cases t <;> exact h) x0 (fun hS => ?_)
      repeat (refine RP.take (v := ?_) (a' := ?_) rfl rfl (by assumption) (Or.inl ⟨by rfl, ?_⟩) ?_ ?_; rotate_left; (focus (rintro w' hS0; go_simp; with_reducible rfl)); rotate_left; (focus (simp only [Act.put, List.setIfInBounds_toArray, List.set_cons_zero, List.set_cons_succ, i64_w, i32_w]; rfl)))
      refine RP.one rfl rfl (fun K hK => ?_)
      refine goes_ Try.func27 (by kernel_rfl) rfl #[.pointer (some ⟨g, 0, none⟩)] (by rfl) rfl rfl (by (try simp only [List.map_toArray, List.map_cons, List.map_nil]); first | done | rfl) ?_
      (with_reducible refine (next_calls g 0 got A7 i c7 (W.drewN 1) hg0 (by omega) ((blk_cell (blk_drewN hb8 1) 0).trans rfl) ((blk_cell (blk_drewN hb8 1) 1).trans rfl)).mono ?_)
      rintro e w8 ⟨rfl, n8, rfl⟩
      refine ⟨_, rfl, ?_⟩
      rw [HSQ.out]
      refine hK.out _ _ x0 (fun hS => ?_)
      clear hK K
      refine RP.norm (a' := ?_) ?_ ?_
      rotate_left
      · show Act.put _ (some 53) _ = _
        simp only [Act.put, List.setIfInBounds_toArray, List.set_cons_zero, List.set_cons_succ, i64_w, i32_w]
        rfl
      repeat (refine RP.pure (v := ?_) (a' := ?_) rfl rfl (Or.inl ⟨by rfl, ?_⟩) ?_ ?_; rotate_left; (focus (intro w'; go_simp; with_reducible rfl)); rotate_left; (focus (simp only [Act.put, List.setIfInBounds_toArray, List.set_cons_zero, List.set_cons_succ, i64_w, i32_w]; rfl)))
      refine RP.nil ?_
      have HB9 := Aside0.mk (((HBW.out.drew 1).drew n8))
      have HR9 := Aside0.mk (Kd.R_drewN (Kd.R_drewN HR8.out 1) n8)
      have h9 := blk_drewN (blk_drewN HB8.out 1) n8
      have hx9 := blk_drewN (blk_drewN HBX.out 1) n8
      generalize (W.drewN 1).drewN n8 = W9 at *
      clear x0 hb8 hS
      have H9 := Aside0.mk h9
      obtain ⟨b0, b1, f0, f1⟩ := box2 h9
      obtain ⟨x0, x1, -, -⟩ := box2 hx9
      clear h9 hx9
      go_wp2_with (first | ((with_reducible refine gate_builtin (b := .append) (xs := #[.tmp 57, .tmp 60]) rfl ?_); at_builtin; refine Kd.R_append (Kd.int .i64) (w0 := W9) w6.heap.size rfl (.tmp 57) (.tmp 60) 26 3 (.int .i64 0) 8 rfl Try.underlying26 infoI rfl (by decide) (by decide) (.slice A7 i c7) (cs.take i) x [.int .i64 x] (fun k => w6.heap.size ≤ k) (fun _ => False) rfl rfl rfl (fun _ hk => hk.elim) (fun k hk => Nat.le_trans HB9.out.chg.low.size hk) HR9.out (Below.refl _ _) HB9.out.chg.low.size (by have := HL32.out; simp; omega) ?_; intro v10 w10 ho10 hb10 hg10 hat10; have H10 := Aside0.mk (HB9.out.app (v0 := .slice A7 i c7) ((blk_cell H9.out 1).trans rfl) ho10 hg10 (fun k e => Kd.R_base HR9.out k e)); have h11 := (hg10.block g (blk_lt H9.out) (fun e => by have := Kd.R_base HR9.out g e.symm; have := HB9.out.lt; omega)).trans H9.out; obtain ⟨A10, k10, rfl⟩ := Kd.R_slice ho10; clear b0 b1 f0 f1 x0 x1 ho10 hb10 hg10 hat10; obtain ⟨b0, b1, f0, f1⟩ := box2 h11; clear h11))
      go_roundg (cs.length - (i + 1))
      case measure => have := HK.out; omega
      case rel => exact ⟨i + 1, by go_num, ⟨by omega⟩, ⟨by have h := H10.out; rw [HTE.out] at h; rw [HTS.out]; exact h⟩⟩
    · obtain rfl : i = cs.length := by omega
      rw [List.take_length] at HB
      obtain ⟨A7, c7, hb7, hr7⟩ := HB.out.row
      obtain ⟨b0, b1, -, -⟩ := box2 hb7
      have hgw : w.heap.size ≠ g := by have := HG5.out; omega
      have B7 := Aside0.mk ((HB.out.chg.keep w.heap.size (blk_lt B6.out) hgw).trans B6.out)
      obtain ⟨r0, r1, q0, q1⟩ := box2 B7.out
      have HR7 := Aside0.mk hr7
      have HLW : Aside0 (Below w.heap.size w wr) := ⟨((HC6.out.mono (fun _ h => h.elim)).trans HB.out.chg : Chg (fun k => k = g) w wr).below (Below.refl _ _) (Nat.le_refl _) (fun k e => by subst e; have := HG5.out; omega)⟩
      have H6 := Aside0.mk HC6.out.low.size
      have H7 := Aside0.mk (blk_lt B6.out)
      clear hb7 hr7
      go_wp2
      refine bodyPost_ret (results_ctt rfl _ _ w.heap.size 53 _ (0, 0) _ rfl (blk_put (blk_put B7.out 0 _ rfl) 1 _ rfl) Try.underlying53 rfl (by kernel_rfl)) rfl ?_
      refine ⟨A7, c7, rfl, ?_, ?_⟩
      · exact Kd.V_mono (Kd.V_far (Kd.V_far (Kd.R_V (base' := 0) HR7.out) (p := ⟨w.heap.size, 0, none⟩) (fun k hk e => by have := H7.out; have h3 : k = w.heap.size := e; omega) _) (p := ⟨w.heap.size, 1, none⟩) (fun k hk e => by have := H7.out; have h3 : k = w.heap.size := e; omega) _) (fun k hk => by have := H6.out; omega)
      · exact (HLW.out.setCell (p := ⟨w.heap.size, 0, none⟩) (Nat.le_refl _) _).setCell (p := ⟨w.heap.size, 1, none⟩) (Nat.le_refl _) _
def Tk (T : Tb) (m : Nat) : Tb := fun j => if j < m then T j else ⟨0, []⟩
theorem TabAt.congr {ok : Nat → Prop} {w : World} {t : Nat} {T T' : Tb} (h : TabAt ok w t T) (he : ∀ m, m < 6 → T m = T' m) : TabAt ok w t T' := by
  obtain ⟨cs, hb, hz, ha⟩ := h.all
  refine ⟨cs, hb, hz, fun n hn => ?_⟩
  rw [← he n hn]
  exact ha n hn
theorem tabB_at {T : Tb} : ∀ (k m : Nat), m < k → ∃ rest, tabB T k = tabB T m ++ clB (T m) ++ rest := by
  intro k
  induction k with
  | zero => intro m h; omega
  | succ k ih =>
    intro m h
    by_cases e : m = k
    · subst e
      exact ⟨⟨#[]⟩, (app_nil _).symm⟩
    · obtain ⟨rest, hr⟩ := ih m (by omega)
      refine ⟨rest ++ clB (T k), ?_⟩
      show tabB T k ++ clB (T k) = _
      rw [hr]
      simp only [app_assoc]
theorem at_tab {T : Tb} (a b : ByteArray) {m : Nat} (hm : m < 6) : At (a ++ tabB T 6 ++ b) (a.size + (tabB T m).size) (clB (T m)) := by
  obtain ⟨rest, hr⟩ := tabB_at (T := T) 6 m hm
  have h := At.mid (a ++ tabB T m) (clB (T m)) (rest ++ b)
  rw [size_app] at h
  rw [hr]
  simp only [app_assoc] at h ⊢
  exact h
set_option maxHeartbeats 8000000 in
set_option maxRecDepth 100000 in
theorem Read_ok (s : ByteArray) (p : Nat) (T : Tb) (w : World) (hL : ∀ m, m < 6 → Lim (T m)) (hg : ∀ m, m < 6 → (T m).got ≤ 1099511627744) (hs : s.size ≤ 140737488351232) (hat : ∀ m, m < 6 → At s (p + (tabB T m).size) (clB (T m))) :
    Calls Try.prog 25 #[.string s, .int .i64 (p : Int)] w fun e w' => e = .returned (.tuple #[.pointer (some ⟨w.heap.size, 0, none⟩), .int .i64 ((p + (tabB T 6).size : Nat) : Int), .int .i64 0]) ∧ TabAt (fun k => w.heap.size < k) w' w.heap.size T ∧ Below w.heap.size w w' := by
  have HL := Aside0.mk hL
  have HG := Aside0.mk hg
  have HAT := Aside0.mk hat
  have HS := Aside0.mk hs
  obtain ⟨pe, hpe⟩ : ∃ n, p + (tabB T 6).size = n := ⟨_, rfl⟩
  have HPE := Aside0.mk hpe
  rw [hpe]
  clear hL hg hat hs hpe
  go_enter Try.func25, Try.ntmps25
  go_wp2_with (first | (go_at_call 8; refine (new_calls _).mono ?_; rintro e w1 ⟨rfl, h1, hb, e1⟩; have HT0 := Aside0.mk ((h1 (fun k => w.heap.size < k)).congr (T' := Tk T 0) (fun m _ => rfl)); have HB0 := Aside0.mk hb; clear h1 hb e1))
  obtain ⟨t, ht⟩ : ∃ t, w.heap.size = t := ⟨_, rfl⟩
  have HTT := Aside0.mk ht
  rw [ht] at HT0 ⊢
  clear ht
  go_loopg [1, 13] 6 (fun kq va vi wr => ∃ m pm : Nat, vi = .int .i64 m ∧ va = .int .i64 pm ∧ Aside0 (m + kq = 6) ∧ Aside0 (pm = p + (tabB T m).size) ∧ Aside0 (TabAt (fun k => t < k) wr t (Tk T m)) ∧ Aside0 (Below w.heap.size w wr))
  case atStart => exact ⟨0, p, rfl, rfl, ⟨by omega⟩, ⟨rfl⟩, HT0, HB0⟩
  case round =>
    clear HT0 HB0
    obtain ⟨m, pm, rfl, rfl, HK, HPM, HT, HB⟩ := hrel
    have hm6 : m ≤ 6 := by have := HK.out; omega
    by_cases hm : m < 6
    · have HRD := Aside0.mk (fun w0 => read_ok s pm (T m) w0 (HL.out m hm) (HG.out m hm) HS.out (by rw [HPM.out]; exact HAT.out m hm))
      obtain ⟨pn, hpn⟩ : ∃ n, pm + (clB (T m)).size = n := ⟨_, rfl⟩
      have HPN : Aside0 (pn = p + (tabB T (m + 1)).size) := ⟨by rw [← hpn, HPM.out]; show _ = p + (tabB T m ++ clB (T m)).size; rw [size_app]; omega⟩
      rw [hpn] at HRD
      clear hpn
      have b0 : (0 : Int) ≤ (m : Int) := by omega
      have b1 : (m : Int) < 6 := by omega
      go_wp2_with (first | (go_at_call 36; (with_reducible refine (HRD.out _).mono ?_); rintro e w2 ⟨A, k, rfl, hr, hb⟩; have HR2 := Aside0.mk hr; have n0 := Aside0.mk (HT.out.chg (Chg.of_below hb (fun _ => False)) (fun h => h) (fun _ _ h => h)); have n1 := Aside0.mk (below_step HB.out hb); have HWT := Aside0.mk (HT.out.lt); clear HT HB hr hb; have HT := n0; have HB := n1; clear n0 n1))
      obtain ⟨W, hW⟩ : ∃ W, w2.alloc (.cells #[.int .i64 (T m).got, .slice A (T m).codes.length k] 53 (0, 0)) = W := ⟨_, rfl⟩
      have HTW : Aside0 (TabAt (fun k => t < k) W t (Tk T m)) := ⟨hW ▸ HT.out.chg ((Chg.refl (fun _ => False) _).alloc _) (fun h => h) (fun _ _ h => h)⟩
      have HBW : Aside0 (Below w.heap.size w W) := ⟨hW ▸ below_alloc HB.out _⟩
      have bx : W.heap[w2.heap.size]? = some (.cells #[.int .i64 (T m).got, .slice A (T m).codes.length k] 53 (0, 0)) := hW ▸ blk_new w2 _
      have HRW : Aside0 (RowI W (fun k => t < k) (.slice A (T m).codes.length k) (T m).codes) := ⟨hW ▸ Kd.V_alloc (Kd.V_mono HR2.out (fun k hk => by have := HWT.out; omega)) _⟩
      rw [hW]
      generalize w2.heap.size = gb at *
      clear hW HT HB HR2
      obtain ⟨x0, x1, -, -⟩ := box2 bx
      obtain ⟨c0, ⟨A1, k1, c1, -, -⟩, fz⟩ := HTW.out.cells hm
      have f0 := fz (m * 2)
      have f1 := fz (m * 2 + 1)
      have ltt := HTW.out.lt
      clear fz bx
      refine wp_plan [(3, 1, 29), (0, 0, 26), (1, 0, 27), (2, 0, 28), (4, 0, 30), (5, 0, 31), (6, 0, 32), (7, 3, 0), (8, 1, 1)] [7] (fun W => W.cell? ⟨gb, 0, none⟩ = some (.int .i64 (T m).got) ∧ W.cell? ⟨gb, 1, none⟩ = some (.slice A (T m).codes.length k)) (by kernel_rfl) rfl (by kernel_rfl) (fun _ t _ _ _ h => by cases t <;> exact h) ⟨x0, x1⟩ (fun hS => ?_)
      repeat (refine RP.pure (v := ?_) (a' := ?_) rfl rfl (Or.inl ⟨by rfl, ?_⟩) ?_ ?_; rotate_left; (focus (intro w'; go_simp; with_reducible rfl)); rotate_left; (focus (simp only [Act.put, List.setIfInBounds_toArray, List.set_cons_zero, List.set_cons_succ, i64_w, i32_w]; rfl)))
      repeat (refine RP.take (v := ?_) (a' := ?_) rfl rfl (by assumption) (Or.inl ⟨by rfl, ?_⟩) ?_ ?_; rotate_left; (focus (rintro w' ⟨hS0, hS1⟩; go_simp; with_reducible rfl)); rotate_left; (focus (simp only [Act.put, List.setIfInBounds_toArray, List.set_cons_zero, List.set_cons_succ, i64_w, i32_w]; rfl)))
      refine RP.last rfl rfl (fun K hK => ?_)
      go_simp
      refine hK.out _ _ ?_
      clear hK K
      repeat (refine RP.pure (v := ?_) (a' := ?_) rfl rfl (Or.inl ⟨by rfl, ?_⟩) ?_ ?_; rotate_left; (focus (intro w'; go_simp; with_reducible rfl)); rotate_left; (focus (simp only [Act.put, List.setIfInBounds_toArray, List.set_cons_zero, List.set_cons_succ, i64_w, i32_w]; rfl)))
      refine RP.nil ?_
      have HTE := Aside0.mk (((HTW.out.chg ((Chg.refl (fun _ => False) _).drewN 1) (fun h => h) (fun _ _ h => h)).setGot (g := (T m).got) (fun k hk => Nat.ne_of_gt hk) hm).setCodes (fun k hk => Nat.ne_of_gt hk) hm ((HRW.out.chg ((Chg.refl (fun _ => False) _).drewN 1) (fun _ _ h => h)).far (p := ⟨t, m * 2, none⟩) (fun k hk => Nat.ne_of_gt hk) (.int .i64 (T m).got)))
      have HBE := Aside0.mk (((pw_below_drewN HBW.out 1).setCell (p := ⟨t, m * 2, none⟩) (by rw [HTT.out]; exact Nat.le_refl _) (.int .i64 (T m).got)).setCell (p := ⟨t, m * 2 + 1, none⟩) (by rw [HTT.out]; exact Nat.le_refl _) (.slice A (T m).codes.length k))
      go_wp2
      go_roundg (6 - (m + 1))
      case measure => have := HK.out; omega
      case rel =>
        refine ⟨m + 1, pn, by go_num, rfl, ⟨by omega⟩, HPN, ⟨?_⟩, HBE⟩
        refine HTE.out.congr (fun j hj => ?_)
        unfold Tk Tb.upd
        by_cases e : j = m
        · subst e
          simp
        · by_cases e2 : j < m
          · simp [e, e2, Nat.lt_succ_of_lt e2]
          · have e3 : ¬ j < m + 1 := by omega
            simp [e, e2, e3]
    · obtain rfl : m = 6 := by omega
      have HPP := Aside0.mk (HPM.out.trans HPE.out)
      go_wp2
      go_ret3
      refine ⟨show Ending.returned (.tuple #[.pointer (some ⟨t, 0, none⟩), .int .i64 (pm : Int), .int .i64 0]) = _ from by rw [HPP.out, HTT.out], ?_, HB.out⟩
      rw [HTT.out]
      exact HT.out.congr (fun j hj => by unfold Tk; rw [if_pos hj])

end Go.Proofs.Ytfmlamnkpoloaaa.Q

/- The reference's Kept. -/
namespace Go.Proofs.Ytfmlamnkpoloaaa.Q
open Go.RowKit Go.Proofs.YtfmlamnkpoloaaaW.PrintWords Go.Proofs.YtfmlamnkpoloaaaW.PrintLast Go.Proofs.YtfmlamnkpoloaaaW.PrintMore
set_option linter.unusedVariables false
set_option linter.unusedSimpArgs false

def rKept (X : Rb) (n : Int) : List S58 := if isC n then kv (X n.toNat).got ((X n.toNat).codes.drop ((X n.toNat).got - (X n.toNat).ahead).toNat) else []
theorem rel_kept {T : Tb} {X : Rb} (h : Rel T X) (n : Int) : dKept T n = rKept X n := by
  unfold dKept rKept
  by_cases hn : isC n
  · rw [if_pos hn, if_pos hn, (h _ (isC_lt hn)).1, (h _ (isC_lt hn)).2.1]
  · rw [if_neg hn, if_neg hn]
set_option maxHeartbeats 4000000 in
set_option maxRecDepth 100000 in
theorem rKept_calls (ok : Nat → Prop) (x xl : Nat) (X : Rb) (n : Int) (w : World) (hX : RefAt ok w x xl X) (hF : ∀ m, m < 6 → RFine (X m)) :
    Calls Try.prog 21 #[.pointer (some ⟨x, 0, none⟩), .int .i64 n] w fun e w' => ∃ v, e = .returned v ∧ Kd.R k58 58 w' w.heap.size (fun _ => True) v (rKept X n) ∧ Below w.heap.size w w' := by
  by_cases hn : isC n
  · obtain ⟨m, hm, rfl⟩ := isC_nat hn
    obtain ⟨hc0, ⟨A, c, hc1, hlc, hR⟩, hc2, hc3, -⟩ := hX.cells hm
    have hlx := hX.lt
    have hx1 := hlx.1
    have hx2 := hlx.2
    have hf := hF m hm
    have e : rKept X m = kv (X m).got ((X m).codes.drop ((X m).got - (X m).ahead).toNat) := by rw [rKept, if_pos hn, Int.toNat_natCast]
    rw [e]
    have eN : rNext X m = (X m).ahead + ((X m).codes.length : Int) + 1 := by rw [rNext, if_pos hn, rnextOf, Int.toNat_natCast]
    have HN := fun w' (h : RefAt ok w' x xl X) => rNext_calls ok x xl X m w' h hF
    rw [eN] at HN
    have HNX := Aside0.mk HN
    have HX := Aside0.mk hX
    have HR := Aside0.mk hR
    have q1 : 0 ≤ (X m).ahead := hf.1
    have q2 := hf.2.1
    have q3 := hf.2.2.1
    have q4 := hf.2.2.2.1
    have q5 := hf.2.2.2.2
    clear hX hF HN eN hR hf hlx e hn
    have b3 : (0 : Int) ≤ (m : Int) := by omega
    have b4 : (m : Int) < 6 := by omega
    generalize (X m).got = g at *
    generalize (X m).ahead = h at *
    generalize (X m).codes = l at *
    obtain ⟨k, hk⟩ : ∃ k : Nat, g - h = k := ⟨(g - h).toNat, by omega⟩
    rw [hk, Int.toNat_natCast]
    have hdl : (l.drop k).length = l.length - k := by simp
    have HC0 := Aside0.mk hc0
    have HC1 := Aside0.mk hc1
    have HC2 := Aside0.mk hc2
    have HDL := Aside0.mk hdl
    clear hdl
    go_enter Try.func21, Try.ntmps21
    go_wp2_with (go_at_call 10; refine (is_yes m hm _).mono ?_; rintro e w' ⟨rfl, rfl⟩)
    clear hc0 hc1 hc2 hc3
    go_loopg [5, 6] (l.length - k) (fun kq vo vi wr => ∃ i : Nat, vi = .int .i64 (g + 1 + (i : Int)) ∧ Aside0 (i + kq = l.length - k) ∧ Aside0 (Kd.R k58 58 wr w.heap.size (fun _ => True) vo (kv g ((l.drop k).take i))) ∧ Aside0 (Below w.heap.size w wr))
    case atStart => exact ⟨0, by simp, ⟨by omega⟩, ⟨by simpa [kv] using Kd.R_nil _ _ _ _ _⟩, ⟨Below.refl _ _⟩⟩
    case round =>
      obtain ⟨i, rfl, HK, HO, HB⟩ := hrel
      have hil : i ≤ l.length - k := by have := HK.out; omega
      by_cases hlt : i < l.length - k
      · obtain ⟨j, hj⟩ : ∃ j, j = k + i := ⟨_, rfl⟩
        obtain ⟨ad, rfl, hcell⟩ := (HR.out.chg (Chg.of_below HB.out (fun _ => False)) (fun _ _ h => h)).cell (j : Int) (by omega) (by omega)
        rw [Int.toNat_natCast] at hcell
        obtain ⟨y, hy⟩ : ∃ y, y = rd l (j : Int) := ⟨_, rfl⟩
        rw [← hy] at hcell
        have HT := Aside0.mk (show (l.drop k).take (i + 1) = (l.drop k).take i ++ [y] by rw [List.take_succ_eq_append_getElem (by rw [HDL.out]; omega), hy]; have e : (j : Int).toNat = k + i := (by omega); simp only [rd, e]; simp [show k + i < l.length by omega])
        have HL : Aside0 (((l.drop k).take i).length = i) := ⟨by rw [List.length_take, HDL.out]; omega⟩
        have g0 := (HB.out.cell (p := ⟨x, 0, none⟩) hx1).trans HC0.out
        have g1 := (HB.out.cell (p := ⟨xl, m * 3, none⟩) hx2).trans HC1.out
        have g2 := (HB.out.cell (p := ⟨xl, m * 3 + 1, none⟩) hx2).trans HC2.out
        clear hy
        have HJ := Aside0.mk hj
        have b1 : g + 1 + (i : Int) ≤ 1152921504606846976 := by omega
        have i1 : (0 : Int) ≤ (j : Int) := by omega
        have i2 : (j : Int) < (l.length : Int) := by omega
        have s1 : IntKind.i64.wrap (g + 1 + (i : Int) - 1) = g + (i : Int) := by rw [IntWalk.i64_in _ (by omega)]; omega
        have s2 : IntKind.i64.wrap (g + (i : Int) - h) = (j : Int) := by rw [IntWalk.i64_in _ (by omega)]; omega
        have t1 : g + 1 + (i : Int) < h + (l.length : Int) + 1 := by omega
        clear hj
        go_wp2_with (go_at_call 18; refine (HNX.out _ (HX.out.chg (Chg.of_below HB.out (fun _ => False)) (fun h => h) (fun h => h) (fun _ _ h => h))).mono ?_; rintro e w2 ⟨rfl, kk, rfl⟩)
        have l1 : x < wr.heap.size := Nat.lt_of_lt_of_le hx1 HB.out.size
        have l2 : xl < wr.heap.size := Nat.lt_of_lt_of_le hx2 HB.out.size
        have l3 : (ad.add j).block < wr.heap.size := World.block_lt_of_cell? _ _ hcell
        have hal := fun (o : Obj) (p : Addr) (hp : p.block < wr.heap.size) => (below_alloc (Below.refl _ (wr.drewN (kk + 1))) o).cell (p := p) hp
        have h0 := Aside0.mk (pw_below_drewN HB.out kk)
        have h1 := Aside0.mk (Kd.R_drewN HO.out kk)
        clear HB HO
        refine wp_plan [(0, 0, 27), (1, 0, 28), (2, 0, 29), (3, 0, 30), (4, 0, 31), (5, 0, 32), (6, 0, 33), (7, 0, 34), (8, 0, 35), (9, 0, 36), (10, 0, 37), (11, 0, 38), (12, 0, 39), (13, 0, 40), (14, 0, 41), (15, 0, 42), (16, 0, 43), (17, 0, 44), (18, 0, 45), (19, 0, 46), (20, 0, 47), (21, 0, 48), (22, 0, 49), (23, 0, 50), (24, 2, 51), (25, 5, 52), (26, 1, 5)] [25] (fun W => W.cell? ⟨x, 0, none⟩ = some (.slice (some ⟨xl, 0, none⟩) 6 6) ∧ W.cell? ⟨xl, m * 3, none⟩ = some (.slice (some ad) l.length c) ∧ W.cell? ⟨xl, m * 3 + 1, none⟩ = some (.int .i64 h) ∧ W.cell? (ad.add j) = some (.int .i64 y)) (by kernel_rfl) rfl (by kernel_rfl) (fun _ t _ _ _ h => by cases t <;> exact h) ⟨g0, g1, g2, hcell⟩ (fun hS => ?_)
        repeat (refine RP.take (v := ?_) (a' := ?_) rfl rfl (by assumption) (Or.inl ⟨by rfl, ?_⟩) ?_ ?_; rotate_left; (focus (rintro w' ⟨hS0, hS1, hS2, hS3⟩; go_simp; with_reducible rfl)); rotate_left; (focus (simp only [Act.put, List.setIfInBounds_toArray, List.set_cons_zero, List.set_cons_succ, i64_w, i32_w]; rfl)))
        refine RP.one rfl rfl (fun K hK => ?_)
        go_simp
        refine hK.out _ _ ⟨(hal _ _ l1).trans g0, (hal _ _ l2).trans g1, (hal _ _ l2).trans g2, (hal _ _ l3).trans hcell⟩ (fun hS => ?_)
        clear hK K
        refine RP.last1 rfl rfl (fun K hK => ?_)
        refine Kd.R_append_step k58 w.heap.size (by rfl) (.tmp 27) (.tmp 51) 43 58 (.agg #[(.int .i64 0), (.int .i64 0)]) 16 (by rfl) Try.underlying43 info58 rfl (by decide) (by decide) _ (kv g ((l.drop k).take i)) (⟨g + 1 + (i : Int), y⟩ : S58) [.int .i64 (g + 1 + (i : Int)), .int .i64 y] (fun _ => True) (fun _ => False) (by rfl) (by rfl) (k58_mkM _ _ _ (⟨g + 1 + (i : Int), y⟩ : S58)) (fun _ hk => hk.elim) (fun _ _ => trivial) (Kd.R_drewN h1.out 1) (pw_below_drewN h0.out 1) h0.out.size (by rw [kv_length, HL.out]; omega) ?_
        intro v3 w3 ho3 hb3 hg3 hat3
        have HO3 := Aside0.mk ho3
        have HB3 := Aside0.mk hb3
        clear ho3 hb3 hg3 hat3
        refine hK.out _ _ ?_
        clear hK K
        refine RP.norm (a' := ?_) ?_ ?_
        rotate_left
        · show Act.put _ (some 52) _ = _
          simp only [Act.put, List.setIfInBounds_toArray, List.set_cons_zero, List.set_cons_succ, i64_w, i32_w]
          rfl
        repeat (refine RP.pure (v := ?_) (a' := ?_) rfl rfl (Or.inl ⟨by rfl, ?_⟩) ?_ ?_; rotate_left; (focus (intro w'; go_simp; with_reducible rfl)); rotate_left; (focus (simp only [Act.put, List.setIfInBounds_toArray, List.set_cons_zero, List.set_cons_succ, i64_w, i32_w]; rfl)))
        refine RP.nil ?_
        go_wp2
        go_roundg (l.length - k - (i + 1))
        case measure => have := HK.out; omega
        case rel => exact ⟨i + 1, by go_num, ⟨by omega⟩, ⟨by rw [HT.out, kv_append, HL.out]; exact HO3.out⟩, HB3⟩
      · obtain rfl : i = l.length - k := by omega
        have t1 : ¬ g + 1 + ((l.length - k : Nat) : Int) < h + (l.length : Int) + 1 := by omega
        have ho := HO.out
        rw [List.take_of_length_le (by rw [HDL.out]; omega)] at ho
        have HO2 := Aside0.mk ho
        clear ho HO
        go_wp2_with (go_at_call 18; refine (HNX.out _ (HX.out.chg (Chg.of_below HB.out (fun _ => False)) (fun h => h) (fun h => h) (fun _ _ h => h))).mono ?_; rintro e w2 ⟨rfl, kk, rfl⟩)
        go_ret
        exact ⟨_, rfl, Kd.R_drewN HO2.out _, pw_below_drewN HB.out _⟩
  · rw [show rKept X n = [] from if_neg hn]
    have HN := Aside0.mk hn
    clear hX hF hn
    go_enter Try.func21, Try.ntmps21
    go_wp2_with (go_at_call 10; refine (is_no n HN.out _).mono ?_; rintro e w' ⟨rfl, rfl⟩)
    go_ret
    exact ⟨_, rfl, Kd.R_nil _ _ _ _ _, Below.refl _ _⟩

end Go.Proofs.Ytfmlamnkpoloaaa.Q

/- The reference's Bytes. -/
namespace Go.Proofs.Ytfmlamnkpoloaaa.Q
open Go.RowKit Go.Proofs.YtfmlamnkpoloaaaW.PrintWords Go.Proofs.YtfmlamnkpoloaaaW.PrintLast Go.Proofs.YtfmlamnkpoloaaaW.PrintMore
set_option linter.unusedVariables false
set_option linter.unusedSimpArgs false

set_option maxHeartbeats 4000000 in
set_option maxRecDepth 100000 in
theorem rBytes_calls (ok : Nat → Prop) (x xl : Nat) (T : Tb) (X : Rb) (w : World) (hX : RefAt ok w x xl X) (hF : ∀ m, m < 6 → RFine (X m)) (hR : Rel T X) (hL : ∀ m, m < 6 → Lim (T m)) :
    Calls Try.prog 32 #[.pointer (some ⟨x, 0, none⟩)] w fun e w' => e = .returned (.string (tabB T 6)) ∧ Below w.heap.size w w' := by
  have HX := Aside0.mk hX
  have HF := Aside0.mk hF
  have HR := Aside0.mk hR
  have HL := Aside0.mk hL
  clear hX hF hR hL
  go_enter Try.func32, Try.ntmps32
  go_wp2
  go_loopg [3, 4] 6 (fun kq vo vn wr => ∃ m : Nat, vn = .int .i64 m ∧ vo = .string (tabB T m) ∧ Aside0 (m + kq = 6) ∧ Aside0 (RefAt ok wr x xl X) ∧ Aside0 (Below w.heap.size w wr))
  case atStart => exact ⟨0, rfl, rfl, ⟨by omega⟩, HX, ⟨Below.refl _ _⟩⟩
  case round =>
    clear HX
    obtain ⟨m, rfl, rfl, HK, HX, HB⟩ := hrel
    have hm6 : m ≤ 6 := by have := HK.out; omega
    by_cases hm : m < 6
    · obtain ⟨hc0, -, -, hc3, -⟩ := HX.out.cells hm
      have hx1 := HX.out.lt.1
      have hx2 := HX.out.lt.2
      have hlm := HL.out m hm
      have e1 := (HR.out m hm).1
      have HGE := Aside0.mk e1
      have HNU := Aside0.mk (refnumber_some (T m).got (by have := hlm.g0; omega) (by have := hlm.g1; omega) 100 (by omega))
      rw [e1] at HNU
      have HKE : Aside0 (rKept X m = kv (T m).got (T m).codes) := ⟨by rw [← rel_kept HR.out m, dKept, if_pos (show isC (m : Int) by unfold isC; omega), Int.toNat_natCast]⟩
      have HLY := Aside0.mk hlm.lay
      have HSZ := Aside0.mk (tabB_size HL.out m (by omega))
      have HCZ := Aside0.mk (clB_size hlm)
      have HSU : Aside0 (tabB T (m + 1) = tabB T m ++ numB (X m).got ++ listB veY (kv (T m).got (T m).codes)) := ⟨by rw [app_assoc, ← e1]; rfl⟩
      have hz1 : (tabB T m).size + (numB (X m).got).size ≤ 9223372036854775807 := by have := HSZ.out; have := numB_size (X m).got; omega
      have hz2 : (tabB T m ++ numB (X m).got).size + (listB veY (kv (T m).got (T m).codes)).size ≤ 9223372036854775807 := by
        have h1 := HSZ.out
        have h2 := numB_size (X m).got
        have h3 := HCZ.out
        unfold clB at h3
        rw [size_app] at h3 ⊢
        omega
      have b0 : (0 : Int) ≤ (m : Int) := by omega
      have b1 : (m : Int) < 6 := by omega
      clear hlm e1 HCZ
      generalize (X m).got = g at *
      generalize kv (T m).got (T m).codes = ks at *
      generalize listB veY ks = lb at *
      generalize numB g = nb at *
      generalize hta : tabB T m = ta at *
      clear hta
      go_wp2_with (first
        | (go_at_call 37; (with_reducible refine (surmiseref01_Number.calls 100 g nb _ HNU.out).mono ?_); rintro e w2 ⟨rfl, hb⟩; have n0 := Aside0.mk (HX.out.chg (Chg.of_below hb (fun _ => False)) (fun h => h) (fun h => h) (fun _ _ h => h)); have n1 := Aside0.mk (below_step HB.out hb); clear HX HB hb; have HX := n0; have HB := n1; clear n0 n1)
        | (go_at_call 21; (with_reducible refine (rKept_calls ok x xl X (m : Int) _ HX.out HF.out).mono ?_); rintro e w3 ⟨v3, rfl, hr, hb⟩; rw [HKE.out] at hr; obtain ⟨A3, c3, rfl, hl3, hC3⟩ := Kd.R_reads hr; have HC3 := Aside0.mk hC3; have HL3 := Aside0.mk hl3; have n0 := Aside0.mk (HX.out.chg (Chg.of_below hb (fun _ => False)) (fun h => h) (fun h => h) (fun _ _ h => h)); have n1 := Aside0.mk (below_step HB.out hb); clear HX HB hb hr hl3 hC3; have HX := n0; have HB := n1; clear n0 n1)
        | (go_at_call 38; (with_reducible refine (surmiseref10_LayVerdicts.calls 3000000 A3 c3 ks lb _ HC3.out HL3.out HLY.out).mono ?_); rintro e w4 ⟨rfl, hb⟩; have n0 := Aside0.mk (HX.out.chg (Chg.of_below hb (fun _ => False)) (fun h => h) (fun h => h) (fun _ _ h => h)); have n1 := Aside0.mk (below_step HB.out hb); clear HX HB hb; have HX := n0; have HB := n1; clear n0 n1))
      go_roundg (6 - (m + 1))
      case measure => have := HK.out; omega
      case rel => exact ⟨m + 1, by go_num, by rw [HSU.out], ⟨by omega⟩, HX, HB⟩
    · obtain rfl : m = 6 := by omega
      go_wp2
      go_ret
      exact ⟨rfl, HB.out⟩

end Go.Proofs.Ytfmlamnkpoloaaa.Q

-- By px.py, a program of this session that drives the kit's printer: laid out of the translation; Lean checks it.
namespace Go.Proofs.Ytfmlamnkpoloaaa.Q
open Go.RowKit Go.Proofs.YtfmlamnkpoloaaaW.PrintWords Go.Proofs.YtfmlamnkpoloaaaW.PrintLast Go.Proofs.YtfmlamnkpoloaaaW.PrintMore
attribute [local go_sem] max2_int min2_int max_two min_two max_three min_three max_four min_four   -- for this text's walks alone
set_option linter.unusedVariables false
set_option linter.unusedSimpArgs false

theorem eqA58 (d : Nat) (w : World) (x0 y0 : Int) (x1 y1 : Int) :
    (Op.equalIn (d + 2) 58 (.agg #[.int .i64 x0, .int .i64 x1]) (.agg #[.int .i64 y0, .int .i64 y1])).run Try.prog w = .ok (x0 == y0 && (x1 == y1)) w := by
  refine eqA_of Try.underlying58 (by kernel_rfl) ?_
  refine eqf_cons (by rfl) (by go_simp; rfl) (by go_simp; rfl) (by go_simp) ?_
  exact eqf_last (by rfl) (by go_simp; rfl) (by go_simp; rfl) (by go_simp)
end Go.Proofs.Ytfmlamnkpoloaaa.Q

-- By px.py, a program of this session that drives the kit's printer: laid out of the translation; Lean checks it.
namespace Go.Proofs.Ytfmlamnkpoloaaa.Q
open Go.RowKit Go.Proofs.YtfmlamnkpoloaaaW.PrintWords Go.Proofs.YtfmlamnkpoloaaaW.PrintLast Go.Proofs.YtfmlamnkpoloaaaW.PrintMore
attribute [local go_sem] max2_int min2_int max_two min_two max_three min_three max_four min_four   -- for this text's walks alone
set_option linter.unusedVariables false
set_option linter.unusedSimpArgs false

attribute [local go_sem high] eqA58
/-! ### surmiseref10_SameVerdicts: function 19 -/
def surmiseref10_SameVerdicts.l0 : Nat → List (S58) → List (S58) → Int → Option (Bool)
  | 0, _, _, _ => none
  | k + 1, x0, x1, x5 => if x5 < (x0.length : Int) then (if 0 ≤ x5 then (if x5 < (x1.length : Int) then (if (!(((rd_T58 x0 x5).f0) == ((rd_T58 x1 x5).f0)) || (!(((rd_T58 x0 x5).f1) == ((rd_T58 x1 x5).f1)))) = true then (some false) else (surmiseref10_SameVerdicts.l0 k x0 x1 (wrap64 (x5 + 1)))) else (none)) else (none)) else (some true)
def surmiseref10_SameVerdicts.f (k : Nat) (l0 : List (S58)) (l1 : List (S58)) : Option (Bool) := if (l0.length : Int) = (l1.length : Int) then (surmiseref10_SameVerdicts.l0 k l0 l1 0) else (some false)
theorem surmiseref10_SameVerdicts.mono_l : ∀ k, (∀ y0 y1 y2, LeO (surmiseref10_SameVerdicts.l0 k y0 y1 y2) (surmiseref10_SameVerdicts.l0 (k + 1) y0 y1 y2))
  | 0 => fun _ _ _ r h => by simp [surmiseref10_SameVerdicts.l0] at h
  | k + 1 => by
    have ih0 := surmiseref10_SameVerdicts.mono_l k
    · intro y0 y1 y2
      unfold surmiseref10_SameVerdicts.l0
      repeat' first
      | (with_reducible exact ih0 _ _ _)
      | (with_reducible exact LeO.refl _)
      | (with_reducible exact LeO.none _)
      | (with_reducible refine LeO.ite ?_ ?_)
      | (with_reducible refine LeO.bind ?_ (fun _ => ?_))
      | exact ih0 _ _ _
      | exact LeO.none _
      | refine LeO.ite ?_ ?_
      | refine LeO.bind ?_ (fun _ => ?_)
theorem surmiseref10_SameVerdicts.mono : ∀ a0 a1 k, LeO (surmiseref10_SameVerdicts.f k a0 a1) (surmiseref10_SameVerdicts.f (k + 1) a0 a1) := by
  intro a0 a1 k
  have ih0 := surmiseref10_SameVerdicts.mono_l k
  unfold surmiseref10_SameVerdicts.f
  repeat' first
      | (with_reducible exact ih0 _ _ _)
      | (with_reducible exact LeO.refl _)
      | (with_reducible exact LeO.none _)
      | (with_reducible refine LeO.ite ?_ ?_)
      | (with_reducible refine LeO.bind ?_ (fun _ => ?_))
      | exact ih0 _ _ _
      | exact LeO.none _
      | refine LeO.ite ?_ ?_
      | refine LeO.bind ?_ (fun _ => ?_)
set_option maxHeartbeats 8000000 in
set_option maxRecDepth 100000 in
theorem surmiseref10_SameVerdicts.calls (k : Nat) (A0 : Option Addr) (c0 : Nat) (l0 : List (S58)) (A1 : Option Addr) (c1 : Nat) (l1 : List (S58)) (r : Bool) (w : World) (hr0 : Kd.C k58 w A0 l0.length l0) (hc0 : l0.length ≤ c0) (hr1 : Kd.C k58 w A1 l1.length l1) (hc1 : l1.length ≤ c1) (h : surmiseref10_SameVerdicts.f k l0 l1 = some r) :
    Calls Try.prog 19 #[.slice A0 l0.length c0, .slice A1 l1.length c1] w fun e w' => e = .returned (.bool r) ∧ Drawn0 w w' := by
  have hu58 := Try.underlying58
  have HR0 := Aside0.mk hr0
  have HC0 := Aside0.mk hc0
  clear hr0 hc0
  have HR1 := Aside0.mk hr1
  have HC1 := Aside0.mk hc1
  clear hr1 hc1
  have H : (if (l0.length : Int) = (l1.length : Int) then (surmiseref10_SameVerdicts.l0 k l0 l1 0) else (some false)) = some r := h
  clear h
  by_cases c3 : (l0.length : Int) = (l1.length : Int)
  · rw [if_pos c3] at H
    have c3b0 : ((l0.length : Int) == (l1.length : Int)) = true := beq_iff_eq.mpr c3
    have c3b1 : ((l0.length : Int) != (l1.length : Int)) = false := bne_eq_false_iff_eq.mpr c3
    have c3b2 : (l0.length == l1.length) = true := by first | simpa using c3 | (simp at c3 ⊢; omega)
    clear c3
    have H' := Aside0.mk H
    clear H
    go_enter Try.func19, Try.ntmps19
    go_wp2
    repeat (go_quiet (fail); try go_wp2)
    go_loopg [5] k (fun kq v5 w' => ∃ (x5_1 : Int), v5 = .int .i64 x5_1 ∧ Aside0 (surmiseref10_SameVerdicts.l0 kq l0 l1 x5_1 = some r) ∧ Aside0 (kq ≤ k) ∧ Drawn0 w w')
    case atStart => exact ⟨(0), (by first | rfl | (simp; done) | (simp [*]; done)), H', ⟨Nat.le_refl _⟩, by repeat (first | exact Drawn0.refl _ | apply Drawn0.step)⟩
    case round =>
      clear H'
      try clear c1
      try clear p2
      try clear c3
      try clear c3b0
      try clear c3b1
      try clear c3b2
      obtain ⟨x5_1, rfl, HA, HK1, ⟨m1, rfl⟩⟩ := hrel
      cases gk with
      | zero => exact absurd HA.out (by simp [surmiseref10_SameVerdicts.l0])
      | succ k1 =>
        have H := HA.out
        clear HA
        simp only [surmiseref10_SameVerdicts.l0] at H
        by_cases c4 : x5_1 < (l0.length : Int)
        · rw [if_pos c4] at H
          have c4b0 : decide (x5_1 < (l0.length : Int)) = true := decide_eq_true c4
          clear c4
          by_cases c5 : 0 ≤ x5_1
          · rw [if_pos c5] at H
            have c5b0 : decide (0 ≤ x5_1) = true := decide_eq_true c5
            clear c5
            by_cases c6 : x5_1 < (l1.length : Int)
            · rw [if_pos c6] at H
              have c6b0 : decide (x5_1 < (l1.length : Int)) = true := decide_eq_true c6
              clear c6
              by_cases c7 : (!(((rd_T58 l0 x5_1).f0) == ((rd_T58 l1 x5_1).f0)) || (!(((rd_T58 l0 x5_1).f1) == ((rd_T58 l1 x5_1).f1)))) = true
              · rw [if_pos c7] at H
                have c7b0 : (!(((rd_T58 l0 x5_1).f0) == ((rd_T58 l1 x5_1).f0)) || (!(((rd_T58 l0 x5_1).f1) == ((rd_T58 l1 x5_1).f1)))) = true := c7
                clear c7
                obtain rfl := Option.some.inj H
                have p169 : 0 ≤ (x5_1 : Int) := of_decide_eq_true (by first | (with_reducible assumption) | assumption)
                have q169 : x5_1 < (l0.length : Int) := of_decide_eq_true (by first | (with_reducible assumption) | assumption)
                obtain ⟨ad169, e169, hx169_0, hx169_1⟩ := at_T58 HR0.out x5_1 p169 q169
                cases e169
                replace p169 := eq_true p169
                replace q169 := eq_true q169
                have p170 : 0 ≤ (x5_1 : Int) := of_decide_eq_true (by first | (with_reducible assumption) | assumption)
                have q170 : x5_1 < (l1.length : Int) := of_decide_eq_true (by first | (with_reducible assumption) | assumption)
                obtain ⟨ad170, e170, hx170_0, hx170_1⟩ := at_T58 HR1.out x5_1 p170 q170
                cases e170
                replace p170 := eq_true p170
                replace q170 := eq_true q170
                go_wp2
                repeat (go_quiet (fail); try go_wp2)
                go_ret
                exact ⟨by first | rfl | (simp; done) | (simp [*]; done), by repeat (first | exact Drawn0.refl _ | apply Drawn0.step)⟩
              · rw [if_neg c7] at H
                have c7b0 : (!(((rd_T58 l0 x5_1).f0) == ((rd_T58 l1 x5_1).f0)) || (!(((rd_T58 l0 x5_1).f1) == ((rd_T58 l1 x5_1).f1)))) = false := by simpa using c7
                clear c7
                have H' := Aside0.mk H
                clear H
                have p169 : 0 ≤ (x5_1 : Int) := of_decide_eq_true (by first | (with_reducible assumption) | assumption)
                have q169 : x5_1 < (l0.length : Int) := of_decide_eq_true (by first | (with_reducible assumption) | assumption)
                obtain ⟨ad169, e169, hx169_0, hx169_1⟩ := at_T58 HR0.out x5_1 p169 q169
                cases e169
                replace p169 := eq_true p169
                replace q169 := eq_true q169
                have p170 : 0 ≤ (x5_1 : Int) := of_decide_eq_true (by first | (with_reducible assumption) | assumption)
                have q170 : x5_1 < (l1.length : Int) := of_decide_eq_true (by first | (with_reducible assumption) | assumption)
                obtain ⟨ad170, e170, hx170_0, hx170_1⟩ := at_T58 HR1.out x5_1 p170 q170
                cases e170
                replace p170 := eq_true p170
                replace q170 := eq_true q170
                go_wp2
                repeat (go_quiet (fail); try go_wp2)
                go_roundg k1
                case measure => have := HK1.out; omega
                case rel => exact ⟨(wrap64 (x5_1 + 1)), (by first | rfl | (simp; done) | (simp [*]; done)), H', ⟨by have := HK1.out; omega⟩, by repeat (first | exact Drawn0.refl _ | apply Drawn0.step)⟩
            · rw [if_neg c6] at H
              exact absurd H (by simp)
          · rw [if_neg c5] at H
            exact absurd H (by simp)
        · rw [if_neg c4] at H
          have c4b0 : decide (x5_1 < (l0.length : Int)) = false := decide_eq_false c4
          clear c4
          obtain rfl := Option.some.inj H
          go_wp2
          repeat (go_quiet (fail); try go_wp2)
          go_ret
          exact ⟨by first | rfl | (simp; done) | (simp [*]; done), by repeat (first | exact Drawn0.refl _ | apply Drawn0.step)⟩
  · rw [if_neg c3] at H
    have c3b0 : ((l0.length : Int) == (l1.length : Int)) = false := beq_eq_false_iff_ne.mpr c3
    have c3b1 : ((l0.length : Int) != (l1.length : Int)) = true := bne_iff_ne.mpr c3
    have c3b2 : (l0.length == l1.length) = false := by first | simpa using c3 | (simp at c3 ⊢; omega)
    obtain rfl := Option.some.inj H
    go_enter Try.func19, Try.ntmps19
    go_wp2
    repeat (go_quiet (fail); try go_wp2)
    go_ret
    exact ⟨by first | rfl | (simp; done) | (simp [*]; done), by repeat (first | exact Drawn0.refl _ | apply Drawn0.step)⟩

end Go.Proofs.Ytfmlamnkpoloaaa.Q

/- What is done for one client changes nothing of others: the plain part. -/
namespace Go.Proofs.Ytfmlamnkpoloaaa.Q
open Go.RowKit Go.Proofs.YtfmlamnkpoloaaaW.PrintWords Go.Proofs.YtfmlamnkpoloaaaW.PrintLast Go.Proofs.YtfmlamnkpoloaaaW.PrintMore
set_option linter.unusedVariables false
set_option linter.unusedSimpArgs false

theorem same_l0 (l : List S58) (hl : l.length ≤ 1099511627776) (d : Nat) : ∀ (k i : Nat), i + d = l.length → d < k → surmiseref10_SameVerdicts.l0 k l l (i : Int) = some true := by
  induction d with
  | zero =>
    intro k i hi hk
    obtain ⟨k, rfl⟩ : ∃ m, k = m + 1 := ⟨k - 1, by omega⟩
    simp only [surmiseref10_SameVerdicts.l0]
    rw [if_neg (by omega)]
  | succ d ih =>
    intro k i hi hk
    obtain ⟨k, rfl⟩ : ∃ m, k = m + 1 := ⟨k - 1, by omega⟩
    simp only [surmiseref10_SameVerdicts.l0]
    rw [if_pos (by omega), if_pos (by omega), if_pos (by omega)]
    have e : wrap64 ((i : Int) + 1) = ((i + 1 : Nat) : Int) := by unfold wrap64; omega
    rw [e, if_neg (by simp)]
    exact ih k (i + 1) (by omega) (by omega)
theorem same_verdicts (l : List S58) (hl : l.length ≤ 1099511627776) : surmiseref10_SameVerdicts.f (l.length + 1) l l = some true := by
  unfold surmiseref10_SameVerdicts.f
  rw [if_pos rfl]
  exact same_l0 l hl l.length (l.length + 1) 0 (by omega) (by omega)
theorem same_calls (v1 v2 : Value) (l : List S58) (hl : l.length ≤ 1099511627776) (w : World) {b1 b2 : Nat} {ok1 ok2 : Nat → Prop} (h1 : Kd.R k58 58 w b1 ok1 v1 l) (h2 : Kd.R k58 58 w b2 ok2 v2 l) :
    Calls Try.prog 19 #[v1, v2] w fun e w' => e = .returned (.bool true) ∧ Below w.heap.size w w' := by
  obtain ⟨A1, c1, rfl, hc1, hC1⟩ := Kd.R_reads h1
  obtain ⟨A2, c2, rfl, hc2, hC2⟩ := Kd.R_reads h2
  refine (surmiseref10_SameVerdicts.calls (l.length + 1) A1 c1 l A2 c2 l true w hC1 hc1 hC2 hc2 (same_verdicts l hl)).mono fun e w' he => ?_
  obtain ⟨he, hd⟩ := he
  exact ⟨he, hd.below⟩
theorem xDo_other {X : Rb} {kd cl sq co : Int} {m : Nat} (h : cl ≠ (m : Int)) : (xDo X kd cl sq co) m = X m := by
  have key : ∀ c : Rc, isC cl → (X.upd cl.toNat c) m = X m := by
    intro c hc
    unfold Rb.upd
    rw [if_neg (by unfold isC at hc; omega)]
  have hput : ∀ sq, (rPut X cl sq co).2 m = X m := by
    intro sq
    unfold rPut
    repeat (first | rfl | (apply key; assumption) | split)
  have hget : ∀ sq, (rGets X cl sq).2 m = X m := by
    intro sq
    unfold rGets
    repeat (first | rfl | (apply key; assumption) | split)
  unfold xDo
  repeat (first | rfl | apply hput | apply hget | split)
theorem rupd_self {X : Rb} {m : Nat} {c : Rc} : (X.upd m c) m = c := by unfold Rb.upd; rw [if_pos rfl]
theorem xDo_same {X Y : Rb} {kd sq co : Int} {m : Nat} (h : X m = Y m) : (xDo X kd m sq co) m = (xDo Y kd m sq co) m := by
  have hput : ∀ sq, (rPut X m sq co).2 m = (rPut Y m sq co).2 m := by
    intro sq
    unfold rPut
    simp only [Int.toNat_natCast, h]
    split
    · split
      · exact h
      · split
        · exact h
        · split
          · exact h
          · split
            · exact h
            · show (Rb.upd X m _) m = (Rb.upd Y m _) m
              rw [rupd_self, rupd_self]
    · exact h
  have hget : ∀ sq, (rGets X m sq).2 m = (rGets Y m sq).2 m := by
    intro sq
    unfold rGets
    simp only [Int.toNat_natCast, h]
    split
    · split
      · exact h
      · show (Rb.upd X m _) m = (Rb.upd Y m _) m
        rw [rupd_self, rupd_self]
    · exact h
  have hn : rNext X m = rNext Y m := by unfold rNext; simp only [Int.toNat_natCast, h]
  unfold xDo
  rw [hn]
  split
  · exact hput _
  · split
    · exact hput _
    · split
      · exact hget _
      · split
        · split
          · exact h
          · exact hget _
        · exact h
def yact (o : Int) (Y : Rb) (a : S28) : Rb := if a.f1 = o then xDo Y a.f0 a.f1 a.f2 a.f3 else Y
def yruns (o : Int) (l : List S28) : Rb := l.foldl (yact o) X0
theorem yruns_eq (m : Nat) (l : List S28) : (runs l).2 m = yruns m l m := by
  have : ∀ (l : List S28) (S : Tb × Rb) (Y : Rb), S.2 m = Y m → (l.foldl act S).2 m = (l.foldl (yact m) Y) m := by
    intro l
    induction l with
    | nil => intro S Y h; exact h
    | cons a l ih =>
      intro S Y h
      refine ih _ _ ?_
      unfold act yact
      by_cases e : a.f1 = (m : Int)
      · rw [if_pos e, e]
        exact xDo_same h
      · rw [if_neg e]
        exact (xDo_other e).trans h
  exact this l _ _ rfl
theorem yruns_snoc (o : Int) (l : List S28) (i : Nat) (h : i < l.length) : yruns o (l.take (i + 1)) = yact o (yruns o (l.take i)) l[i] := by
  rw [List.take_succ_eq_append_getElem h]
  unfold yruns
  rw [List.foldl_append]
  rfl
theorem RefAt.bound {w : World} {ok : Nat → Prop} {x xl : Nat} {X : Rb} (h : RefAt ok w x xl X) : RefAt (fun k => ok k ∧ k < w.heap.size) w x xl X := by
  obtain ⟨cs, hb, hz, ha⟩ := h.all
  exact ⟨h.top, cs, hb, hz, fun n hn => ⟨by obtain ⟨v, h1, h2⟩ := (ha n hn).1; exact ⟨v, h1, Kd.V_bound h2⟩, (ha n hn).2⟩⟩
theorem RefAt.mono {w : World} {ok ok' : Nat → Prop} {x xl : Nat} {X : Rb} (h : RefAt ok w x xl X) (hk : ∀ k, ok k → ok' k) : RefAt ok' w x xl X := by
  obtain ⟨cs, hb, hz, ha⟩ := h.all
  exact ⟨h.top, cs, hb, hz, fun n hn => ⟨by obtain ⟨v, h1, h2⟩ := (ha n hn).1; exact ⟨v, h1, Kd.V_mono h2 hk⟩, (ha n hn).2⟩⟩
theorem TabAt.bound {w : World} {ok : Nat → Prop} {t : Nat} {T : Tb} (h : TabAt ok w t T) : TabAt (fun k => ok k ∧ k < w.heap.size) w t T := by
  obtain ⟨cs, hb, hz, ha⟩ := h.all
  exact ⟨cs, hb, hz, fun n hn => ⟨(ha n hn).1, by obtain ⟨v, h1, h2⟩ := (ha n hn).2; exact ⟨v, h1, Kd.V_bound h2⟩⟩⟩
theorem TabAt.mono {w : World} {ok ok' : Nat → Prop} {t : Nat} {T : Tb} (h : TabAt ok w t T) (hk : ∀ k, ok k → ok' k) : TabAt ok' w t T := by
  obtain ⟨cs, hb, hz, ha⟩ := h.all
  exact ⟨cs, hb, hz, fun n hn => ⟨(ha n hn).1, by obtain ⟨v, h1, h2⟩ := (ha n hn).2; exact ⟨v, h1, Kd.V_mono h2 hk⟩⟩⟩

end Go.Proofs.Ytfmlamnkpoloaaa.Q
