/- Texts of this session laid together (merge.py): YtfmlamnkpoloaaaIPut, YtfmlamnkpoloaaaILim, YtfmlamnkpoloaaaIBytes, YtfmlamnkpoloaaaGKept, YtfmlamnkpoloaaaIRef, YtfmlamnkpoloaaaQeq58, YtfmlamnkpoloaaaQf19, YtfmlamnkpoloaaaGApart0. -/
import Derived.Test.YtfmlamnkpoloaaaTDedupDoesd
/- A table's bytes: the closure that lays a client, and Bytes. -/
namespace Go.Proofs.Ytfmlamnkpoloaaa.Q
open Go.RowKit Go.Proofs.YtfmlamnkpoloaaaW.PrintWords Go.Proofs.YtfmlamnkpoloaaaW.PrintLast Go.Proofs.YtfmlamnkpoloaaaW.PrintMore
set_option linter.unusedVariables false
set_option linter.unusedSimpArgs false

/-- What keeps a client's bytes right. -/
structure Lim (c : Cl) : Prop where
  g0 : 0 ≤ c.got
  g1 : c.got + c.codes.length ≤ 1099511627776
  len : c.codes.length ≤ 32
  code : ∀ x ∈ c.codes, 0 ≤ x ∧ x ≤ 63
def clB (c : Cl) : ByteArray := numB c.got ++ listB veY (kv c.got c.codes)
theorem kv_ok : ∀ (l : List Int) (g : Int), 0 ≤ g → g + l.length ≤ 1099511627776 → (∀ x ∈ l, 0 ≤ x ∧ x ≤ 63) → (∀ y ∈ kv g l, veOK y) ∧ (∀ p : S58, p.f0 = g → chainB verB verR (some p) (kv g l) = true) ∧ chainB verB verR none (kv g l) = true := by
  intro l
  induction l with
  | nil =>
    intro g h0 h1 h2
    exact ⟨fun y hy => by simp [kv] at hy, fun p hp => rfl, rfl⟩
  | cons x l ih =>
    intro g h0 h1 h2
    simp only [List.length_cons] at h1
    obtain ⟨i1, i2, i3⟩ := ih (g + 1) (by omega) (by omega) (fun y hy => h2 y (List.mem_cons_of_mem _ hy))
    obtain ⟨x0, x1⟩ := h2 x List.mem_cons_self
    have hv : verB ⟨g + 1, x⟩ = true := by
      unfold verB wiB
      simp only [Bool.and_eq_true, decide_eq_true_eq]
      omega
    refine ⟨fun y hy => ?_, fun p hp => ?_, ?_⟩
    · rcases List.mem_cons.1 hy with rfl | hy
      · exact ⟨wf_i64 _ (by show _ ≤ g + 1; omega) (by show g + 1 ≤ _; omega), wf_i64 _ (by show _ ≤ x; omega) (by show x ≤ _; omega)⟩
      · exact i1 y hy
    · show (verB ⟨g + 1, x⟩ && (verR p ⟨g + 1, x⟩ && chainB verB verR (some ⟨g + 1, x⟩) (kv (g + 1) l))) = true
      rw [hv, i2 _ rfl]
      unfold verR
      simp
      omega
    · show (verB ⟨g + 1, x⟩ && chainB verB verR (some ⟨g + 1, x⟩) (kv (g + 1) l)) = true
      rw [hv, i2 _ rfl]
      rfl
theorem Lim.put {c : Cl} (h : Lim c) : codec_PutVerdicts.f 3000000 (kv c.got c.codes) = some (listB veY (kv c.got c.codes), 0) := by
  obtain ⟨h1, -, h3⟩ := kv_ok c.codes c.got h.g0 h.g1 h.code
  have hl := h.len
  rw [putverdicts_some _ (by rw [kv_length]; omega) h1 _ (Nat.le_refl _)]
  have e : verdictsB (kv c.got c.codes) = true := by
    unfold verdictsB
    rw [h3, kv_length, decide_eq_true (by omega)]
    rfl
  rw [e]
  rfl
theorem Lim.lay {c : Cl} (h : Lim c) : surmiseref10_LayVerdicts.f 3000000 (kv c.got c.codes) = some (listB veY (kv c.got c.codes)) := by
  obtain ⟨h1, -, -⟩ := kv_ok c.codes c.got h.g0 h.g1 h.code
  have hl := h.len
  exact layverdicts_some _ (by rw [kv_length]; omega) h1 _ (Nat.le_refl _)
theorem clB_size {c : Cl} (h : Lim c) : (clB c).size ≤ 700 := by
  have h1 := numB_size c.got
  have h2 := numB_size ((kv c.got c.codes).length : Int)
  have h3 := catB_size veY 20 (kv c.got c.codes) (fun x _ => veY_size x)
  rw [kv_length] at h3
  have hl := h.len
  unfold clB listB
  rw [size_app, size_app]
  have h4 : 20 * c.codes.length ≤ 640 := by omega
  omega

section
variable {P : Program} {ops : Array Oper} {o : Oper} {a : Act} {Q : Exit → Act → World → Prop} {K : Act → World → Prop}
theorem step_append_str {w0 W : World} (base : Nat) (hw : Region.wanted o (yielded ops a.tmps) = true) (s x : Operand) (t u e : TypeId)
    (ho : o.op = .call { callee := .builtin .append, args := #[s, x], argTypes := #[t, u] })
    (ht : P.underlying t = some (.slice e)) (hu : P.underlying u = some .string) (hinfo : (P.info? e).map (fun i => (i.zero, i.size, i.bytes)) = some (some (.int .u8 0), 1, 1))
    (v : Value) (xs : List Int) (y : ByteArray) (hs : a.eval s = v) (hx : a.eval x = .string y)
    (HO : W.ownsRow base e 1 v xs.length (nums .u8 xs)) (HB : Below base w0 W) (hbase : base ≤ W.heap.size) (hl : xs.length + y.size ≤ 140737488355328)
    (h : ∀ v1 w1, w1.ownsRow base e 1 v1 (xs ++ bytesOf y).length (nums .u8 (xs ++ bytesOf y)) → Below base w0 w1 → W.grownBy w1 v.ownBlock → (v1.ownBlock = v.ownBlock ∨ ∃ b, v1.ownBlock = some b ∧ W.heap.size ≤ b) → K (a.put o.dst v1) w1) :
    if Region.wanted o (yielded ops a.tmps) = true then Oper.wp P o a W K Q else K (a.put o.dst undef) W := by
  obtain ⟨i0, hi, hzz⟩ := Option.map_eq_some_iff.1 hinfo
  simp only [Prod.mk.injEq] at hzz
  obtain ⟨hz0, hz1, hz2⟩ := hzz
  rw [if_pos hw]
  obtain ⟨v1, w1, hr, hown, hg, hnil⟩ := Lib.run_append_own_string (P := P) W base t u o.type e i0 ht hu hi hz0 hz1 hz2 v xs.length (nums .u8 xs) HO y (by simp only [maxLen]; omega) hl hbase
  have hat := str_hat W base t u o.type e i0 ht hu hi hz0 hz1 hz2 v xs.length (nums .u8 xs) HO y hl v1 w1 hr hnil
  have hl2 : (xs ++ bytesOf y).length = xs.length + y.size := by rw [List.length_append, bytesOf_length]
  have hc : nums .u8 (xs ++ bytesOf y) = nums .u8 xs ++ Lib.strCells y := by
    rw [nums_append]
    congr 1
    simp [nums, bytesOf, Lib.strCells]
  unfold Oper.wp execOp
  simp only [ho, resolve, invoke, builtin, Sem.run_bind, Sem.run_pure, Result.andThen_ok, List.map_toArray, List.map_cons, List.map_nil, hs, hx, hr]
  exact h v1 w1 (by rw [hl2, hc]; exact hown) (HB.grown hg hbase (own_base HO)) hg hat
end

/-- The bytes so far: block p holds the row's slice, the row is the call's own. -/
structure BufAt (base : Nat) (w0 w : World) (p : Nat) (acc : ByteArray) : Prop where
  cell : ∃ v, w.heap[p]? = some (.cells #[v] 69 (0, 0)) ∧ w.ownsRow base 5 1 v (bytesOf acc).length (nums .u8 (bytesOf acc)) ∧ v.ownBlock ≠ some p
  low : Below base w0 w
  ge : base ≤ p
  room : base ≤ w.heap.size
section
variable {base : Nat} {w0 w w' : World} {p : Nat} {acc : ByteArray}
theorem BufAt.keep (h : BufAt base w0 w p acc) (hb : Below w.heap.size w w') : BufAt base w0 w' p acc := by
  obtain ⟨v, h1, h2, h3⟩ := h.cell
  exact ⟨⟨v, (hb.block p (blk_lt h1)).trans h1, own_move h2 (fun k hk => hb.block k (own_lt h2 k hk)), h3⟩, h.low.trans (hb.mono h.room), h.ge, Nat.le_trans h.room hb.size⟩
end
theorem TabAt.far {base : Nat} {ok : Nat → Prop} {w w' : World} {t : Nat} {T : Tb} (h : TabAt ok w t T) (hok : ∀ k, ok k → k < base) (ht : t < base) (hb : Below base w w') (hl : base ≤ w.heap.size) : TabAt ok w' t T :=
  h.chg (S := fun k => base ≤ k) ⟨hb.mono (Nat.zero_le _), fun k hk hn => hb.block k (by omega)⟩ (by omega) (fun k hk e => by have := hok k hk; omega)
theorem hT_cells {ok : Nat → Prop} {w : World} {t : Nat} {T : Tb} (h : TabAt ok w t T) {m : Nat} (hm : m < 6) : w.cell? ⟨t, m * 2, none⟩ = some (.int .i64 (T m).got) ∧ (∀ j, w.frozen? ⟨t, j, none⟩ = false) := ⟨(h.cells hm).1, (h.cells hm).2.2⟩
theorem own_slice {w : World} {base e size n : Nat} {v : Value} {xs : List Value} (h : w.ownsRow base e size v n xs) : ∃ A n c, v = .slice A n c := by
  rcases h.2 with ⟨rfl, -⟩ | ⟨g, cap, cur, rfl, -⟩
  · exact ⟨_, _, _, rfl⟩
  · exact ⟨_, _, _, rfl⟩
theorem append3 {a b c : ByteArray} : bytesOf a ++ bytesOf b ++ bytesOf c = bytesOf (a ++ (b ++ c)) := by
  rw [bytesOf_append, bytesOf_append, List.append_assoc]
set_option maxHeartbeats 4000000 in
set_option maxRecDepth 100000 in
theorem put_bytes (ok : Nat → Prop) (t m p base : Nat) (T : Tb) (acc : ByteArray) (w0 w : World) (hm : m < 6) (hT : TabAt ok w t T) (hok : ∀ k, ok k → k < base) (ht : t < base) (hF : Fine (T m)) (hL : Lim (T m)) (hB : BufAt base w0 w p acc) (hacc : acc.size ≤ 100000) :
    Calls Try.prog 33 #[.pointer (some ⟨t, m * 2, none⟩), .pointer (some ⟨p, 0, none⟩)] w fun e w' => e = .returned (.tuple #[]) ∧ BufAt base w0 w' p (acc ++ clB (T m)) ∧ TabAt ok w' t T := by
  obtain ⟨hc0, ⟨A, c, hc1, -, hR⟩, -⟩ := hT.cells hm
  have HKP := Aside0.mk (kept_calls ok t (m * 2) (T m).got A c (T m).codes w hF.1 hF.2.1 hF.2.2 hc0 hc1 hR)
  have HT := Aside0.mk hT
  have HB := Aside0.mk hB
  have HOK := Aside0.mk hok
  have HTB := Aside0.mk ht
  have HPV := Aside0.mk hL.put
  have hg0 := hL.g0
  have hg1 := hL.g1
  have HNU := Aside0.mk (number_some (T m).got (by omega) (by omega))
  have HLK := Aside0.mk (kv_length (T m).got (T m).codes)
  have HSZ := Aside0.mk (clB_size hL)
  have HAC := Aside0.mk hacc
  have HMM := Aside0.mk hm
  unfold clB at HSZ ⊢
  generalize hgt : (T m).got = g at *
  have HGT := Aside0.mk hgt
  generalize kv g (T m).codes = ks at *
  generalize listB veY ks = lb at *
  generalize numB g = nb at *
  clear hT hB hok hF hL hc0 hc1 hR hacc hm hg0 hg1 hgt ht
  go_enter Try.func33, Try.ntmps33
  go_wp2_with (first
    | (go_at_call 31; refine HKP.out.mono ?_; rintro e w1 ⟨v1, rfl, hr, hb⟩; obtain ⟨A1, c1, rfl, hl1, hC1⟩ := Kd.R_reads hr; have HC1 := Aside0.mk hC1; have HL1 := Aside0.mk hl1; have n0 := Aside0.mk (HB.out.keep hb); have n1 := Aside0.mk (HT.out.far HOK.out HTB.out (hb.mono HB.out.room) HB.out.room); clear hr hb hl1 hC1 HB HT HKP; have HB := n0; have HT := n1; clear n0 n1)
    | (go_at_call 34; refine (codec_PutVerdicts.calls 3000000 A1 c1 ks lb 0 _ HC1.out HL1.out HPV.out).mono ?_; rintro e w2 ⟨rfl, hb⟩; have n0 := Aside0.mk (HB.out.keep hb); have n1 := Aside0.mk (HT.out.far HOK.out HTB.out (hb.mono HB.out.room) HB.out.room); clear hb HB HT HC1 HL1; have HB := n0; have HT := n1; clear n0 n1))
  obtain ⟨v, hp, hown, hne⟩ := HB.out.cell
  obtain ⟨q0, -⟩ := hT_cells HT.out HMM.out
  rw [HGT.out] at q0
  obtain ⟨p0, p1⟩ := box1 hp
  have HO := Aside0.mk hown
  have HNE := Aside0.mk hne
  have HPB := Aside0.mk hp
  have ltp := blk_lt hp
  have ltt := HT.out.lt
  clear hown hne hp
  refine wp_plan [(0, 0, 11), (1, 0, 12), (2, 0, 13), (3, 0, 14), (4, 0, 15), (7, 0, 18), (5, 2, 16), (6, 2, 17), (8, 2, 19), (9, 3, 0)] [9] (fun W => W.cell? ⟨p, 0, none⟩ = some v ∧ W.cell? ⟨t, m * 2, none⟩ = some (.int .i64 g)) (by kernel_rfl) rfl (by kernel_rfl) (fun _ t _ _ _ h => by cases t <;> exact h) ⟨p0, q0⟩ (fun hS => ?_)
  repeat (refine RP.take (v := ?_) (a' := ?_) rfl rfl (by assumption) (Or.inl ⟨by rfl, ?_⟩) ?_ ?_; rotate_left; (focus (rintro w' ⟨hS0, hS1⟩; go_simp; with_reducible rfl)); rotate_left; (focus (simp only [Act.put, List.setIfInBounds_toArray, List.set_cons_zero, List.set_cons_succ, i64_w, i32_w]; rfl)))
  have hk0 : Below w2.heap.size w2 (w2.drewN 1) := pw_below_drewN (Below.refl _ _) 1
  refine RP.one rfl rfl (fun K hK => ?_)
  refine goes_ Try.func35 (by kernel_rfl) rfl #[.int .i64 g] (by rfl) rfl rfl (by (try simp only [List.map_toArray, List.map_cons, List.map_nil]); first | done | rfl) ?_
  (with_reducible refine (varint_Number.calls g nb _ HNU.out).mono ?_)
  rintro e w3 ⟨rfl, hb⟩
  refine ⟨_, rfl, ?_⟩
  have HB3 := Aside0.mk ((HB.out.keep hk0).keep hb)
  have HT3 := Aside0.mk (HT.out.far HOK.out HTB.out ((hk0.mono HB.out.room).trans (hb.mono (Nat.le_trans HB.out.room hk0.size))) HB.out.room)
  have hb3 : Below w2.heap.size w2 w3 := hk0.trans (hb.mono hk0.size)
  have hO3 := own_move HO.out (fun k hk => hb3.block k (own_lt HO.out k hk))
  have hP3 := (hb3.block p ltp).trans HPB.out
  obtain ⟨p03, -⟩ := box1 hP3
  obtain ⟨q03, -⟩ := hT_cells HT3.out HMM.out
  rw [HGT.out] at q03
  refine hK.out _ _ ⟨p03, q03⟩ (fun hS => ?_)
  clear hK K hb
  refine RP.norm (a' := ?_) ?_ ?_
  rotate_left
  · show Act.put _ (some 16) _ = _
    simp only [Act.put, List.setIfInBounds_toArray, List.set_cons_zero, List.set_cons_succ, i64_w, i32_w]
    rfl
  refine RP.one rfl rfl (fun K hK => ?_)
  refine step_append_str (w0 := w0) base (by rfl) (.tmp 11) (.tmp 16) 69 9 5 (by rfl) Try.underlying69 Try.underlying9 infoB v (bytesOf acc) nb (by rfl) (by rfl) hO3 HB3.out.low HB3.out.room (by have := HSZ.out; have := HAC.out; rw [bytesOf_length]; simp only [size_app] at *; omega) ?_
  intro v4 w4 ho4 hb4 hg4 hat4
  have hne4 : v4.ownBlock ≠ some p := fun e => by
    rcases hat4 with h1 | ⟨q, h1, h2⟩
    · exact HNE.out (h1 ▸ e)
    · rw [h1] at e
      cases e
      have := blk_lt hP3
      omega
  have hP4 := (hg4.block p (blk_lt hP3) (fun e => HNE.out e.symm)).trans hP3
  have hT4 : Below base w3 w4 := (Below.refl base w3).grown hg4 HB3.out.room (own_base hO3)
  have HT4 := Aside0.mk (HT3.out.far HOK.out HTB.out hT4 HB3.out.room)
  have hr4 : base ≤ w4.heap.size := Nat.le_trans HB3.out.room hg4.size
  obtain ⟨p04, -⟩ := box1 hP4
  obtain ⟨q04, -⟩ := hT_cells HT4.out HMM.out
  rw [HGT.out] at q04
  refine hK.out _ _ ⟨p04, q04⟩ (fun hS => ?_)
  clear hK K
  refine RP.norm (a' := ?_) ?_ ?_
  rotate_left
  · show Act.put _ (some 17) _ = _
    simp only [Act.put, List.setIfInBounds_toArray, List.set_cons_zero, List.set_cons_succ, i64_w, i32_w]
    rfl
  refine RP.one rfl rfl (fun K hK => ?_)
  refine step_append_str (w0 := w0) base (by rfl) (.tmp 17) (.tmp 18) 69 9 5 (by rfl) Try.underlying69 Try.underlying9 infoB v4 (bytesOf acc ++ bytesOf nb) lb (by rfl) (by rfl) ho4 hb4 hr4 (by have := HSZ.out; have := HAC.out; rw [List.length_append, bytesOf_length, bytesOf_length]; simp only [size_app] at *; omega) ?_
  intro v5 w5 ho5 hb5 hg5 hat5
  have hne5 : v5.ownBlock ≠ some p := fun e => by
    rcases hat5 with h1 | ⟨q, h1, h2⟩
    · exact hne4 (h1 ▸ e)
    · rw [h1] at e
      cases e
      have := blk_lt hP4
      omega
  have hP5 := (hg5.block p (blk_lt hP4) (fun e => hne4 e.symm)).trans hP4
  have hT5 : Below base w4 w5 := (Below.refl base w4).grown hg5 hr4 (own_base ho4)
  have HT5 := Aside0.mk (HT4.out.far HOK.out HTB.out hT5 hr4)
  have hr5 : base ≤ w5.heap.size := Nat.le_trans hr4 hg5.size
  obtain ⟨p05, p15⟩ := box1 hP5
  obtain ⟨q05, -⟩ := hT_cells HT5.out HMM.out
  rw [HGT.out] at q05
  refine hK.out _ _ ⟨p05, q05⟩ (fun hS => ?_)
  clear hK K
  rw [append3] at ho5
  obtain ⟨A5, n5, c5, rfl⟩ : ∃ A5 n5 c5, v5 = .slice A5 n5 c5 := own_slice ho5
  have HE : Aside0 (BufAt base w0 (w5.setCell ⟨p, 0, none⟩ (.slice A5 n5 c5)) p (acc ++ (nb ++ lb)) ∧ TabAt ok (w5.setCell ⟨p, 0, none⟩ (.slice A5 n5 c5)) t T) := by
    have hpb := HB.out.ge
    refine ⟨⟨⟨_, blk_put hP5 0 _ rfl, own_move ho5 (fun k hk => Below.heap_setCell w5 ⟨p, 0, none⟩ _ k (fun e => hne5 (by subst e; exact hk))), hne5⟩, hb5.setCell hpb _, hpb, by simpa using hr5⟩, ?_⟩
    exact HT5.out.far HOK.out HTB.out ((Below.refl base w5).setCell hpb _) hr5
  clear hO3 hP3 p03 q03 ho4 hb4 hg4 hat4 hne4 hP4 hT4 hr4 p04 q04 ho5 hb5 hg5 hat5 hne5 hP5 hT5 hr5 hb3 hk0 p0 p1 q0
  refine RP.norm (a' := ?_) ?_ ?_
  rotate_left
  · show Act.put _ (some 19) _ = _
    simp only [Act.put, List.setIfInBounds_toArray, List.set_cons_zero, List.set_cons_succ, i64_w, i32_w]
    rfl
  refine RP.last rfl rfl (fun K hK => ?_)
  go_simp
  refine hK.out _ _ (RP.nil ?_)
  clear hK K
  go_end0
  exact ⟨rfl, HE.out⟩

end Go.Proofs.Ytfmlamnkpoloaaa.Q

/- What keeps a table's bytes right, behind any calls. -/
namespace Go.Proofs.Ytfmlamnkpoloaaa.Q
open Go.RowKit Go.Proofs.YtfmlamnkpoloaaaW.PrintWords Go.Proofs.YtfmlamnkpoloaaaW.PrintLast Go.Proofs.YtfmlamnkpoloaaaW.PrintMore
set_option linter.unusedVariables false
set_option linter.unusedSimpArgs false

def Lcd (c : Cl) : Prop := c.codes.length ≤ 32 ∧ ∀ x ∈ c.codes, 0 ≤ x ∧ x ≤ 63
theorem lcd_upd {T : Tb} (h : ∀ m, Lcd (T m)) {n : Nat} {c : Cl} (hc : Lcd c) : ∀ m, Lcd ((T.upd n c) m) := fun m => by
  unfold Tb.upd
  split
  · exact hc
  · exact h m
theorem lcd_put {T : Tb} (h : ∀ m, Lcd (T m)) (n seq code : Int) : ∀ m, Lcd ((dPut T n seq code).2 m) := by
  unfold dPut
  split
  · split
    · exact h
    · split
      · exact h
      · split
        · exact h
        · split
          · exact h
          · rename_i h1 h2 h3 h4 h5
            refine lcd_upd h ⟨?_, fun x hx => ?_⟩
            · simp only [List.length_append, List.length_cons, List.length_nil]
              omega
            · rcases List.mem_append.1 hx with hx | hx
              · exact (h _).2 x hx
              · rw [List.mem_singleton.1 hx]
                omega
  · exact h
theorem lcd_got {T : Tb} (h : ∀ m, Lcd (T m)) (n upto : Int) : ∀ m, Lcd ((dGot T n upto).2 m) := by
  unfold dGot
  split
  · split
    · exact h
    · split
      · refine lcd_upd h ⟨?_, fun x hx => (h _).2 x (List.mem_of_mem_drop hx)⟩
        have := (h n.toNat).1
        simp only [List.length_drop]
        omega
      · exact h
  · exact h
theorem lcd_do {T : Tb} {X : Rb} (h : ∀ m, Lcd (T m)) (kd cl sq co : Int) : ∀ m, Lcd ((tDo T X kd cl sq co) m) := by
  unfold tDo
  split
  · exact lcd_put h _ _ _
  · split
    · exact lcd_put h _ _ _
    · split
      · exact lcd_got h _ _
      · split
        · split
          · exact h
          · exact lcd_got h _ _
        · exact h
theorem lcd_runs (l : List S28) : ∀ m, Lcd ((runs l).1 m) := by
  have h : ∀ (l : List S28) (S : Tb × Rb), (∀ m, Lcd (S.1 m)) → ∀ m, Lcd ((l.foldl act S).1 m) := by
    intro l
    induction l with
    | nil => intro S hS; exact hS
    | cons a l ih => intro S hS; exact ih _ (lcd_do hS _ _ _ _)
  exact h l (T0, X0) (fun m => ⟨by simp [T0], by simp [T0]⟩)
theorem lim_both {ok : Nat → Prop} {N B : Nat} {w : World} {t x xl : Nat} {T : Tb} {X : Rb} (h : Both ok N B w t x xl T X) (hl : ∀ m, Lcd (T m)) : ∀ m, m < 6 → Lim (T m) := fun m hm => by
  have h1 := h.fine m hm
  have h2 := h.room
  exact ⟨h1.1, by omega, (hl m).1, (hl m).2⟩
def tabB (T : Tb) : Nat → ByteArray
  | 0 => ⟨#[]⟩
  | k + 1 => tabB T k ++ clB (T k)
theorem tabB_size {T : Tb} (h : ∀ m, m < 6 → Lim (T m)) : ∀ k, k ≤ 6 → (tabB T k).size ≤ 700 * k := by
  intro k
  induction k with
  | zero => intro _; exact Nat.zero_le _
  | succ k ih =>
    intro hk
    have h1 := ih (by omega)
    have h2 := clB_size (h k (by omega))
    show (tabB T k ++ clB (T k)).size ≤ _
    rw [size_app]
    omega

end Go.Proofs.Ytfmlamnkpoloaaa.Q

/- A table's Bytes. -/
namespace Go.Proofs.Ytfmlamnkpoloaaa.Q
open Go.RowKit Go.Proofs.YtfmlamnkpoloaaaW.PrintWords Go.Proofs.YtfmlamnkpoloaaaW.PrintLast Go.Proofs.YtfmlamnkpoloaaaW.PrintMore
set_option linter.unusedVariables false
set_option linter.unusedSimpArgs false

theorem BufAt.text {base : Nat} {w0 w : World} {p : Nat} {acc : ByteArray} (h : BufAt base w0 w p acc) : ∃ v, w.cell? ⟨p, 0, none⟩ = some v ∧ (convert 69 9 v).run Try.prog w = .ok (.string acc) w := by
  obtain ⟨v, h1, h2, -⟩ := h.cell
  obtain ⟨A, c, rfl, hr⟩ := own_reads h2
  refine ⟨.slice A (bytesOf acc).length c, (blk_cell h1 0).trans rfl, ?_⟩
  have h3 := string_of_reads (c := c) (dst := 9) Try.underlying69 Try.underlying5 Try.underlying9 hr
  rw [h3, strOfNums_bytesOf]
set_option maxHeartbeats 4000000 in
set_option maxRecDepth 100000 in
theorem Bytes_calls (ok : Nat → Prop) (t : Nat) (T : Tb) (w : World) (hT : TabAt ok w t T) (hF : ∀ m, m < 6 → Fine (T m)) (hL : ∀ m, m < 6 → Lim (T m)) :
    Calls Try.prog 24 #[.pointer (some ⟨t, 0, none⟩)] w fun e w' => e = .returned (.string (tabB T 6)) ∧ Below w.heap.size w w' := by
  have htl := hT.lt
  have HT0 : Aside0 (TabAt (fun k => k < w.heap.size) (w.alloc (.cells #[.slice none 0 0] 69 (0, 0))) t T) := ⟨by
    obtain ⟨cs, hb, hz, ha⟩ := hT.all
    have hc : Chg (fun _ => False) w (w.alloc (.cells #[.slice none 0 0] 69 (0, 0))) := (Chg.refl _ _).alloc _
    refine TabAt.chg (ok := fun k => k < w.heap.size) ⟨cs, hb, hz, fun n hn => ?_⟩ hc (fun h => h) (fun _ _ h => h)
    obtain ⟨h1, v, h2, h3⟩ := ha n hn
    exact ⟨h1, v, h2, Kd.V_mono (Kd.V_bound h3) (fun k hk => hk.2)⟩⟩
  have HB0 : Aside0 (BufAt w.heap.size w (w.alloc (.cells #[.slice none 0 0] 69 (0, 0))) w.heap.size ⟨#[]⟩) := ⟨⟨⟨_, blk_new _ _, World.ownsRow_nil _ _ _ _, by simp [Value.ownBlock]⟩, (Below.refl _ _).alloc (Nat.le_refl _) _, Nat.le_refl _, by simp⟩⟩
  have HF := Aside0.mk hF
  have HL := Aside0.mk hL
  have hmf : ∀ (fn : Fn) (first cap : Array Value) (w : World), (Instr.makeFunc fn first cap).run Try.prog w = .ok (.func fn first cap) w := fun _ _ _ _ => rfl
  clear hT hF hL
  go_enter Try.func24, Try.ntmps24
  go_wp2
  have HTL := Aside0.mk htl
  clear htl
  go_loopg [9] 6 (fun kq vi wr => ∃ m : Nat, vi = .int .i64 m ∧ Aside0 (m + kq = 6) ∧ Aside0 (BufAt w.heap.size w wr w.heap.size (tabB T m)) ∧ Aside0 (TabAt (fun k => k < w.heap.size) wr t T))
  case atStart => exact ⟨0, rfl, ⟨by omega⟩, HB0, HT0⟩
  case round =>
    clear HB0 HT0
    obtain ⟨m, rfl, HK, HB, HT⟩ := hrel
    have hm6 : m ≤ 6 := by have := HK.out; omega
    by_cases hm : m < 6
    · have HPB := Aside0.mk (put_bytes (fun k => k < w.heap.size) t m w.heap.size w.heap.size T (tabB T m) w wr hm HT.out (fun k hk => hk) HTL.out (HF.out m hm) (HL.out m hm) HB.out (by have := tabB_size HL.out m (by omega); omega))
      have b0 : (0 : Int) ≤ (m : Int) := by omega
      have b1 : (m : Int) < 6 := by omega
      clear hm6
      go_wp2_with (first | (go_at_call 33; refine HPB.out.mono ?_; rintro e w2 ⟨rfl, hb, ht⟩; have HB2 := Aside0.mk hb; have HT2 := Aside0.mk ht; clear hb ht))
      go_roundg (6 - (m + 1))
      case measure => have := HK.out; omega
      case rel => exact ⟨m + 1, by go_num, ⟨by omega⟩, HB2, HT2⟩
    · obtain rfl : m = 6 := by omega
      obtain ⟨v, hc, hcv⟩ := HB.out.text
      have HLW := Aside0.mk HB.out.low
      obtain ⟨tx, htx⟩ : ∃ tx, tabB T 6 = tx := ⟨_, rfl⟩
      rw [htx] at hcv
      have HTX := Aside0.mk htx
      clear HB hm6 hm htx
      go_wp2
      go_ret
      exact ⟨ret_str HTX.out.symm, HLW.out⟩

end Go.Proofs.Ytfmlamnkpoloaaa.Q

/- The reference's Kept. -/
namespace Go.Proofs.Ytfmlamnkpoloaaa.Q
open Go.RowKit Go.Proofs.YtfmlamnkpoloaaaW.PrintWords Go.Proofs.YtfmlamnkpoloaaaW.PrintLast Go.Proofs.YtfmlamnkpoloaaaW.PrintMore
set_option linter.unusedVariables false
set_option linter.unusedSimpArgs false

def rKept (X : Rb) (n : Int) : List S58 := if isC n then kv (X n.toNat).got ((X n.toNat).codes.drop ((X n.toNat).got - (X n.toNat).ahead).toNat) else []
theorem rel_kept {T : Tb} {X : Rb} (h : Rel T X) (n : Int) : dKept T n = rKept X n := by
  unfold dKept rKept
  by_cases hn : isC n
  · rw [if_pos hn, if_pos hn, (h _ (isC_lt hn)).1, (h _ (isC_lt hn)).2.1]
  · rw [if_neg hn, if_neg hn]
set_option maxHeartbeats 4000000 in
set_option maxRecDepth 100000 in
theorem rKept_calls (ok : Nat → Prop) (x xl : Nat) (X : Rb) (n : Int) (w : World) (hX : RefAt ok w x xl X) (hF : ∀ m, m < 6 → RFine (X m)) :
    Calls Try.prog 21 #[.pointer (some ⟨x, 0, none⟩), .int .i64 n] w fun e w' => ∃ v, e = .returned v ∧ Kd.R k58 58 w' w.heap.size (fun _ => True) v (rKept X n) ∧ Below w.heap.size w w' := by
  by_cases hn : isC n
  · obtain ⟨m, hm, rfl⟩ := isC_nat hn
    obtain ⟨hc0, ⟨A, c, hc1, hlc, hR⟩, hc2, hc3, -⟩ := hX.cells hm
    have hlx := hX.lt
    have hx1 := hlx.1
    have hx2 := hlx.2
    have hf := hF m hm
    have e : rKept X m = kv (X m).got ((X m).codes.drop ((X m).got - (X m).ahead).toNat) := by rw [rKept, if_pos hn, Int.toNat_natCast]
    rw [e]
    have eN : rNext X m = (X m).ahead + ((X m).codes.length : Int) + 1 := by rw [rNext, if_pos hn, rnextOf, Int.toNat_natCast]
    have HN := fun w' (h : RefAt ok w' x xl X) => rNext_calls ok x xl X m w' h hF
    rw [eN] at HN
    have HNX := Aside0.mk HN
    have HX := Aside0.mk hX
    have HR := Aside0.mk hR
    have q1 : 0 ≤ (X m).ahead := hf.1
    have q2 := hf.2.1
    have q3 := hf.2.2.1
    have q4 := hf.2.2.2.1
    have q5 := hf.2.2.2.2
    clear hX hF HN eN hR hf hlx e hn
    have b3 : (0 : Int) ≤ (m : Int) := by omega
    have b4 : (m : Int) < 6 := by omega
    generalize (X m).got = g at *
    generalize (X m).ahead = h at *
    generalize (X m).codes = l at *
    obtain ⟨k, hk⟩ : ∃ k : Nat, g - h = k := ⟨(g - h).toNat, by omega⟩
    rw [hk, Int.toNat_natCast]
    have hdl : (l.drop k).length = l.length - k := by simp
    have HC0 := Aside0.mk hc0
    have HC1 := Aside0.mk hc1
    have HC2 := Aside0.mk hc2
    have HDL := Aside0.mk hdl
    clear hdl
    go_enter Try.func21, Try.ntmps21
    go_wp2_with (go_at_call 10; refine (is_yes m hm _).mono ?_; rintro e w' ⟨rfl, rfl⟩)
    clear hc0 hc1 hc2 hc3
    go_loopg [5, 6] (l.length - k) (fun kq vo vi wr => ∃ i : Nat, vi = .int .i64 (g + 1 + (i : Int)) ∧ Aside0 (i + kq = l.length - k) ∧ Aside0 (Kd.R k58 58 wr w.heap.size (fun _ => True) vo (kv g ((l.drop k).take i))) ∧ Aside0 (Below w.heap.size w wr))
    case atStart => exact ⟨0, by simp, ⟨by omega⟩, ⟨by simpa [kv] using Kd.R_nil _ _ _ _ _⟩, ⟨Below.refl _ _⟩⟩
    case round =>
      obtain ⟨i, rfl, HK, HO, HB⟩ := hrel
      have hil : i ≤ l.length - k := by have := HK.out; omega
      by_cases hlt : i < l.length - k
      · obtain ⟨j, hj⟩ : ∃ j, j = k + i := ⟨_, rfl⟩
        obtain ⟨ad, rfl, hcell⟩ := (HR.out.chg (Chg.of_below HB.out (fun _ => False)) (fun _ _ h => h)).cell (j : Int) (by omega) (by omega)
        rw [Int.toNat_natCast] at hcell
        obtain ⟨y, hy⟩ : ∃ y, y = rd l (j : Int) := ⟨_, rfl⟩
        rw [← hy] at hcell
        have HT := Aside0.mk (show (l.drop k).take (i + 1) = (l.drop k).take i ++ [y] by rw [List.take_succ_eq_append_getElem (by rw [HDL.out]; omega), hy]; have e : (j : Int).toNat = k + i := (by omega); simp only [rd, e]; simp [show k + i < l.length by omega])
        have HL : Aside0 (((l.drop k).take i).length = i) := ⟨by rw [List.length_take, HDL.out]; omega⟩
        have g0 := (HB.out.cell (p := ⟨x, 0, none⟩) hx1).trans HC0.out
        have g1 := (HB.out.cell (p := ⟨xl, m * 3, none⟩) hx2).trans HC1.out
        have g2 := (HB.out.cell (p := ⟨xl, m * 3 + 1, none⟩) hx2).trans HC2.out
        clear hy
        have HJ := Aside0.mk hj
        have b1 : g + 1 + (i : Int) ≤ 1152921504606846976 := by omega
        have i1 : (0 : Int) ≤ (j : Int) := by omega
        have i2 : (j : Int) < (l.length : Int) := by omega
        have s1 : IntKind.i64.wrap (g + 1 + (i : Int) - 1) = g + (i : Int) := by rw [IntWalk.i64_in _ (by omega)]; omega
        have s2 : IntKind.i64.wrap (g + (i : Int) - h) = (j : Int) := by rw [IntWalk.i64_in _ (by omega)]; omega
        have t1 : g + 1 + (i : Int) < h + (l.length : Int) + 1 := by omega
        clear hj
        go_wp2_with (go_at_call 18; refine (HNX.out _ (HX.out.chg (Chg.of_below HB.out (fun _ => False)) (fun h => h) (fun h => h) (fun _ _ h => h))).mono ?_; rintro e w2 ⟨rfl, kk, rfl⟩)
        have l1 : x < wr.heap.size := Nat.lt_of_lt_of_le hx1 HB.out.size
        have l2 : xl < wr.heap.size := Nat.lt_of_lt_of_le hx2 HB.out.size
        have l3 : (ad.add j).block < wr.heap.size := World.block_lt_of_cell? _ _ hcell
        have hal := fun (o : Obj) (p : Addr) (hp : p.block < wr.heap.size) => (below_alloc (Below.refl _ (wr.drewN (kk + 1))) o).cell (p := p) hp
        have h0 := Aside0.mk (pw_below_drewN HB.out kk)
        have h1 := Aside0.mk (Kd.R_drewN HO.out kk)
        clear HB HO
        refine wp_plan [(0, 0, 27), (1, 0, 28), (2, 0, 29), (3, 0, 30), (4, 0, 31), (5, 0, 32), (6, 0, 33), (7, 0, 34), (8, 0, 35), (9, 0, 36), (10, 0, 37), (11, 0, 38), (12, 0, 39), (13, 0, 40), (14, 0, 41), (15, 0, 42), (16, 0, 43), (17, 0, 44), (18, 0, 45), (19, 0, 46), (20, 0, 47), (21, 0, 48), (22, 0, 49), (23, 0, 50), (24, 2, 51), (25, 5, 52), (26, 1, 5)] [25] (fun W => W.cell? ⟨x, 0, none⟩ = some (.slice (some ⟨xl, 0, none⟩) 6 6) ∧ W.cell? ⟨xl, m * 3, none⟩ = some (.slice (some ad) l.length c) ∧ W.cell? ⟨xl, m * 3 + 1, none⟩ = some (.int .i64 h) ∧ W.cell? (ad.add j) = some (.int .i64 y)) (by kernel_rfl) rfl (by kernel_rfl) (fun _ t _ _ _ h => by cases t <;> exact h) ⟨g0, g1, g2, hcell⟩ (fun hS => ?_)
        repeat (refine RP.take (v := ?_) (a' := ?_) rfl rfl (by assumption) (Or.inl ⟨by rfl, ?_⟩) ?_ ?_; rotate_left; (focus (rintro w' ⟨hS0, hS1, hS2, hS3⟩; go_simp; with_reducible rfl)); rotate_left; (focus (simp only [Act.put, List.setIfInBounds_toArray, List.set_cons_zero, List.set_cons_succ, i64_w, i32_w]; rfl)))
        refine RP.one rfl rfl (fun K hK => ?_)
        go_simp
        refine hK.out _ _ ⟨(hal _ _ l1).trans g0, (hal _ _ l2).trans g1, (hal _ _ l2).trans g2, (hal _ _ l3).trans hcell⟩ (fun hS => ?_)
        clear hK K
        refine RP.last1 rfl rfl (fun K hK => ?_)
        refine Kd.R_append_step k58 w.heap.size (by rfl) (.tmp 27) (.tmp 51) 43 58 (.agg #[(.int .i64 0), (.int .i64 0)]) 16 (by rfl) Try.underlying43 info58 rfl (by decide) (by decide) _ (kv g ((l.drop k).take i)) (⟨g + 1 + (i : Int), y⟩ : S58) [.int .i64 (g + 1 + (i : Int)), .int .i64 y] (fun _ => True) (fun _ => False) (by rfl) (by rfl) (k58_mkM _ _ _ (⟨g + 1 + (i : Int), y⟩ : S58)) (fun _ hk => hk.elim) (fun _ _ => trivial) (Kd.R_drewN h1.out 1) (pw_below_drewN h0.out 1) h0.out.size (by rw [kv_length, HL.out]; omega) ?_
        intro v3 w3 ho3 hb3 hg3 hat3
        have HO3 := Aside0.mk ho3
        have HB3 := Aside0.mk hb3
        clear ho3 hb3 hg3 hat3
        refine hK.out _ _ ?_
        clear hK K
        refine RP.norm (a' := ?_) ?_ ?_
        rotate_left
        · show Act.put _ (some 52) _ = _
          simp only [Act.put, List.setIfInBounds_toArray, List.set_cons_zero, List.set_cons_succ, i64_w, i32_w]
          rfl
        repeat (refine RP.pure (v := ?_) (a' := ?_) rfl rfl (Or.inl ⟨by rfl, ?_⟩) ?_ ?_; rotate_left; (focus (intro w'; go_simp; with_reducible rfl)); rotate_left; (focus (simp only [Act.put, List.setIfInBounds_toArray, List.set_cons_zero, List.set_cons_succ, i64_w, i32_w]; rfl)))
        refine RP.nil ?_
        go_wp2
        go_roundg (l.length - k - (i + 1))
        case measure => have := HK.out; omega
        case rel => exact ⟨i + 1, by go_num, ⟨by omega⟩, ⟨by rw [HT.out, kv_append, HL.out]; exact HO3.out⟩, HB3⟩
      · obtain rfl : i = l.length - k := by omega
        have t1 : ¬ g + 1 + ((l.length - k : Nat) : Int) < h + (l.length : Int) + 1 := by omega
        have ho := HO.out
        rw [List.take_of_length_le (by rw [HDL.out]; omega)] at ho
        have HO2 := Aside0.mk ho
        clear ho HO
        go_wp2_with (go_at_call 18; refine (HNX.out _ (HX.out.chg (Chg.of_below HB.out (fun _ => False)) (fun h => h) (fun h => h) (fun _ _ h => h))).mono ?_; rintro e w2 ⟨rfl, kk, rfl⟩)
        go_ret
        exact ⟨_, rfl, Kd.R_drewN HO2.out _, pw_below_drewN HB.out _⟩
  · rw [show rKept X n = [] from if_neg hn]
    have HN := Aside0.mk hn
    clear hX hF hn
    go_enter Try.func21, Try.ntmps21
    go_wp2_with (go_at_call 10; refine (is_no n HN.out _).mono ?_; rintro e w' ⟨rfl, rfl⟩)
    go_ret
    exact ⟨_, rfl, Kd.R_nil _ _ _ _ _, Below.refl _ _⟩

end Go.Proofs.Ytfmlamnkpoloaaa.Q

/- The reference's Bytes. -/
namespace Go.Proofs.Ytfmlamnkpoloaaa.Q
open Go.RowKit Go.Proofs.YtfmlamnkpoloaaaW.PrintWords Go.Proofs.YtfmlamnkpoloaaaW.PrintLast Go.Proofs.YtfmlamnkpoloaaaW.PrintMore
set_option linter.unusedVariables false
set_option linter.unusedSimpArgs false

set_option maxHeartbeats 4000000 in
set_option maxRecDepth 100000 in
theorem rBytes_calls (ok : Nat → Prop) (x xl : Nat) (T : Tb) (X : Rb) (w : World) (hX : RefAt ok w x xl X) (hF : ∀ m, m < 6 → RFine (X m)) (hR : Rel T X) (hL : ∀ m, m < 6 → Lim (T m)) :
    Calls Try.prog 32 #[.pointer (some ⟨x, 0, none⟩)] w fun e w' => e = .returned (.string (tabB T 6)) ∧ Below w.heap.size w w' := by
  have HX := Aside0.mk hX
  have HF := Aside0.mk hF
  have HR := Aside0.mk hR
  have HL := Aside0.mk hL
  clear hX hF hR hL
  go_enter Try.func32, Try.ntmps32
  go_wp2
  go_loopg [3, 4] 6 (fun kq vo vn wr => ∃ m : Nat, vn = .int .i64 m ∧ vo = .string (tabB T m) ∧ Aside0 (m + kq = 6) ∧ Aside0 (RefAt ok wr x xl X) ∧ Aside0 (Below w.heap.size w wr))
  case atStart => exact ⟨0, rfl, rfl, ⟨by omega⟩, HX, ⟨Below.refl _ _⟩⟩
  case round =>
    clear HX
    obtain ⟨m, rfl, rfl, HK, HX, HB⟩ := hrel
    have hm6 : m ≤ 6 := by have := HK.out; omega
    by_cases hm : m < 6
    · obtain ⟨hc0, -, -, hc3, -⟩ := HX.out.cells hm
      have hx1 := HX.out.lt.1
      have hx2 := HX.out.lt.2
      have hlm := HL.out m hm
      have e1 := (HR.out m hm).1
      have HGE := Aside0.mk e1
      have HNU := Aside0.mk (refnumber_some (T m).got (by have := hlm.g0; omega) (by have := hlm.g1; omega) 100 (by omega))
      rw [e1] at HNU
      have HKE : Aside0 (rKept X m = kv (T m).got (T m).codes) := ⟨by rw [← rel_kept HR.out m, dKept, if_pos (show isC (m : Int) by unfold isC; omega), Int.toNat_natCast]⟩
      have HLY := Aside0.mk hlm.lay
      have HSZ := Aside0.mk (tabB_size HL.out m (by omega))
      have HCZ := Aside0.mk (clB_size hlm)
      have HSU : Aside0 (tabB T (m + 1) = tabB T m ++ numB (X m).got ++ listB veY (kv (T m).got (T m).codes)) := ⟨by rw [app_assoc, ← e1]; rfl⟩
      have hz1 : (tabB T m).size + (numB (X m).got).size ≤ 9223372036854775807 := by have := HSZ.out; have := numB_size (X m).got; omega
      have hz2 : (tabB T m ++ numB (X m).got).size + (listB veY (kv (T m).got (T m).codes)).size ≤ 9223372036854775807 := by
        have h1 := HSZ.out
        have h2 := numB_size (X m).got
        have h3 := HCZ.out
        unfold clB at h3
        rw [size_app] at h3 ⊢
        omega
      have b0 : (0 : Int) ≤ (m : Int) := by omega
      have b1 : (m : Int) < 6 := by omega
      clear hlm e1 HCZ
      generalize (X m).got = g at *
      generalize kv (T m).got (T m).codes = ks at *
      generalize listB veY ks = lb at *
      generalize numB g = nb at *
      generalize hta : tabB T m = ta at *
      clear hta
      go_wp2_with (first
        | (go_at_call 37; (with_reducible refine (surmiseref01_Number.calls 100 g nb _ HNU.out).mono ?_); rintro e w2 ⟨rfl, hb⟩; have n0 := Aside0.mk (HX.out.chg (Chg.of_below hb (fun _ => False)) (fun h => h) (fun h => h) (fun _ _ h => h)); have n1 := Aside0.mk (below_step HB.out hb); clear HX HB hb; have HX := n0; have HB := n1; clear n0 n1)
        | (go_at_call 21; (with_reducible refine (rKept_calls ok x xl X (m : Int) _ HX.out HF.out).mono ?_); rintro e w3 ⟨v3, rfl, hr, hb⟩; rw [HKE.out] at hr; obtain ⟨A3, c3, rfl, hl3, hC3⟩ := Kd.R_reads hr; have HC3 := Aside0.mk hC3; have HL3 := Aside0.mk hl3; have n0 := Aside0.mk (HX.out.chg (Chg.of_below hb (fun _ => False)) (fun h => h) (fun h => h) (fun _ _ h => h)); have n1 := Aside0.mk (below_step HB.out hb); clear HX HB hb hr hl3 hC3; have HX := n0; have HB := n1; clear n0 n1)
        | (go_at_call 38; (with_reducible refine (surmiseref10_LayVerdicts.calls 3000000 A3 c3 ks lb _ HC3.out HL3.out HLY.out).mono ?_); rintro e w4 ⟨rfl, hb⟩; have n0 := Aside0.mk (HX.out.chg (Chg.of_below hb (fun _ => False)) (fun h => h) (fun h => h) (fun _ _ h => h)); have n1 := Aside0.mk (below_step HB.out hb); clear HX HB hb; have HX := n0; have HB := n1; clear n0 n1))
      go_roundg (6 - (m + 1))
      case measure => have := HK.out; omega
      case rel => exact ⟨m + 1, by go_num, by rw [HSU.out], ⟨by omega⟩, HX, HB⟩
    · obtain rfl : m = 6 := by omega
      go_wp2
      go_ret
      exact ⟨rfl, HB.out⟩

end Go.Proofs.Ytfmlamnkpoloaaa.Q

-- By px.py, a program of this session that drives the kit's printer: laid out of the translation; Lean checks it.
namespace Go.Proofs.Ytfmlamnkpoloaaa.Q
open Go.RowKit Go.Proofs.YtfmlamnkpoloaaaW.PrintWords Go.Proofs.YtfmlamnkpoloaaaW.PrintLast Go.Proofs.YtfmlamnkpoloaaaW.PrintMore
attribute [local go_sem] max2_int min2_int max_two min_two max_three min_three max_four min_four   -- for this text's walks alone
set_option linter.unusedVariables false
set_option linter.unusedSimpArgs false

theorem eqA58 (d : Nat) (w : World) (x0 y0 : Int) (x1 y1 : Int) :
    (Op.equalIn (d + 2) 58 (.agg #[.int .i64 x0, .int .i64 x1]) (.agg #[.int .i64 y0, .int .i64 y1])).run Try.prog w = .ok (x0 == y0 && (x1 == y1)) w := by
  refine eqA_of Try.underlying58 (by kernel_rfl) ?_
  refine eqf_cons (by rfl) (by go_simp; rfl) (by go_simp; rfl) (by go_simp) ?_
  exact eqf_last (by rfl) (by go_simp; rfl) (by go_simp; rfl) (by go_simp)
end Go.Proofs.Ytfmlamnkpoloaaa.Q

-- By px.py, a program of this session that drives the kit's printer: laid out of the translation; Lean checks it.
namespace Go.Proofs.Ytfmlamnkpoloaaa.Q
open Go.RowKit Go.Proofs.YtfmlamnkpoloaaaW.PrintWords Go.Proofs.YtfmlamnkpoloaaaW.PrintLast Go.Proofs.YtfmlamnkpoloaaaW.PrintMore
attribute [local go_sem] max2_int min2_int max_two min_two max_three min_three max_four min_four   -- for this text's walks alone
set_option linter.unusedVariables false
set_option linter.unusedSimpArgs false

attribute [local go_sem high] eqA58
/-! ### surmiseref10_SameVerdicts: function 19 -/
def surmiseref10_SameVerdicts.l0 : Nat → List (S58) → List (S58) → Int → Option (Bool)
  | 0, _, _, _ => none
  | k + 1, x0, x1, x5 => if x5 < (x0.length : Int) then (if 0 ≤ x5 then (if x5 < (x1.length : Int) then (if (!(((rd_T58 x0 x5).f0) == ((rd_T58 x1 x5).f0)) || (!(((rd_T58 x0 x5).f1) == ((rd_T58 x1 x5).f1)))) = true then (some false) else (surmiseref10_SameVerdicts.l0 k x0 x1 (wrap64 (x5 + 1)))) else (none)) else (none)) else (some true)
def surmiseref10_SameVerdicts.f (k : Nat) (l0 : List (S58)) (l1 : List (S58)) : Option (Bool) := if (l0.length : Int) = (l1.length : Int) then (surmiseref10_SameVerdicts.l0 k l0 l1 0) else (some false)
theorem surmiseref10_SameVerdicts.mono_l : ∀ k, (∀ y0 y1 y2, LeO (surmiseref10_SameVerdicts.l0 k y0 y1 y2) (surmiseref10_SameVerdicts.l0 (k + 1) y0 y1 y2))
  | 0 => fun _ _ _ r h => by simp [surmiseref10_SameVerdicts.l0] at h
  | k + 1 => by
    have ih0 := surmiseref10_SameVerdicts.mono_l k
    · intro y0 y1 y2
      unfold surmiseref10_SameVerdicts.l0
      repeat' first
      | (with_reducible exact ih0 _ _ _)
      | (with_reducible exact LeO.refl _)
      | (with_reducible exact LeO.none _)
      | (with_reducible refine LeO.ite ?_ ?_)
      | (with_reducible refine LeO.bind ?_ (fun _ => ?_))
      | exact ih0 _ _ _
      | exact LeO.none _
      | refine LeO.ite ?_ ?_
      | refine LeO.bind ?_ (fun _ => ?_)
theorem surmiseref10_SameVerdicts.mono : ∀ a0 a1 k, LeO (surmiseref10_SameVerdicts.f k a0 a1) (surmiseref10_SameVerdicts.f (k + 1) a0 a1) := by
  intro a0 a1 k
  have ih0 := surmiseref10_SameVerdicts.mono_l k
  unfold surmiseref10_SameVerdicts.f
  repeat' first
      | (with_reducible exact ih0 _ _ _)
      | (with_reducible exact LeO.refl _)
      | (with_reducible exact LeO.none _)
      | (with_reducible refine LeO.ite ?_ ?_)
      | (with_reducible refine LeO.bind ?_ (fun _ => ?_))
      | exact ih0 _ _ _
      | exact LeO.none _
      | refine LeO.ite ?_ ?_
      | refine LeO.bind ?_ (fun _ => ?_)
set_option maxHeartbeats 8000000 in
set_option maxRecDepth 100000 in
theorem surmiseref10_SameVerdicts.calls (k : Nat) (A0 : Option Addr) (c0 : Nat) (l0 : List (S58)) (A1 : Option Addr) (c1 : Nat) (l1 : List (S58)) (r : Bool) (w : World) (hr0 : Kd.C k58 w A0 l0.length l0) (hc0 : l0.length ≤ c0) (hr1 : Kd.C k58 w A1 l1.length l1) (hc1 : l1.length ≤ c1) (h : surmiseref10_SameVerdicts.f k l0 l1 = some r) :
    Calls Try.prog 19 #[.slice A0 l0.length c0, .slice A1 l1.length c1] w fun e w' => e = .returned (.bool r) ∧ Drawn0 w w' := by
  have hu58 := Try.underlying58
  have HR0 := Aside0.mk hr0
  have HC0 := Aside0.mk hc0
  clear hr0 hc0
  have HR1 := Aside0.mk hr1
  have HC1 := Aside0.mk hc1
  clear hr1 hc1
  have H : (if (l0.length : Int) = (l1.length : Int) then (surmiseref10_SameVerdicts.l0 k l0 l1 0) else (some false)) = some r := h
  clear h
  by_cases c3 : (l0.length : Int) = (l1.length : Int)
  · rw [if_pos c3] at H
    have c3b0 : ((l0.length : Int) == (l1.length : Int)) = true := beq_iff_eq.mpr c3
    have c3b1 : ((l0.length : Int) != (l1.length : Int)) = false := bne_eq_false_iff_eq.mpr c3
    have c3b2 : (l0.length == l1.length) = true := by first | simpa using c3 | (simp at c3 ⊢; omega)
    clear c3
    have H' := Aside0.mk H
    clear H
    go_enter Try.func19, Try.ntmps19
    go_wp2
    repeat (go_quiet (fail); try go_wp2)
    go_loopg [5] k (fun kq v5 w' => ∃ (x5_1 : Int), v5 = .int .i64 x5_1 ∧ Aside0 (surmiseref10_SameVerdicts.l0 kq l0 l1 x5_1 = some r) ∧ Aside0 (kq ≤ k) ∧ Drawn0 w w')
    case atStart => exact ⟨(0), (by first | rfl | (simp; done) | (simp [*]; done)), H', ⟨Nat.le_refl _⟩, by repeat (first | exact Drawn0.refl _ | apply Drawn0.step)⟩
    case round =>
      clear H'
      try clear c1
      try clear p2
      try clear c3
      try clear c3b0
      try clear c3b1
      try clear c3b2
      obtain ⟨x5_1, rfl, HA, HK1, ⟨m1, rfl⟩⟩ := hrel
      cases gk with
      | zero => exact absurd HA.out (by simp [surmiseref10_SameVerdicts.l0])
      | succ k1 =>
        have H := HA.out
        clear HA
        simp only [surmiseref10_SameVerdicts.l0] at H
        by_cases c4 : x5_1 < (l0.length : Int)
        · rw [if_pos c4] at H
          have c4b0 : decide (x5_1 < (l0.length : Int)) = true := decide_eq_true c4
          clear c4
          by_cases c5 : 0 ≤ x5_1
          · rw [if_pos c5] at H
            have c5b0 : decide (0 ≤ x5_1) = true := decide_eq_true c5
            clear c5
            by_cases c6 : x5_1 < (l1.length : Int)
            · rw [if_pos c6] at H
              have c6b0 : decide (x5_1 < (l1.length : Int)) = true := decide_eq_true c6
              clear c6
              by_cases c7 : (!(((rd_T58 l0 x5_1).f0) == ((rd_T58 l1 x5_1).f0)) || (!(((rd_T58 l0 x5_1).f1) == ((rd_T58 l1 x5_1).f1)))) = true
              · rw [if_pos c7] at H
                have c7b0 : (!(((rd_T58 l0 x5_1).f0) == ((rd_T58 l1 x5_1).f0)) || (!(((rd_T58 l0 x5_1).f1) == ((rd_T58 l1 x5_1).f1)))) = true := c7
                clear c7
                obtain rfl := Option.some.inj H
                have p169 : 0 ≤ (x5_1 : Int) := of_decide_eq_true (by first | (with_reducible assumption) | assumption)
                have q169 : x5_1 < (l0.length : Int) := of_decide_eq_true (by first | (with_reducible assumption) | assumption)
                obtain ⟨ad169, e169, hx169_0, hx169_1⟩ := at_T58 HR0.out x5_1 p169 q169
                cases e169
                replace p169 := eq_true p169
                replace q169 := eq_true q169
                have p170 : 0 ≤ (x5_1 : Int) := of_decide_eq_true (by first | (with_reducible assumption) | assumption)
                have q170 : x5_1 < (l1.length : Int) := of_decide_eq_true (by first | (with_reducible assumption) | assumption)
                obtain ⟨ad170, e170, hx170_0, hx170_1⟩ := at_T58 HR1.out x5_1 p170 q170
                cases e170
                replace p170 := eq_true p170
                replace q170 := eq_true q170
                go_wp2
                repeat (go_quiet (fail); try go_wp2)
                go_ret
                exact ⟨by first | rfl | (simp; done) | (simp [*]; done), by repeat (first | exact Drawn0.refl _ | apply Drawn0.step)⟩
              · rw [if_neg c7] at H
                have c7b0 : (!(((rd_T58 l0 x5_1).f0) == ((rd_T58 l1 x5_1).f0)) || (!(((rd_T58 l0 x5_1).f1) == ((rd_T58 l1 x5_1).f1)))) = false := by simpa using c7
                clear c7
                have H' := Aside0.mk H
                clear H
                have p169 : 0 ≤ (x5_1 : Int) := of_decide_eq_true (by first | (with_reducible assumption) | assumption)
                have q169 : x5_1 < (l0.length : Int) := of_decide_eq_true (by first | (with_reducible assumption) | assumption)
                obtain ⟨ad169, e169, hx169_0, hx169_1⟩ := at_T58 HR0.out x5_1 p169 q169
                cases e169
                replace p169 := eq_true p169
                replace q169 := eq_true q169
                have p170 : 0 ≤ (x5_1 : Int) := of_decide_eq_true (by first | (with_reducible assumption) | assumption)
                have q170 : x5_1 < (l1.length : Int) := of_decide_eq_true (by first | (with_reducible assumption) | assumption)
                obtain ⟨ad170, e170, hx170_0, hx170_1⟩ := at_T58 HR1.out x5_1 p170 q170
                cases e170
                replace p170 := eq_true p170
                replace q170 := eq_true q170
                go_wp2
                repeat (go_quiet (fail); try go_wp2)
                go_roundg k1
                case measure => have := HK1.out; omega
                case rel => exact ⟨(wrap64 (x5_1 + 1)), (by first | rfl | (simp; done) | (simp [*]; done)), H', ⟨by have := HK1.out; omega⟩, by repeat (first | exact Drawn0.refl _ | apply Drawn0.step)⟩
            · rw [if_neg c6] at H
              exact absurd H (by simp)
          · rw [if_neg c5] at H
            exact absurd H (by simp)
        · rw [if_neg c4] at H
          have c4b0 : decide (x5_1 < (l0.length : Int)) = false := decide_eq_false c4
          clear c4
          obtain rfl := Option.some.inj H
          go_wp2
          repeat (go_quiet (fail); try go_wp2)
          go_ret
          exact ⟨by first | rfl | (simp; done) | (simp [*]; done), by repeat (first | exact Drawn0.refl _ | apply Drawn0.step)⟩
  · rw [if_neg c3] at H
    have c3b0 : ((l0.length : Int) == (l1.length : Int)) = false := beq_eq_false_iff_ne.mpr c3
    have c3b1 : ((l0.length : Int) != (l1.length : Int)) = true := bne_iff_ne.mpr c3
    have c3b2 : (l0.length == l1.length) = false := by first | simpa using c3 | (simp at c3 ⊢; omega)
    obtain rfl := Option.some.inj H
    go_enter Try.func19, Try.ntmps19
    go_wp2
    repeat (go_quiet (fail); try go_wp2)
    go_ret
    exact ⟨by first | rfl | (simp; done) | (simp [*]; done), by repeat (first | exact Drawn0.refl _ | apply Drawn0.step)⟩

end Go.Proofs.Ytfmlamnkpoloaaa.Q

/- What is done for one client changes nothing of others: the plain part. -/
namespace Go.Proofs.Ytfmlamnkpoloaaa.Q
open Go.RowKit Go.Proofs.YtfmlamnkpoloaaaW.PrintWords Go.Proofs.YtfmlamnkpoloaaaW.PrintLast Go.Proofs.YtfmlamnkpoloaaaW.PrintMore
set_option linter.unusedVariables false
set_option linter.unusedSimpArgs false

theorem same_l0 (l : List S58) (hl : l.length ≤ 1099511627776) (d : Nat) : ∀ (k i : Nat), i + d = l.length → d < k → surmiseref10_SameVerdicts.l0 k l l (i : Int) = some true := by
  induction d with
  | zero =>
    intro k i hi hk
    obtain ⟨k, rfl⟩ : ∃ m, k = m + 1 := ⟨k - 1, by omega⟩
    simp only [surmiseref10_SameVerdicts.l0]
    rw [if_neg (by omega)]
  | succ d ih =>
    intro k i hi hk
    obtain ⟨k, rfl⟩ : ∃ m, k = m + 1 := ⟨k - 1, by omega⟩
    simp only [surmiseref10_SameVerdicts.l0]
    rw [if_pos (by omega), if_pos (by omega), if_pos (by omega)]
    have e : wrap64 ((i : Int) + 1) = ((i + 1 : Nat) : Int) := by unfold wrap64; omega
    rw [e, if_neg (by simp)]
    exact ih k (i + 1) (by omega) (by omega)
theorem same_verdicts (l : List S58) (hl : l.length ≤ 1099511627776) : surmiseref10_SameVerdicts.f (l.length + 1) l l = some true := by
  unfold surmiseref10_SameVerdicts.f
  rw [if_pos rfl]
  exact same_l0 l hl l.length (l.length + 1) 0 (by omega) (by omega)
theorem same_calls (v1 v2 : Value) (l : List S58) (hl : l.length ≤ 1099511627776) (w : World) {b1 b2 : Nat} {ok1 ok2 : Nat → Prop} (h1 : Kd.R k58 58 w b1 ok1 v1 l) (h2 : Kd.R k58 58 w b2 ok2 v2 l) :
    Calls Try.prog 19 #[v1, v2] w fun e w' => e = .returned (.bool true) ∧ Below w.heap.size w w' := by
  obtain ⟨A1, c1, rfl, hc1, hC1⟩ := Kd.R_reads h1
  obtain ⟨A2, c2, rfl, hc2, hC2⟩ := Kd.R_reads h2
  refine (surmiseref10_SameVerdicts.calls (l.length + 1) A1 c1 l A2 c2 l true w hC1 hc1 hC2 hc2 (same_verdicts l hl)).mono fun e w' he => ?_
  obtain ⟨he, hd⟩ := he
  exact ⟨he, hd.below⟩
theorem xDo_other {X : Rb} {kd cl sq co : Int} {m : Nat} (h : cl ≠ (m : Int)) : (xDo X kd cl sq co) m = X m := by
  have key : ∀ c : Rc, isC cl → (X.upd cl.toNat c) m = X m := by
    intro c hc
    unfold Rb.upd
    rw [if_neg (by unfold isC at hc; omega)]
  have hput : ∀ sq, (rPut X cl sq co).2 m = X m := by
    intro sq
    unfold rPut
    repeat (first | rfl | (apply key; assumption) | split)
  have hget : ∀ sq, (rGets X cl sq).2 m = X m := by
    intro sq
    unfold rGets
    repeat (first | rfl | (apply key; assumption) | split)
  unfold xDo
  repeat (first | rfl | apply hput | apply hget | split)
theorem rupd_self {X : Rb} {m : Nat} {c : Rc} : (X.upd m c) m = c := by unfold Rb.upd; rw [if_pos rfl]
theorem xDo_same {X Y : Rb} {kd sq co : Int} {m : Nat} (h : X m = Y m) : (xDo X kd m sq co) m = (xDo Y kd m sq co) m := by
  have hput : ∀ sq, (rPut X m sq co).2 m = (rPut Y m sq co).2 m := by
    intro sq
    unfold rPut
    simp only [Int.toNat_natCast, h]
    split
    · split
      · exact h
      · split
        · exact h
        · split
          · exact h
          · split
            · exact h
            · show (Rb.upd X m _) m = (Rb.upd Y m _) m
              rw [rupd_self, rupd_self]
    · exact h
  have hget : ∀ sq, (rGets X m sq).2 m = (rGets Y m sq).2 m := by
    intro sq
    unfold rGets
    simp only [Int.toNat_natCast, h]
    split
    · split
      · exact h
      · show (Rb.upd X m _) m = (Rb.upd Y m _) m
        rw [rupd_self, rupd_self]
    · exact h
  have hn : rNext X m = rNext Y m := by unfold rNext; simp only [Int.toNat_natCast, h]
  unfold xDo
  rw [hn]
  split
  · exact hput _
  · split
    · exact hput _
    · split
      · exact hget _
      · split
        · split
          · exact h
          · exact hget _
        · exact h
def yact (o : Int) (Y : Rb) (a : S28) : Rb := if a.f1 = o then xDo Y a.f0 a.f1 a.f2 a.f3 else Y
def yruns (o : Int) (l : List S28) : Rb := l.foldl (yact o) X0
theorem yruns_eq (m : Nat) (l : List S28) : (runs l).2 m = yruns m l m := by
  have : ∀ (l : List S28) (S : Tb × Rb) (Y : Rb), S.2 m = Y m → (l.foldl act S).2 m = (l.foldl (yact m) Y) m := by
    intro l
    induction l with
    | nil => intro S Y h; exact h
    | cons a l ih =>
      intro S Y h
      refine ih _ _ ?_
      unfold act yact
      by_cases e : a.f1 = (m : Int)
      · rw [if_pos e, e]
        exact xDo_same h
      · rw [if_neg e]
        exact (xDo_other e).trans h
  exact this l _ _ rfl
theorem yruns_snoc (o : Int) (l : List S28) (i : Nat) (h : i < l.length) : yruns o (l.take (i + 1)) = yact o (yruns o (l.take i)) l[i] := by
  rw [List.take_succ_eq_append_getElem h]
  unfold yruns
  rw [List.foldl_append]
  rfl
theorem RefAt.bound {w : World} {ok : Nat → Prop} {x xl : Nat} {X : Rb} (h : RefAt ok w x xl X) : RefAt (fun k => ok k ∧ k < w.heap.size) w x xl X := by
  obtain ⟨cs, hb, hz, ha⟩ := h.all
  exact ⟨h.top, cs, hb, hz, fun n hn => ⟨by obtain ⟨v, h1, h2⟩ := (ha n hn).1; exact ⟨v, h1, Kd.V_bound h2⟩, (ha n hn).2⟩⟩
theorem RefAt.mono {w : World} {ok ok' : Nat → Prop} {x xl : Nat} {X : Rb} (h : RefAt ok w x xl X) (hk : ∀ k, ok k → ok' k) : RefAt ok' w x xl X := by
  obtain ⟨cs, hb, hz, ha⟩ := h.all
  exact ⟨h.top, cs, hb, hz, fun n hn => ⟨by obtain ⟨v, h1, h2⟩ := (ha n hn).1; exact ⟨v, h1, Kd.V_mono h2 hk⟩, (ha n hn).2⟩⟩
theorem TabAt.bound {w : World} {ok : Nat → Prop} {t : Nat} {T : Tb} (h : TabAt ok w t T) : TabAt (fun k => ok k ∧ k < w.heap.size) w t T := by
  obtain ⟨cs, hb, hz, ha⟩ := h.all
  exact ⟨cs, hb, hz, fun n hn => ⟨(ha n hn).1, by obtain ⟨v, h1, h2⟩ := (ha n hn).2; exact ⟨v, h1, Kd.V_bound h2⟩⟩⟩
theorem TabAt.mono {w : World} {ok ok' : Nat → Prop} {t : Nat} {T : Tb} (h : TabAt ok w t T) (hk : ∀ k, ok k → ok' k) : TabAt ok' w t T := by
  obtain ⟨cs, hb, hz, ha⟩ := h.all
  exact ⟨cs, hb, hz, fun n hn => ⟨(ha n hn).1, by obtain ⟨v, h1, h2⟩ := (ha n hn).2; exact ⟨v, h1, Kd.V_mono h2 hk⟩⟩⟩

end Go.Proofs.Ytfmlamnkpoloaaa.Q
