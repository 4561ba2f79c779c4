/- Texts of this session laid together (merge.py): YtfmlamnkpoloaaaIPut, YtfmlamnkpoloaaaQf44, YtfmlamnkpoloaaaQf52, YtfmlamnkpoloaaaHEndVerdicts, YtfmlamnkpoloaaaQf51, YtfmlamnkpoloaaaQf50by51, YtfmlamnkpoloaaaHReadVerdicts, YtfmlamnkpoloaaaKVer. -/
import Derived.Test.YtfmlamnkpoloaaaTDedupBackd
/- A table's bytes: the closure that lays a client, and Bytes. -/
namespace Go.Proofs.Ytfmlamnkpoloaaa.Q
open Go.RowKit Go.Proofs.YtfmlamnkpoloaaaW.PrintWords Go.Proofs.YtfmlamnkpoloaaaW.PrintLast Go.Proofs.YtfmlamnkpoloaaaW.PrintMore
set_option linter.unusedVariables false
set_option linter.unusedSimpArgs false

/-- What keeps a client's bytes right. -/
structure Lim (c : Cl) : Prop where
  g0 : 0 ≤ c.got
  g1 : c.got + c.codes.length ≤ 1099511627776
  len : c.codes.length ≤ 32
  code : ∀ x ∈ c.codes, 0 ≤ x ∧ x ≤ 63
def clB (c : Cl) : ByteArray := numB c.got ++ listB veY (kv c.got c.codes)
theorem kv_ok : ∀ (l : List Int) (g : Int), 0 ≤ g → g + l.length ≤ 1099511627776 → (∀ x ∈ l, 0 ≤ x ∧ x ≤ 63) → (∀ y ∈ kv g l, veOK y) ∧ (∀ p : S58, p.f0 = g → chainB verB verR (some p) (kv g l) = true) ∧ chainB verB verR none (kv g l) = true := by
  intro l
  induction l with
  | nil =>
    intro g h0 h1 h2
    exact ⟨fun y hy => by simp [kv] at hy, fun p hp => rfl, rfl⟩
  | cons x l ih =>
    intro g h0 h1 h2
    simp only [List.length_cons] at h1
    obtain ⟨i1, i2, i3⟩ := ih (g + 1) (by omega) (by omega) (fun y hy => h2 y (List.mem_cons_of_mem _ hy))
    obtain ⟨x0, x1⟩ := h2 x List.mem_cons_self
    have hv : verB ⟨g + 1, x⟩ = true := by
      unfold verB wiB
      simp only [Bool.and_eq_true, decide_eq_true_eq]
      omega
    refine ⟨fun y hy => ?_, fun p hp => ?_, ?_⟩
    · rcases List.mem_cons.1 hy with rfl | hy
      · exact ⟨wf_i64 _ (by show _ ≤ g + 1; omega) (by show g + 1 ≤ _; omega), wf_i64 _ (by show _ ≤ x; omega) (by show x ≤ _; omega)⟩
      · exact i1 y hy
    · show (verB ⟨g + 1, x⟩ && (verR p ⟨g + 1, x⟩ && chainB verB verR (some ⟨g + 1, x⟩) (kv (g + 1) l))) = true
      rw [hv, i2 _ rfl]
      unfold verR
      simp
      omega
    · show (verB ⟨g + 1, x⟩ && chainB verB verR (some ⟨g + 1, x⟩) (kv (g + 1) l)) = true
      rw [hv, i2 _ rfl]
      rfl
theorem Lim.put {c : Cl} (h : Lim c) : codec_PutVerdicts.f 3000000 (kv c.got c.codes) = some (listB veY (kv c.got c.codes), 0) := by
  obtain ⟨h1, -, h3⟩ := kv_ok c.codes c.got h.g0 h.g1 h.code
  have hl := h.len
  rw [putverdicts_some _ (by rw [kv_length]; omega) h1 _ (Nat.le_refl _)]
  have e : verdictsB (kv c.got c.codes) = true := by
    unfold verdictsB
    rw [h3, kv_length, decide_eq_true (by omega)]
    rfl
  rw [e]
  rfl
theorem Lim.lay {c : Cl} (h : Lim c) : surmiseref10_LayVerdicts.f 3000000 (kv c.got c.codes) = some (listB veY (kv c.got c.codes)) := by
  obtain ⟨h1, -, -⟩ := kv_ok c.codes c.got h.g0 h.g1 h.code
  have hl := h.len
  exact layverdicts_some _ (by rw [kv_length]; omega) h1 _ (Nat.le_refl _)
theorem clB_size {c : Cl} (h : Lim c) : (clB c).size ≤ 700 := by
  have h1 := numB_size c.got
  have h2 := numB_size ((kv c.got c.codes).length : Int)
  have h3 := catB_size veY 20 (kv c.got c.codes) (fun x _ => veY_size x)
  rw [kv_length] at h3
  have hl := h.len
  unfold clB listB
  rw [size_app, size_app]
  have h4 : 20 * c.codes.length ≤ 640 := by omega
  omega

section
variable {P : Program} {ops : Array Oper} {o : Oper} {a : Act} {Q : Exit → Act → World → Prop} {K : Act → World → Prop}
theorem step_append_str {w0 W : World} (base : Nat) (hw : Region.wanted o (yielded ops a.tmps) = true) (s x : Operand) (t u e : TypeId)
    (ho : o.op = .call { callee := .builtin .append, args := #[s, x], argTypes := #[t, u] })
    (ht : P.underlying t = some (.slice e)) (hu : P.underlying u = some .string) (hinfo : (P.info? e).map (fun i => (i.zero, i.size, i.bytes)) = some (some (.int .u8 0), 1, 1))
    (v : Value) (xs : List Int) (y : ByteArray) (hs : a.eval s = v) (hx : a.eval x = .string y)
    (HO : W.ownsRow base e 1 v xs.length (nums .u8 xs)) (HB : Below base w0 W) (hbase : base ≤ W.heap.size) (hl : xs.length + y.size ≤ 140737488355328)
    (h : ∀ v1 w1, w1.ownsRow base e 1 v1 (xs ++ bytesOf y).length (nums .u8 (xs ++ bytesOf y)) → Below base w0 w1 → W.grownBy w1 v.ownBlock → (v1.ownBlock = v.ownBlock ∨ ∃ b, v1.ownBlock = some b ∧ W.heap.size ≤ b) → K (a.put o.dst v1) w1) :
    if Region.wanted o (yielded ops a.tmps) = true then Oper.wp P o a W K Q else K (a.put o.dst undef) W := by
  obtain ⟨i0, hi, hzz⟩ := Option.map_eq_some_iff.1 hinfo
  simp only [Prod.mk.injEq] at hzz
  obtain ⟨hz0, hz1, hz2⟩ := hzz
  rw [if_pos hw]
  obtain ⟨v1, w1, hr, hown, hg, hnil⟩ := Lib.run_append_own_string (P := P) W base t u o.type e i0 ht hu hi hz0 hz1 hz2 v xs.length (nums .u8 xs) HO y (by simp only [maxLen]; omega) hl hbase
  have hat := str_hat W base t u o.type e i0 ht hu hi hz0 hz1 hz2 v xs.length (nums .u8 xs) HO y hl v1 w1 hr hnil
  have hl2 : (xs ++ bytesOf y).length = xs.length + y.size := by rw [List.length_append, bytesOf_length]
  have hc : nums .u8 (xs ++ bytesOf y) = nums .u8 xs ++ Lib.strCells y := by
    rw [nums_append]
    congr 1
    simp [nums, bytesOf, Lib.strCells]
  unfold Oper.wp execOp
  simp only [ho, resolve, invoke, builtin, Sem.run_bind, Sem.run_pure, Result.andThen_ok, List.map_toArray, List.map_cons, List.map_nil, hs, hx, hr]
  exact h v1 w1 (by rw [hl2, hc]; exact hown) (HB.grown hg hbase (own_base HO)) hg hat
end

/-- The bytes so far: block p holds the row's slice, the row is the call's own. -/
structure BufAt (base : Nat) (w0 w : World) (p : Nat) (acc : ByteArray) : Prop where
  cell : ∃ v, w.heap[p]? = some (.cells #[v] 69 (0, 0)) ∧ w.ownsRow base 5 1 v (bytesOf acc).length (nums .u8 (bytesOf acc)) ∧ v.ownBlock ≠ some p
  low : Below base w0 w
  ge : base ≤ p
  room : base ≤ w.heap.size
section
variable {base : Nat} {w0 w w' : World} {p : Nat} {acc : ByteArray}
theorem BufAt.keep (h : BufAt base w0 w p acc) (hb : Below w.heap.size w w') : BufAt base w0 w' p acc := by
  obtain ⟨v, h1, h2, h3⟩ := h.cell
  exact ⟨⟨v, (hb.block p (blk_lt h1)).trans h1, own_move h2 (fun k hk => hb.block k (own_lt h2 k hk)), h3⟩, h.low.trans (hb.mono h.room), h.ge, Nat.le_trans h.room hb.size⟩
end
theorem TabAt.far {base : Nat} {ok : Nat → Prop} {w w' : World} {t : Nat} {T : Tb} (h : TabAt ok w t T) (hok : ∀ k, ok k → k < base) (ht : t < base) (hb : Below base w w') (hl : base ≤ w.heap.size) : TabAt ok w' t T :=
  h.chg (S := fun k => base ≤ k) ⟨hb.mono (Nat.zero_le _), fun k hk hn => hb.block k (by omega)⟩ (by omega) (fun k hk e => by have := hok k hk; omega)
theorem hT_cells {ok : Nat → Prop} {w : World} {t : Nat} {T : Tb} (h : TabAt ok w t T) {m : Nat} (hm : m < 6) : w.cell? ⟨t, m * 2, none⟩ = some (.int .i64 (T m).got) ∧ (∀ j, w.frozen? ⟨t, j, none⟩ = false) := ⟨(h.cells hm).1, (h.cells hm).2.2⟩
theorem own_slice {w : World} {base e size n : Nat} {v : Value} {xs : List Value} (h : w.ownsRow base e size v n xs) : ∃ A n c, v = .slice A n c := by
  rcases h.2 with ⟨rfl, -⟩ | ⟨g, cap, cur, rfl, -⟩
  · exact ⟨_, _, _, rfl⟩
  · exact ⟨_, _, _, rfl⟩
theorem append3 {a b c : ByteArray} : bytesOf a ++ bytesOf b ++ bytesOf c = bytesOf (a ++ (b ++ c)) := by
  rw [bytesOf_append, bytesOf_append, List.append_assoc]
set_option maxHeartbeats 4000000 in
set_option maxRecDepth 100000 in
theorem put_bytes (ok : Nat → Prop) (t m p base : Nat) (T : Tb) (acc : ByteArray) (w0 w : World) (hm : m < 6) (hT : TabAt ok w t T) (hok : ∀ k, ok k → k < base) (ht : t < base) (hF : Fine (T m)) (hL : Lim (T m)) (hB : BufAt base w0 w p acc) (hacc : acc.size ≤ 100000) :
    Calls Try.prog 33 #[.pointer (some ⟨t, m * 2, none⟩), .pointer (some ⟨p, 0, none⟩)] w fun e w' => e = .returned (.tuple #[]) ∧ BufAt base w0 w' p (acc ++ clB (T m)) ∧ TabAt ok w' t T := by
  obtain ⟨hc0, ⟨A, c, hc1, -, hR⟩, -⟩ := hT.cells hm
  have HKP := Aside0.mk (kept_calls ok t (m * 2) (T m).got A c (T m).codes w hF.1 hF.2.1 hF.2.2 hc0 hc1 hR)
  have HT := Aside0.mk hT
  have HB := Aside0.mk hB
  have HOK := Aside0.mk hok
  have HTB := Aside0.mk ht
  have HPV := Aside0.mk hL.put
  have hg0 := hL.g0
  have hg1 := hL.g1
  have HNU := Aside0.mk (number_some (T m).got (by omega) (by omega))
  have HLK := Aside0.mk (kv_length (T m).got (T m).codes)
  have HSZ := Aside0.mk (clB_size hL)
  have HAC := Aside0.mk hacc
  have HMM := Aside0.mk hm
  unfold clB at HSZ ⊢
  generalize hgt : (T m).got = g at *
  have HGT := Aside0.mk hgt
  generalize kv g (T m).codes = ks at *
  generalize listB veY ks = lb at *
  generalize numB g = nb at *
  clear hT hB hok hF hL hc0 hc1 hR hacc hm hg0 hg1 hgt ht
  go_enter Try.func33, Try.ntmps33
  go_wp2_with (first
    | (go_at_call 31; refine HKP.out.mono ?_; rintro e w1 ⟨v1, rfl, hr, hb⟩; obtain ⟨A1, c1, rfl, hl1, hC1⟩ := Kd.R_reads hr; have HC1 := Aside0.mk hC1; have HL1 := Aside0.mk hl1; have n0 := Aside0.mk (HB.out.keep hb); have n1 := Aside0.mk (HT.out.far HOK.out HTB.out (hb.mono HB.out.room) HB.out.room); clear hr hb hl1 hC1 HB HT HKP; have HB := n0; have HT := n1; clear n0 n1)
    | (go_at_call 34; refine (codec_PutVerdicts.calls 3000000 A1 c1 ks lb 0 _ HC1.out HL1.out HPV.out).mono ?_; rintro e w2 ⟨rfl, hb⟩; have n0 := Aside0.mk (HB.out.keep hb); have n1 := Aside0.mk (HT.out.far HOK.out HTB.out (hb.mono HB.out.room) HB.out.room); clear hb HB HT HC1 HL1; have HB := n0; have HT := n1; clear n0 n1))
  obtain ⟨v, hp, hown, hne⟩ := HB.out.cell
  obtain ⟨q0, -⟩ := hT_cells HT.out HMM.out
  rw [HGT.out] at q0
  obtain ⟨p0, p1⟩ := box1 hp
  have HO := Aside0.mk hown
  have HNE := Aside0.mk hne
  have HPB := Aside0.mk hp
  have ltp := blk_lt hp
  have ltt := HT.out.lt
  clear hown hne hp
  refine wp_plan [(0, 0, 11), (1, 0, 12), (2, 0, 13), (3, 0, 14), (4, 0, 15), (7, 0, 18), (5, 2, 16), (6, 2, 17), (8, 2, 19), (9, 3, 0)] [9] (fun W => W.cell? ⟨p, 0, none⟩ = some v ∧ W.cell? ⟨t, m * 2, none⟩ = some (.int .i64 g)) (by kernel_rfl) rfl (by kernel_rfl) (fun _ t _ _ _ h => by cases t <;> exact h) ⟨p0, q0⟩ (fun hS => ?_)
  repeat (refine RP.take (v := ?_) (a' := ?_) rfl rfl (by assumption) (Or.inl ⟨by rfl, ?_⟩) ?_ ?_; rotate_left; (focus (rintro w' ⟨hS0, hS1⟩; go_simp; with_reducible rfl)); rotate_left; (focus (simp only [Act.put, List.setIfInBounds_toArray, List.set_cons_zero, List.set_cons_succ, i64_w, i32_w]; rfl)))
  have hk0 : Below w2.heap.size w2 (w2.drewN 1) := pw_below_drewN (Below.refl _ _) 1
  refine RP.one rfl rfl (fun K hK => ?_)
  refine goes_ Try.func35 (by kernel_rfl) rfl #[.int .i64 g] (by rfl) rfl rfl (by (try simp only [List.map_toArray, List.map_cons, List.map_nil]); first | done | rfl) ?_
  (with_reducible refine (varint_Number.calls g nb _ HNU.out).mono ?_)
  rintro e w3 ⟨rfl, hb⟩
  refine ⟨_, rfl, ?_⟩
  have HB3 := Aside0.mk ((HB.out.keep hk0).keep hb)
  have HT3 := Aside0.mk (HT.out.far HOK.out HTB.out ((hk0.mono HB.out.room).trans (hb.mono (Nat.le_trans HB.out.room hk0.size))) HB.out.room)
  have hb3 : Below w2.heap.size w2 w3 := hk0.trans (hb.mono hk0.size)
  have hO3 := own_move HO.out (fun k hk => hb3.block k (own_lt HO.out k hk))
  have hP3 := (hb3.block p ltp).trans HPB.out
  obtain ⟨p03, -⟩ := box1 hP3
  obtain ⟨q03, -⟩ := hT_cells HT3.out HMM.out
  rw [HGT.out] at q03
  refine hK.out _ _ ⟨p03, q03⟩ (fun hS => ?_)
  clear hK K hb
  refine RP.norm (a' := ?_) ?_ ?_
  rotate_left
  · show Act.put _ (some 16) _ = _
    simp only [Act.put, List.setIfInBounds_toArray, List.set_cons_zero, List.set_cons_succ, i64_w, i32_w]
    rfl
  refine RP.one rfl rfl (fun K hK => ?_)
  refine step_append_str (w0 := w0) base (by rfl) (.tmp 11) (.tmp 16) 69 9 5 (by rfl) Try.underlying69 Try.underlying9 infoB v (bytesOf acc) nb (by rfl) (by rfl) hO3 HB3.out.low HB3.out.room (by have := HSZ.out; have := HAC.out; rw [bytesOf_length]; simp only [size_app] at *; omega) ?_
  intro v4 w4 ho4 hb4 hg4 hat4
  have hne4 : v4.ownBlock ≠ some p := fun e => by
    rcases hat4 with h1 | ⟨q, h1, h2⟩
    · exact HNE.out (h1 ▸ e)
    · rw [h1] at e
      cases e
      have := blk_lt hP3
      omega
  have hP4 := (hg4.block p (blk_lt hP3) (fun e => HNE.out e.symm)).trans hP3
  have hT4 : Below base w3 w4 := (Below.refl base w3).grown hg4 HB3.out.room (own_base hO3)
  have HT4 := Aside0.mk (HT3.out.far HOK.out HTB.out hT4 HB3.out.room)
  have hr4 : base ≤ w4.heap.size := Nat.le_trans HB3.out.room hg4.size
  obtain ⟨p04, -⟩ := box1 hP4
  obtain ⟨q04, -⟩ := hT_cells HT4.out HMM.out
  rw [HGT.out] at q04
  refine hK.out _ _ ⟨p04, q04⟩ (fun hS => ?_)
  clear hK K
  refine RP.norm (a' := ?_) ?_ ?_
  rotate_left
  · show Act.put _ (some 17) _ = _
    simp only [Act.put, List.setIfInBounds_toArray, List.set_cons_zero, List.set_cons_succ, i64_w, i32_w]
    rfl
  refine RP.one rfl rfl (fun K hK => ?_)
  refine step_append_str (w0 := w0) base (by rfl) (.tmp 17) (.tmp 18) 69 9 5 (by rfl) Try.underlying69 Try.underlying9 infoB v4 (bytesOf acc ++ bytesOf nb) lb (by rfl) (by rfl) ho4 hb4 hr4 (by have := HSZ.out; have := HAC.out; rw [List.length_append, bytesOf_length, bytesOf_length]; simp only [size_app] at *; omega) ?_
  intro v5 w5 ho5 hb5 hg5 hat5
  have hne5 : v5.ownBlock ≠ some p := fun e => by
    rcases hat5 with h1 | ⟨q, h1, h2⟩
    · exact hne4 (h1 ▸ e)
    · rw [h1] at e
      cases e
      have := blk_lt hP4
      omega
  have hP5 := (hg5.block p (blk_lt hP4) (fun e => hne4 e.symm)).trans hP4
  have hT5 : Below base w4 w5 := (Below.refl base w4).grown hg5 hr4 (own_base ho4)
  have HT5 := Aside0.mk (HT4.out.far HOK.out HTB.out hT5 hr4)
  have hr5 : base ≤ w5.heap.size := Nat.le_trans hr4 hg5.size
  obtain ⟨p05, p15⟩ := box1 hP5
  obtain ⟨q05, -⟩ := hT_cells HT5.out HMM.out
  rw [HGT.out] at q05
  refine hK.out _ _ ⟨p05, q05⟩ (fun hS => ?_)
  clear hK K
  rw [append3] at ho5
  obtain ⟨A5, n5, c5, rfl⟩ : ∃ A5 n5 c5, v5 = .slice A5 n5 c5 := own_slice ho5
  have HE : Aside0 (BufAt base w0 (w5.setCell ⟨p, 0, none⟩ (.slice A5 n5 c5)) p (acc ++ (nb ++ lb)) ∧ TabAt ok (w5.setCell ⟨p, 0, none⟩ (.slice A5 n5 c5)) t T) := by
    have hpb := HB.out.ge
    refine ⟨⟨⟨_, blk_put hP5 0 _ rfl, own_move ho5 (fun k hk => Below.heap_setCell w5 ⟨p, 0, none⟩ _ k (fun e => hne5 (by subst e; exact hk))), hne5⟩, hb5.setCell hpb _, hpb, by simpa using hr5⟩, ?_⟩
    exact HT5.out.far HOK.out HTB.out ((Below.refl base w5).setCell hpb _) hr5
  clear hO3 hP3 p03 q03 ho4 hb4 hg4 hat4 hne4 hP4 hT4 hr4 p04 q04 ho5 hb5 hg5 hat5 hne5 hP5 hT5 hr5 hb3 hk0 p0 p1 q0
  refine RP.norm (a' := ?_) ?_ ?_
  rotate_left
  · show Act.put _ (some 19) _ = _
    simp only [Act.put, List.setIfInBounds_toArray, List.set_cons_zero, List.set_cons_succ, i64_w, i32_w]
    rfl
  refine RP.last rfl rfl (fun K hK => ?_)
  go_simp
  refine hK.out _ _ (RP.nil ?_)
  clear hK K
  go_end0
  exact ⟨rfl, HE.out⟩

end Go.Proofs.Ytfmlamnkpoloaaa.Q

-- By px.py, a program of this session that drives the kit's printer: laid out of the translation; Lean checks it.
namespace Go.Proofs.Ytfmlamnkpoloaaa.Q
open Go.RowKit Go.Proofs.YtfmlamnkpoloaaaW.PrintWords Go.Proofs.YtfmlamnkpoloaaaW.PrintLast Go.Proofs.YtfmlamnkpoloaaaW.PrintMore
attribute [local go_sem] max2_int min2_int max_two min_two max_three min_three max_four min_four   -- for this text's walks alone
set_option linter.unusedVariables false
set_option linter.unusedSimpArgs false

/-! ### varint_ReadNumber: function 44 -/
mutual
def varint_ReadNumber.j0 : Nat → ByteArray → Int → Bool → Option (Int × Int × Int)
  | 0, _, _, _ => none
  | k + 1, x0, x1, x18 => if x18 = true then (some (0, 0, 3)) else (varint_ReadNumber.l0 k x0 x1 0 0)
def varint_ReadNumber.l0 : Nat → ByteArray → Int → Int → Int → Option (Int × Int × Int)
  | 0, _, _, _, _ => none
  | k + 1, x0, x1, x7, x8 => if (wrap64 (x1 + x8)) < (x0.size : Int) then (if 0 ≤ (wrap64 (x1 + x8)) then (if x8 = 9 then (varint_ReadNumber.j2 k x0 x1 x7 x8 (bt x0 (wrap64 (x1 + x8))) (decide ((bt x0 (wrap64 (x1 + x8))) > 1))) else (varint_ReadNumber.j2 k x0 x1 x7 x8 (bt x0 (wrap64 (x1 + x8))) false)) else (none)) else (some (0, 0, 5))
def varint_ReadNumber.j2 : Nat → ByteArray → Int → Int → Int → Int → Bool → Option (Int × Int × Int)
  | 0, _, _, _, _, _, _ => none
  | k + 1, x0, x1, x7, x8, x9, x37 => if x37 = true then (some (0, 0, 6)) else (if 0 ≤ (wrap64 (7 * x8)) then (if x9 ≥ 128 then (varint_ReadNumber.l0 k x0 x1 (Go.bits .or .u64 x7 (shl .u64 (IntKind.u64.wrap (Go.bits .and .u8 x9 127)) (wrap64 (7 * x8)))) (wrap64 (x8 + 1))) else (if x9 = 0 then (varint_ReadNumber.j3 k x1 (Go.bits .or .u64 x7 (shl .u64 (IntKind.u64.wrap (Go.bits .and .u8 x9 127)) (wrap64 (7 * x8)))) x8 (decide (x8 > 0))) else (varint_ReadNumber.j3 k x1 (Go.bits .or .u64 x7 (shl .u64 (IntKind.u64.wrap (Go.bits .and .u8 x9 127)) (wrap64 (7 * x8)))) x8 false))) else (none))
def varint_ReadNumber.j3 : Nat → Int → Int → Int → Bool → Option (Int × Int × Int)
  | 0, _, _, _, _ => none
  | k + 1, x1, x7, x8, x53 => if x53 = true then (some (0, 0, 6)) else (if (Go.bits .and .u64 x7 1) = 1 then (some (Go.bits .xor .i64 (-1) (wrap64 (x7 / 2)), wrap64 ((wrap64 (x1 + x8)) + 1), 0)) else (some (wrap64 (x7 / 2), wrap64 ((wrap64 (x1 + x8)) + 1), 0)))
end
def varint_ReadNumber.f (k : Nat) (a0 : ByteArray) (a1 : Int) : Option (Int × Int × Int) := if a1 < 0 then (varint_ReadNumber.j0 k a0 a1 true) else (varint_ReadNumber.j0 k a0 a1 (decide (a1 > (a0.size : Int))))
theorem varint_ReadNumber.mono_l : ∀ k, (∀ y0 y1 y2, LeO (varint_ReadNumber.j0 k y0 y1 y2) (varint_ReadNumber.j0 (k + 1) y0 y1 y2)) ∧ (∀ y0 y1 y2 y3, LeO (varint_ReadNumber.l0 k y0 y1 y2 y3) (varint_ReadNumber.l0 (k + 1) y0 y1 y2 y3)) ∧ (∀ y0 y1 y2 y3 y4 y5, LeO (varint_ReadNumber.j2 k y0 y1 y2 y3 y4 y5) (varint_ReadNumber.j2 (k + 1) y0 y1 y2 y3 y4 y5)) ∧ (∀ y0 y1 y2 y3, LeO (varint_ReadNumber.j3 k y0 y1 y2 y3) (varint_ReadNumber.j3 (k + 1) y0 y1 y2 y3))
  | 0 => ⟨fun _ _ _ r h => by simp [varint_ReadNumber.j0] at h, fun _ _ _ _ r h => by simp [varint_ReadNumber.l0] at h, fun _ _ _ _ _ _ r h => by simp [varint_ReadNumber.j2] at h, fun _ _ _ _ r h => by simp [varint_ReadNumber.j3] at h⟩
  | k + 1 => by
    obtain ⟨ih0, ih1, ih2, ih3⟩ := varint_ReadNumber.mono_l k
    refine ⟨?_, ?_, ?_, ?_⟩
    · intro y0 y1 y2
      unfold varint_ReadNumber.j0
      repeat' first
      | (with_reducible exact ih0 _ _ _)
      | (with_reducible exact ih1 _ _ _ _)
      | (with_reducible exact ih2 _ _ _ _ _ _)
      | (with_reducible exact ih3 _ _ _ _)
      | (with_reducible exact LeO.refl _)
      | (with_reducible exact LeO.none _)
      | (with_reducible refine LeO.ite ?_ ?_)
      | (with_reducible refine LeO.bind ?_ (fun _ => ?_))
      | exact ih0 _ _ _
      | exact ih1 _ _ _ _
      | exact ih2 _ _ _ _ _ _
      | exact ih3 _ _ _ _
      | exact LeO.none _
      | refine LeO.ite ?_ ?_
      | refine LeO.bind ?_ (fun _ => ?_)
    · intro y0 y1 y2 y3
      unfold varint_ReadNumber.l0
      repeat' first
      | (with_reducible exact ih0 _ _ _)
      | (with_reducible exact ih1 _ _ _ _)
      | (with_reducible exact ih2 _ _ _ _ _ _)
      | (with_reducible exact ih3 _ _ _ _)
      | (with_reducible exact LeO.refl _)
      | (with_reducible exact LeO.none _)
      | (with_reducible refine LeO.ite ?_ ?_)
      | (with_reducible refine LeO.bind ?_ (fun _ => ?_))
      | exact ih0 _ _ _
      | exact ih1 _ _ _ _
      | exact ih2 _ _ _ _ _ _
      | exact ih3 _ _ _ _
      | exact LeO.none _
      | refine LeO.ite ?_ ?_
      | refine LeO.bind ?_ (fun _ => ?_)
    · intro y0 y1 y2 y3 y4 y5
      unfold varint_ReadNumber.j2
      repeat' first
      | (with_reducible exact ih0 _ _ _)
      | (with_reducible exact ih1 _ _ _ _)
      | (with_reducible exact ih2 _ _ _ _ _ _)
      | (with_reducible exact ih3 _ _ _ _)
      | (with_reducible exact LeO.refl _)
      | (with_reducible exact LeO.none _)
      | (with_reducible refine LeO.ite ?_ ?_)
      | (with_reducible refine LeO.bind ?_ (fun _ => ?_))
      | exact ih0 _ _ _
      | exact ih1 _ _ _ _
      | exact ih2 _ _ _ _ _ _
      | exact ih3 _ _ _ _
      | exact LeO.none _
      | refine LeO.ite ?_ ?_
      | refine LeO.bind ?_ (fun _ => ?_)
    · intro y0 y1 y2 y3
      unfold varint_ReadNumber.j3
      repeat' first
      | (with_reducible exact ih0 _ _ _)
      | (with_reducible exact ih1 _ _ _ _)
      | (with_reducible exact ih2 _ _ _ _ _ _)
      | (with_reducible exact ih3 _ _ _ _)
      | (with_reducible exact LeO.refl _)
      | (with_reducible exact LeO.none _)
      | (with_reducible refine LeO.ite ?_ ?_)
      | (with_reducible refine LeO.bind ?_ (fun _ => ?_))
      | exact ih0 _ _ _
      | exact ih1 _ _ _ _
      | exact ih2 _ _ _ _ _ _
      | exact ih3 _ _ _ _
      | exact LeO.none _
      | refine LeO.ite ?_ ?_
      | refine LeO.bind ?_ (fun _ => ?_)
theorem varint_ReadNumber.mono : ∀ a0 a1 k, LeO (varint_ReadNumber.f k a0 a1) (varint_ReadNumber.f (k + 1) a0 a1) := by
  intro a0 a1 k
  obtain ⟨ih0, ih1, ih2, ih3⟩ := varint_ReadNumber.mono_l k
  unfold varint_ReadNumber.f
  repeat' first
      | (with_reducible exact ih0 _ _ _)
      | (with_reducible exact ih1 _ _ _ _)
      | (with_reducible exact ih2 _ _ _ _ _ _)
      | (with_reducible exact ih3 _ _ _ _)
      | (with_reducible exact LeO.refl _)
      | (with_reducible exact LeO.none _)
      | (with_reducible refine LeO.ite ?_ ?_)
      | (with_reducible refine LeO.bind ?_ (fun _ => ?_))
      | exact ih0 _ _ _
      | exact ih1 _ _ _ _
      | exact ih2 _ _ _ _ _ _
      | exact ih3 _ _ _ _
      | exact LeO.none _
      | refine LeO.ite ?_ ?_
      | refine LeO.bind ?_ (fun _ => ?_)
set_option maxHeartbeats 8000000 in
set_option maxRecDepth 100000 in
theorem varint_ReadNumber.calls (k : Nat) (a0 : ByteArray) (a1 : Int) (r1 : Int) (r2 : Int) (r3 : Int) (w : World) (h : varint_ReadNumber.f k a0 a1 = some (r1, r2, r3)) :
    Calls Try.prog 44 #[.string a0, .int .i64 a1] w fun e w' => e = .returned (.tuple #[.int .i64 r1, .int .i64 r2, .int .i64 r3]) ∧ Drawn0 w w' := by
  have H : (if a1 < 0 then (varint_ReadNumber.j0 k a0 a1 true) else (varint_ReadNumber.j0 k a0 a1 (decide (a1 > (a0.size : Int))))) = some (r1, r2, r3) := h
  clear h
  have HC3 := Aside0.mk H
  clear H
  go_enter Try.func44, Try.ntmps44
  go_upto_region 1 with (fail)
  go_cut [18] (fun v18 wc => ∃ (kq : Nat) (x18_2 : Bool), v18 = .bool x18_2 ∧ Aside0 (varint_ReadNumber.j0 kq a0 a1 x18_2 = some (r1, r2, r3)) ∧ Aside0 (kq ≤ k) ∧ Drawn0 w wc)
  case first =>
    have H := HC3.out
    clear HC3
    by_cases c4 : a1 < 0
    · rw [if_pos c4] at H
      have c4b0 : decide (a1 < 0) = true := decide_eq_true c4
      clear c4
      (first | rw [c4b0] | (simp only [i64_w, i32_w]; rw [c4b0]) | skip)
      have H' := Aside0.mk H
      clear H
      go_wp2
      go_meet
      case rel => exact ⟨_, (true), (by first | rfl | (simp; done) | (simp [*]; done)), H', ⟨by first | omega | exact Nat.le_refl _⟩, by repeat (first | exact Drawn0.refl _ | apply Drawn0.step)⟩
    · rw [if_neg c4] at H
      have c4b0 : decide (a1 < 0) = false := decide_eq_false c4
      clear c4
      (first | rw [c4b0] | (simp only [i64_w, i32_w]; rw [c4b0]) | skip)
      have H' := Aside0.mk H
      clear H
      go_wp2
      go_meet
      case rel => exact ⟨_, (decide (a1 > (a0.size : Int))), (by first | rfl | (simp; done) | (simp [*]; done)), H', ⟨by first | omega | exact Nat.le_refl _⟩, by repeat (first | exact Drawn0.refl _ | apply Drawn0.step)⟩
  case rest =>
    clear HC3
    try clear p2
    try clear c4
    try clear c4b0
    obtain ⟨kq, x18_2, rfl, HA, HJ2, ⟨mc2, rfl⟩⟩ := hcut
    cases kq with
    | zero => exact absurd HA.out (by simp [varint_ReadNumber.j0])
    | succ kj2 =>
      have H := HA.out
      clear HA
      simp only [varint_ReadNumber.j0] at H
      by_cases c5 : x18_2 = true
      · subst c5
        have H1 : (some (0, 0, 3)) = some (r1, r2, r3) := by rw [if_pos rfl] at H; exact H
        clear H
        have H := H1
        clear H1
        simp only [Option.some.injEq, Prod.mk.injEq] at H
        obtain ⟨rfl, rfl, rfl⟩ := H
        go_wp2
        go_ret3
        exact ⟨by first | rfl | (simp; done) | (simp [*]; done), by repeat (first | exact Drawn0.refl _ | apply Drawn0.step)⟩
      · replace c5 := Bool.eq_false_iff.mpr c5
        subst c5
        have H1 : (varint_ReadNumber.l0 kj2 a0 a1 0 0) = some (r1, r2, r3) := by rw [if_neg (show ¬ (false = true) by decide)] at H; exact H
        clear H
        have H := H1
        clear H1
        have H' := Aside0.mk H
        clear H
        go_wp2
        go_loopg [7, 8] kj2 (fun kq v7 v8 w' => ∃ (x7_2 : Int) (x8_2 : Int), v7 = .int .u64 x7_2 ∧ v8 = .int .i64 x8_2 ∧ Aside0 (varint_ReadNumber.l0 kq a0 a1 x7_2 x8_2 = some (r1, r2, r3)) ∧ Aside0 (kq ≤ kj2) ∧ Drawn0 w w')
        case atStart => exact ⟨(0), (0), (by first | rfl | (simp; done) | (simp [*]; done)), (by first | rfl | (simp; done) | (simp [*]; done)), H', ⟨Nat.le_refl _⟩, by repeat (first | exact Drawn0.refl _ | apply Drawn0.step)⟩
        case round =>
          clear H'
          try clear c2
          try clear p2
          try clear c4
          try clear c4b0
          try clear c5
          try clear p2
          obtain ⟨x7_2, x8_2, rfl, rfl, HA, HK2, ⟨m2, rfl⟩⟩ := hrel
          cases gk with
          | zero => exact absurd HA.out (by simp [varint_ReadNumber.l0])
          | succ k2 =>
            have H := HA.out
            clear HA
            simp only [varint_ReadNumber.l0] at H
            by_cases c6 : (wrap64 (a1 + x8_2)) < (a0.size : Int)
            · rw [if_pos c6] at H
              have c6b0 : decide ((wrap64 (a1 + x8_2)) < (a0.size : Int)) = true := decide_eq_true c6
              clear c6
              obtain ⟨ji7, hji7⟩ : ∃ j_ : Int, (wrap64 (a1 + x8_2)) = j_ := ⟨_, rfl⟩
              replace H : (if 0 ≤ (ji7) then (if x8_2 = 9 then (varint_ReadNumber.j2 k2 a0 a1 x7_2 x8_2 (bt a0 (ji7)) (decide ((bt a0 (ji7)) > 1))) else (varint_ReadNumber.j2 k2 a0 a1 x7_2 x8_2 (bt a0 (ji7)) false)) else (none)) = some (r1, r2, r3) := by first | (rw [hji7] at H; exact H) | (simp only [hji7] at H ⊢; exact H)
              (try rw [hji7] at c6b0)
              have hji7w : (IntKind.i64.wrap (a1 + x8_2)) = ji7 := (i64_w _).trans hji7
              by_cases c8 : 0 ≤ (ji7)
              · rw [if_pos c8] at H
                have c8b0 : decide (0 ≤ (ji7)) = true := decide_eq_true c8
                clear c8
                have HC10 := Aside0.mk H
                clear H
                have p9 : 0 ≤ ((ji7) : Int) := of_decide_eq_true (by first | (with_reducible assumption) | assumption)
                have q9 : (ji7) < (a0.size : Int) := of_decide_eq_true (by first | (with_reducible assumption) | assumption)
                have hx9 := bt_at a0 (ji7)
                replace p9 := eq_true p9
                replace q9 := eq_true q9
                go_upto_region 8 with (fail)
                go_cut [37] (fun v37 wc => ∃ (kq : Nat) (x37_9 : Bool), v37 = .bool x37_9 ∧ Aside0 (varint_ReadNumber.j2 kq a0 a1 x7_2 x8_2 (bt a0 (ji7)) x37_9 = some (r1, r2, r3)) ∧ Aside0 (kq ≤ k2) ∧ Drawn0 w wc)
                case first =>
                  have H := HC10.out
                  clear HC10
                  by_cases c11 : x8_2 = 9
                  · rw [if_pos c11] at H
                    have c11b0 : (x8_2 == 9) = true := beq_iff_eq.mpr c11
                    have c11b1 : (x8_2 != 9) = false := bne_eq_false_iff_eq.mpr c11
                    clear c11
                    (first | rw [c11b0] | (simp only [i64_w, i32_w]; rw [c11b0]) | skip)
                    have H' := Aside0.mk H
                    clear H
                    go_wp2
                    go_meet
                    case rel => exact ⟨_, (decide ((bt a0 (ji7)) > 1)), (by first | rfl | (simp; done) | (simp only [← hji7] <;> (first | rfl | simp)) | (simp [*]; done)), H', ⟨by have := HJ2.out; have := HK2.out; first | omega | exact Nat.le_refl _⟩, by repeat (first | exact Drawn0.refl _ | apply Drawn0.step)⟩
                  · rw [if_neg c11] at H
                    have c11b0 : (x8_2 == 9) = false := beq_eq_false_iff_ne.mpr c11
                    have c11b1 : (x8_2 != 9) = true := bne_iff_ne.mpr c11
                    (first | rw [c11b0] | (simp only [i64_w, i32_w]; rw [c11b0]) | skip)
                    have H' := Aside0.mk H
                    clear H
                    go_wp2
                    go_meet
                    case rel => exact ⟨_, (false), (by first | rfl | (simp; done) | (simp [*]; done)), H', ⟨by have := HJ2.out; have := HK2.out; first | omega | exact Nat.le_refl _⟩, by repeat (first | exact Drawn0.refl _ | apply Drawn0.step)⟩
                case rest =>
                  clear HC10
                  try clear c1
                  try clear c2
                  try clear p2
                  try clear c4
                  try clear c4b0
                  try clear c5
                  try clear c6
                  try clear c6b0
                  try clear p6
                  try clear c8
                  try clear c8b0
                  try clear p9
                  try clear q9
                  try clear hx9
                  try clear c11
                  try clear c11b0
                  try clear c11b1
                  try clear p2
                  try clear p9
                  try clear q9
                  obtain ⟨kq, x37_9, rfl, HA, HJ9, ⟨mc9, rfl⟩⟩ := hcut
                  cases kq with
                  | zero => exact absurd HA.out (by simp [varint_ReadNumber.j2])
                  | succ kj9 =>
                    have H := HA.out
                    clear HA
                    simp only [varint_ReadNumber.j2] at H
                    by_cases c12 : x37_9 = true
                    · subst c12
                      have H1 : (some (0, 0, 6)) = some (r1, r2, r3) := by rw [if_pos rfl] at H; exact H
                      clear H
                      have H := H1
                      clear H1
                      simp only [Option.some.injEq, Prod.mk.injEq] at H
                      obtain ⟨rfl, rfl, rfl⟩ := H
                      go_wp2
                      go_ret3
                      exact ⟨by first | rfl | (simp; done) | (simp only [← hji7] <;> (first | rfl | simp)) | (simp [*]; done), by repeat (first | exact Drawn0.refl _ | apply Drawn0.step)⟩
                    · replace c12 := Bool.eq_false_iff.mpr c12
                      subst c12
                      have H1 : (if 0 ≤ (wrap64 (7 * x8_2)) then (if (bt a0 (ji7)) ≥ 128 then (varint_ReadNumber.l0 kj9 a0 a1 (Go.bits .or .u64 x7_2 (shl .u64 (IntKind.u64.wrap (Go.bits .and .u8 (bt a0 (ji7)) 127)) (wrap64 (7 * x8_2)))) (wrap64 (x8_2 + 1))) else (if (bt a0 (ji7)) = 0 then (varint_ReadNumber.j3 kj9 a1 (Go.bits .or .u64 x7_2 (shl .u64 (IntKind.u64.wrap (Go.bits .and .u8 (bt a0 (ji7)) 127)) (wrap64 (7 * x8_2)))) x8_2 (decide (x8_2 > 0))) else (varint_ReadNumber.j3 kj9 a1 (Go.bits .or .u64 x7_2 (shl .u64 (IntKind.u64.wrap (Go.bits .and .u8 (bt a0 (ji7)) 127)) (wrap64 (7 * x8_2)))) x8_2 false))) else (none)) = some (r1, r2, r3) := by rw [if_neg (show ¬ (false = true) by decide)] at H; exact H
                      clear H
                      have H := H1
                      clear H1
                      obtain ⟨ji13, hji13⟩ : ∃ j_ : Int, (wrap64 (7 * x8_2)) = j_ := ⟨_, rfl⟩
                      replace H : (if 0 ≤ (ji13) then (if (bt a0 (ji7)) ≥ 128 then (varint_ReadNumber.l0 kj9 a0 a1 (Go.bits .or .u64 x7_2 (shl .u64 (IntKind.u64.wrap (Go.bits .and .u8 (bt a0 (ji7)) 127)) (ji13))) (wrap64 (x8_2 + 1))) else (if (bt a0 (ji7)) = 0 then (varint_ReadNumber.j3 kj9 a1 (Go.bits .or .u64 x7_2 (shl .u64 (IntKind.u64.wrap (Go.bits .and .u8 (bt a0 (ji7)) 127)) (ji13))) x8_2 (decide (x8_2 > 0))) else (varint_ReadNumber.j3 kj9 a1 (Go.bits .or .u64 x7_2 (shl .u64 (IntKind.u64.wrap (Go.bits .and .u8 (bt a0 (ji7)) 127)) (ji13))) x8_2 false))) else (none)) = some (r1, r2, r3) := by first | (rw [hji13] at H; exact H) | (simp only [hji13] at H ⊢; exact H)
                      have hji13w : (IntKind.i64.wrap (7 * x8_2)) = ji13 := (i64_w _).trans hji13
                      by_cases c14 : 0 ≤ (ji13)
                      · rw [if_pos c14] at H
                        have c14b0 := eq_true c14
                        have c14b1 : decide (0 ≤ (ji13)) = true := decide_eq_true c14
                        clear c14
                        obtain ⟨ji15, hji15⟩ : ∃ j_ : Int, (shl .u64 (IntKind.u64.wrap (Go.bits .and .u8 (bt a0 (ji7)) 127)) (ji13)) = j_ := ⟨_, rfl⟩
                        replace H : (if (bt a0 (ji7)) ≥ 128 then (varint_ReadNumber.l0 kj9 a0 a1 (Go.bits .or .u64 x7_2 (ji15)) (wrap64 (x8_2 + 1))) else (if (bt a0 (ji7)) = 0 then (varint_ReadNumber.j3 kj9 a1 (Go.bits .or .u64 x7_2 (ji15)) x8_2 (decide (x8_2 > 0))) else (varint_ReadNumber.j3 kj9 a1 (Go.bits .or .u64 x7_2 (ji15)) x8_2 false))) = some (r1, r2, r3) := by first | (rw [hji15] at H; exact H) | (simp only [hji15] at H ⊢; exact H)
                        have hji15_ : (IntKind.u64.wrap ((IntKind.u64.wrap (Go.bits .and .u8 (bt a0 (ji7)) 127)) * 2 ^ min (ji13).toNat 64)) = ji15 := hji15
                        have hji15z : (ji13) ≤ 64 → (IntKind.u64.wrap ((IntKind.u64.wrap (Go.bits .and .u8 (bt a0 (ji7)) 127)) * 2 ^ (ji13).toNat)) = ji15 := shl_small hji15
                        by_cases c16 : (bt a0 (ji7)) ≥ 128
                        · rw [if_pos c16] at H
                          have c16b0 : decide (128 ≤ (bt a0 (ji7))) = true := decide_eq_true c16
                          clear c16
                          have H' := Aside0.mk H
                          clear H
                          go_wp2
                          go_roundg kj9
                          case measure => have := HJ2.out; have := HK2.out; have := HJ9.out; omega
                          case rel => exact ⟨(Go.bits .or .u64 x7_2 (ji15)), (wrap64 (x8_2 + 1)), (by first | rfl | (simp; done) | (simp only [← hji15] <;> (first | rfl | simp)) | (simp [*]; done)), (by first | rfl | (simp; done) | (simp [*]; done)), H', ⟨by have := HJ2.out; have := HK2.out; have := HJ9.out; omega⟩, by repeat (first | exact Drawn0.refl _ | apply Drawn0.step)⟩
                        · rw [if_neg c16] at H
                          have c16b0 : decide (128 ≤ (bt a0 (ji7))) = false := decide_eq_false c16
                          clear c16
                          have HC17 := Aside0.mk H
                          clear H
                          go_upto_region 12 with (fail)
                          go_cut [53] (fun v53 wc => ∃ (kq : Nat) (x53_16 : Bool), v53 = .bool x53_16 ∧ Aside0 (varint_ReadNumber.j3 kq a1 (Go.bits .or .u64 x7_2 (ji15)) x8_2 x53_16 = some (r1, r2, r3)) ∧ Aside0 (kq ≤ kj9) ∧ Drawn0 w wc)
                          case first =>
                            have H := HC17.out
                            clear HC17
                            by_cases c18 : (bt a0 (ji7)) = 0
                            · rw [if_pos c18] at H
                              have c18b0 : ((bt a0 (ji7)) == 0) = true := beq_iff_eq.mpr c18
                              have c18b1 : ((bt a0 (ji7)) != 0) = false := bne_eq_false_iff_eq.mpr c18
                              clear c18
                              (first | rw [c18b0] | (simp only [i64_w, i32_w]; rw [c18b0]) | skip)
                              have H' := Aside0.mk H
                              clear H
                              go_wp2
                              go_meet
                              case rel => exact ⟨_, (decide (x8_2 > 0)), (by first | rfl | (simp; done) | (simp [*]; done)), H', ⟨by have := HJ2.out; have := HK2.out; have := HJ9.out; first | omega | exact Nat.le_refl _⟩, by repeat (first | exact Drawn0.refl _ | apply Drawn0.step)⟩
                            · rw [if_neg c18] at H
                              have c18b0 : ((bt a0 (ji7)) == 0) = false := beq_eq_false_iff_ne.mpr c18
                              have c18b1 : ((bt a0 (ji7)) != 0) = true := bne_iff_ne.mpr c18
                              (first | rw [c18b0] | (simp only [i64_w, i32_w]; rw [c18b0]) | skip)
                              have H' := Aside0.mk H
                              clear H
                              go_wp2
                              go_meet
                              case rel => exact ⟨_, (false), (by first | rfl | (simp; done) | (simp [*]; done)), H', ⟨by have := HJ2.out; have := HK2.out; have := HJ9.out; first | omega | exact Nat.le_refl _⟩, by repeat (first | exact Drawn0.refl _ | apply Drawn0.step)⟩
                          case rest =>
                            clear HC17
                            try clear c1
                            try clear c2
                            try clear p2
                            try clear c4
                            try clear c4b0
                            try clear c5
                            try clear c6
                            try clear c6b0
                            try clear p6
                            try clear c8
                            try clear c8b0
                            try clear c9
                            try clear p9
                            try clear q9
                            try clear hx9
                            try clear c11
                            try clear c11b0
                            try clear c11b1
                            try clear c12
                            try clear c14
                            try clear c14b0
                            try clear c14b1
                            try clear c16
                            try clear c16b0
                            try clear c18
                            try clear c18b0
                            try clear c18b1
                            try clear p2
                            try clear p6
                            try clear p9
                            try clear q9
                            obtain ⟨kq, x53_16, rfl, HA, HJ16, ⟨mc16, rfl⟩⟩ := hcut
                            cases kq with
                            | zero => exact absurd HA.out (by simp [varint_ReadNumber.j3])
                            | succ kj16 =>
                              have H := HA.out
                              clear HA
                              simp only [varint_ReadNumber.j3] at H
                              by_cases c19 : x53_16 = true
                              · subst c19
                                have H1 : (some (0, 0, 6)) = some (r1, r2, r3) := by rw [if_pos rfl] at H; exact H
                                clear H
                                have H := H1
                                clear H1
                                simp only [Option.some.injEq, Prod.mk.injEq] at H
                                obtain ⟨rfl, rfl, rfl⟩ := H
                                go_wp2
                                go_ret3
                                exact ⟨by first | rfl | (simp; done) | (simp only [← hji7, ← hji13, ← hji15] <;> (first | rfl | simp)) | (simp [*]; done), by repeat (first | exact Drawn0.refl _ | apply Drawn0.step)⟩
                              · replace c19 := Bool.eq_false_iff.mpr c19
                                subst c19
                                have H1 : (if (Go.bits .and .u64 (Go.bits .or .u64 x7_2 (ji15)) 1) = 1 then (some (Go.bits .xor .i64 (-1) (wrap64 ((Go.bits .or .u64 x7_2 (ji15)) / 2)), wrap64 ((wrap64 (a1 + x8_2)) + 1), 0)) else (some (wrap64 ((Go.bits .or .u64 x7_2 (ji15)) / 2), wrap64 ((wrap64 (a1 + x8_2)) + 1), 0))) = some (r1, r2, r3) := by rw [if_neg (show ¬ (false = true) by decide)] at H; exact H
                                clear H
                                have H := H1
                                clear H1
                                by_cases c20 : (Go.bits .and .u64 (Go.bits .or .u64 x7_2 (ji15)) 1) = 1
                                · rw [if_pos c20] at H
                                  have c20b0 : ((Go.bits .and .u64 (Go.bits .or .u64 x7_2 (ji15)) 1) == 1) = true := beq_iff_eq.mpr c20
                                  have c20b1 : ((Go.bits .and .u64 (Go.bits .or .u64 x7_2 (ji15)) 1) != 1) = false := bne_eq_false_iff_eq.mpr c20
                                  clear c20
                                  simp only [Option.some.injEq, Prod.mk.injEq] at H
                                  obtain ⟨rfl, rfl, rfl⟩ := H
                                  go_wp2
                                  go_ret3
                                  exact ⟨by first | rfl | (simp; done) | (simp only [← hji7, ← hji13, ← hji15] <;> (first | rfl | simp)) | (simp [*]; done), by repeat (first | exact Drawn0.refl _ | apply Drawn0.step)⟩
                                · rw [if_neg c20] at H
                                  have c20b0 : ((Go.bits .and .u64 (Go.bits .or .u64 x7_2 (ji15)) 1) == 1) = false := beq_eq_false_iff_ne.mpr c20
                                  have c20b1 : ((Go.bits .and .u64 (Go.bits .or .u64 x7_2 (ji15)) 1) != 1) = true := bne_iff_ne.mpr c20
                                  simp only [Option.some.injEq, Prod.mk.injEq] at H
                                  obtain ⟨rfl, rfl, rfl⟩ := H
                                  go_wp2
                                  go_ret3
                                  exact ⟨by first | rfl | (simp; done) | (simp only [← hji7, ← hji13, ← hji15] <;> (first | rfl | simp)) | (simp [*]; done), by repeat (first | exact Drawn0.refl _ | apply Drawn0.step)⟩
                      · rw [if_neg c14] at H
                        exact absurd H (by simp)
              · rw [if_neg c8] at H
                exact absurd H (by simp)
            · rw [if_neg c6] at H
              have c6b0 : decide ((wrap64 (a1 + x8_2)) < (a0.size : Int)) = false := decide_eq_false c6
              clear c6
              simp only [Option.some.injEq, Prod.mk.injEq] at H
              obtain ⟨rfl, rfl, rfl⟩ := H
              go_wp2
              go_ret3
              exact ⟨by first | rfl | (simp; done) | (simp [*]; done), by repeat (first | exact Drawn0.refl _ | apply Drawn0.step)⟩

end Go.Proofs.Ytfmlamnkpoloaaa.Q

-- By px.py, a program of this session that drives the kit's printer: laid out of the translation; Lean checks it.
namespace Go.Proofs.Ytfmlamnkpoloaaa.Q
open Go.RowKit Go.Proofs.YtfmlamnkpoloaaaW.PrintWords Go.Proofs.YtfmlamnkpoloaaaW.PrintLast Go.Proofs.YtfmlamnkpoloaaaW.PrintMore
attribute [local go_sem] max2_int min2_int max_two min_two max_three min_three max_four min_four   -- for this text's walks alone
set_option linter.unusedVariables false
set_option linter.unusedSimpArgs false

/-- A state of type 94 at block g of W; what its slices lead to came in by w0. -/
def IsS94 (w0 W : World) (g : Nat) (f0 : ByteArray) (f1 : Int) (f2 : Int) : Prop := W.heap[g]? = some (.cells #[.string f0, .int .i64 f1, .int .i64 f2] 94 (0, 0)) ∧ w0.heap.size ≤ g
theorem IsS94.grown {w0 W : World} {g : Nat} {f0 : ByteArray} {f1 : Int} {f2 : Int} {W1 : World} {row : Option Nat} (h : IsS94 w0 W g f0 f1 f2) (hw : W.grownBy W1 row) (hne : some g ≠ row) : IsS94 w0 W1 g f0 f1 f2 := by
  obtain ⟨hb, hg⟩ := h
  exact ⟨blk_grown hb hw hne, hg⟩
theorem IsS94.own_neN {w0 W : World} {g : Nat} {f0 : ByteArray} {f1 : Int} {f2 : Int} {α : Type} {d : Kd α} {e : Nat} {base : Nat} {ok : Nat → Prop} {v : Value} {xs : List α} (h : IsS94 w0 W g f0 f1 f2) (ho : Kd.N d e W base ok v xs) (ht : e ≠ 94) : some g ≠ v.ownBlock := by
  obtain ⟨hb, hg⟩ := h
  exact Kd.N_ne ho hb ht
theorem IsS94.fresh {w0 W : World} {g : Nat} {f0 : ByteArray} {f1 : Int} {f2 : Int} (h : IsS94 w0 W g f0 f1 f2) : ∀ k, W.heap.size ≤ k → k ≠ g := by
  obtain ⟨hb, hg⟩ := h
  exact Kd.freshB hb
theorem IsS94.kept {w0 W : World} {g : Nat} {f0 : ByteArray} {f1 : Int} {f2 : Int} {W1 : World} {S : Nat → Prop} (h : IsS94 w0 W g f0 f1 f2) (hk : Kept W W1 S) (hne : ¬ S g) : IsS94 w0 W1 g f0 f1 f2 := by
  obtain ⟨hb, hg⟩ := h
  exact ⟨blk_kept hb hk hne, hg⟩
theorem IsS94.below {w0 W : World} {g : Nat} {f0 : ByteArray} {f1 : Int} {f2 : Int} {W1 : World} (h : IsS94 w0 W g f0 f1 f2) (hw : Below W.heap.size W W1) : IsS94 w0 W1 g f0 f1 f2 := h.grown (grown_of_below hw none) (by simp)
theorem IsS94.alloc {w0 W : World} {g : Nat} {f0 : ByteArray} {f1 : Int} {f2 : Int} (h : IsS94 w0 W g f0 f1 f2) (o : Obj) : IsS94 w0 (W.alloc o) g f0 f1 f2 := h.below (below_alloc (Below.refl _ _) o)
theorem IsS94.drewN {w0 W : World} {g : Nat} {f0 : ByteArray} {f1 : Int} {f2 : Int} (h : IsS94 w0 W g f0 f1 f2) (m : Nat) : IsS94 w0 (W.drewN m) g f0 f1 f2 := h
theorem IsS94.drew {w0 W : World} {g : Nat} {f0 : ByteArray} {f1 : Int} {f2 : Int} (h : IsS94 w0 W g f0 f1 f2) : IsS94 w0 W.drew g f0 f1 f2 := h
theorem IsS94.at_ {w0 W : World} {g : Nat} {f0 : ByteArray} {f1 : Int} {f2 : Int} {w' : World} {m : Nat} (hq : W.drewN m = w') (h : IsS94 w0 W g f0 f1 f2) : IsS94 w0 w' g f0 f1 f2 := by subst hq; exact IsS94.drewN h m
theorem IsS94.apart {w0 W : World} {g : Nat} {f0 : ByteArray} {f1 : Int} {f2 : Int} {α : Type} {d : Kd α} {e : Nat} {base : Nat} {ok : Nat → Prop} {v : Value} {xs : List α} (h : IsS94 w0 W g f0 f1 f2) (ho : d.R e W base ok v xs) (ht : ∀ q, q ∈ e :: d.E → q ≠ 94) : d.R e W base (fun k => ok k ∧ k ≠ g) v xs := by
  obtain ⟨hb, hg⟩ := h
  exact Kd.R_types ho hb ht
theorem IsS94.own_ne {w0 W : World} {g : Nat} {f0 : ByteArray} {f1 : Int} {f2 : Int} {α : Type} {d : Kd α} {e : Nat} {base : Nat} {ok : Nat → Prop} {v : Value} {xs : List α} (h : IsS94 w0 W g f0 f1 f2) (ho : d.R e W base ok v xs) (ht : e ≠ 94) : some g ≠ v.ownBlock := by
  obtain ⟨hb, hg⟩ := h
  exact Kd.R_ne ho hb ht
theorem IsS94.apartQ {w0 W : World} {g : Nat} {f0 : ByteArray} {f1 : Int} {f2 : Int} {α : Type} {d : Kd α} {e : Nat} {base : Nat} {ok : Nat → Prop} {v : Value} {xs : List α} (h : IsS94 w0 W g f0 f1 f2) (ho : d.Q e W base ok v xs) (ht : ∀ q, q ∈ e :: d.E → q ≠ 94) : d.Q e W base (fun k => ok k ∧ k ≠ g) v xs := by
  obtain ⟨hb, hg⟩ := h
  exact Kd.Q_types ho hb ht
theorem IsS94.own_neQ {w0 W : World} {g : Nat} {f0 : ByteArray} {f1 : Int} {f2 : Int} {α : Type} {d : Kd α} {e : Nat} {base : Nat} {ok : Nat → Prop} {v : Value} {xs : List α} (h : IsS94 w0 W g f0 f1 f2) (ho : d.Q e W base ok v xs) (ht : e ≠ 94) : some g ≠ v.ownBlock := by
  obtain ⟨hb, hg⟩ := h
  exact Kd.Q_ne ho hb ht
theorem IsS94.apartS {w0 W : World} {g : Nat} {f0 : ByteArray} {f1 : Int} {f2 : Int} {α : Type} {d : Kd α} {e : Nat} {base : Nat} {ok : Nat → Prop} {v : Value} {xs : List α} (h : IsS94 w0 W g f0 f1 f2) (ho : d.S e W base ok v xs) (ht : ∀ q, q ∈ e :: d.E → q ≠ 94) : d.S e W base (fun k => ok k ∧ k ≠ g) v xs := by
  obtain ⟨hb, hg⟩ := h
  exact Kd.S_types ho hb ht
theorem IsS94.own_neS {w0 W : World} {g : Nat} {f0 : ByteArray} {f1 : Int} {f2 : Int} {α : Type} {d : Kd α} {e : Nat} {base : Nat} {ok : Nat → Prop} {v : Value} {xs : List α} (h : IsS94 w0 W g f0 f1 f2) (ho : d.S e W base ok v xs) (ht : e ≠ 94) : some g ≠ v.ownBlock := by
  obtain ⟨hb, hg⟩ := h
  exact Kd.S_ne ho hb ht
theorem IsS94.lt {w0 W : World} {g : Nat} {f0 : ByteArray} {f1 : Int} {f2 : Int} (h : IsS94 w0 W g f0 f1 f2) : g < W.heap.size := by
  obtain ⟨hb, hg⟩ := h
  exact blk_lt hb
theorem IsS94.ge {w0 W : World} {g : Nat} {f0 : ByteArray} {f1 : Int} {f2 : Int} (h : IsS94 w0 W g f0 f1 f2) : w0.heap.size ≤ g := by
  obtain ⟨hb, hg⟩ := h
  exact hg
theorem IsS94.ne_blk {w0 W : World} {g : Nat} {f0 : ByteArray} {f1 : Int} {f2 : Int} {a : Nat} {cs : Array Value} {t : TypeId} {fr : Nat × Nat} (h : IsS94 w0 W g f0 f1 f2) (hb2 : W.heap[a]? = some (.cells cs t fr)) (ht : t ≠ 94) : g ≠ a := by
  obtain ⟨hb, hg⟩ := h
  rintro rfl
  rw [hb] at hb2
  injection hb2 with hb2
  injection hb2 with _ ht2
  exact ht ht2.symm
theorem IsS94.far {w0 W : World} {g : Nat} {f0 : ByteArray} {f1 : Int} {f2 : Int} {p : Addr} (h : IsS94 w0 W g f0 f1 f2) (hne : g ≠ p.block) (u : Value) : IsS94 w0 (W.setCell p u) g f0 f1 f2 := by
  obtain ⟨hb, hg⟩ := h
  exact ⟨blk_far hb hne u, hg⟩
theorem cellS94_0 {W : World} {g : Nat} {f0 : ByteArray} {f1 : Int} {f2 : Int} (h : W.heap[g]? = some (.cells #[.string f0, .int .i64 f1, .int .i64 f2] 94 (0, 0))) : W.cell? ⟨g, 0, none⟩ = some (.string f0) := (blk_cell h 0).trans rfl
theorem IsS94.set_0 {w0 W : World} {g : Nat} {f0 : ByteArray} {f1 : Int} {f2 : Int} (h : IsS94 w0 W g f0 f1 f2) (x : ByteArray) : IsS94 w0 (W.setCell ⟨g, 0, none⟩ (.string x)) g x f1 f2 := by
  obtain ⟨hb, hg⟩ := h
  exact ⟨by simpa using blk_set hb 0 (.string x), hg⟩
theorem cellS94_1 {W : World} {g : Nat} {f0 : ByteArray} {f1 : Int} {f2 : Int} (h : W.heap[g]? = some (.cells #[.string f0, .int .i64 f1, .int .i64 f2] 94 (0, 0))) : W.cell? ⟨g, 1, none⟩ = some (.int .i64 f1) := (blk_cell h 1).trans rfl
theorem IsS94.set_1 {w0 W : World} {g : Nat} {f0 : ByteArray} {f1 : Int} {f2 : Int} (h : IsS94 w0 W g f0 f1 f2) (x : Int) : IsS94 w0 (W.setCell ⟨g, 1, none⟩ (.int .i64 x)) g f0 x f2 := by
  obtain ⟨hb, hg⟩ := h
  exact ⟨by simpa using blk_set hb 1 (.int .i64 x), hg⟩
theorem cellS94_2 {W : World} {g : Nat} {f0 : ByteArray} {f1 : Int} {f2 : Int} (h : W.heap[g]? = some (.cells #[.string f0, .int .i64 f1, .int .i64 f2] 94 (0, 0))) : W.cell? ⟨g, 2, none⟩ = some (.int .i64 f2) := (blk_cell h 2).trans rfl
theorem IsS94.set_2 {w0 W : World} {g : Nat} {f0 : ByteArray} {f1 : Int} {f2 : Int} (h : IsS94 w0 W g f0 f1 f2) (x : Int) : IsS94 w0 (W.setCell ⟨g, 2, none⟩ (.int .i64 x)) g f0 f1 x := by
  obtain ⟨hb, hg⟩ := h
  exact ⟨by simpa using blk_set hb 2 (.int .i64 x), hg⟩
theorem IsS94.new (w0 W : World) (f0 : ByteArray) (f1 : Int) (f2 : Int) (hB : Below w0.heap.size w0 W) : IsS94 w0 (W.alloc (.cells #[.string f0, .int .i64 f1, .int .i64 f2] 94)) W.heap.size f0 f1 f2 := ⟨by simpa using heap_alloc_new W _, hB.size⟩

/-! ### codec_reader_number: function 52 -/
def codec_reader_number.f (k : Nat) (s0_0 : ByteArray) (s0_1 : Int) (s0_2 : Int) : Option (Int × ByteArray × Int × Int) := if s0_2 = 0 then ((varint_ReadNumber.f k s0_0 s0_1).bind fun bt200 => (some (bt200.1, s0_0, bt200.2.1, bt200.2.2))) else (some (0, s0_0, s0_1, s0_2))
theorem codec_reader_number.mono : ∀ a0 a1 a2 k, LeO (codec_reader_number.f k a0 a1 a2) (codec_reader_number.f (k + 1) a0 a1 a2) := by
  intro a0 a1 a2 k
  unfold codec_reader_number.f
  repeat' first
      | (with_reducible exact varint_ReadNumber.mono _ _ _)
      | (with_reducible exact LeO.refl _)
      | (with_reducible exact LeO.none _)
      | (with_reducible refine LeO.ite ?_ ?_)
      | (with_reducible refine LeO.bind ?_ (fun _ => ?_))
      | exact varint_ReadNumber.mono _ _ _
      | exact LeO.none _
      | refine LeO.ite ?_ ?_
      | refine LeO.bind ?_ (fun _ => ?_)
set_option maxHeartbeats 8000000 in
set_option maxRecDepth 100000 in
theorem codec_reader_number.calls (k : Nat) (g : Nat) (s0_0 : ByteArray) (s0_1 : Int) (s0_2 : Int) (r1 : Int) (r2 : ByteArray) (r3 : Int) (r4 : Int) (w0 w : World) (hI : IsS94 w0 w g s0_0 s0_1 s0_2) (hB : Below w0.heap.size w0 w) (h : codec_reader_number.f k s0_0 s0_1 s0_2 = some (r1, r2, r3, r4)) :
    Calls Try.prog 52 #[.pointer (some ⟨g, 0, none⟩)] w fun e w' => e = .returned (.int .i64 r1) ∧ IsS94 w0 w' g r2 r3 r4 ∧ Below w0.heap.size w0 w' ∧ KeepBut w w' g none := by
  have HI0 := Aside0.mk hI
  have HK := Aside0.mk (KeepBut.refl w g none)
  have HL := Aside0.mk hB.size
  clear hI
  have HW0 := Aside0.mk hB.size
  have HB := Aside0.mk hB
  clear hB
  have H : (if s0_2 = 0 then ((varint_ReadNumber.f k s0_0 s0_1).bind fun bt200 => (some (bt200.1, s0_0, bt200.2.1, bt200.2.2))) else (some (0, s0_0, s0_1, s0_2))) = some (r1, r2, r3, r4) := h
  clear h
  by_cases c2 : s0_2 = 0
  · rw [if_pos c2] at H
    have c2b0 : (s0_2 == 0) = true := beq_iff_eq.mpr c2
    have c2b1 : (s0_2 != 0) = false := bne_eq_false_iff_eq.mpr c2
    clear c2
    replace H := Option.bind_eq_some_iff.mp H
    obtain ⟨⟨t200, t201, t202⟩, A30, H⟩ := H
    replace H : (some (t200, s0_0, t201, t202)) = some (r1, r2, r3, r4) := H
    have A3 := Aside0.mk A30
    clear A30
    simp only [Option.some.injEq, Prod.mk.injEq] at H
    obtain ⟨rfl, rfl, rfl, rfl⟩ := H
    obtain ⟨HGz4, hgz4⟩ := HI0.out
    have hcz4_0 := cellS94_0 HGz4
    have hcz4_1 := cellS94_1 HGz4
    have hcz4_2 := cellS94_2 HGz4
    have hfz4_0 := blk_frozen HGz4 0
    have hfz4_1 := blk_frozen HGz4 1
    have hfz4_2 := blk_frozen HGz4 2
    clear HGz4 hgz4
    go_enter Try.func52, Try.ntmps52
    go_wp2_with (first | (go_at_call 44; (with_reducible refine (varint_ReadNumber.calls k s0_0 s0_1 t200 t201 t202 _ A3.out).mono ?_); rintro e w' ⟨rfl, ⟨nd, rfl⟩⟩; (try first | exact ⟨rfl, _, World.drewN_drewN _ _ _⟩ | exact ⟨rfl, _, Eq.trans (World.drewN_drewN _ _ _) (congrArg (World.drewN _) (Nat.add_assoc _ _ _))⟩)))
    repeat (go_quiet (first | (go_at_call 44; (with_reducible refine (varint_ReadNumber.calls k s0_0 s0_1 t200 t201 t202 _ A3.out).mono ?_); rintro e w' ⟨rfl, ⟨nd, rfl⟩⟩; (try first | exact ⟨rfl, _, World.drewN_drewN _ _ _⟩ | exact ⟨rfl, _, Eq.trans (World.drewN_drewN _ _ _) (congrArg (World.drewN _) (Nat.add_assoc _ _ _))⟩))); try go_wp2_with (first | (go_at_call 44; (with_reducible refine (varint_ReadNumber.calls k s0_0 s0_1 t200 t201 t202 _ A3.out).mono ?_); rintro e w' ⟨rfl, ⟨nd, rfl⟩⟩; (try first | exact ⟨rfl, _, World.drewN_drewN _ _ _⟩ | exact ⟨rfl, _, Eq.trans (World.drewN_drewN _ _ _) (congrArg (World.drewN _) (Nat.add_assoc _ _ _))⟩))))
    go_ret
    exact ⟨by first | rfl | (simp [errW_none, errW_some] <;> rfl) | (simp [*, errW_none, errW_some] <;> rfl), by repeat (first | (with_reducible first | exact HI0.out | apply IsS94.alloc | apply IsS94.drewN | apply IsS94.drew | apply IsS94.set_0 | apply IsS94.set_1 | apply IsS94.set_2) | exact HI0.out), by repeat (first | (with_reducible first | exact HB.out | apply below_alloc | apply pw_below_drewN | apply below_drew1 | refine below_set ?_ (IsS94.ge HI0.out)) | exact HB.out), by repeat (first | (with_reducible first | exact HK.out | apply KeepBut.set_ | apply keep_drewN | apply keep_drew | apply keep_alloc) | exact HK.out)⟩
  · rw [if_neg c2] at H
    have c2b0 : (s0_2 == 0) = false := beq_eq_false_iff_ne.mpr c2
    have c2b1 : (s0_2 != 0) = true := bne_iff_ne.mpr c2
    simp only [Option.some.injEq, Prod.mk.injEq] at H
    obtain ⟨rfl, rfl, rfl, rfl⟩ := H
    obtain ⟨HGz5, hgz5⟩ := HI0.out
    have hcz5_0 := cellS94_0 HGz5
    have hcz5_1 := cellS94_1 HGz5
    have hcz5_2 := cellS94_2 HGz5
    have hfz5_0 := blk_frozen HGz5 0
    have hfz5_1 := blk_frozen HGz5 1
    have hfz5_2 := blk_frozen HGz5 2
    clear HGz5 hgz5
    go_enter Try.func52, Try.ntmps52
    go_wp2
    repeat (go_quiet (fail); try go_wp2)
    go_ret
    exact ⟨by first | rfl | (simp [errW_none, errW_some] <;> rfl) | (simp [*, errW_none, errW_some] <;> rfl), by repeat (first | (with_reducible first | exact HI0.out | apply IsS94.alloc | apply IsS94.drewN | apply IsS94.drew | apply IsS94.set_0 | apply IsS94.set_1 | apply IsS94.set_2) | exact HI0.out), by repeat (first | (with_reducible first | exact HB.out | apply below_alloc | apply pw_below_drewN | apply below_drew1 | refine below_set ?_ (IsS94.ge HI0.out)) | exact HB.out), by repeat (first | (with_reducible first | exact HK.out | apply KeepBut.set_ | apply keep_drewN | apply keep_drew | apply keep_alloc) | exact HK.out)⟩

end Go.Proofs.Ytfmlamnkpoloaaa.Q

/- The contract of codec.end at a list (verdicts): what was read, if it may be. -/
namespace Go.Proofs.Ytfmlamnkpoloaaa.Q
open Go.RowKit Go.Proofs.YtfmlamnkpoloaaaW.PrintWords Go.Proofs.YtfmlamnkpoloaaaW.PrintLast Go.Proofs.YtfmlamnkpoloaaaW.PrintMore
set_option linter.unusedVariables false
set_option linter.unusedSimpArgs false

set_option maxHeartbeats 8000000 in
set_option maxRecDepth 100000 in
theorem end_verdicts_err (k g : Nat) (s0_0 : ByteArray) (s0_1 : Int) (A : Option Addr) (c : Nat) (l : List S58) (w0 w : World) (er : Int) (he : er ≠ 0) (hI : IsS94 w0 w g s0_0 s0_1 er) (hB : Below w0.heap.size w0 w) (hC : Kd.C k58 w A l.length l) (hl : l.length ≤ c) :
    Calls Try.prog 49 #[.pointer (some ⟨g, 0, none⟩), .slice A l.length c, .func (Fn.func 40) #[] #[]] w fun e w' => e = .returned (.tuple #[.slice none 0 0, .int .i64 0, .int .i64 er]) ∧ IsS94 w0 w' g s0_0 s0_1 er ∧ Below w0.heap.size w0 w' ∧ KeepBut w w' g none := by
  have HI := Aside0.mk hI
  have HB := Aside0.mk hB
  clear hI hB hC
  have e1 : (er == 0) = false := beq_eq_false_iff_ne.mpr he
  have e2 : (er != 0) = true := bne_iff_ne.mpr he
  have hc0 := cellS94_0 HI.out.1
  have hc1 := cellS94_1 HI.out.1
  have hc2 := cellS94_2 HI.out.1
  have hf0 := blk_frozen HI.out.1 0
  have hf1 := blk_frozen HI.out.1 1
  have hf2 := blk_frozen HI.out.1 2
  go_enter Try.func49, Try.ntmps49
  go_wp2
  repeat (go_quiet (fail); try go_wp2)
  go_ret3
  exact ⟨rfl, by repeat (first | exact HI.out | apply IsS94.drewN | apply IsS94.drew), by repeat (first | exact HB.out | apply pw_below_drewN | apply below_drew1), by repeat (first | exact KeepBut.refl _ _ _ | apply keep_drewN | apply keep_drew)⟩
set_option maxHeartbeats 8000000 in
set_option maxRecDepth 100000 in
theorem end_verdicts_true (k g : Nat) (s0_0 : ByteArray) (s0_1 : Int) (A : Option Addr) (c : Nat) (l : List S58) (w0 w : World) (hI : IsS94 w0 w g s0_0 s0_1 0) (hB : Below w0.heap.size w0 w) (hC : Kd.C k58 w A l.length l) (hl : l.length ≤ c) (h : codec_verdicts.f k l = some true) :
    Calls Try.prog 49 #[.pointer (some ⟨g, 0, none⟩), .slice A l.length c, .func (Fn.func 40) #[] #[]] w fun e w' => e = .returned (.tuple #[.slice A l.length c, .int .i64 s0_1, .int .i64 0]) ∧ IsS94 w0 w' g s0_0 s0_1 0 ∧ Below w0.heap.size w0 w' ∧ KeepBut w w' g none := by
  have HI := Aside0.mk hI
  have HB := Aside0.mk hB
  have HX := Aside0.mk h
  have HC := Aside0.mk hC
  have HL := Aside0.mk hl
  clear hI hB h hC hl
  have hc0 := cellS94_0 HI.out.1
  have hc1 := cellS94_1 HI.out.1
  have hc2 := cellS94_2 HI.out.1
  have hf0 := blk_frozen HI.out.1 0
  have hf1 := blk_frozen HI.out.1 1
  have hf2 := blk_frozen HI.out.1 2
  go_enter Try.func49, Try.ntmps49
  go_wp2_with (first | (go_at_call 40; (with_reducible refine (codec_verdicts.calls k _ _ l true _ ?side1 ?side2 HX.out).mono ?_); (case side1 => exact HC.out); (case side2 => exact HL.out); rintro e w1 ⟨rfl, hb⟩; have HB2 := Aside0.mk hb; have HI1 := Aside0.mk (HI.out.below HB2.out); clear hb hc0 hc1 hc2 hf0 hf1 hf2; have hc0 := cellS94_0 HI1.out.1; have hc1 := cellS94_1 HI1.out.1; have hc2 := cellS94_2 HI1.out.1; have hf0 := blk_frozen HI1.out.1 0; have hf1 := blk_frozen HI1.out.1 1; have hf2 := blk_frozen HI1.out.1 2))
  have HB3 := Aside0.mk (below_step HB.out HB2.out)
  have HK2 := Aside0.mk (KeepBut.of_below HB2.out g none)
  repeat (go_quiet (fail); try go_wp2)
  go_ret3
  exact ⟨rfl, by repeat (first | exact HI1.out | apply IsS94.drewN | apply IsS94.drew), by repeat (first | exact HB3.out | apply pw_below_drewN | apply below_drew1), by repeat (first | exact HK2.out | apply keep_drewN | apply keep_drew)⟩
set_option maxHeartbeats 8000000 in
set_option maxRecDepth 100000 in
theorem end_verdicts_false (k g : Nat) (s0_0 : ByteArray) (s0_1 : Int) (A : Option Addr) (c : Nat) (l : List S58) (w0 w : World) (hI : IsS94 w0 w g s0_0 s0_1 0) (hB : Below w0.heap.size w0 w) (hC : Kd.C k58 w A l.length l) (hl : l.length ≤ c) (h : codec_verdicts.f k l = some false) :
    Calls Try.prog 49 #[.pointer (some ⟨g, 0, none⟩), .slice A l.length c, .func (Fn.func 40) #[] #[]] w fun e w' => e = .returned (.tuple #[.slice none 0 0, .int .i64 0, .int .i64 6]) ∧ IsS94 w0 w' g s0_0 s0_1 6 ∧ Below w0.heap.size w0 w' ∧ KeepBut w w' g none := by
  have HI := Aside0.mk hI
  have HB := Aside0.mk hB
  have HX := Aside0.mk h
  have HC := Aside0.mk hC
  have HL := Aside0.mk hl
  clear hI hB h hC hl
  have hc0 := cellS94_0 HI.out.1
  have hc1 := cellS94_1 HI.out.1
  have hc2 := cellS94_2 HI.out.1
  have hf0 := blk_frozen HI.out.1 0
  have hf1 := blk_frozen HI.out.1 1
  have hf2 := blk_frozen HI.out.1 2
  go_enter Try.func49, Try.ntmps49
  go_wp2_with (first | (go_at_call 40; (with_reducible refine (codec_verdicts.calls k _ _ l false _ ?side1 ?side2 HX.out).mono ?_); (case side1 => exact HC.out); (case side2 => exact HL.out); rintro e w1 ⟨rfl, hb⟩; have HB2 := Aside0.mk hb; have HI1 := Aside0.mk (HI.out.below HB2.out); clear hb hc0 hc1 hc2 hf0 hf1 hf2; have hc0 := cellS94_0 HI1.out.1; have hc1 := cellS94_1 HI1.out.1; have hc2 := cellS94_2 HI1.out.1; have hf0 := blk_frozen HI1.out.1 0; have hf1 := blk_frozen HI1.out.1 1; have hf2 := blk_frozen HI1.out.1 2))
  have HI2 := Aside0.mk (HI1.out.set_2 6)
  have HB3 := Aside0.mk (below_set (g := g) (j := 2) (v := .int .i64 6) (below_step HB.out HB2.out) (IsS94.ge HI1.out))
  have HK2 := Aside0.mk ((KeepBut.of_below HB2.out g none).set_ 2 (.int .i64 6))
  repeat (go_quiet (fail); try go_wp2)
  go_ret3
  exact ⟨rfl, by repeat (first | exact HI2.out | apply IsS94.drewN | apply IsS94.drew), by repeat (first | exact HB3.out | apply pw_below_drewN | apply below_drew1), by repeat (first | exact HK2.out | apply keep_drewN | apply keep_drew)⟩

end Go.Proofs.Ytfmlamnkpoloaaa.Q

-- By px.py, a program of this session that drives the kit's printer: laid out of the translation; Lean checks it.
namespace Go.Proofs.Ytfmlamnkpoloaaa.Q
open Go.RowKit Go.Proofs.YtfmlamnkpoloaaaW.PrintWords Go.Proofs.YtfmlamnkpoloaaaW.PrintLast Go.Proofs.YtfmlamnkpoloaaaW.PrintMore
attribute [local go_sem] max2_int min2_int max_two min_two max_three min_three max_four min_four   -- for this text's walks alone
set_option linter.unusedVariables false
set_option linter.unusedSimpArgs false

/-! ### codec_ReadVerdicts_1: function 51 -/
def codec_ReadVerdicts_1.f (k : Nat) (s0_0 : ByteArray) (s0_1 : Int) (s0_2 : Int) : Option (Int × Int × ByteArray × Int × Int) := (codec_reader_number.f k s0_0 s0_1 s0_2).bind fun bt204 => ((codec_reader_number.f k bt204.2.1 bt204.2.2.1 bt204.2.2.2).bind fun bt208 => (some (bt204.1, bt208.1, bt208.2.1, bt208.2.2.1, bt208.2.2.2)))
theorem codec_ReadVerdicts_1.mono : ∀ a0 a1 a2 k, LeO (codec_ReadVerdicts_1.f k a0 a1 a2) (codec_ReadVerdicts_1.f (k + 1) a0 a1 a2) := by
  intro a0 a1 a2 k
  unfold codec_ReadVerdicts_1.f
  repeat' first
      | (with_reducible exact codec_reader_number.mono _ _ _ _)
      | (with_reducible exact LeO.refl _)
      | (with_reducible exact LeO.none _)
      | (with_reducible refine LeO.ite ?_ ?_)
      | (with_reducible refine LeO.bind ?_ (fun _ => ?_))
      | exact codec_reader_number.mono _ _ _ _
      | exact LeO.none _
      | refine LeO.ite ?_ ?_
      | refine LeO.bind ?_ (fun _ => ?_)
set_option maxHeartbeats 8000000 in
set_option maxRecDepth 100000 in
theorem codec_ReadVerdicts_1.calls (k : Nat) (g : Nat) (s0_0 : ByteArray) (s0_1 : Int) (s0_2 : Int) (r1 : Int) (r2 : Int) (r3 : ByteArray) (r4 : Int) (r5 : Int) (w0 w : World) (hI : IsS94 w0 w g s0_0 s0_1 s0_2) (hB : Below w0.heap.size w0 w) (h : codec_ReadVerdicts_1.f k s0_0 s0_1 s0_2 = some (r1, r2, r3, r4, r5)) :
    Calls Try.prog 51 #[.pointer (some ⟨g, 0, none⟩)] w fun e w' => e = .returned (.agg #[.int .i64 r1, .int .i64 r2]) ∧ IsS94 w0 w' g r3 r4 r5 ∧ Below w0.heap.size w0 w' ∧ KeepBut w w' g none := by
  have hu58 := Try.underlying58
  have HI0 := Aside0.mk hI
  have HK := Aside0.mk (KeepBut.refl w g none)
  have HL := Aside0.mk hB.size
  clear hI
  have HW0 := Aside0.mk hB.size
  have HB := Aside0.mk hB
  clear hB
  have H : ((codec_reader_number.f k s0_0 s0_1 s0_2).bind fun bt204 => ((codec_reader_number.f k bt204.2.1 bt204.2.2.1 bt204.2.2.2).bind fun bt208 => (some (bt204.1, bt208.1, bt208.2.1, bt208.2.2.1, bt208.2.2.2)))) = some (r1, r2, r3, r4, r5) := h
  clear h
  replace H := Option.bind_eq_some_iff.mp H
  obtain ⟨⟨t204, t205, t206, t207⟩, A20, H⟩ := H
  replace H : ((codec_reader_number.f k t205 t206 t207).bind fun bt208 => (some (t204, bt208.1, bt208.2.1, bt208.2.2.1, bt208.2.2.2))) = some (r1, r2, r3, r4, r5) := H
  have A2 := Aside0.mk A20
  clear A20
  replace H := Option.bind_eq_some_iff.mp H
  obtain ⟨⟨t208, t209, t210, t211⟩, A30, H⟩ := H
  replace H : (some (t204, t208, t209, t210, t211)) = some (r1, r2, r3, r4, r5) := H
  have A3 := Aside0.mk A30
  clear A30
  simp only [Option.some.injEq, Prod.mk.injEq] at H
  obtain ⟨rfl, rfl, rfl, rfl, rfl⟩ := H
  go_enter Try.func51, Try.ntmps51
  go_wp2_with (first | ((with_reducible refine gate_dst (N := 2) rfl ?_); refine box_event ?hg (N := 2) ?hd (cs := #[.int .i64 0, .int .i64 0]) (t := 58) ?hr ?_; (case hd => rfl); (case hg => rfl); (case hr => first | (go_simp; done) | (go_simp; rfl)); intro gb203 hg w4 hbox hb; have n0_ := Aside0.mk (IsS94.below (by repeat (first | (with_reducible first | exact HI0.out | apply IsS94.alloc | apply IsS94.drewN | apply IsS94.drew | apply IsS94.set_0 | apply IsS94.set_1 | apply IsS94.set_2) | exact HI0.out)) hb); have n1_ := Aside0.mk (KeepBut.trans (by repeat (first | (with_reducible first | exact HK.out | apply KeepBut.set_ | apply keep_drewN | apply keep_drew | apply keep_alloc) | exact HK.out)) (KeepBut.of_below hb g none) (.inl rfl)); have n2_ := Aside0.mk (below_step (by repeat (first | (with_reducible first | exact HB.out | apply below_alloc | apply pw_below_drewN | apply below_drew1 | refine below_set ?_ (IsS94.ge HI0.out)) | exact HB.out)) hb); have n3_ := Aside0.mk (hbox); have n4_ := Aside0.mk ((by rw [hg]; exact (keep_size (w := w) (g := g) (row := none) (by repeat (first | (with_reducible first | exact HK.out | apply KeepBut.set_ | apply keep_drewN | apply keep_drew | apply keep_alloc) | exact HK.out))) : w.heap.size ≤ gb203)); have n5_ := Aside0.mk ((Nat.le_trans HW0.out (by rw [hg]; exact (keep_size (w := w) (g := g) (row := none) (by repeat (first | (with_reducible first | exact HK.out | apply KeepBut.set_ | apply keep_drewN | apply keep_drew | apply keep_alloc) | exact HK.out))) : w.heap.size ≤ gb203) : w0.heap.size ≤ gb203)); have n6_ := Aside0.mk ((by rw [hg]; exact Nat.ne_of_lt (IsS94.lt (show IsS94 w0 _ g s0_0 s0_1 s0_2 from by repeat (first | (with_reducible first | exact HI0.out | apply IsS94.alloc | apply IsS94.drewN | apply IsS94.drew | apply IsS94.set_0 | apply IsS94.set_1 | apply IsS94.set_2) | exact HI0.out))) : g ≠ gb203)); have n7_ := Aside0.mk ((by rw [hg]; exact Nat.ne_of_gt (IsS94.lt (show IsS94 w0 _ g s0_0 s0_1 s0_2 from by repeat (first | (with_reducible first | exact HI0.out | apply IsS94.alloc | apply IsS94.drewN | apply IsS94.drew | apply IsS94.set_0 | apply IsS94.set_1 | apply IsS94.set_2) | exact HI0.out))) : gb203 ≠ g)); clear HI0; clear HK; clear HB; have HI0 := n0_; have HK := n1_; have HB := n2_; have BK203 := n3_; have GW203 := n4_; have GE203 := n5_; have NB0_203 := n6_; have NB203_0 := n7_; clear n0_ n1_ n2_ n3_ n4_ n5_ n6_ n7_; clear hb hbox hg) | ((with_reducible refine gate_callee (f := 52) rfl ?_); refine goesL_ (some 4) rfl rfl Try.func52 (by kernel_rfl) rfl #[.pointer (some ⟨g, 0, none⟩)] rfl (by (try simp only [List.map_toArray, List.map_cons, List.map_nil]); first | done | rfl | (simp only [List.length_drop, List.length_take]; rfl)) ?_; (with_reducible refine (codec_reader_number.calls k g s0_0 s0_1 s0_2 t204 t205 t206 t207 w0 _ ?side1 ?side2 A2.out).mono ?_); (case side1 => repeat (first | (with_reducible first | exact HI0.out | apply IsS94.alloc | apply IsS94.drewN | apply IsS94.drew | apply IsS94.set_0 | apply IsS94.set_1 | apply IsS94.set_2 | refine IsS94.far ?_ NB0_203.out _) | exact HI0.out)); (case side2 => repeat (first | (with_reducible first | exact HB.out | apply below_alloc | apply pw_below_drewN | apply below_drew1 | refine below_set ?_ (IsS94.ge HI0.out) | refine below_set ?_ GE203.out) | exact HB.out)); rintro e w5 ⟨rfl, hi, hb, hk⟩; refine ⟨_, rfl, ?_⟩; have n0_ := Aside0.mk (KeepBut.blk hk (g' := gb203) (o := .cells #[.int .i64 0, .int .i64 0] 58 (0, 0)) (by (with_reducible repeat (first | refine blk_drewN ?_ _ | refine blk_drew ?_ | refine blk_alloc ?_ _)); exact BK203.out) NB203_0.out (by simp)); have n1_ := Aside0.mk (KeepBut.trans (by repeat (first | (with_reducible first | exact HK.out | apply KeepBut.set_ | apply keep_drewN | apply keep_drew | apply keep_alloc | refine keep_far ?_ GW203.out _) | exact HK.out)) hk (.inl rfl)); have n2_ := Aside0.mk (hb); have n3_ := Aside0.mk (hi); clear BK203; clear HK; clear HB; clear HI0; have BK203 := n0_; have HK := n1_; have HB := n2_; have HI0 := n3_; clear n0_ n1_ n2_ n3_; (try clear hb); (try clear hb2); (try clear hk); (try clear hi)) | ((with_reducible refine gate_callee (f := 52) rfl ?_); refine goesL_ (some 6) rfl rfl Try.func52 (by kernel_rfl) rfl #[.pointer (some ⟨g, 0, none⟩)] rfl (by (try simp only [List.map_toArray, List.map_cons, List.map_nil]); first | done | rfl | (simp only [List.length_drop, List.length_take]; rfl)) ?_; (with_reducible refine (codec_reader_number.calls k g t205 t206 t207 t208 t209 t210 t211 w0 _ ?side1 ?side2 A3.out).mono ?_); (case side1 => repeat (first | (with_reducible first | exact HI0.out | apply IsS94.alloc | apply IsS94.drewN | apply IsS94.drew | apply IsS94.set_0 | apply IsS94.set_1 | apply IsS94.set_2 | refine IsS94.far ?_ NB0_203.out _) | exact HI0.out)); (case side2 => repeat (first | (with_reducible first | exact HB.out | apply below_alloc | apply pw_below_drewN | apply below_drew1 | refine below_set ?_ (IsS94.ge HI0.out) | refine below_set ?_ GE203.out) | exact HB.out)); rintro e w6 ⟨rfl, hi, hb, hk⟩; refine ⟨_, rfl, ?_⟩; have n0_ := Aside0.mk (KeepBut.blk hk (g' := gb203) (o := .cells #[.int .i64 0, .int .i64 0] 58 (0, 0)) (by (with_reducible repeat (first | refine blk_drewN ?_ _ | refine blk_drew ?_ | refine blk_alloc ?_ _)); exact BK203.out) NB203_0.out (by simp)); have n1_ := Aside0.mk (KeepBut.trans (by repeat (first | (with_reducible first | exact HK.out | apply KeepBut.set_ | apply keep_drewN | apply keep_drew | apply keep_alloc | refine keep_far ?_ GW203.out _) | exact HK.out)) hk (.inl rfl)); have n2_ := Aside0.mk (hb); have n3_ := Aside0.mk (hi); clear BK203; clear HK; clear HB; clear HI0; have BK203 := n0_; have HK := n1_; have HB := n2_; have HI0 := n3_; clear n0_ n1_ n2_ n3_; (try clear hb); (try clear hb2); (try clear hk); (try clear hi); have hnb7 := NB203_0.out; have hnc7 := NB0_203.out; have hcz8_0 : w6.cell? ⟨gb203, 0, none⟩ = some (.int .i64 0) := (blk_cell BK203.out 0).trans rfl; have hcz8_1 : w6.cell? ⟨gb203, 1, none⟩ = some (.int .i64 0) := (blk_cell BK203.out 1).trans rfl; have hfz8_0 := blk_frozen BK203.out 0; have hfz8_1 := blk_frozen BK203.out 1))
  refine bodyPost_ret (results_cell_row rfl _ _ gb203 58 #[.int .i64 t204, .int .i64 t208] (0, 0) _ rfl (by (with_reducible repeat (first | refine blk_drewN ?_ _ | refine blk_drew ?_ | refine blk_alloc ?_ _)); refine blk_put (cs := #[.int .i64 t204, .int .i64 0]) ?_ 1 _ rfl; (with_reducible repeat (first | refine blk_drewN ?_ _ | refine blk_drew ?_ | refine blk_alloc ?_ _)); refine blk_put (cs := #[.int .i64 0, .int .i64 0]) ?_ 0 _ rfl; (with_reducible repeat (first | refine blk_drewN ?_ _ | refine blk_drew ?_ | refine blk_alloc ?_ _)); exact BK203.out) Try.underlying58 rfl (by kernel_rfl)) rfl ?_
  exact ⟨by first | rfl | (simp [errW_none, errW_some] <;> rfl) | (simp [*, errW_none, errW_some] <;> rfl), by repeat (first | (with_reducible first | exact HI0.out | apply IsS94.alloc | apply IsS94.drewN | apply IsS94.drew | apply IsS94.set_0 | apply IsS94.set_1 | apply IsS94.set_2 | refine IsS94.far ?_ NB0_203.out _) | exact HI0.out), by repeat (first | (with_reducible first | exact HB.out | apply below_alloc | apply pw_below_drewN | apply below_drew1 | refine below_set ?_ (IsS94.ge HI0.out) | refine below_set ?_ GE203.out) | exact HB.out), by repeat (first | (with_reducible first | exact HK.out | apply KeepBut.set_ | apply keep_drewN | apply keep_drew | apply keep_alloc | refine keep_far ?_ GW203.out _) | exact HK.out)⟩

end Go.Proofs.Ytfmlamnkpoloaaa.Q

-- By px.py, a program of this session that drives the kit's printer: laid out of the translation; Lean checks it.
namespace Go.Proofs.Ytfmlamnkpoloaaa.Q
open Go.RowKit Go.Proofs.YtfmlamnkpoloaaaW.PrintWords Go.Proofs.YtfmlamnkpoloaaaW.PrintLast Go.Proofs.YtfmlamnkpoloaaaW.PrintMore
attribute [local go_sem] max2_int min2_int max_two min_two max_three min_three max_four min_four   -- for this text's walks alone
set_option linter.unusedVariables false
set_option linter.unusedSimpArgs false

/-! ### api_Verdict__by_codec_ReadVerdicts_1: function 90000001 -/
mutual
def api_Verdict__by_codec_ReadVerdicts_1.j0 : Nat → Int → Bool → ByteArray → Int → Int → Option ((List (S58)) × ByteArray × Int × Int)
  | 0, _, _, _, _, _ => none
  | k + 1, x7, x22, x1000, x1001, x1002 => if x22 = true then (api_Verdict__by_codec_ReadVerdicts_1.j1 k x7 x1000 x1001 6) else (api_Verdict__by_codec_ReadVerdicts_1.j1 k x7 x1000 x1001 x1002)
def api_Verdict__by_codec_ReadVerdicts_1.j1 : Nat → Int → ByteArray → Int → Int → Option ((List (S58)) × ByteArray × Int × Int)
  | 0, _, _, _, _ => none
  | k + 1, x7, x1000, x1001, x1002 => api_Verdict__by_codec_ReadVerdicts_1.l0 k x7 ([] : List (S58)) 0 x1000 x1001 x1002
def api_Verdict__by_codec_ReadVerdicts_1.l0 : Nat → Int → List (S58) → Int → ByteArray → Int → Int → Option ((List (S58)) × ByteArray × Int × Int)
  | 0, _, _, _, _, _, _ => none
  | k + 1, x7, x8, x9, x1000, x1001, x1002 => if x9 < x7 then (if x1002 = 0 then ((codec_ReadVerdicts_1.f k x1000 x1001 x1002).bind fun bt217 => (if x8.length < 8796093022208 then (api_Verdict__by_codec_ReadVerdicts_1.l0 k x7 (x8 ++ [(⟨bt217.1, bt217.2.1⟩ : S58)]) (wrap64 (x9 + 1)) bt217.2.2.1 bt217.2.2.2.1 bt217.2.2.2.2) else (none))) else (some (x8, x1000, x1001, x1002))) else (some (x8, x1000, x1001, x1002))
end
def api_Verdict__by_codec_ReadVerdicts_1.f (k : Nat) (s0_0 : ByteArray) (s0_1 : Int) (s0_2 : Int) (a1 : Int)  : Option ((List (S58)) × ByteArray × Int × Int) := (codec_reader_number.f k s0_0 s0_1 s0_2).bind fun bt212 => (if bt212.2.2.2 = 0 then ((codec_within.f bt212.1 0 a1).bind fun t216 => (api_Verdict__by_codec_ReadVerdicts_1.j0 k bt212.1 (!t216) bt212.2.1 bt212.2.2.1 bt212.2.2.2)) else (api_Verdict__by_codec_ReadVerdicts_1.j0 k bt212.1 false bt212.2.1 bt212.2.2.1 bt212.2.2.2))
theorem api_Verdict__by_codec_ReadVerdicts_1.mono_l : ∀ k, (∀ y0 y1 y2 y3 y4, LeO (api_Verdict__by_codec_ReadVerdicts_1.j0 k y0 y1 y2 y3 y4) (api_Verdict__by_codec_ReadVerdicts_1.j0 (k + 1) y0 y1 y2 y3 y4)) ∧ (∀ y0 y1 y2 y3, LeO (api_Verdict__by_codec_ReadVerdicts_1.j1 k y0 y1 y2 y3) (api_Verdict__by_codec_ReadVerdicts_1.j1 (k + 1) y0 y1 y2 y3)) ∧ (∀ y0 y1 y2 y3 y4 y5, LeO (api_Verdict__by_codec_ReadVerdicts_1.l0 k y0 y1 y2 y3 y4 y5) (api_Verdict__by_codec_ReadVerdicts_1.l0 (k + 1) y0 y1 y2 y3 y4 y5))
  | 0 => ⟨fun _ _ _ _ _ r h => by simp [api_Verdict__by_codec_ReadVerdicts_1.j0] at h, fun _ _ _ _ r h => by simp [api_Verdict__by_codec_ReadVerdicts_1.j1] at h, fun _ _ _ _ _ _ r h => by simp [api_Verdict__by_codec_ReadVerdicts_1.l0] at h⟩
  | k + 1 => by
    obtain ⟨ih0, ih1, ih2⟩ := api_Verdict__by_codec_ReadVerdicts_1.mono_l k
    refine ⟨?_, ?_, ?_⟩
    · intro y0 y1 y2 y3 y4
      unfold api_Verdict__by_codec_ReadVerdicts_1.j0
      repeat' first
      | (with_reducible exact ih0 _ _ _ _ _)
      | (with_reducible exact ih1 _ _ _ _)
      | (with_reducible exact ih2 _ _ _ _ _ _)
      | (with_reducible exact codec_ReadVerdicts_1.mono _ _ _ _)
      | (with_reducible exact codec_reader_number.mono _ _ _ _)
      | (with_reducible exact LeO.refl _)
      | (with_reducible exact LeO.none _)
      | (with_reducible refine LeO.ite ?_ ?_)
      | (with_reducible refine LeO.bind ?_ (fun _ => ?_))
      | exact ih0 _ _ _ _ _
      | exact ih1 _ _ _ _
      | exact ih2 _ _ _ _ _ _
      | exact codec_ReadVerdicts_1.mono _ _ _ _
      | exact codec_reader_number.mono _ _ _ _
      | exact LeO.none _
      | refine LeO.ite ?_ ?_
      | refine LeO.bind ?_ (fun _ => ?_)
    · intro y0 y1 y2 y3
      unfold api_Verdict__by_codec_ReadVerdicts_1.j1
      repeat' first
      | (with_reducible exact ih0 _ _ _ _ _)
      | (with_reducible exact ih1 _ _ _ _)
      | (with_reducible exact ih2 _ _ _ _ _ _)
      | (with_reducible exact codec_ReadVerdicts_1.mono _ _ _ _)
      | (with_reducible exact codec_reader_number.mono _ _ _ _)
      | (with_reducible exact LeO.refl _)
      | (with_reducible exact LeO.none _)
      | (with_reducible refine LeO.ite ?_ ?_)
      | (with_reducible refine LeO.bind ?_ (fun _ => ?_))
      | exact ih0 _ _ _ _ _
      | exact ih1 _ _ _ _
      | exact ih2 _ _ _ _ _ _
      | exact codec_ReadVerdicts_1.mono _ _ _ _
      | exact codec_reader_number.mono _ _ _ _
      | exact LeO.none _
      | refine LeO.ite ?_ ?_
      | refine LeO.bind ?_ (fun _ => ?_)
    · intro y0 y1 y2 y3 y4 y5
      unfold api_Verdict__by_codec_ReadVerdicts_1.l0
      repeat' first
      | (with_reducible exact ih0 _ _ _ _ _)
      | (with_reducible exact ih1 _ _ _ _)
      | (with_reducible exact ih2 _ _ _ _ _ _)
      | (with_reducible exact codec_ReadVerdicts_1.mono _ _ _ _)
      | (with_reducible exact codec_reader_number.mono _ _ _ _)
      | (with_reducible exact LeO.refl _)
      | (with_reducible exact LeO.none _)
      | (with_reducible refine LeO.ite ?_ ?_)
      | (with_reducible refine LeO.bind ?_ (fun _ => ?_))
      | exact ih0 _ _ _ _ _
      | exact ih1 _ _ _ _
      | exact ih2 _ _ _ _ _ _
      | exact codec_ReadVerdicts_1.mono _ _ _ _
      | exact codec_reader_number.mono _ _ _ _
      | exact LeO.none _
      | refine LeO.ite ?_ ?_
      | refine LeO.bind ?_ (fun _ => ?_)
theorem api_Verdict__by_codec_ReadVerdicts_1.mono : ∀ a0 a1 a2 a3 k, LeO (api_Verdict__by_codec_ReadVerdicts_1.f k a0 a1 a2 a3) (api_Verdict__by_codec_ReadVerdicts_1.f (k + 1) a0 a1 a2 a3) := by
  intro a0 a1 a2 a3 k
  obtain ⟨ih0, ih1, ih2⟩ := api_Verdict__by_codec_ReadVerdicts_1.mono_l k
  unfold api_Verdict__by_codec_ReadVerdicts_1.f
  repeat' first
      | (with_reducible exact ih0 _ _ _ _ _)
      | (with_reducible exact ih1 _ _ _ _)
      | (with_reducible exact ih2 _ _ _ _ _ _)
      | (with_reducible exact codec_ReadVerdicts_1.mono _ _ _ _)
      | (with_reducible exact codec_reader_number.mono _ _ _ _)
      | (with_reducible exact LeO.refl _)
      | (with_reducible exact LeO.none _)
      | (with_reducible refine LeO.ite ?_ ?_)
      | (with_reducible refine LeO.bind ?_ (fun _ => ?_))
      | exact ih0 _ _ _ _ _
      | exact ih1 _ _ _ _
      | exact ih2 _ _ _ _ _ _
      | exact codec_ReadVerdicts_1.mono _ _ _ _
      | exact codec_reader_number.mono _ _ _ _
      | exact LeO.none _
      | refine LeO.ite ?_ ?_
      | refine LeO.bind ?_ (fun _ => ?_)
set_option maxHeartbeats 8000000 in
set_option maxRecDepth 100000 in
theorem api_Verdict__by_codec_ReadVerdicts_1.calls (k : Nat) (g : Nat) (s0_0 : ByteArray) (s0_1 : Int) (s0_2 : Int) (a1 : Int)  (r1 : List (S58)) (r2 : ByteArray) (r3 : Int) (r4 : Int) (w0 w : World) (hI : IsS94 w0 w g s0_0 s0_1 s0_2) (hB : Below w0.heap.size w0 w) (h : api_Verdict__by_codec_ReadVerdicts_1.f k s0_0 s0_1 s0_2 a1 = some (r1, r2, r3, r4)) :
    Calls Try.prog 50 #[.pointer (some ⟨g, 0, none⟩), .int .i64 a1, .func (Fn.func 51) #[] #[]] w fun e w' => ∃ v0_ : Value, e = .returned (v0_) ∧ Kd.R k58 58 w' w.heap.size (fun _ => True) v0_ r1 ∧ IsS94 w0 w' g r2 r3 r4 ∧ Below w0.heap.size w0 w' ∧ KeepBut w w' g none := by
  have HI0 := Aside0.mk hI
  have HK := Aside0.mk (KeepBut.refl w g none)
  have HL := Aside0.mk hB.size
  clear hI
  have HW0 := Aside0.mk hB.size
  have HB := Aside0.mk hB
  clear hB
  have H : ((codec_reader_number.f k s0_0 s0_1 s0_2).bind fun bt212 => (if bt212.2.2.2 = 0 then ((codec_within.f bt212.1 0 a1).bind fun t216 => (api_Verdict__by_codec_ReadVerdicts_1.j0 k bt212.1 (!t216) bt212.2.1 bt212.2.2.1 bt212.2.2.2)) else (api_Verdict__by_codec_ReadVerdicts_1.j0 k bt212.1 false bt212.2.1 bt212.2.2.1 bt212.2.2.2))) = some (r1, r2, r3, r4) := h
  clear h
  replace H := Option.bind_eq_some_iff.mp H
  obtain ⟨⟨t212, t213, t214, t215⟩, A40, H⟩ := H
  replace H : (if t215 = 0 then ((codec_within.f t212 0 a1).bind fun t216 => (api_Verdict__by_codec_ReadVerdicts_1.j0 k t212 (!t216) t213 t214 t215)) else (api_Verdict__by_codec_ReadVerdicts_1.j0 k t212 false t213 t214 t215)) = some (r1, r2, r3, r4) := H
  have A4 := Aside0.mk A40
  clear A40
  have HC5 := Aside0.mk H
  clear H
  go_enter Try.func50, Try.ntmps50
  go_upto_region 2 with (first | ((with_reducible refine gate_callee (f := 52) rfl ?_); refine goesL_ (some 11) rfl rfl Try.func52 (by kernel_rfl) rfl #[.pointer (some ⟨g, 0, none⟩)] rfl (by (try simp only [List.map_toArray, List.map_cons, List.map_nil]); first | done | rfl | (simp only [List.length_drop, List.length_take]; rfl)) ?_; (with_reducible refine (codec_reader_number.calls k g s0_0 s0_1 s0_2 t212 t213 t214 t215 w0 _ ?side1 ?side2 A4.out).mono ?_); (case side1 => repeat (first | (with_reducible first | exact HI0.out | apply IsS94.alloc | apply IsS94.drewN | apply IsS94.drew | apply IsS94.set_0 | apply IsS94.set_1 | apply IsS94.set_2) | exact HI0.out)); (case side2 => repeat (first | (with_reducible first | exact HB.out | apply below_alloc | apply pw_below_drewN | apply below_drew1 | refine below_set ?_ (IsS94.ge HI0.out)) | exact HB.out)); rintro e w6 ⟨rfl, hi, hb, hk⟩; refine ⟨_, rfl, ?_⟩; have n0_ := Aside0.mk (KeepBut.trans (by repeat (first | (with_reducible first | exact HK.out | apply KeepBut.set_ | apply keep_drewN | apply keep_drew | apply keep_alloc) | exact HK.out)) hk (.inl rfl)); have n1_ := Aside0.mk (hb); have n2_ := Aside0.mk (hi); clear HK; clear HB; clear HI0; have HK := n0_; have HB := n1_; have HI0 := n2_; clear n0_ n1_ n2_; (try clear hb); (try clear hb2); (try clear hk); (try clear hi)))
  (try simp only [Act.put, List.setIfInBounds_toArray, List.set_cons_zero, List.set_cons_succ])
  go_cut [22] (fun v22 wc => ∃ (kq : Nat) (x22_4 : Bool), v22 = .bool x22_4 ∧ Aside0 (api_Verdict__by_codec_ReadVerdicts_1.j0 kq t212 x22_4 t213 t214 t215 = some (r1, r2, r3, r4)) ∧ Aside0 (kq ≤ k) ∧ Aside0 (IsS94 w0 wc g t213 t214 t215) ∧ Aside0 (KeepBut w wc g none) ∧ Aside0 (Below w0.heap.size w0 wc))
  case first =>
    have H := HC5.out
    clear HC5
    by_cases c7 : t215 = 0
    · rw [if_pos c7] at H
      have c7b0 : (t215 == 0) = true := beq_iff_eq.mpr c7
      have c7b1 : (t215 != 0) = false := bne_eq_false_iff_eq.mpr c7
      clear c7
      (first | rw [c7b0] | (simp only [i64_w, i32_w]; rw [c7b0]) | skip)
      replace H := Option.bind_eq_some_iff.mp H
      obtain ⟨t216, A80, H⟩ := H
      replace H : (api_Verdict__by_codec_ReadVerdicts_1.j0 k t212 (!t216) t213 t214 t215) = some (r1, r2, r3, r4) := H
      have A8 := Aside0.mk A80
      clear A80
      have H' := Aside0.mk H
      clear H
      obtain ⟨HGz9, hgz9⟩ := HI0.out
      have hcz9_0 := cellS94_0 HGz9
      have hcz9_1 := cellS94_1 HGz9
      have hcz9_2 := cellS94_2 HGz9
      have hfz9_0 := blk_frozen HGz9 0
      have hfz9_1 := blk_frozen HGz9 1
      have hfz9_2 := blk_frozen HGz9 2
      clear HGz9 hgz9
      go_wp2_with (first | (go_at_call 48; (with_reducible refine (codec_within.calls t212 0 a1 t216 _ A8.out).mono ?_); rintro e w' ⟨rfl, ⟨nd, rfl⟩⟩))
      go_meet
      case rel => exact ⟨_, (!t216), (by first | rfl | (simp; done) | (simp [*]; done)), H', ⟨by first | omega | exact Nat.le_refl _⟩, ⟨by repeat (first | (with_reducible first | exact HI0.out | apply IsS94.alloc | apply IsS94.drewN | apply IsS94.drew | apply IsS94.set_0 | apply IsS94.set_1 | apply IsS94.set_2) | exact HI0.out)⟩, ⟨by repeat (first | (with_reducible first | exact HK.out | apply KeepBut.set_ | apply keep_drewN | apply keep_drew | apply keep_alloc) | exact HK.out)⟩, ⟨by repeat (first | (with_reducible first | exact HB.out | apply below_alloc | apply pw_below_drewN | apply below_drew1 | refine below_set ?_ (IsS94.ge HI0.out)) | exact HB.out)⟩⟩
    · rw [if_neg c7] at H
      have c7b0 : (t215 == 0) = false := beq_eq_false_iff_ne.mpr c7
      have c7b1 : (t215 != 0) = true := bne_iff_ne.mpr c7
      (first | rw [c7b0] | (simp only [i64_w, i32_w]; rw [c7b0]) | skip)
      have H' := Aside0.mk H
      clear H
      obtain ⟨HGz10, hgz10⟩ := HI0.out
      have hcz10_0 := cellS94_0 HGz10
      have hcz10_1 := cellS94_1 HGz10
      have hcz10_2 := cellS94_2 HGz10
      have hfz10_0 := blk_frozen HGz10 0
      have hfz10_1 := blk_frozen HGz10 1
      have hfz10_2 := blk_frozen HGz10 2
      clear HGz10 hgz10
      go_wp2
      go_meet
      case rel => exact ⟨_, (false), (by first | rfl | (simp; done) | (simp [*]; done)), H', ⟨by first | omega | exact Nat.le_refl _⟩, ⟨by repeat (first | (with_reducible first | exact HI0.out | apply IsS94.alloc | apply IsS94.drewN | apply IsS94.drew | apply IsS94.set_0 | apply IsS94.set_1 | apply IsS94.set_2) | exact HI0.out)⟩, ⟨by repeat (first | (with_reducible first | exact HK.out | apply KeepBut.set_ | apply keep_drewN | apply keep_drew | apply keep_alloc) | exact HK.out)⟩, ⟨by repeat (first | (with_reducible first | exact HB.out | apply below_alloc | apply pw_below_drewN | apply below_drew1 | refine below_set ?_ (IsS94.ge HI0.out)) | exact HB.out)⟩⟩
  case rest =>
    clear HC5
    try clear p2
    try clear c5
    try clear c7
    try clear c7b0
    try clear c7b1
    try clear c9
    try clear hcz10_0
    try clear hcz10_1
    try clear hcz10_2
    try clear hcz9_0
    try clear hcz9_1
    try clear hcz9_2
    try clear hfz10_0
    try clear hfz10_1
    try clear hfz10_2
    try clear hfz9_0
    try clear hfz9_1
    try clear hfz9_2
    obtain ⟨kq, x22_4, rfl, HA, HJ4, HI0, HK, HB⟩ := hcut
    cases kq with
    | zero => exact absurd HA.out (by simp [api_Verdict__by_codec_ReadVerdicts_1.j0])
    | succ kj4 =>
      have H := HA.out
      clear HA
      simp only [api_Verdict__by_codec_ReadVerdicts_1.j0] at H
      have HC11 := Aside0.mk H
      clear H
      go_upto_if 22 with (fail)
      go_cut [] (fun wc => ∃ (kq : Nat) (x1002_10 : Int), Aside0 (api_Verdict__by_codec_ReadVerdicts_1.j1 kq t212 t213 t214 x1002_10 = some (r1, r2, r3, r4)) ∧ Aside0 (kq ≤ kj4) ∧ Aside0 (IsS94 w0 wc g t213 t214 x1002_10) ∧ Aside0 (KeepBut w wc g none) ∧ Aside0 (Below w0.heap.size w0 wc))
      case first =>
        have H := HC11.out
        clear HC11
        by_cases c12 : x22_4 = true
        · subst c12
          have H1 : (api_Verdict__by_codec_ReadVerdicts_1.j1 kj4 t212 t213 t214 6) = some (r1, r2, r3, r4) := by rw [if_pos rfl] at H; exact H
          clear H
          have H := H1
          clear H1
          have H' := Aside0.mk H
          clear H
          obtain ⟨HGz13, hgz13⟩ := HI0.out
          have hcz13_0 := cellS94_0 HGz13
          have hcz13_1 := cellS94_1 HGz13
          have hcz13_2 := cellS94_2 HGz13
          have hfz13_0 := blk_frozen HGz13 0
          have hfz13_1 := blk_frozen HGz13 1
          have hfz13_2 := blk_frozen HGz13 2
          clear HGz13 hgz13
          go_wp2
          go_meet
          case rel => exact ⟨_, (6), H', ⟨by have := HJ4.out; first | omega | exact Nat.le_refl _⟩, ⟨by repeat (first | (with_reducible first | exact HI0.out | apply IsS94.alloc | apply IsS94.drewN | apply IsS94.drew | apply IsS94.set_0 | apply IsS94.set_1 | apply IsS94.set_2) | exact HI0.out)⟩, ⟨by repeat (first | (with_reducible first | exact HK.out | apply KeepBut.set_ | apply keep_drewN | apply keep_drew | apply keep_alloc) | exact HK.out)⟩, ⟨by repeat (first | (with_reducible first | exact HB.out | apply below_alloc | apply pw_below_drewN | apply below_drew1 | refine below_set ?_ (IsS94.ge HI0.out)) | exact HB.out)⟩⟩
        · replace c12 := Bool.eq_false_iff.mpr c12
          subst c12
          have H1 : (api_Verdict__by_codec_ReadVerdicts_1.j1 kj4 t212 t213 t214 t215) = some (r1, r2, r3, r4) := by rw [if_neg (show ¬ (false = true) by decide)] at H; exact H
          clear H
          have H := H1
          clear H1
          have H' := Aside0.mk H
          clear H
          go_wp2
          go_meet
          case rel => exact ⟨_, (t215), H', ⟨by have := HJ4.out; first | omega | exact Nat.le_refl _⟩, ⟨by repeat (first | (with_reducible first | exact HI0.out | apply IsS94.alloc | apply IsS94.drewN | apply IsS94.drew | apply IsS94.set_0 | apply IsS94.set_1 | apply IsS94.set_2) | exact HI0.out)⟩, ⟨by repeat (first | (with_reducible first | exact HK.out | apply KeepBut.set_ | apply keep_drewN | apply keep_drew | apply keep_alloc) | exact HK.out)⟩, ⟨by repeat (first | (with_reducible first | exact HB.out | apply below_alloc | apply pw_below_drewN | apply below_drew1 | refine below_set ?_ (IsS94.ge HI0.out)) | exact HB.out)⟩⟩
      case rest =>
        clear HC11
        try clear c1
        try clear p2
        try clear c5
        try clear c7
        try clear c7b0
        try clear c7b1
        try clear c9
        try clear c12
        try clear hcz10_0
        try clear hcz10_1
        try clear hcz10_2
        try clear hcz13_0
        try clear hcz13_1
        try clear hcz13_2
        try clear hcz9_0
        try clear hcz9_1
        try clear hcz9_2
        try clear hfz10_0
        try clear hfz10_1
        try clear hfz10_2
        try clear hfz13_0
        try clear hfz13_1
        try clear hfz13_2
        try clear hfz9_0
        try clear hfz9_1
        try clear hfz9_2
        try clear p2
        obtain ⟨kq, x1002_10, HA, HJ10, HI0, HK, HB⟩ := hcut
        cases kq with
        | zero => exact absurd HA.out (by simp [api_Verdict__by_codec_ReadVerdicts_1.j1])
        | succ kj10 =>
          have H := HA.out
          clear HA
          simp only [api_Verdict__by_codec_ReadVerdicts_1.j1] at H
          have H' := Aside0.mk H
          clear H
          go_wp2
          go_loopg [8, 9] kj10 (fun kq v8 v9 w' => ∃ (x8_3 : List (S58)) (x9_3 : Int) (x1000_3 : ByteArray) (x1001_3 : Int) (x1002_3 : Int), v9 = .int .i64 x9_3 ∧ Aside0 (api_Verdict__by_codec_ReadVerdicts_1.l0 kq t212 x8_3 x9_3 x1000_3 x1001_3 x1002_3 = some (r1, r2, r3, r4)) ∧ Aside0 (kq ≤ kj10) ∧ Aside0 (Kd.R k58 58 w' w.heap.size (fun _ => True) v8 x8_3) ∧ Aside0 (IsS94 w0 w' g x1000_3 x1001_3 x1002_3) ∧ Aside0 (KeepBut w w' g none) ∧ Aside0 (Below w0.heap.size w0 w'))
          case atStart => exact ⟨(([] : List (S58))), (0), (t213), (t214), (x1002_10), (by first | rfl | (simp; done) | (simp [*]; done)), H', ⟨Nat.le_refl _⟩, ⟨by first | exact Kd.R_nil _ _ _ _ _ | exact Kd.N_nil _ _ _ _ _ | exact Kd.V_nil _ _ _ _ _ | exact Kd.Q_nil _ _ _ _ _ | exact Kd.S_nil _ _ _ _ _⟩, ⟨by repeat (first | (with_reducible first | exact HI0.out | apply IsS94.alloc | apply IsS94.drewN | apply IsS94.drew | apply IsS94.set_0 | apply IsS94.set_1 | apply IsS94.set_2) | exact HI0.out)⟩, ⟨by repeat (first | (with_reducible first | exact HK.out | apply KeepBut.set_ | apply keep_drewN | apply keep_drew | apply keep_alloc) | exact HK.out)⟩, ⟨by repeat (first | (with_reducible first | exact HB.out | apply below_alloc | apply pw_below_drewN | apply below_drew1 | refine below_set ?_ (IsS94.ge HI0.out)) | exact HB.out)⟩⟩
          case round =>
            clear H'
            try clear c1
            try clear p2
            try clear c5
            try clear c7
            try clear c7b0
            try clear c7b1
            try clear c9
            try clear c12
            try clear hcz10_0
            try clear hcz10_1
            try clear hcz10_2
            try clear hcz13_0
            try clear hcz13_1
            try clear hcz13_2
            try clear hcz9_0
            try clear hcz9_1
            try clear hcz9_2
            try clear hfz10_0
            try clear hfz10_1
            try clear hfz10_2
            try clear hfz13_0
            try clear hfz13_1
            try clear hfz13_2
            try clear hfz9_0
            try clear hfz9_1
            try clear hfz9_2
            try clear p2
            obtain ⟨x8_3, x9_3, x1000_3, x1001_3, x1002_3, rfl, HA, HK3, HO_8, HI0, HK, HB⟩ := hrel
            cases gk with
            | zero => exact absurd HA.out (by simp [api_Verdict__by_codec_ReadVerdicts_1.l0])
            | succ k3 =>
              have H := HA.out
              clear HA
              simp only [api_Verdict__by_codec_ReadVerdicts_1.l0] at H
              by_cases c14 : x9_3 < t212
              · rw [if_pos c14] at H
                have c14b0 : decide (x9_3 < t212) = true := decide_eq_true c14
                clear c14
                by_cases c15 : x1002_3 = 0
                · rw [if_pos c15] at H
                  have c15b0 : (x1002_3 == 0) = true := beq_iff_eq.mpr c15
                  have c15b1 : (x1002_3 != 0) = false := bne_eq_false_iff_eq.mpr c15
                  clear c15
                  replace H := Option.bind_eq_some_iff.mp H
                  obtain ⟨⟨t217, t218, t219, t220, t221⟩, A160, H⟩ := H
                  replace H : (if x8_3.length < 8796093022208 then (api_Verdict__by_codec_ReadVerdicts_1.l0 k3 t212 (x8_3 ++ [(⟨t217, t218⟩ : S58)]) (wrap64 (x9_3 + 1)) t219 t220 t221) else (none)) = some (r1, r2, r3, r4) := H
                  have A16 := Aside0.mk A160
                  clear A160
                  by_cases c17 : x8_3.length < 8796093022208
                  · rw [if_pos c17] at H
                    have LMc17 := Aside0.mk c17
                    clear c17
                    obtain ⟨y222, hy222⟩ : ∃ y_ : List (S58), y_ = (x8_3 ++ [(⟨t217, t218⟩ : S58)]) := ⟨_, rfl⟩
                    replace H : (api_Verdict__by_codec_ReadVerdicts_1.l0 k3 t212 y222 (wrap64 (x9_3 + 1)) t219 t220 t221) = some (r1, r2, r3, r4) := by first | (rw [hy222]; with_reducible exact H) | (have H2_ := (Option.bind_some _ _).symm.trans H; rw [hy222]; with_reducible exact H2_) | (have H2_ := (Option.bind_some _ _).symm.trans H; with_reducible exact H2_) | with_reducible exact H | (rw [hy222]; exact H) | exact H
                    have Ny222 := Aside0.mk hy222
                    clear hy222
                    have H' := Aside0.mk H
                    clear H
                    obtain ⟨HGz18, hgz18⟩ := HI0.out
                    have hcz18_0 := cellS94_0 HGz18
                    have hcz18_1 := cellS94_1 HGz18
                    have hcz18_2 := cellS94_2 HGz18
                    have hfz18_0 := blk_frozen HGz18 0
                    have hfz18_1 := blk_frozen HGz18 1
                    have hfz18_2 := blk_frozen HGz18 2
                    clear HGz18 hgz18
                    go_wp2_with (first | ((with_reducible refine gate_dst (N := 41) rfl ?_); refine goesV_ (some 41) rfl rfl Try.func51 (by kernel_rfl) rfl #[.pointer (some ⟨g, 0, none⟩)] rfl (by (try simp only [List.map_toArray, List.map_cons, List.map_nil]); first | done | rfl | (simp only [List.length_drop, List.length_take]; rfl)) ?_; (with_reducible refine (codec_ReadVerdicts_1.calls k3 g x1000_3 x1001_3 x1002_3 t217 t218 t219 t220 t221 w0 _ ?side1 ?side2 A16.out).mono ?_); (case side1 => repeat (first | (with_reducible first | exact HI0.out | apply IsS94.alloc | apply IsS94.drewN | apply IsS94.drew | apply IsS94.set_0 | apply IsS94.set_1 | apply IsS94.set_2) | exact HI0.out)); (case side2 => repeat (first | (with_reducible first | exact HB.out | apply below_alloc | apply pw_below_drewN | apply below_drew1 | refine below_set ?_ (IsS94.ge HI0.out)) | exact HB.out)); rintro e w19 ⟨rfl, hi, hb, hk⟩; refine ⟨_, rfl, ?_⟩; have n0_ := Aside0.mk (Kd.R_mono (Kd.R_keep (IsS94.apart (show IsS94 w0 _ g x1000_3 x1001_3 x1002_3 from by repeat (first | (with_reducible first | exact HI0.out | apply IsS94.alloc | apply IsS94.drewN | apply IsS94.drew | apply IsS94.set_0 | apply IsS94.set_1 | apply IsS94.set_2) | exact HI0.out)) (by (with_reducible repeat (first | apply Kd.R_alloc | apply Kd.R_drewN | apply Kd.R_drew)); exact HO_8.out) (by decide)) hk (fun _ h => h.2)) (fun _ h => h.1)); have n1_ := Aside0.mk (KeepBut.trans (by repeat (first | (with_reducible first | exact HK.out | apply KeepBut.set_ | apply keep_drewN | apply keep_drew | apply keep_alloc) | exact HK.out)) hk (.inl rfl)); have n2_ := Aside0.mk (hb); have n3_ := Aside0.mk (hi); clear HO_8; clear HK; clear HB; clear HI0; have HO_8 := n0_; have HK := n1_; have HB := n2_; have HI0 := n3_; clear n0_ n1_ n2_ n3_; (try clear hb); (try clear hb2); (try clear hk); (try clear hi)) | ((with_reducible refine gate_builtin (b := .append) (xs := #[.tmp 38, .tmp 42]) rfl ?_); at_builtin; refine Kd.R_append k58 w.heap.size rfl (.tmp 38) (.tmp 42) 43 58 (.agg #[(.int .i64 0), (.int .i64 0)]) 16 rfl Try.underlying43 info58 rfl (by decide) (by omega) u8 x8_3 (⟨t217, t218⟩ : S58) [.int .i64 t217, .int .i64 t218] (fun _ => True) (fun _ => False) rfl rfl ?aP (fun _ hk => hk.elim) ?aF ?aO (Below.refl _ _) ?aS ?aL ?_; (case aP => exact k58_mkM _ _ _ (⟨t217, t218⟩ : S58)); (case aF => exact (fun _ _ => trivial)); (case aO => exact (by (with_reducible repeat (first | apply Kd.R_alloc | apply Kd.R_drewN | apply Kd.R_drew)); exact HO_8.out)); (case aS => exact (keep_size (w := w) (g := g) (row := none) (by repeat (first | (with_reducible first | exact HK.out | apply KeepBut.set_ | apply keep_drewN | apply keep_drew | apply keep_alloc) | exact HK.out)))); (case aL => have := LMc17.out; omega); intro v223 w20 ho hb hg hat; rw [← Ny222.out] at ho; have n0_ := Aside0.mk (IsS94.grown (by repeat (first | (with_reducible first | exact HI0.out | apply IsS94.alloc | apply IsS94.drewN | apply IsS94.drew | apply IsS94.set_0 | apply IsS94.set_1 | apply IsS94.set_2) | exact HI0.out)) hg (IsS94.own_ne HI0.out HO_8.out (by decide))); have n1_ := Aside0.mk (below_weaken (by repeat (first | (with_reducible first | exact HB.out | apply below_alloc | apply pw_below_drewN | apply below_drew1 | refine below_set ?_ (IsS94.ge HI0.out)) | exact HB.out)) HL.out hb); have n2_ := Aside0.mk (KeepBut.trans (by repeat (first | (with_reducible first | exact HK.out | apply KeepBut.set_ | apply keep_drewN | apply keep_drew | apply keep_alloc) | exact HK.out)) (KeepBut.of_grown hg g) (Kd.R_base2 HO_8.out)); have n3_ := Aside0.mk (ho); clear HI0; clear HB; clear HK; clear HO_8; have HI0 := n0_; have HB := n1_; have HK := n2_; have HO224 := n3_; clear n0_ n1_ n2_ n3_; clear ho hb hg hat))
                    go_roundg k3
                    case measure => have := HJ4.out; have := HJ10.out; have := HK3.out; omega
                    case rel => exact ⟨(y222), (wrap64 (x9_3 + 1)), (t219), (t220), (t221), (by first | rfl | (simp; done) | (simp [*]; done)), H', ⟨by have := HJ4.out; have := HJ10.out; have := HK3.out; omega⟩, ⟨by (with_reducible repeat (first | apply Kd.R_alloc | apply Kd.R_drewN | apply Kd.R_drew)); exact HO224.out⟩, ⟨by repeat (first | (with_reducible first | exact HI0.out | apply IsS94.alloc | apply IsS94.drewN | apply IsS94.drew | apply IsS94.set_0 | apply IsS94.set_1 | apply IsS94.set_2) | exact HI0.out)⟩, ⟨by repeat (first | (with_reducible first | exact HK.out | apply KeepBut.set_ | apply keep_drewN | apply keep_drew | apply keep_alloc) | exact HK.out)⟩, ⟨by repeat (first | (with_reducible first | exact HB.out | apply below_alloc | apply pw_below_drewN | apply below_drew1 | refine below_set ?_ (IsS94.ge HI0.out)) | exact HB.out)⟩⟩
                  · rw [if_neg c17] at H
                    exact absurd H (by simp)
                · rw [if_neg c15] at H
                  have c15b0 : (x1002_3 == 0) = false := beq_eq_false_iff_ne.mpr c15
                  have c15b1 : (x1002_3 != 0) = true := bne_iff_ne.mpr c15
                  simp only [Option.some.injEq, Prod.mk.injEq] at H
                  obtain ⟨rfl, rfl, rfl, rfl⟩ := H
                  obtain ⟨HGz21, hgz21⟩ := HI0.out
                  have hcz21_0 := cellS94_0 HGz21
                  have hcz21_1 := cellS94_1 HGz21
                  have hcz21_2 := cellS94_2 HGz21
                  have hfz21_0 := blk_frozen HGz21 0
                  have hfz21_1 := blk_frozen HGz21 1
                  have hfz21_2 := blk_frozen HGz21 2
                  clear HGz21 hgz21
                  go_wp2
                  go_ret
                  exact ⟨_, by first | rfl | (simp [errW_none, errW_some] <;> rfl) | (simp [*, errW_none, errW_some] <;> rfl), by (with_reducible repeat (first | apply Kd.R_alloc | apply Kd.R_drewN | apply Kd.R_drew)); exact HO_8.out, by repeat (first | (with_reducible first | exact HI0.out | apply IsS94.alloc | apply IsS94.drewN | apply IsS94.drew | apply IsS94.set_0 | apply IsS94.set_1 | apply IsS94.set_2) | exact HI0.out), by repeat (first | (with_reducible first | exact HB.out | apply below_alloc | apply pw_below_drewN | apply below_drew1 | refine below_set ?_ (IsS94.ge HI0.out)) | exact HB.out), by repeat (first | (with_reducible first | exact HK.out | apply KeepBut.set_ | apply keep_drewN | apply keep_drew | apply keep_alloc) | exact HK.out)⟩
              · rw [if_neg c14] at H
                have c14b0 : decide (x9_3 < t212) = false := decide_eq_false c14
                clear c14
                simp only [Option.some.injEq, Prod.mk.injEq] at H
                obtain ⟨rfl, rfl, rfl, rfl⟩ := H
                go_wp2
                go_ret
                exact ⟨_, by first | rfl | (simp [errW_none, errW_some] <;> rfl) | (simp [*, errW_none, errW_some] <;> rfl), by (with_reducible repeat (first | apply Kd.R_alloc | apply Kd.R_drewN | apply Kd.R_drew)); exact HO_8.out, by repeat (first | (with_reducible first | exact HI0.out | apply IsS94.alloc | apply IsS94.drewN | apply IsS94.drew | apply IsS94.set_0 | apply IsS94.set_1 | apply IsS94.set_2) | exact HI0.out), by repeat (first | (with_reducible first | exact HB.out | apply below_alloc | apply pw_below_drewN | apply below_drew1 | refine below_set ?_ (IsS94.ge HI0.out)) | exact HB.out), by repeat (first | (with_reducible first | exact HK.out | apply KeepBut.set_ | apply keep_drewN | apply keep_drew | apply keep_alloc) | exact HK.out)⟩

end Go.Proofs.Ytfmlamnkpoloaaa.Q

/- The contract of surmise/codec.ReadVerdicts. -/
namespace Go.Proofs.Ytfmlamnkpoloaaa.Q
open Go.RowKit Go.Proofs.YtfmlamnkpoloaaaW.PrintWords Go.Proofs.YtfmlamnkpoloaaaW.PrintLast Go.Proofs.YtfmlamnkpoloaaaW.PrintMore
set_option linter.unusedVariables false
set_option linter.unusedSimpArgs false

def codec_ReadVerdicts.f (k : Nat) (a0 : ByteArray) (a1 : Int) : Option (List S58 × Int × Int) := (api_Verdict__by_codec_ReadVerdicts_1.f k a0 a1 0 32).bind fun t => if t.2.2.2 = 0 then (codec_verdicts.f k t.1).bind fun b => if b = true then some (t.1, t.2.2.1, 0) else some ([], 0, 6) else some ([], 0, t.2.2.2)
theorem codec_ReadVerdicts.mono : ∀ a0 a1 k, LeO (codec_ReadVerdicts.f k a0 a1) (codec_ReadVerdicts.f (k + 1) a0 a1) := by
  intro a0 a1 k
  unfold codec_ReadVerdicts.f
  exact LeO.bind (api_Verdict__by_codec_ReadVerdicts_1.mono _ _ _ _ _) (fun t => LeO.ite (LeO.bind (codec_verdicts.mono _ _) (fun b => LeO.refl _)) (LeO.refl _))
set_option maxHeartbeats 8000000 in
set_option maxRecDepth 100000 in
theorem codec_ReadVerdicts.calls (k : Nat) (a0 : ByteArray) (a1 : Int) (r1 : List S58) (r2 : Int) (r3 : Int) (w : World) (h : codec_ReadVerdicts.f k a0 a1 = some (r1, r2, r3)) :
    Calls Try.prog 45 #[.string a0, .int .i64 a1] w fun e w' => ∃ v0_ : Value, e = .returned (.tuple #[v0_, .int .i64 r2, .int .i64 r3]) ∧ Kd.R k58 58 w' w.heap.size (fun _ => True) v0_ r1 ∧ Below w.heap.size w w' := by
  unfold codec_ReadVerdicts.f at h
  rw [Option.bind_eq_some_iff] at h
  obtain ⟨⟨x1, x2, x3, x4⟩, hx, h⟩ := h
  replace h : (if x4 = 0 then (codec_verdicts.f k x1).bind fun b => if b = true then some (x1, x3, (0 : Int)) else some ([], 0, 6) else some ([], 0, x4)) = some (r1, r2, r3) := h
  have HX := Aside0.mk hx
  clear hx
  by_cases c0 : x4 = 0
  · subst c0
    rw [if_pos rfl, Option.bind_eq_some_iff] at h
    obtain ⟨b, hb, h⟩ := h
    have HOK := Aside0.mk hb
    clear hb
    cases b with
    | true =>
      rw [if_pos rfl] at h
      simp only [Option.some.injEq, Prod.mk.injEq] at h
      obtain ⟨rfl, rfl, rfl⟩ := h
      go_enter Try.func45, Try.ntmps45
      go_wp2_with (first | (go_at_call 50; refine (api_Verdict__by_codec_ReadVerdicts_1.calls k w.heap.size a0 a1 0 32 x1 x2 x3 _ w _ (IsS94.new w w a0 a1 0 (Below.refl _ _)) (below_alloc (Below.refl _ _) _) HX.out).mono ?_; rintro e w1 ⟨v0, rfl, hR, hI, hB, hK⟩; obtain ⟨A, c, rfl, hl, hC⟩ := Kd.R_reads hR; have HR := Aside0.mk (IsS94.apart hI (Kd.R_lower hR (Below.size (below_alloc (Below.refl w.heap.size w) _))) (by decide)); have HI := Aside0.mk hI; have HB := Aside0.mk hB; have HL := Aside0.mk hl; have HC := Aside0.mk hC; clear hR hI hB hK hl hC) | (go_at_call 49; refine (end_verdicts_true k w.heap.size x2 x3 A c x1 w _ HI.out HB.out HC.out HL.out HOK.out).mono ?_; rintro e w2 ⟨rfl, hI2, hB2, hK2⟩; have HB2 := Aside0.mk hB2; have HK2 := Aside0.mk hK2; clear hI2 hB2 hK2))
      go_ret3
      exact ⟨_, rfl, Kd.R_mono (Kd.R_keep HR.out HK2.out (fun _ hk => hk.2)) (fun _ _ => trivial), HB2.out⟩
    | false =>
      rw [if_neg (by decide)] at h
      simp only [Option.some.injEq, Prod.mk.injEq] at h
      obtain ⟨rfl, rfl, rfl⟩ := h
      go_enter Try.func45, Try.ntmps45
      go_wp2_with (first | (go_at_call 50; refine (api_Verdict__by_codec_ReadVerdicts_1.calls k w.heap.size a0 a1 0 32 x1 x2 x3 _ w _ (IsS94.new w w a0 a1 0 (Below.refl _ _)) (below_alloc (Below.refl _ _) _) HX.out).mono ?_; rintro e w1 ⟨v0, rfl, hR, hI, hB, hK⟩; obtain ⟨A, c, rfl, hl, hC⟩ := Kd.R_reads hR; have HR := Aside0.mk (IsS94.apart hI (Kd.R_lower hR (Below.size (below_alloc (Below.refl w.heap.size w) _))) (by decide)); have HI := Aside0.mk hI; have HB := Aside0.mk hB; have HL := Aside0.mk hl; have HC := Aside0.mk hC; clear hR hI hB hK hl hC) | (go_at_call 49; refine (end_verdicts_false k w.heap.size x2 x3 A c x1 w _ HI.out HB.out HC.out HL.out HOK.out).mono ?_; rintro e w2 ⟨rfl, hI2, hB2, hK2⟩; have HB2 := Aside0.mk hB2; have HK2 := Aside0.mk hK2; clear hI2 hB2 hK2))
      go_ret3
      exact ⟨_, rfl, Kd.R_nil _ _ _ _ _, HB2.out⟩
  · rw [if_neg c0] at h
    simp only [Option.some.injEq, Prod.mk.injEq] at h
    obtain ⟨rfl, rfl, rfl⟩ := h
    have C0 := Aside0.mk c0
    clear c0
    go_enter Try.func45, Try.ntmps45
    go_wp2_with (first | (go_at_call 50; refine (api_Verdict__by_codec_ReadVerdicts_1.calls k w.heap.size a0 a1 0 32 x1 x2 x3 _ w _ (IsS94.new w w a0 a1 0 (Below.refl _ _)) (below_alloc (Below.refl _ _) _) HX.out).mono ?_; rintro e w1 ⟨v0, rfl, hR, hI, hB, hK⟩; obtain ⟨A, c, rfl, hl, hC⟩ := Kd.R_reads hR; have HR := Aside0.mk (IsS94.apart hI (Kd.R_lower hR (Below.size (below_alloc (Below.refl w.heap.size w) _))) (by decide)); have HI := Aside0.mk hI; have HB := Aside0.mk hB; have HL := Aside0.mk hl; have HC := Aside0.mk hC; clear hR hI hB hK hl hC) | (go_at_call 49; refine (end_verdicts_err k w.heap.size x2 x3 A c x1 w _ x4 C0.out HI.out HB.out HC.out HL.out).mono ?_; rintro e w2 ⟨rfl, hI2, hB2, hK2⟩; have HB2 := Aside0.mk hB2; have HK2 := Aside0.mk hK2; clear hI2 hB2 hK2))
    go_ret3
    exact ⟨_, rfl, Kd.R_nil _ _ _ _ _, HB2.out⟩

end Go.Proofs.Ytfmlamnkpoloaaa.Q

/- Verdicts that were laid are read as they were. (Printed by gen_read.py out of texts of chapters 01 and 10.) -/
namespace Go.Proofs.Ytfmlamnkpoloaaa.Q
open Go.RowKit Go.Proofs.YtfmlamnkpoloaaaW.PrintWords Go.Proofs.YtfmlamnkpoloaaaW.PrintLast Go.Proofs.YtfmlamnkpoloaaaW.PrintMore
set_option linter.unusedVariables false
set_option linter.unusedSimpArgs false
/-- A number's digits from digit k on: what they are worth, how many, or the error. -/
def scan : List Nat → Nat → Nat × Nat × Int
  | [], _ => (0, 0, 5)
  | c :: l, k => if k = 9 ∧ 1 < c then (0, 0, 6) else if 128 ≤ c then (if (scan l (k + 1)).2.2 = 0 then (c - 128 + 128 * (scan l (k + 1)).1, (scan l (k + 1)).2.1 + 1, 0) else (0, 0, (scan l (k + 1)).2.2)) else if c = 0 ∧ 0 < k then (0, 0, 6) else (c, 1, 0)
def unz (u : Nat) : Int := if u % 2 = 1 then -((u / 2 : Nat) : Int) - 1 else ((u / 2 : Nat) : Int)
def outR (a : Int) (lo k : Nat) (r : Nat × Nat × Int) : Int × Int × Int := if r.2.2 = 0 then (unz (lo + 128 ^ k * r.1), a + (k : Int) + (r.2.1 : Int), 0) else (0, 0, r.2.2)
/-- What is read as a number. -/
def readN (s : ByteArray) (a : Int) : Int × Int × Int := if a < 0 ∨ (s.size : Int) < a then (0, 0, 3) else outR a 0 0 (scan ((bl s).drop a.toNat) 0)
theorem outR_more (a : Int) (lo k c : Nat) (l : List Nat) (hk : k ≠ 9) (hc : 128 ≤ c) : outR a lo k (scan (c :: l) k) = outR a (lo + (c - 128) * 128 ^ k) (k + 1) (scan l (k + 1)) := by
  rw [scan, if_neg (by omega), if_pos hc]
  generalize scan l (k + 1) = r
  unfold outR
  by_cases h : r.2.2 = 0
  · rw [if_pos h, if_pos h, if_pos rfl]
    have e1 : lo + 128 ^ k * (c - 128 + 128 * r.1) = lo + (c - 128) * 128 ^ k + 128 ^ (k + 1) * r.1 := by
      rw [Nat.mul_add, Nat.pow_succ, Nat.mul_comm (128 ^ k) (c - 128), ← Nat.mul_assoc, Nat.add_assoc]
    have e2 : a + (k : Int) + ((r.2.1 + 1 : Nat) : Int) = a + ((k + 1 : Nat) : Int) + (r.2.1 : Int) := by omega
    show (unz (lo + 128 ^ k * (c - 128 + 128 * r.1)), a + (k : Int) + ((r.2.1 + 1 : Nat) : Int), (0 : Int)) = _
    rw [e1, e2]
  · rw [if_neg h, if_neg h, if_neg h]
theorem pow128 (k : Nat) : 128 ^ k = 2 ^ (7 * k) := by rw [Nat.pow_mul]
theorem wraps_u64 (n : Int) (h0 : 0 ≤ n) (h1 : n < 2 ^ 64) : IntKind.u64.wrap n = n := by rw [wrap_u64]; omega
theorem or_u64 (a b : Nat) (ha : a < 18446744073709551616) (hb : b < 18446744073709551616) : Go.bits .or .u64 (a : Int) (b : Int) = ((a ||| b : Nat) : Int) :=
  (bits_nat .u64 64 (by decide) wraps_u64 a b ha hb).2
theorem and127 (c : Nat) (hc : c < 256) : Go.bits .and .u8 (c : Int) 127 = ((c % 128 : Nat) : Int) := by
  have h := bits_mask .u8 8 (by decide) wraps_u8 7 (by decide) (c : Int) (by omega) (by omega)
  have e : ((2 : Int) ^ 7 - 1) = 127 := by decide
  have e2 : ((2 : Int) ^ 7) = 128 := by decide
  rw [e, e2] at h
  rw [h]
  omega
/-- A digit more. -/
theorem digit_more (lo c k : Nat) (hlo : lo < 128 ^ k) (hc : c < 256) (hk : k ≤ 9) (h9 : k = 9 → c % 128 ≤ 1) :
    Go.bits .or .u64 (lo : Int) (shl .u64 (IntKind.u64.wrap (Go.bits .and .u8 (c : Int) 127)) (wrap64 (7 * (k : Int)))) = ((lo + (c % 128) * 128 ^ k : Nat) : Int) := by
  have hx : c % 128 < 128 := Nat.mod_lt _ (by decide)
  have hp : 128 ^ k ≤ 128 ^ 9 := Nat.pow_le_pow_right (by decide) hk
  have e9 : (128 : Nat) ^ 9 = 9223372036854775808 := by decide
  have hb : (c % 128) * 128 ^ k < 18446744073709551616 := by
    by_cases h : k = 9
    · subst h
      have := h9 rfl
      rw [e9]
      omega
    · have h8 : 128 ^ k ≤ 128 ^ 8 := Nat.pow_le_pow_right (by decide) (by omega)
      have e8 : (128 : Nat) ^ 8 = 72057594037927936 := by decide
      have : (c % 128) * 128 ^ k ≤ 127 * 128 ^ 8 := Nat.mul_le_mul (by omega) h8
      rw [e8] at this
      omega
  have hl : lo < 18446744073709551616 := by omega
  have e1 : wrap64 (7 * (k : Int)) = ((7 * k : Nat) : Int) := by rw [wrap_id (by omega) (by omega)]; omega
  have e2 : shl .u64 (IntKind.u64.wrap ((c % 128 : Nat) : Int)) ((7 * k : Nat) : Int) = ((c % 128 * 128 ^ k : Nat) : Int) := by
    have w1 : IntKind.u64.wrap ((c % 128 : Nat) : Int) = ((c % 128 : Nat) : Int) := by rw [wrap_u64]; omega
    have hb64 : IntKind.u64.bits = 64 := rfl
    have m1 : min ((7 * k : Nat) : Int).toNat IntKind.u64.bits = 7 * k := by rw [hb64, Int.toNat_natCast]; omega
    have c1 : ((c % 128 : Nat) : Int) * 2 ^ (7 * k) = ((c % 128 * 128 ^ k : Nat) : Int) := by
      rw [pow128]
      simp
    rw [shl, w1, m1, c1, wrap_u64]
    omega
  rw [and127 c hc, e1, e2, or_u64 lo _ hl hb]
  have h3 : lo ||| c % 128 * 128 ^ k = lo + c % 128 * 128 ^ k := by
    have := Nat.two_pow_add_eq_or_of_lt (i := 7 * k) (b := lo) (by rw [← pow128]; exact hlo) (c % 128)
    rw [← pow128, Nat.mul_comm] at this
    rw [Nat.or_comm, ← this, Nat.add_comm]
  rw [h3]
theorem not_i64 (u : Nat) (h : u < 9223372036854775808) : Go.bits .xor .i64 (-1) (u : Int) = -(u : Int) - 1 := by
  have e : BitVec.ofInt 64 (-1) = BitVec.allOnes 64 := by decide
  have e2 : (BitVec.ofInt 64 (-1) ^^^ BitVec.ofInt 64 (u : Int)).toNat = 18446744073709551615 - u := by
    rw [e, BitVec.allOnes_xor, BitVec.toNat_not, BitVec.ofInt_natCast, BitVec.toNat_ofNat]
    omega
  show IntKind.i64.wrap ((BitVec.ofInt 64 (-1) ^^^ BitVec.ofInt 64 (u : Int)).toNat : Int) = _
  rw [e2, IntKind.wrap_i64]
  omega
theorem and1_u64 (u : Nat) (hu : u < 18446744073709551616) : Go.bits .and .u64 (u : Int) 1 = ((u % 2 : Nat) : Int) := by
  have h := bits_mask .u64 64 (by decide) wraps_u64 1 (by decide) (u : Int) (by omega) (by omega)
  simpa using h
theorem unz_odd (v : Nat) (h : v % 2 = 1) : unz v = -((v / 2 : Nat) : Int) - 1 := by rw [unz, if_pos h]
theorem unz_even (v : Nat) (h : ¬ v % 2 = 1) : unz v = ((v / 2 : Nat) : Int) := by rw [unz, if_neg h]
theorem half_cast (v : Nat) (h : v < 18446744073709551616) : wrap64 ((v : Int) / 2) = ((v / 2 : Nat) : Int) := by
  rw [wrap_id (by omega) (by omega)]
  omega
theorem vj3 (a : Int) (h0 : 0 ≤ a) (h1 : a ≤ 140737488351232) (v i : Nat) (hv : v < 18446744073709551616) (hi : i ≤ 9) (k : Nat) : varint_ReadNumber.j3 (k + 1) a (v : Int) (i : Int) false = some (unz v, a + (i : Int) + 1, 0) := by
  rw [varint_ReadNumber.j3, if_neg (by decide), and1_u64 v hv, half_cast v hv, wrap_id (i := a + (i : Int)) (by omega) (by omega), wrap_id (i := a + (i : Int) + 1) (by omega) (by omega)]
  by_cases h : v % 2 = 1
  · rw [if_pos (by omega), not_i64 _ (by omega), unz_odd v h]
  · rw [if_neg (by omega), unz_even v h]
theorem vj3_bad (a v i : Int) (k : Nat) : varint_ReadNumber.j3 (k + 1) a v i true = some (0, 0, 6) := by
  rw [varint_ReadNumber.j3, if_pos rfl]
theorem outR_bad (a : Int) (lo k : Nat) (e : Int) (he : e ≠ 0) (r : Nat × Nat × Int) (hr : r = (0, 0, e)) : outR a lo k r = (0, 0, e) := by
  rw [hr, outR, if_neg he]
theorem outR_last (a : Int) (lo k c : Nat) : outR a lo k (c, 1, 0) = (unz (lo + c * 128 ^ k), a + (k : Int) + 1, 0) := by
  rw [outR, if_pos rfl, Nat.mul_comm c]
  rfl
theorem low_more (lo c k : Nat) (hlo : lo < 128 ^ k) (hc : c < 128) : lo + c * 128 ^ k < 128 ^ (k + 1) := by
  have : c * 128 ^ k ≤ 127 * 128 ^ k := Nat.mul_le_mul_right _ (by omega)
  rw [Nat.pow_succ]
  omega
theorem low_top (lo c k : Nat) (hlo : lo < 128 ^ k) (hc : c < 128) (hk : k ≤ 9) (h9 : k = 9 → c ≤ 1) : lo + c * 128 ^ k < 18446744073709551616 := by
  by_cases h : k = 9
  · subst h
    have e9 : (128 : Nat) ^ 9 = 9223372036854775808 := by decide
    have := h9 rfl
    rw [e9] at hlo ⊢
    omega
  · have h1 := low_more lo c k hlo hc
    have h2 : 128 ^ (k + 1) ≤ 128 ^ 9 := Nat.pow_le_pow_right (by decide) (by omega)
    have e9 : (128 : Nat) ^ 9 = 9223372036854775808 := by decide
    omega
theorem vj2 (s : ByteArray) (p lo i c k : Nat) (hp : p ≤ 140737488351232) (hi : i ≤ 9) (hlo : lo < 128 ^ i) (hc : c < 256) (h9 : i = 9 → c ≤ 1) (l : List Nat)
    (go : 128 ≤ c → i ≠ 9 → varint_ReadNumber.l0 (k + 1) s (p : Int) ((lo + (c - 128) * 128 ^ i : Nat) : Int) ((i + 1 : Nat) : Int) = some (outR (p : Int) (lo + (c - 128) * 128 ^ i) (i + 1) (scan l (i + 1)))) :
    varint_ReadNumber.j2 (k + 2) s (p : Int) (lo : Int) (i : Int) (c : Int) false = some (outR (p : Int) lo i (scan (c :: l) i)) := by
  rw [varint_ReadNumber.j2, if_neg (by decide), digit_more lo c i hlo hc hi (fun h => by have := h9 h; omega), wrap_id (i := 7 * (i : Int)) (by omega) (by omega), if_pos (by omega)]
  by_cases h : 128 ≤ c
  · have e : c % 128 = c - 128 := by omega
    have hi9 : i ≠ 9 := fun h' => by have := h9 h'; omega
    rw [if_pos (by omega), wrap_up (by omega) (by omega), e, outR_more _ _ _ _ _ hi9 h]
    have := go h hi9
    rw [← this]
    rfl
  · have e : c % 128 = c := by omega
    rw [if_neg (by omega), e]
    have hs : scan (c :: l) i = if c = 0 ∧ 0 < i then (0, 0, 6) else (c, 1, 0) := by
      rw [scan, if_neg (fun h' => by have := h9 h'.1; omega), if_neg h]
    by_cases h0 : c = 0
    · rw [if_pos (by omega)]
      by_cases hi0 : 0 < i
      · have hd : decide ((i : Int) > 0) = true := decide_eq_true (by omega)
        rw [hd, vj3_bad, outR_bad _ _ _ 6 (by decide) _ (by rw [hs, if_pos ⟨h0, hi0⟩])]
      · have hd : decide ((i : Int) > 0) = false := decide_eq_false (by omega)
        rw [hd, vj3 _ (by omega) (by omega) _ _ (low_top lo c i hlo (by omega) hi h9) hi, hs, if_neg (fun h' => hi0 h'.2), outR_last]
    · rw [if_neg (by omega), vj3 _ (by omega) (by omega) _ _ (low_top lo c i hlo (by omega) hi h9) hi, hs, if_neg (fun h' => h0 h'.1), outR_last]
theorem vl0 (s : ByteArray) (hs : s.size ≤ 140737488351232) (p : Nat) (hp : p ≤ s.size) (e : Nat) : ∀ (i lo k : Nat), i + e = 9 → lo < 128 ^ i → 2 * e + 10 ≤ k → varint_ReadNumber.l0 k s (p : Int) (lo : Int) (i : Int) = some (outR (p : Int) lo i (scan ((bl s).drop (p + i)) i)) := by
  induction e with
  | zero =>
    intro i lo k hi hlo hk
    obtain ⟨k, rfl⟩ : ∃ k', k = k' + 3 := ⟨k - 3, by omega⟩
    have hi9 : i = 9 := by omega
    rw [varint_ReadNumber.l0, wrap_id (i := (p : Int) + (i : Int)) (by omega) (by omega)]
    by_cases h : p + i < s.size
    · rw [if_pos (by omega), if_pos (by omega), if_pos (by omega)]
      have hb : bt s ((p : Int) + (i : Int)) = _ := bl_bt s (p + i) h
      rw [hb, bl_drop s (p + i) h]
      have hc : (bl s)[p + i]'(by rw [bl_length]; exact h) < 256 := bl_idx s _ _
      generalize (bl s)[p + i]'(by rw [bl_length]; exact h) = c at hc ⊢
      by_cases h1 : 1 < c
      · have hd : decide ((c : Int) > 1) = true := decide_eq_true (by omega)
        rw [hd, varint_ReadNumber.j2, if_pos rfl, outR_bad _ _ _ 6 (by decide) _ (by rw [scan, if_pos ⟨hi9, h1⟩])]
      · have hd : decide ((c : Int) > 1) = false := decide_eq_false (by omega)
        rw [hd]
        exact vj2 s p lo i c k (by omega) (by omega) hlo hc (fun _ => by omega) _ (fun h' _ => absurd h' (by omega))
    · rw [if_neg (by omega), List.drop_eq_nil_of_le (by rw [bl_length]; omega), outR_bad _ _ _ 5 (by decide) _ (by rw [scan])]
  | succ e ih =>
    intro i lo k hi hlo hk
    obtain ⟨k, rfl⟩ : ∃ k', k = k' + 3 := ⟨k - 3, by omega⟩
    rw [varint_ReadNumber.l0, wrap_id (i := (p : Int) + (i : Int)) (by omega) (by omega)]
    by_cases h : p + i < s.size
    · rw [if_pos (by omega), if_pos (by omega), if_neg (by omega)]
      have hb : bt s ((p : Int) + (i : Int)) = _ := bl_bt s (p + i) h
      rw [hb, bl_drop s (p + i) h]
      have hc : (bl s)[p + i]'(by rw [bl_length]; exact h) < 256 := bl_idx s _ _
      generalize (bl s)[p + i]'(by rw [bl_length]; exact h) = c at hc ⊢
      refine vj2 s p lo i c k (by omega) (by omega) hlo hc (fun h' => by omega) _ (fun h1 h2 => ?_)
      rw [ih (i + 1) _ (k + 1) (by omega) (low_more lo (c - 128) i hlo (by omega)) (by omega)]
      rfl
    · rw [if_neg (by omega), List.drop_eq_nil_of_le (by rw [bl_length]; omega), outR_bad _ _ _ 5 (by decide) _ (by rw [scan])]
theorem read_some (s : ByteArray) (hs : s.size ≤ 140737488351232) (a : Int) (k : Nat) (hk : 40 ≤ k) : varint_ReadNumber.f k s a = some (readN s a) := by
  obtain ⟨k, rfl⟩ : ∃ k', k = k' + 1 := ⟨k - 1, by omega⟩
  unfold varint_ReadNumber.f readN
  by_cases h0 : a < 0
  · rw [if_pos h0, if_pos (Or.inl h0), varint_ReadNumber.j0, if_pos rfl]
  · rw [if_neg h0]
    by_cases h1 : (s.size : Int) < a
    · have hd : decide (a > (s.size : Int)) = true := decide_eq_true h1
      rw [hd, if_pos (Or.inr h1), varint_ReadNumber.j0, if_pos rfl]
    · have hd : decide (a > (s.size : Int)) = false := decide_eq_false h1
      have hn : ¬ (a < 0 ∨ (s.size : Int) < a) := by omega
      rw [hd, if_neg hn, varint_ReadNumber.j0, if_neg (by decide)]
      obtain ⟨p, rfl⟩ : ∃ p : Nat, a = (p : Int) := ⟨a.toNat, by omega⟩
      have := vl0 s hs p (by omega) 9 0 0 k (by omega) (by decide) (by omega)
      simpa using this
theorem numB_len (n : Int) : (numB n).size = (digL 10 (zig n)).length := by
  unfold numB
  rw [strOfNums_size, ints, List.length_map]
theorem unz_zig (n : Int) : unz (zig n) = n := by
  unfold unz zig
  split <;> split <;> omega
theorem scan_digL (f : Nat) : ∀ (k u : Nat) (rest : List Nat), f + k = 10 → 1 ≤ f → 128 ^ k * u < 18446744073709551616 → (0 < k → 0 < u) → scan (digL f u ++ rest) k = (u, (digL f u).length, 0) := by
  induction f with
  | zero => intro k u rest _ h; exact absurd h (by decide)
  | succ f ih =>
    intro k u rest hf _ hu h0
    have e9 : (128 : Nat) ^ 9 = 9223372036854775808 := by decide
    by_cases h : u < 128
    · rw [digL_last f u h, List.singleton_append, scan, if_neg ?_, if_neg (by omega), if_neg (by omega)]
      · rfl
      · rintro ⟨hk, h1⟩
        subst hk
        rw [e9] at hu
        omega
    · have hk9 : k ≠ 9 := by
        rintro rfl
        rw [e9] at hu
        omega
      have hk10 : k ≤ 8 := by
        have : k ≠ 10 := by
          rintro rfl
          omega
        omega
      have hm : 128 ^ (k + 1) * (u / 128) ≤ 128 ^ k * u := by
        rw [Nat.pow_succ, Nat.mul_assoc]
        exact Nat.mul_le_mul_left _ (by omega)
      have hi := ih (k + 1) (u / 128) rest (by omega) (by omega) (by omega) (fun _ => by omega)
      rw [digL_more f u (by omega), List.cons_append, scan, if_neg (fun h' => hk9 h'.1), if_pos (by omega), hi]
      have e : u % 128 + 128 - 128 + 128 * (u / 128) = u := by omega
      rw [if_pos rfl, List.length_cons]
      show (u % 128 + 128 - 128 + 128 * (u / 128), (digL f (u / 128)).length + 1, (0 : Int)) = _
      rw [e]
theorem digL_lt (f : Nat) : ∀ u, ∀ c ∈ digL f u, c < 256 := by
  induction f with
  | zero => intro u c h; simp [digL] at h
  | succ f ih =>
    intro u c h
    by_cases hu : u < 128
    · rw [digL_last f u hu, List.mem_singleton] at h
      omega
    · rw [digL_more f u (by omega), List.mem_cons] at h
      rcases h with rfl | h
      · omega
      · exact ih _ c h
theorem ints_nat (l : List Nat) : (ints l).map Int.toNat = l := by
  rw [ints, List.map_map]
  have : (Int.toNat ∘ fun (n : Nat) => (n : Int)) = id := by
    funext n
    rfl
  rw [this, List.map_id]
theorem bl_numB (n : Int) : bl (numB n) = digL 10 (zig n) := by
  rw [numB, bl_nums _ (fun x hx => ?_), ints_nat]
  obtain ⟨m, hm, rfl⟩ := List.mem_map.mp hx
  have := digL_lt _ _ m hm
  omega
/-- At place p of s stands x. -/
def At (s : ByteArray) (p : Nat) (x : ByteArray) : Prop := p ≤ s.size ∧ ∃ rest, (bl s).drop p = bl x ++ rest
theorem At.left {s : ByteArray} {p : Nat} {x y : ByteArray} (h : At s p (x ++ y)) : At s p x := by
  obtain ⟨h0, r, h⟩ := h
  exact ⟨h0, bl y ++ r, by rw [h, bl_append, List.append_assoc]⟩
theorem At.le {s : ByteArray} {p : Nat} {x : ByteArray} (h : At s p x) : p + x.size ≤ s.size := by
  obtain ⟨h0, r, h⟩ := h
  have := congrArg List.length h
  rw [List.length_drop, List.length_append, bl_length, bl_length] at this
  omega
theorem At.right {s : ByteArray} {p : Nat} {x y : ByteArray} (h : At s p (x ++ y)) : At s (p + x.size) y := by
  have h1 := h.left.le
  obtain ⟨h0, r, h⟩ := h
  refine ⟨h1, r, ?_⟩
  rw [← List.drop_drop, h, bl_append, List.append_assoc, ← bl_length x, List.drop_left]
theorem At.mid (a x b : ByteArray) : At ((a ++ x) ++ b) a.size x := by
  refine ⟨by rw [ByteArray.size_append, ByteArray.size_append]; omega, bl b, ?_⟩
  rw [bl_append, bl_append, List.append_assoc, ← bl_length a, List.drop_left]
theorem readN_num (s : ByteArray) (n : Int) (h0 : -9223372036854775808 ≤ n) (h1 : n ≤ 9223372036854775807) (p : Nat) (h : At s p (numB n)) : readN s (p : Int) = (n, ((p + (numB n).size : Nat) : Int), 0) := by
  obtain ⟨hp, r, h⟩ := h
  unfold readN
  rw [if_neg (by omega), Int.toNat_natCast, h, bl_numB, scan_digL 10 0 (zig n) r (by omega) (by omega) (by have := zig_lt n h0 h1; omega) (by omega), outR, if_pos rfl]
  have e1 : 0 + 128 ^ 0 * zig n = zig n := by omega
  have e2 : (p : Int) + ((0 : Nat) : Int) + ((digL 10 (zig n)).length : Int) = ((p + (numB n).size : Nat) : Int) := by
    rw [numB_len]
    omega
  show (unz (0 + 128 ^ 0 * zig n), (p : Int) + ((0 : Nat) : Int) + ((digL 10 (zig n)).length : Int), (0 : Int)) = _
  rw [e1, e2, unz_zig]
def numE (s : ByteArray) (a e : Int) : Int × Int × Int := if e = 0 then readN s a else (0, a, e)
theorem rnumber_some (s : ByteArray) (hs : s.size ≤ 140737488351232) (a e : Int) (k : Nat) (hk : 40 ≤ k) : codec_reader_number.f k s a e = some ((numE s a e).1, s, (numE s a e).2.1, (numE s a e).2.2) := by
  unfold codec_reader_number.f numE
  by_cases h : e = 0
  · rw [if_pos h, if_pos h, bind_of (read_some s hs a k hk)]
  · rw [if_neg h, if_neg h]
theorem numE_back (s : ByteArray) (n : Int) (hw : (Lit.int .i64 n).wf = true) (p : Nat) (h : At s p (numB n)) : numE s (p : Int) 0 = (n, ((p + (numB n).size : Nat) : Int), 0) := by
  have hb := i64_of hw
  unfold numE
  rw [if_pos rfl]
  exact readN_num s n hb.1 hb.2 p h
def manyL {α : Type} (R : Int → α × Int × Int) : Nat → Int → Int → List α → List α × Int × Int
  | 0, a, e, acc => (acc, a, e)
  | d + 1, a, e, acc => if e = 0 then manyL R d (R a).2.1 (R a).2.2 (acc ++ [(R a).1]) else (acc, a, e)
def someE {α : Type} (R : Int → α × Int × Int) (m : Int) (s : ByteArray) (a e : Int) : List α × Int × Int :=
  if (numE s a e).2.2 = 0 then (if wiB (numE s a e).1 0 m = true then manyL R (numE s a e).1.toNat (numE s a e).2.1 0 [] else ([], (numE s a e).2.1, 6)) else ([], (numE s a e).2.1, (numE s a e).2.2)
theorem wiB_iff (n a b : Int) : wiB n a b = true ↔ a ≤ n ∧ n ≤ b := by
  unfold wiB
  exact decide_eq_true_iff
theorem manyL_back {α : Type} (s : ByteArray) (R : Int → α × Int × Int) (B : α → ByteArray) (l : List α) : ∀ (p : Nat) (acc : List α), (∀ x ∈ l, ∀ q : Nat, At s q (B x) → R (q : Int) = (x, ((q + (B x).size : Nat) : Int), 0)) → At s p (catB B l) →
    manyL R l.length (p : Int) 0 acc = (acc ++ l, ((p + (catB B l).size : Nat) : Int), 0) := by
  induction l with
  | nil => intro p acc _ _; rw [List.append_nil]; rfl
  | cons x l ih =>
    intro p acc h hat
    rw [catB_cons] at hat
    have h1 := h x (List.mem_cons_self ..) p hat.left
    rw [List.length_cons, manyL, if_pos rfl, h1]
    have := ih (p + (B x).size) (acc ++ [x]) (fun y hy => h y (List.mem_cons_of_mem _ hy)) hat.right
    rw [catB_cons, size_app, ← Nat.add_assoc]
    rw [List.append_assoc] at this
    exact this
theorem someE_back {α : Type} (s : ByteArray) (R : Int → α × Int × Int) (B : α → ByteArray) (l : List α) (m : Nat) (hl : l.length ≤ m) (hm : m ≤ 4096) (p : Nat) (h : ∀ x ∈ l, ∀ q : Nat, At s q (B x) → R (q : Int) = (x, ((q + (B x).size : Nat) : Int), 0)) (hat : At s p (listB B l)) :
    someE R (m : Int) s (p : Int) 0 = (l, ((p + (listB B l).size : Nat) : Int), 0) := by
  unfold listB at hat ⊢
  unfold someE
  rw [numE_back s l.length (wf_i64 _ (by omega) (by omega)) p hat.left, if_pos rfl, if_pos ((wiB_iff _ _ _).2 ⟨by omega, by omega⟩), Int.toNat_natCast]
  have := manyL_back s R B l (p + (numB (l.length : Int)).size) [] h hat.right
  rw [size_app, ← Nat.add_assoc]
  exact this
def veE (s : ByteArray) (a e : Int) : S58 × Int × Int := ((⟨(numE s a e).1, (numE s (numE s a e).2.1 (numE s a e).2.2).1⟩ : S58), (numE s (numE s a e).2.1 (numE s a e).2.2).2)
theorem verdict_read (s : ByteArray) (hs : s.size ≤ 140737488351232) (a e : Int) (k : Nat) (hk : 400 ≤ k) : codec_ReadVerdicts_1.f k s a e = some ((veE s a e).1.f0, (veE s a e).1.f1, s, (veE s a e).2.1, (veE s a e).2.2) := by
  unfold codec_ReadVerdicts_1.f
  rw [bind_of (rnumber_some s hs a e k (by omega)), bind_of (rnumber_some s hs _ _ k (by omega))]
  rfl
theorem veE_back (s : ByteArray) (x : S58) (h0 : (Lit.int .i64 x.f0).wf = true) (h1 : (Lit.int .i64 x.f1).wf = true) (p : Nat) (h : At s p (veY x)) : veE s (p : Int) 0 = (x, ((p + (veY x).size : Nat) : Int), 0) := by
  unfold veY at h ⊢
  unfold veE
  rw [numE_back s x.f0 h0 p h.left, numE_back s x.f1 h1 _ h.right, size_app, Nat.add_assoc]
theorem sverdicts_l0 (s : ByteArray) (hs : s.size ≤ 140737488351232) (n : Nat) (hn : n ≤ 1000) (d : Nat) : ∀ (k i : Nat) (a e : Int) (acc : List S58), i + d = n → acc.length = i → d + 420 ≤ k →
    api_Verdict__by_codec_ReadVerdicts_1.l0 k (n : Int) acc (i : Int) s a e = some ((manyL (fun a => veE s a 0) d a e acc).1, s, (manyL (fun a => veE s a 0) d a e acc).2.1, (manyL (fun a => veE s a 0) d a e acc).2.2) := by
  induction d with
  | zero =>
    intro k i a e acc hi hl hk
    obtain ⟨k, rfl⟩ : ∃ m, k = m + 1 := ⟨k - 1, by omega⟩
    rw [api_Verdict__by_codec_ReadVerdicts_1.l0, if_neg (by omega)]
    rfl
  | succ d ih =>
    intro k i a e acc hi hl hk
    obtain ⟨k, rfl⟩ : ∃ m, k = m + 1 := ⟨k - 1, by omega⟩
    rw [api_Verdict__by_codec_ReadVerdicts_1.l0, if_pos (by omega), manyL]
    by_cases he : e = 0
    · rw [if_pos he, if_pos he, he, bind_of (verdict_read s hs a 0 k (by omega)), if_pos (by omega), wrap_up (by omega) (by omega)]
      exact ih k (i + 1) _ _ _ (by omega) (by rw [List.length_append, List.length_singleton]; omega) (by omega)
    · rw [if_neg he, if_neg he]
theorem sverdicts_some (s : ByteArray) (hs : s.size ≤ 140737488351232) (m : Nat) (hm : m ≤ 1000) (a e : Int) (k : Nat) (hk : 1500 ≤ k) :
    api_Verdict__by_codec_ReadVerdicts_1.f k s a e (m : Int) = some ((someE (fun a => veE s a 0) m s a e).1, s, (someE (fun a => veE s a 0) m s a e).2.1, (someE (fun a => veE s a 0) m s a e).2.2) := by
  obtain ⟨k, rfl⟩ : ∃ j, k = j + 3 := ⟨k - 3, by omega⟩
  have hbad : ∀ (n : Int) (b x : Int), x ≠ 0 → api_Verdict__by_codec_ReadVerdicts_1.l0 (k + 1) n [] 0 s b x = some ([], s, b, x) := by
    intro n b x hx
    rw [api_Verdict__by_codec_ReadVerdicts_1.l0]
    split <;> rfl
  unfold api_Verdict__by_codec_ReadVerdicts_1.f
  rw [bind_of (rnumber_some s hs a e (k + 3) (by omega))]
  unfold someE
  by_cases h : (numE s a e).2.2 = 0
  · rw [if_pos h, if_pos h, bind_of (within_some _ _ _), api_Verdict__by_codec_ReadVerdicts_1.j0]
    cases hw : wiB (numE s a e).1 0 (m : Int) with
    | false =>
      rw [if_pos (by rfl), api_Verdict__by_codec_ReadVerdicts_1.j1, hbad _ _ 6 (by decide), if_neg (by decide)]
    | true =>
      have hb := (wiB_iff _ _ _).1 hw
      rw [if_neg (by decide), api_Verdict__by_codec_ReadVerdicts_1.j1, h, if_pos rfl]
      have := sverdicts_l0 s hs (numE s a e).1.toNat (by omega) (numE s a e).1.toNat (k + 1) 0 (numE s a e).2.1 0 [] (by omega) rfl (by omega)
      rw [Int.toNat_of_nonneg hb.1] at this
      exact this
  · rw [if_neg h, if_neg h, api_Verdict__by_codec_ReadVerdicts_1.j0, if_neg (by decide), api_Verdict__by_codec_ReadVerdicts_1.j1, hbad _ _ _ h]
/-- What lies at a place is read there. -/
theorem readnumber_back (s : ByteArray) (hs : s.size ≤ 140737488351232) (n : Int) (h0 : -9223372036854775808 ≤ n) (h1 : n ≤ 9223372036854775807) (p : Nat) (h : At s p (numB n)) : varint_ReadNumber.f 100 s (p : Int) = some (n, ((p + (numB n).size : Nat) : Int), 0) := by
  rw [read_some s hs (p : Int) 100 (by omega), readN_num s n h0 h1 p h]
theorem readverdicts_back (s : ByteArray) (hs : s.size ≤ 140737488351232) (l : List S58) (hv : verdictsB l = true) (hw : ∀ x ∈ l, veOK x) (hl : l.length ≤ 32) (p : Nat) (h : At s p (listB veY l)) :
    codec_ReadVerdicts.f 3000000 s (p : Int) = some (l, ((p + (listB veY l).size : Nat) : Int), 0) := by
  have h1 := sverdicts_some s hs 32 (by omega) (p : Int) 0 3000000 (by omega)
  have h2 := someE_back s (fun a => veE s a 0) veY l 32 hl (by omega) p (fun x hx q hq => veE_back s x (hw x hx).1 (hw x hx).2 q hq) h
  unfold codec_ReadVerdicts.f
  rw [show (32 : Int) = ((32 : Nat) : Int) from rfl, bind_of h1, h2, if_pos rfl, bind_of (verdicts_some l (by omega) 3000000 (by omega)), hv]
  rfl

end Go.Proofs.Ytfmlamnkpoloaaa.Q
