/- Texts of this session laid together (merge.py): YtclmhodgfhkgcaaNIns, YtclmhodgfhkgcaaNInsE, YtclmhodgfhkgcaaNInsG, YtclmhodgfhkgcaaNInsC, YtclmhodgfhkgcaaNMove, YtclmhodgfhkgcaaLOrd0, YtclmhodgfhkgcaaNJoin, YtclmhodgfhkgcaaLOrd1. -/
import Derived.Shelf.Spec.SlicesInsertGrow
import Derived.Laws.CopyRow
import Derived.Lib.AppendZerosOnto
import Derived.Test.YtclmhodgfhkgcaaTNetCutsb
/- slices.Insert at messages: laws of no program; the way in place. -/
namespace Go.Proofs.Ytclmhodgfhkgcaa.Q
open Go.RowKit Go.Proofs.YtclmhodgfhkgcaaW.PrintWords Go.Proofs.YtclmhodgfhkgcaaW.PrintLast Go.Proofs.YtclmhodgfhkgcaaW.PrintMore
set_option linter.unusedVariables false
set_option linter.unusedSimpArgs false

/-- copy(d, s) at elements of k cells: all is read before anything is written. -/
theorem run_copy_n {P : Program} (k : Nat) (w : World) (dT sT ty elem : TypeId) (g o dLen dCap : Nat) (a : Addr) (sLen sCap : Nat) (cur : Array Value) (t : TypeId) (cs : List Value)
    (hu : P.underlying dT = some (.slice elem)) (hs : (P.info? elem).map (·.size) = some k)
    (hg : w.heap[g]? = some (.cells cur t (0, 0))) (hn : cs.length = Nat.min sLen dLen * k)
    (hsrc : ∀ j v, cs[j]? = some v → w.cell? (a.add j) = some v) (hfit : o + cs.length ≤ cur.size) (h1 : ∀ v ∈ cs, v.oneCell' = true) :
    (Builtin.copy_ #[dT, sT] ty #[.slice (some ⟨g, o, none⟩) dLen dCap, .slice (some a) sLen sCap]).run P w =
      .ok (goInt (Nat.min sLen dLen)) (w.setRow g (cur.toList.take o ++ cs ++ cur.toList.drop (o + cs.length)).toArray) := by
  have hl := run_loadCells_list (P := P) w a cs hsrc
  have hst := run_storeCells_at P g o t cs 0 cur w hg (by simpa using hfit) h1
  cases hq : P.info? elem with
  | none => simp [hq] at hs
  | some i =>
    have hi : i.size = k := by simpa [hq] using hs
    simp [Builtin.copy_, run_underlying hu, Builtin.lenOf, Builtin.firstCells, sizeOf, typeInfo, hq, hi, ← hn, hl, hst]
theorem szM : (Try.prog.info? 30).map (·.size) = some 3 := by kernel_rfl
/-- overlaps of a row and a row in another block. -/
theorem over_apart (w : World) (g h o la ca lb cb : Nat) (hne : h ≠ g) (cs cur : Array Value) (hh : w.heap[h]? = some (.cells cs 30 (0, 0))) (hg : w.heap[g]? = some (.cells cur 30 (0, 0))) (hc : cur.size ≠ 0) :
    (callFunc 35 #[.slice (some ⟨h, 0, none⟩) la ca, .slice (some ⟨g, o, none⟩) lb cb]).run Try.prog w = .ok (.value (.bool false)) w := by
  rw [run_callFunc_extern Try.func35 (by kernel_rfl) (by kernel_rfl) (by kernel_rfl) (e := Extern.SlicesOverlaps.overlaps #[22, 22] #[4]) (by kernel_rfl),
    Lib.run_overlaps_apart w 22 4 30 Try.underlying22 3 (fun w => by kernel_rfl) ⟨h, 0, none⟩ ⟨g, o, none⟩ la ca lb cb hne _ _ cs.size cur.size (by simp [World.shape?, hh]; rfl) (by simp [World.shape?, hg]; rfl) hc (blk_frozen hh 0) (blk_frozen hh _)]
  rfl
def insL (xs : List Msg) (i : Nat) (m : Msg) : List Msg := xs.take i ++ m :: xs.drop i
theorem list_ins {α : Type} (L mc : List α) (p q k : Nat) (hk : mc.length = k) (hp : p ≤ q) (hq : q + k ≤ L.length) (L1 L2 : List α) (e1 : L1 = L.take (p + k) ++ (L.take q).drop p ++ L.drop (p + k + (q - p))) (e2 : L2 = L1.take p ++ mc ++ L1.drop (p + k)) :
    L2.take (q + k) = (L.take q).take p ++ mc ++ (L.take q).drop p ∧ L2.length = L.length := by
  have hB : ((L.take q).drop p).length = q - p := by rw [List.length_drop, List.length_take]; omega
  have hA : (L.take (p + k)).length = p + k := by rw [List.length_take]; omega
  have h1 : L1.take p = (L.take q).take p := by
    rw [e1, List.append_assoc, List.take_append_of_le_length (by omega), List.take_take, List.take_take]
    congr 1
    omega
  have h2 : L1.drop (p + k) = (L.take q).drop p ++ L.drop (p + k + (q - p)) := by
    rw [e1, List.append_assoc]
    exact List.drop_left' hA
  have hT : ((L.take q).take p).length = p := by rw [List.length_take, List.length_take]; omega
  constructor
  · rw [e2, h1, h2, ← List.append_assoc]
    exact List.take_left' (by rw [List.length_append, List.length_append, hT, hB, hk]; omega)
  · rw [e2, h1, h2]
    simp only [List.length_append, hT, hB, hk, List.length_drop]
    omega
set_option maxHeartbeats 4000000 in
set_option maxRecDepth 100000 in
/-- In place: there is room. -/
theorem insert_room (g n c i h : Nat) (m : Msg) (cur : Array Value) (inner : List Value) (w : World) (hi : i < n) (hc : n + 1 ≤ c) (hn : n ≤ 256) (hg : w.heap[g]? = some (.cells cur 30 (0, 0))) (hcs : cur.size = c * 3) (hin : cur.toList.take (n * 3) = inner) (hh : w.heap[h]? = some (.cells #[.int .i64 m.f0, .int .i64 m.f1, .string m.f2] 30 (0, 0))) (hne : h ≠ g) (h1 : ∀ v ∈ inner, v.oneCell' = true) (hc63 : c ≤ 9223372036854775807) :
    Calls Try.prog 28 #[.slice (some ⟨g, 0, none⟩) n c, .int .i64 (i : Int), .slice (some ⟨h, 0, none⟩) 1 1] w fun e w' => e = .returned (.slice (some ⟨g, 0, none⟩) (n + 1) c) ∧ ∃ cur2 : Array Value, w' = (w.drewN 1).setRow g cur2 ∧ cur2.size = c * 3 ∧ cur2.toList.take ((n + 1) * 3) = inner.take (i * 3) ++ [.int .i64 m.f0, .int .i64 m.f1, .string m.f2] ++ inner.drop (i * 3) := by
  have hz2 : ¬ ((i : Int) = (n : Int)) := by omega
  have hov : ∀ lb cb o, (callFunc 35 #[.slice (some ⟨h, 0, none⟩) 1 1, .slice (some ⟨g, o, none⟩) lb cb]).run Try.prog w = .ok (.value (.bool false)) w := fun lb cb o => over_apart w g h o 1 1 lb cb hne _ cur hh hg (by omega)
  have hw1 : IntKind.i64.wrap ((i : Int) + 1) = ((i + 1 : Nat) : Int) := by rw [IntWalk.i64_in _ (by omega)]; rfl
  have hw2 : IntKind.i64.wrap ((n : Int) + 1) = ((n + 1 : Nat) : Int) := by rw [IntWalk.i64_in _ (by omega)]; rfl
  have hb1 : ¬ ((c : Int) < ((n + 1 : Nat) : Int)) := by omega
  obtain ⟨i1, hi1⟩ : ∃ i1, i + 1 = i1 := ⟨_, rfl⟩
  obtain ⟨n1, hn1⟩ : ∃ n1, n + 1 = n1 := ⟨_, rfl⟩
  rw [hi1] at hw1
  rw [hn1] at hw2 hb1 hc ⊢
  have hb2 : ¬ (c = i1) := by omega
  have hb3 : i1 ≤ n1 := by omega
  have hb4 : ¬ (c = i) := by omega
  have hb5 : i ≤ n := by omega
  have hb6 : i ≤ n1 := by omega
  have HI := Aside0.mk hi1
  have HN := Aside0.mk hn1
  clear hi1 hn1
  go_enter Try.func28, Try.ntmps28
  go_wp2_with (simp only [hov])
  have hinl : inner.length = n * 3 := by
    have := HN.out
    rw [← hin, List.length_take, Array.length_toList, hcs]
    omega
  have hcell : ∀ j v, inner[j]? = some v → w.cell? ⟨g, j, none⟩ = some v := by
    intro j v hj
    rw [blk_cell hg, ← Array.getElem?_toList]
    rw [← hin, List.getElem?_take] at hj
    split at hj
    · exact hj
    · cases hj
  obtain ⟨cur1, hcur1⟩ : ∃ cur1 : Array Value, (cur.toList.take (i1 * 3) ++ inner.drop (i * 3) ++ cur.toList.drop (i1 * 3 + (inner.drop (i * 3)).length)).toArray = cur1 := ⟨_, rfl⟩
  have hcp1 : ∀ ty, (Builtin.copy_ #[22, 22] ty #[.slice (some ⟨g, i1 * 3, none⟩) (n1 - i1) (c - i1), .slice (some ⟨g, i * 3, none⟩) (n1 - i) (c - i)]).run Try.prog (w.drewN 1) = .ok (goInt (Nat.min (n1 - i) (n1 - i1))) ((w.drewN 1).setRow g cur1) := fun ty => by
    have := run_copy_n (P := Try.prog) 3 (w.drewN 1) 22 22 ty 30 g (i1 * 3) (n1 - i1) (c - i1) ⟨g, i * 3, none⟩ (n1 - i) (c - i) cur 30 (inner.drop (i * 3)) Try.underlying22 szM hg
      (by rw [List.length_drop, hinl]; have := HI.out; have := HN.out; simp only [Nat.min_def]; split <;> omega)
      (fun j v hj => by rw [List.getElem?_drop] at hj; rw [Addr.add_lit]; exact hcell _ v hj) (by rw [List.length_drop, hinl, hcs]; have := HI.out; have := HN.out; omega) (fun v hv => h1 v (List.mem_of_mem_drop hv))
    rw [hcur1] at this
    exact this
  have HCP := Aside0.mk hcp1
  clear hcp1
  refine wp_plan [(0, 0, 69), (1, 0, 70), (2, 0, 71), (3, 0, 72), (4, 0, 73), (5, 0, 74), (6, 0, 75), (7, 0, 76), (8, 2, 77)] [] (fun W => True) (by kernel_rfl) rfl (by kernel_rfl) (fun _ t _ _ _ h => by cases t <;> exact h) trivial (fun hS => ?_)
  repeat (refine RP.take (v := ?_) (a' := ?_) rfl rfl (by assumption) (Or.inl ⟨by rfl, ?_⟩) ?_ ?_; rotate_left; (focus (intro w' hS; go_simp; with_reducible rfl)); rotate_left; (focus (simp only [Act.put, List.setIfInBounds_toArray, List.set_cons_zero, List.set_cons_succ, i64_w, i32_w]; rfl)))
  refine RP.one rfl rfl (fun K hK => ?_)
  refine Go.Proofs.step_copy_runI (by rfl) (.tmp 73) (.tmp 76) 22 22 (by rfl) _ _ (by rfl) (by rfl) (HCP.out _) ?_
  refine hK.out _ _ trivial (fun hS => ?_)
  clear hK K
  refine RP.nil ?_
  have hgW : ((w.drewN 1).setRow g cur1).heap[g]? = some (.cells cur1 30 (0, 0)) := setRow_heap _ g _ _ _ _ hg
  have hhW : ((w.drewN 1).setRow g cur1).heap[h]? = some (.cells #[.int .i64 m.f0, .int .i64 m.f1, .string m.f2] 30 (0, 0)) := (setRow_other _ g h _ hne).trans hh
  obtain ⟨cur2, hcur2⟩ : ∃ cur2 : Array Value, (cur1.toList.take (i * 3) ++ [Value.int .i64 m.f0, Value.int .i64 m.f1, Value.string m.f2] ++ cur1.toList.drop (i * 3 + 3)).toArray = cur2 := ⟨_, rfl⟩
  have hL := list_ins cur.toList [Value.int .i64 m.f0, Value.int .i64 m.f1, Value.string m.f2] (i * 3) (n * 3) 3 rfl (by omega) (by rw [Array.length_toList, hcs]; have := HN.out; omega) cur1.toList cur2.toList
    (by rw [← hcur1, hin, List.length_drop, hinl]; have := HI.out; rw [← this]; simp [Nat.add_mul]) (by rw [← hcur2])
  have hc1s : cur1.size = c * 3 := by
    rw [← hcur1]
    have := HN.out
    have := HI.out
    simp only [List.size_toArray, List.length_append, List.length_take, List.length_drop, Array.length_toList, hcs, hinl]
    omega
  have HCQ : Aside0 (∀ ty, (Builtin.copy_ #[22, 22] ty #[.slice (some ⟨g, i * 3, none⟩) (n1 - i) (c - i), .slice (some ⟨h, 0, none⟩) 1 1]).run Try.prog ((w.drewN 1).setRow g cur1) = .ok (goInt (Nat.min 1 (n1 - i))) ((w.drewN 1).setRow g cur2)) := ⟨fun ty => by
    have := run_copy_n (P := Try.prog) 3 ((w.drewN 1).setRow g cur1) 22 22 ty 30 g (i * 3) (n1 - i) (c - i) ⟨h, 0, none⟩ 1 1 cur1 30 [.int .i64 m.f0, .int .i64 m.f1, .string m.f2] Try.underlying22 szM hgW
      (by have := HN.out; have e : Nat.min 1 (n1 - i) = 1 := Nat.min_eq_left (by omega); rw [e]; rfl)
      (World.news_of_block (cs := #[.int .i64 m.f0, .int .i64 m.f1, .string m.f2]) hhW) (by rw [hc1s]; simp; omega) (by simp [Value.oneCell'])
    rw [this]
    simp only [List.length_cons, List.length_nil, Nat.zero_add, Nat.reduceAdd, hcur2, setRow_setRow]⟩
  clear hgW hhW
  have hcq := HCQ.out
  go_wp2
  go_ret
  refine ⟨rfl, cur2, rfl, ?_, ?_⟩
  · rw [← Array.length_toList, hL.2, Array.length_toList, hcs]
  · have := hL.1
    rw [hin] at this
    rw [← HN.out, Nat.add_mul]
    exact this

end Go.Proofs.Ytclmhodgfhkgcaa.Q

/- slices.Insert at messages: the way at the end, the way that grows. -/
namespace Go.Proofs.Ytclmhodgfhkgcaa.Q
open Go.RowKit Go.Proofs.YtclmhodgfhkgcaaW.PrintWords Go.Proofs.YtclmhodgfhkgcaaW.PrintLast Go.Proofs.YtclmhodgfhkgcaaW.PrintMore
set_option linter.unusedVariables false
set_option linter.unusedSimpArgs false

theorem one_rows {w : World} {h : Nat} {m : Msg} (hh : w.heap[h]? = some (.cells #[.int .i64 m.f0, .int .i64 m.f1, .string m.f2] 30 (0, 0))) : ReadsRow (kM.K w) 3 w (some ⟨h, 0, none⟩) 1 [m] := by
  refine ⟨rfl, by omega, fun _ => ⟨_, rfl, fun j p hj => ?_⟩⟩
  rcases j with _ | j
  · simp at hj
    subst hj
    refine ⟨_, rfl, k30_mk w m, fun i u hu => ?_⟩
    rw [Nat.zero_mul, Nat.zero_add]
    exact World.news_of_block (cs := #[.int .i64 m.f0, .int .i64 m.f1, .string m.f2]) hh i u hu
  · simp at hj
set_option maxHeartbeats 4000000 in
set_option maxRecDepth 100000 in
/-- At the end. -/
theorem insert_end (ok : Nat → Prop) (base : Nat) (A : Option Addr) (n c h : Nat) (xs : List Msg) (m : Msg) (w0 w : World) (HO : Kd.R kM 30 w base ok (.slice A n c) xs) (hB : Below base w0 w) (hbase : base ≤ w.heap.size) (hn : n ≤ 256) (hnew : ∀ k, w.heap.size ≤ k → ok k) (hh : w.heap[h]? = some (.cells #[.int .i64 m.f0, .int .i64 m.f1, .string m.f2] 30 (0, 0))) :
    Calls Try.prog 28 #[.slice A n c, .int .i64 (n : Int), .slice (some ⟨h, 0, none⟩) 1 1] w fun e w' => ∃ v, e = .returned v ∧ Kd.R kM 30 w' base ok v (xs ++ [m]) ∧ w.grownBy w' (Value.slice A n c).ownBlock := by
  have hv : RowM w ok (.slice A n c) xs := Kd.R_V HO
  have hxn := (Kd.V_at hv).1
  have hnc := (Kd.V_at hv).2.1
  have HH := Aside0.mk (one_rows hh)
  have HR := Aside0.mk HO
  have HB := Aside0.mk hB
  have HS := Aside0.mk hbase
  have HN := Aside0.mk hnew
  have HL := Aside0.mk (show xs.length ≤ 256 by omega)
  have hu : Try.prog.underlying 22 = some (.slice (Try.prog.elem 22)) := by kernel_rfl
  obtain ⟨vs, hvs⟩ : ∃ vs, (Instr.slice 22 (.slice A n c) (some (.int .i64 (n : Int))) Option.none Option.none).run Try.prog w = .ok vs w := by
    have hs : (sizeOf (Try.prog.elem 22)).run Try.prog w = .ok 3 w := by kernel_rfl
    exact ⟨_, by rw [run_slice_l (P := Try.prog) (w := w) 22 A n c hu .i64 (n : Int) (by omega) (by omega), hs]; rfl⟩
  have hsl : (Instr.sliceAt 22 (.slice A n c) (some (.int .i64 (n : Int))) Option.none Option.none).run Try.prog w = .ok vs w := by rw [run_sliceAt_slice (P := Try.prog) (w := w) 22 _ _ _ _ hu]; exact hvs
  clear hv HO hB hbase hnew hh hvs hu hxn
  go_enter Try.func28, Try.ntmps28
  go_wp2_with ((with_reducible refine gate_builtin (b := .append) (xs := #[.tmp 23, .tmp 24]) rfl ?_); at_builtin; refine Kd.R_append_rows kM (Rr := kM.K w) base rfl (.tmp 23) (.tmp 24) 22 30 (.agg #[.int .i64 0, .int .i64 0, .string ⟨#[]⟩]) 32 rfl Try.underlying22 infoM rfl (by decide) (by decide) (.slice A n c) xs [m] (some ⟨h, 0, none⟩) 1 1 ok (fun _ => False) rfl rfl HR.out HH.out (fun x cs h => msgKM x cs h) (fun _ h => h.elim) HN.out HB.out HS.out (by have := HL.out; omega) ?_; intro v4 w4 ho4 hb4 hg4 hat4; have HO4 := Aside0.mk ho4; have HG4 := Aside0.mk hg4; clear ho4 hb4 hg4 hat4)
  go_ret
  exact ⟨_, rfl, HO4.out, HG4.out⟩

end Go.Proofs.Ytclmhodgfhkgcaa.Q

/- slices.Insert at messages: the way that grows. -/
namespace Go.Proofs.Ytclmhodgfhkgcaa.Q
open Go.RowKit Go.Proofs.YtclmhodgfhkgcaaW.PrintWords Go.Proofs.YtclmhodgfhkgcaaW.PrintLast Go.Proofs.YtclmhodgfhkgcaaW.PrintMore
set_option linter.unusedVariables false
set_option linter.unusedSimpArgs false

theorem list_grow {α : Type} (R T mc B L1 L2 : List α) (p k : Nat) (hk : mc.length = k) (hT : R.take p = T) (hp : T.length = p) (hR : p + k + B.length ≤ R.length) (e1 : L1 = R.take p ++ mc ++ R.drop (p + k)) (e2 : L2 = L1.take (p + k) ++ B ++ L1.drop (p + k + B.length)) :
    L2.take (p + k + B.length) = T ++ mc ++ B ∧ L2.length = R.length ∧ L1.length = R.length := by
  have h0 : (T ++ mc).length = p + k := by rw [List.length_append, hp, hk]
  have h1 : L1.take (p + k) = T ++ mc := by
    rw [e1, hT]
    exact List.take_left' h0
  have h2 : L1.length = R.length := by
    rw [e1, hT, List.length_append, h0, List.length_drop]
    omega
  refine ⟨?_, ?_, h2⟩
  · rw [e2, h1]
    exact List.take_left' (by rw [List.length_append, h0])
  · rw [e2, h1, List.length_append, List.length_append, h0, List.length_drop, h2]
    omega
theorem zc_size (k : Nat) : (Builtin.zeroCells (Value.agg #[.int .i64 0, .int .i64 0, .string ⟨#[]⟩]).cells k).size = k * 3 := by
  simp [Builtin.zeroCells, Value.cells]
set_option maxHeartbeats 4000000 in
set_option maxRecDepth 100000 in
theorem insert_grow (g n c i h : Nat) (m : Msg) (cur : Array Value) (inner : List Value) (w : World) (hi : i < n) (hnc : n ≤ c) (hc : c < n + 1) (hn : n ≤ 256) (hg : w.heap[g]? = some (.cells cur 30 (0, 0))) (hcs : cur.size = c * 3) (hin : cur.toList.take (n * 3) = inner) (hh : w.heap[h]? = some (.cells #[.int .i64 m.f0, .int .i64 m.f1, .string m.f2] 30 (0, 0))) (h1 : ∀ v ∈ inner, v.oneCell' = true) :
    Calls Try.prog 28 #[.slice (some ⟨g, 0, none⟩) n c, .int .i64 (i : Int), .slice (some ⟨h, 0, none⟩) 1 1] w fun e w' => ∃ v, e = .returned v ∧ w'.ownsRow w.heap.size 30 3 v (n + 1) (inner.take (i * 3) ++ [.int .i64 m.f0, .int .i64 m.f1, .string m.f2] ++ inner.drop (i * 3)) ∧ w.grownBy w' none := by
  have hz2 : ¬ ((i : Int) = (n : Int)) := by omega
  have hw2 : IntKind.i64.wrap ((n : Int) + 1) = ((n + 1 : Nat) : Int) := by rw [IntWalk.i64_in _ (by omega)]; rfl
  have hw1 : IntKind.i64.wrap ((i : Int) + 1) = ((i + 1 : Nat) : Int) := by rw [IntWalk.i64_in _ (by omega)]; rfl
  have hw3 : IntKind.i64.wrap (((n + 1 : Nat) : Int) - (i : Int)) = ((n + 1 - i : Nat) : Int) := by rw [IntWalk.i64_in _ (by omega)]; omega
  have hb1 : (c : Int) < ((n + 1 : Nat) : Int) := by omega
  have hinl : inner.length = n * 3 := by
    rw [← hin, List.length_take, Array.length_toList, hcs]
    omega
  have hcell : ∀ j v, inner[j]? = some v → w.cell? ⟨g, j, none⟩ = some v := by
    intro j v hj
    rw [blk_cell hg, ← Array.getElem?_toList]
    rw [← hin, List.getElem?_take] at hj
    split at hj
    · exact hj
    · cases hj
  obtain ⟨i0, hi0, hz0, hzs, hzb⟩ := info_parts infoM
  have hold : (Builtin.firstCells i0.size i (.slice (some ⟨g, 0, none⟩) i c)).run Try.prog w.drew = .ok (inner.take (i * 3)).toArray w.drew := by
    rw [hzs]
    have hl := run_loadCells_list (P := Try.prog) w.drew ⟨g, 0, none⟩ (inner.take (i * 3)) (fun j v hj => by
      rw [List.getElem?_take] at hj
      split at hj
      · rw [Addr.add_lit, Nat.zero_add]
        exact hcell j v hj
      · cases hj)
    have e : (inner.take (i * 3)).length = i * 3 := by rw [List.length_take, hinl]; omega
    rw [e] at hl
    simp [Builtin.firstCells, hl]
  have hgr := fun ty => Lib.run_append_grow_zeros w 22 3 ty 30 i0 _ .i64 .i64 Try.underlying22 Try.underlying3 hi0 hz0 (some ⟨g, 0, none⟩) i c (inner.take (i * 3)) hold (n + 1 - i) (by omega) (by omega) (by omega) (by omega) (by rw [hzb]; omega) (by rw [hzb]; exact growslice_fits (by omega) (by omega))
  rw [show i + (n + 1 - i) = n + 1 by omega] at hgr
  obtain ⟨G, hG⟩ : ∃ G, grownCap w (n + 1) c 30 = G := ⟨_, rfl⟩
  have hGn : n + 1 ≤ G := by rw [← hG]; exact grownCap_ge w _ _ _
  have hGm : G ≤ maxLen := by rw [← hG]; exact grownCap_le_maxLen w (n + 1) c _ (by unfold maxLen; omega)
  have hG63 : G ≤ 9223372036854775807 := by unfold maxLen at hGm; omega
  rw [hG] at hgr
  obtain ⟨ROW, hROW⟩ : ∃ ROW : Array Value, (inner.take (i * 3)).toArray ++ Builtin.zeroCells (Value.agg #[.int .i64 0, .int .i64 0, .string ⟨#[]⟩]).cells (n + 1 - i) ++ Builtin.zeroCells (Value.agg #[.int .i64 0, .int .i64 0, .string ⟨#[]⟩]).cells (G - (n + 1)) = ROW := ⟨_, rfl⟩
  rw [hROW] at hgr
  have hti : (inner.take (i * 3)).length = i * 3 := by rw [List.length_take, hinl]; omega
  have hRs : ROW.size = G * 3 := by
    rw [← hROW, Array.size_append, Array.size_append, zc_size, zc_size, List.size_toArray, hti]
    omega
  have hRt : ROW.toList.take (i * 3) = inner.take (i * 3) := by
    rw [← hROW, Array.toList_append, Array.toList_append, List.append_assoc]
    exact List.take_left' hti
  obtain ⟨W1, hW1⟩ : ∃ W1, w.drew.alloc (.cells ROW 30 (0, 0)) = W1 := ⟨_, rfl⟩
  have hgr' : ∀ ty, (Builtin.append_ #[22, 3] ty #[.slice (some ⟨g, 0, none⟩) i c, .int .i64 ((n + 1 - i : Nat) : Int)]).run Try.prog w = .ok (.slice (some ⟨w.heap.size, 0, none⟩) (n + 1) G) W1 := fun ty => (hgr ty).trans (by rw [← hW1])
  have hN1 : W1.heap[w.heap.size]? = some (.cells ROW 30 (0, 0)) := hW1 ▸ blk_new w.drew _
  have hgl : g < w.heap.size := blk_lt hg
  have hhl : h < w.heap.size := blk_lt hh
  have hg1 : W1.heap[g]? = some (.cells cur 30 (0, 0)) := hW1 ▸ blk_alloc (w := w.drew) hg _
  have hh1 : W1.heap[h]? = some (.cells #[.int .i64 m.f0, .int .i64 m.f1, .string m.f2] 30 (0, 0)) := hW1 ▸ blk_alloc (w := w.drew) hh _
  have HG1 : Aside0 (w.grownBy W1 none) := ⟨hW1 ▸ ⟨rfl, rfl, rfl, (World.grownBy_alloc w.drew _ none).size, fun j hj _ => Below.heap_alloc w.drew _ j hj⟩⟩
  obtain ⟨cur1, hcur1⟩ : ∃ cur1 : Array Value, (ROW.toList.take (i * 3) ++ [Value.int .i64 m.f0, Value.int .i64 m.f1, Value.string m.f2] ++ ROW.toList.drop (i * 3 + 3)).toArray = cur1 := ⟨_, rfl⟩
  obtain ⟨cur2, hcur2⟩ : ∃ cur2 : Array Value, (cur1.toList.take (i * 3 + 3) ++ inner.drop (i * 3) ++ cur1.toList.drop (i * 3 + 3 + (inner.drop (i * 3)).length)).toArray = cur2 := ⟨_, rfl⟩
  have hdl : (inner.drop (i * 3)).length = n * 3 - i * 3 := by rw [List.length_drop, hinl]
  have hL := list_grow ROW.toList (inner.take (i * 3)) [Value.int .i64 m.f0, Value.int .i64 m.f1, Value.string m.f2] (inner.drop (i * 3)) cur1.toList cur2.toList (i * 3) 3 rfl hRt hti (by rw [hdl, Array.length_toList, hRs]; omega) (by rw [← hcur1]) (by rw [← hcur2])
  have hc1s : cur1.size = G * 3 := by rw [← Array.length_toList, hL.2.2, Array.length_toList, hRs]
  have hc2s : cur2.size = G * 3 := by rw [← Array.length_toList, hL.2.1, Array.length_toList, hRs]
  obtain ⟨W2, hW2⟩ : ∃ W2, W1.setRow w.heap.size cur1 = W2 := ⟨_, rfl⟩
  have hcp1 : ∀ ty, (Builtin.copy_ #[22, 22] ty #[.slice (some ⟨w.heap.size, i * 3, none⟩) (n + 1 - i) (G - i), .slice (some ⟨h, 0, none⟩) 1 1]).run Try.prog W1 = .ok (goInt (Nat.min 1 (n + 1 - i))) W2 := fun ty => by
    have := run_copy_n (P := Try.prog) 3 W1 22 22 ty 30 w.heap.size (i * 3) (n + 1 - i) (G - i) ⟨h, 0, none⟩ 1 1 ROW 30 [.int .i64 m.f0, .int .i64 m.f1, .string m.f2] Try.underlying22 szM hN1
      (by have e : Nat.min 1 (n + 1 - i) = 1 := Nat.min_eq_left (by omega); rw [e]; rfl)
      (World.news_of_block (cs := #[.int .i64 m.f0, .int .i64 m.f1, .string m.f2]) hh1) (by rw [hRs]; simp; omega) (by simp [Value.oneCell'])
    rw [this, ← hW2]
    simp only [List.length_cons, List.length_nil, Nat.zero_add, Nat.reduceAdd, hcur1]
  have hN2 : W2.heap[w.heap.size]? = some (.cells cur1 30 (0, 0)) := hW2 ▸ setRow_heap _ _ _ _ _ _ hN1
  have hg2 : W2.heap[g]? = some (.cells cur 30 (0, 0)) := hW2 ▸ (setRow_other _ _ g _ (by omega)).trans hg1
  have hcell2 : ∀ j v, inner[j]? = some v → W2.cell? ⟨g, j, none⟩ = some v := by
    intro j v hj
    rw [blk_cell hg2, ← blk_cell hg]
    exact hcell j v hj
  have hcp2 : ∀ ty, (Builtin.copy_ #[22, 22] ty #[.slice (some ⟨w.heap.size, (i + 1) * 3, none⟩) (n + 1 - (i + 1)) (G - (i + 1)), .slice (some ⟨g, i * 3, none⟩) (n - i) (c - i)]).run Try.prog (W2.drewN 1) = .ok (goInt (Nat.min (n - i) (n + 1 - (i + 1)))) ((W2.drewN 1).setRow w.heap.size cur2) := fun ty => by
    have := run_copy_n (P := Try.prog) 3 (W2.drewN 1) 22 22 ty 30 w.heap.size ((i + 1) * 3) (n + 1 - (i + 1)) (G - (i + 1)) ⟨g, i * 3, none⟩ (n - i) (c - i) cur1 30 (inner.drop (i * 3)) Try.underlying22 szM hN2
      (by rw [hdl]; simp only [Nat.min_def]; split <;> omega)
      (fun j v hj => by rw [List.getElem?_drop] at hj; rw [Addr.add_lit]; exact hcell2 _ v hj) (by rw [hdl, hc1s]; omega) (fun v hv => h1 v (List.mem_of_mem_drop hv))
    rw [this, ← hcur2, Nat.add_mul, Nat.one_mul]
  have hLt := hL.1
  rw [hdl] at hLt
  have HE : Aside0 (((W2.drewN 1).setRow w.heap.size cur2).ownsRow w.heap.size 30 3 (.slice (some ⟨w.heap.size, 0, none⟩) (n + 1) G) (n + 1) (inner.take (i * 3) ++ [.int .i64 m.f0, .int .i64 m.f1, .string m.f2] ++ inner.drop (i * 3)) ∧ w.grownBy ((W2.drewN 1).setRow w.heap.size cur2) none) := by
    refine ⟨⟨by rw [List.length_append, List.length_append, hti, hdl]; simp; omega, .inr ⟨_, _, cur2, rfl, Nat.le_refl _, setRow_heap _ _ _ _ _ _ hN2, hGn, hGm, hc2s, ?_⟩⟩, ?_⟩
    · rw [← hLt]
      congr 1
      omega
    · have k := HG1.out
      rw [← hW2]
      refine ⟨k.os, k.tape, k.output, by have := k.size; simpa [World.setRow, World.drewN] using this, fun j hj hne => ?_⟩
      have hjn : j ≠ w.heap.size := by omega
      refine (setRow_other _ _ j _ hjn).trans ?_
      show (W1.setRow w.heap.size cur1).heap[j]? = _
      exact (setRow_other _ _ j _ hjn).trans (k.block j hj hne)
  clear hgr hROW hRt hti hRs hN1 hg1 hh1 hcur1 hcur2 hdl hL hc1s hc2s hN2 hg2 hcell2 hLt hold hcell hinl hW1 hW2 h1 hin hcs hg hh hG
  have HGR := Aside0.mk hgr'
  have HC1 := Aside0.mk hcp1
  have HC2 := Aside0.mk hcp2
  clear hgr' hcp1 hcp2
  obtain ⟨i1, hi1⟩ : ∃ i1, i + 1 = i1 := ⟨_, rfl⟩
  obtain ⟨n1, hn1⟩ : ∃ n1, n + 1 = n1 := ⟨_, rfl⟩
  rw [hi1] at hw1 HC2
  rw [hn1] at hw2 hw3 hb1 hGn HGR HC1 HC2 HE hc ⊢
  have b1 : ¬ (G = i) := by omega
  have b2 : ¬ (G = i1) := by omega
  have b3 : ¬ (c = i) := by omega
  have b4 : i ≤ n := by omega
  have b5 : i ≤ n1 := by omega
  have b6 : i1 ≤ n1 := by omega
  obtain ⟨B, hB⟩ : ∃ B, w.heap.size = B := ⟨_, rfl⟩
  rw [hB] at HGR HC1 HC2 HE hgl hhl ⊢
  go_enter Try.func28, Try.ntmps28
  have hq1 := HC1.out
  go_wp2_with ((with_reducible refine gate_builtin (b := .append) (xs := #[.tmp 34, .tmp 39]) rfl ?_); at_builtin; refine Lib.wpList_append_run _ rfl _ _ _ _ rfl _ _ rfl rfl _ _ (HGR.out _) ?_)
  refine wp_plan [(0, 0, 46), (1, 0, 47), (2, 0, 48), (3, 0, 49), (4, 0, 50), (5, 0, 51), (6, 0, 52), (7, 0, 53), (8, 2, 54)] [] (fun W => True) (by kernel_rfl) rfl (by kernel_rfl) (fun _ t _ _ _ h => by cases t <;> exact h) trivial (fun hS => ?_)
  repeat (refine RP.take (v := ?_) (a' := ?_) rfl rfl (by assumption) (Or.inl ⟨by rfl, ?_⟩) ?_ ?_; rotate_left; (focus (intro w' hS; go_simp; with_reducible rfl)); rotate_left; (focus (simp only [Act.put, List.setIfInBounds_toArray, List.set_cons_zero, List.set_cons_succ, i64_w, i32_w]; rfl)))
  refine RP.one rfl rfl (fun K hK => ?_)
  refine Go.Proofs.step_copy_runI (by rfl) (.tmp 50) (.tmp 53) 22 22 (by rfl) _ _ (by rfl) (by rfl) (HC2.out _) ?_
  refine hK.out _ _ trivial (fun hS => ?_)
  clear hK K
  refine RP.nil ?_
  go_wp2
  go_ret
  exact ⟨_, rfl, HE.out.1, HE.out.2⟩

end Go.Proofs.Ytclmhodgfhkgcaa.Q

/- slices.Insert at messages: the contract. -/
namespace Go.Proofs.Ytclmhodgfhkgcaa.Q
open Go.RowKit Go.Proofs.YtclmhodgfhkgcaaW.PrintWords Go.Proofs.YtclmhodgfhkgcaaW.PrintLast Go.Proofs.YtclmhodgfhkgcaaW.PrintMore
set_option linter.unusedVariables false
set_option linter.unusedSimpArgs false

theorem reps_one {R : Msg → List Value → Prop} (hR : ∀ x cs, R x cs → ∃ w, kM.K w x cs) {xs : List Msg} {inner : List Value} (h : Reps R 3 xs inner) : ∀ v ∈ inner, v.oneCell' = true := by
  intro u hu
  obtain ⟨q, hq, rfl⟩ := List.mem_iff_getElem.1 hu
  have hl := h.1
  have hql : q / 3 < xs.length := by omega
  obtain ⟨w, hk⟩ := hR _ _ (h.2 (q / 3) _ (List.getElem?_eq_getElem hql))
  have e := k30_open hk
  have h2 : inner[q]? = (((inner.drop (q / 3 * 3)).take 3))[q % 3]? := by
    rw [List.getElem?_take, if_pos (by omega), List.getElem?_drop]
    congr 1
    omega
  rw [List.getElem?_eq_getElem hq, e] at h2
  have h3 : q % 3 < 3 := by omega
  generalize q % 3 = r at h2 h3
  rcases r with _ | _ | _ | r
  · simp at h2; rw [h2]; rfl
  · simp at h2; rw [h2]; rfl
  · simp at h2; rw [h2]; rfl
  · omega
theorem own_lower {w : World} {base base' n : Nat} {e : TypeId} {size : Nat} {v : Value} {xs : List Value} (h : w.ownsRow base e size v n xs) (hb : base' ≤ base) : w.ownsRow base' e size v n xs := by
  refine ⟨h.1, h.2.imp id ?_⟩
  rintro ⟨g, cap, cur, h1, h2, h3⟩
  exact ⟨g, cap, cur, h1, Nat.le_trans hb h2, h3⟩
theorem reps_msg (w : World) (base : Nat) (okp : Nat → Prop) (m : Msg) : Reps (kM.M w base okp) 3 [m] [.int .i64 m.f0, .int .i64 m.f1, .string m.f2] := by
  have := Reps.snoc (Reps.none (kM.M w base okp) 3) (k30_mkM w base okp m) rfl
  simpa using this
theorem insert_calls (ok : Nat → Prop) (base : Nat) (v : Value) (xs : List Msg) (i h : Nat) (m : Msg) (w : World) (HO : Kd.R kM 30 w base ok v xs) (hi : i ≤ xs.length) (hl : xs.length ≤ 256) (hbase : base ≤ w.heap.size) (hnew : ∀ k, w.heap.size ≤ k → ok k) (hh : w.heap[h]? = some (.cells #[.int .i64 m.f0, .int .i64 m.f1, .string m.f2] 30 (0, 0))) (hne : v.ownBlock ≠ some h) :
    Calls Try.prog 28 #[v, .int .i64 (i : Int), .slice (some ⟨h, 0, none⟩) 1 1] w fun e w' => ∃ v', e = .returned v' ∧ Kd.R kM 30 w' base ok v' (insL xs i m) ∧ w.grownBy w' v.ownBlock := by
  unfold insL
  rcases Nat.lt_or_ge i xs.length with hlt | hge
  · obtain ⟨hok, inner, hown, hr⟩ := HO
    have h1 := reps_one (R := kM.M w base (fun k => ok k ∧ some k ≠ v.ownBlock)) (fun x cs hx => ⟨w, by obtain rfl := k30_openM hx; exact k30_mk w x⟩) hr
    have hsz : kM.sz = 3 := rfl
    have hrep : ∀ w' okp, Reps (kM.M w' base okp) 3 (xs.take i ++ m :: xs.drop i) (inner.take (i * 3) ++ [.int .i64 m.f0, .int .i64 m.f1, .string m.f2] ++ inner.drop (i * 3)) := fun w' okp => by
      have hr' : Reps (kM.M w' base okp) 3 xs inner := hr.imp_ (fun x cs hx => by obtain rfl := k30_openM hx; exact k30_mkM _ _ _ x)
      have h2 := Kd.reps_append (Kd.reps_append (Kd.reps_take hr' hi) (reps_msg w' base okp m)) (Kd.reps_drop (m := i) hr')
      simpa using h2
    have hlen : (xs.take i ++ m :: xs.drop i).length = xs.length + 1 := by simp; omega
    rcases hown.2 with ⟨-, h0⟩ | ⟨g, c, cur, rfl, hbg, hg, hnc, hcm, hcs, htk⟩
    · omega
    · have hgh : h ≠ g := fun e => hne (by subst e; rfl)
      by_cases hroom : xs.length + 1 ≤ c
      · refine (insert_room g xs.length c i h m cur inner w hlt hroom hl hg hcs htk hh hgh h1 (by unfold maxLen at hcm; omega)).mono ?_
        rintro e w' ⟨rfl, cur2, rfl, h5, h6⟩
        refine ⟨_, rfl, ⟨fun k hk => hok k hk, _, ?_, hrep _ _⟩, ?_⟩
        · rw [hlen]
          have hin : inner.length = xs.length * 3 := hown.1
          refine ⟨by simp only [List.length_append, List.length_take, List.length_drop, List.length_cons, List.length_nil, hin, hsz]; omega, .inr ⟨g, c, cur2, rfl, hbg, setRow_heap _ _ _ _ _ _ hg, hroom, hcm, h5, h6⟩⟩
        · exact ⟨rfl, rfl, rfl, by simp [World.setRow], fun j hj hn => setRow_other _ _ j _ (fun e => hn (by subst e; rfl))⟩
      · refine (insert_grow g xs.length c i h m cur inner w hlt hnc (by omega) hl hg hcs htk hh h1).mono ?_
        rintro e w' ⟨v', rfl, h5, h6⟩
        refine ⟨v', rfl, ⟨fun k hk => hnew k (own_base h5 k hk), _, ?_, hrep _ _⟩, ⟨h6.os, h6.tape, h6.output, h6.size, fun j hj _ => h6.block j hj (by simp)⟩⟩
        rw [hlen]
        exact own_lower h5 hbase
  · have e : i = xs.length := by omega
    subst e
    obtain ⟨A, c, rfl⟩ : ∃ A c, v = .slice A xs.length c := Kd.V_slice (Kd.R_V (base' := 0) HO)
    refine (insert_end ok base A xs.length c h xs m w w HO (Below.refl _ _) hbase hl hnew hh).mono ?_
    rintro e w' ⟨v', rfl, h5, h6⟩
    exact ⟨v', rfl, by simpa using h5, h6⟩

end Go.Proofs.Ytclmhodgfhkgcaa.Q

/- The contract of the net's Move. -/
namespace Go.Proofs.Ytclmhodgfhkgcaa.Q
open Go.RowKit Go.Proofs.YtclmhodgfhkgcaaW.PrintWords Go.Proofs.YtclmhodgfhkgcaaW.PrintLast Go.Proofs.YtclmhodgfhkgcaaW.PrintMore
set_option linter.unusedVariables false
set_option linter.unusedSimpArgs false

theorem R_lt {W : World} {base : Nat} {ok : Nat → Prop} {v : Value} {xs : List Msg} (h : Kd.R kM 30 W base ok v xs) {k : Nat} (hk : v.ownBlock = some k) : k < W.heap.size := by
  obtain ⟨-, inner, hown, -⟩ := h
  rcases hown.2 with ⟨rfl, -⟩ | ⟨g, cap, cur, rfl, -, hg, -⟩
  · cases hk
  · cases hk
    exact blk_lt hg
def nMove (X : Nt) (i j : Int) : Int × Nt := if Is X i ∧ Is X j then (0, { X with l := insL (takeL X.l i.toNat) j.toNat (rdM X.l i) }) else (3, X)
set_option maxHeartbeats 4000000 in
theorem move_not (ok : Nat → Prop) (b c n : Nat) (X : Nt) (i j : Int) (w : World) (hT : NetAt ok w b c n X) (h : ¬ Is X i ∨ (Is X i ∧ ¬ Is X j)) :
    Calls Try.prog 11 #[.pointer (some ⟨b, 0, none⟩), .int .i64 i, .int .i64 j] w fun e w' => e = .returned (.int .i64 3) ∧ Chg (fun _ => False) w w' := by
  have HT := Aside0.mk hT
  rcases h with hi | ⟨hi, hj⟩
  · have HA := Aside0.mk (fun w0 h => at_no ok b c n X i w0 h hi)
    clear hT hi
    go_enter Try.func11, Try.ntmps11
    go_wp2_with (first
      | (go_at_call 26; refine (HA.out _ HT.out).mono ?_; rintro e w1 ⟨rfl, hc⟩; have HC := Aside0.mk hc; clear hc))
    go_ret
    exact ⟨rfl, HC.out.alloc _⟩
  · have HA := Aside0.mk (fun w0 h => at_yes ok b c n X i w0 h hi)
    have HA2 := Aside0.mk (fun w0 h => at_no ok b c n X j w0 h hj)
    clear hT hi hj
    go_enter Try.func11, Try.ntmps11
    go_wp2_with (first
      | (go_at_call 26; refine (HA.out _ HT.out).mono ?_; rintro e w1 ⟨rfl, hc⟩; have HC := Aside0.mk hc; clear hc HA)
      | (go_at_call 26; refine (HA2.out _ (HT.out.ofBelow (HC.out.alloc _))).mono ?_; rintro e w2 ⟨rfl, hc⟩; have HC2 := Aside0.mk ((HC.out.alloc _).trans hc); clear hc HA2))
    go_ret
    exact ⟨rfl, HC2.out⟩
set_option maxHeartbeats 4000000 in
set_option maxRecDepth 100000 in
theorem move_yes (ok : Nat → Prop) (b c n : Nat) (X : Nt) (i j : Nat) (m : Msg) (w : World) (hT : NetAt ok w b c n X) (hl : X.l.length ≤ 256) (hok : ∀ k, ok k → k ≠ b) (hnew : ∀ k, w.heap.size ≤ k → ok k) (hi : Is X (i : Int)) (hj : Is X (j : Int)) (hm : rdM X.l (i : Int) = m) :
    Calls Try.prog 11 #[.pointer (some ⟨b, 0, none⟩), .int .i64 (i : Int), .int .i64 (j : Int)] w fun e w' => e = .returned (.int .i64 0) ∧ NetAt ok w' b c n { X with l := insL (takeL X.l i) j m } ∧ Chg (fun k => k = b) w w' := by
  have HT := Aside0.mk hT
  have HO := Aside0.mk hok
  have HN := Aside0.mk hnew
  have HL := Aside0.mk hl
  have HI := Aside0.mk (show i < X.l.length by unfold Is at hi; omega)
  have HJ := Aside0.mk (show j < X.l.length by unfold Is at hj; omega)
  have HLB := Aside0.mk hT.lt
  have hb := fun w0 h => at_yes ok b c n X (i : Int) w0 h hi
  rw [hm] at hb
  have HA := Aside0.mk hb
  have HA2 := Aside0.mk (fun w0 h => at_yes ok b c n X (j : Int) w0 h hj)
  clear hT hok hnew hi hj hb hm hl
  go_enter Try.func11, Try.ntmps11
  go_wp2_with (first
    | (go_at_call 26; refine (HA.out _ HT.out).mono ?_; rintro e w1 ⟨rfl, hc⟩; have HC := Aside0.mk hc; clear hc HA)
    | (go_at_call 26; refine (HA2.out _ (HT.out.ofBelow (HC.out.alloc _))).mono ?_; rintro e w2 ⟨rfl, hc⟩; have HC2 := Aside0.mk ((HC.out.alloc _).trans hc); have M2 := Aside0.mk (chg_blk hc (fun h => h) (blk_new _ _)); clear hc HA2)
    | (go_at_call 27; refine (take_raw (fun k => ok k ∧ k ≠ w1.heap.size) b c n X i _ ((HT.out.bound.mono (fun k hk => ⟨hk.1, by have := HC.out.low.size; omega⟩)).ofBelow HC2.out) HI.out HL.out (fun k hk => ⟨HN.out k (Nat.le_trans HC2.out.low.size hk), by have := blk_lt M2.out; omega⟩)).mono ?_; rintro e w3 ⟨rfl, w4, v, rfl, hR, hc⟩; have HC4 := Aside0.mk (HC2.out.trans hc); have HCy := Aside0.mk hc; have HR := Aside0.mk hR; have M4 := Aside0.mk (chg_blk hc (fun h => h) M2.out); clear hR hc))
  obtain ⟨W, hW⟩ : ∃ W, w4.setCell ⟨b, 1, none⟩ v = W := ⟨_, rfl⟩
  rw [hW]
  generalize hg : w1.heap.size = g at *
  have hgb : g ≠ b := by have := HLB.out; have := HC.out.low.size; omega
  have B4 : Aside0 (∃ x y, W.heap[b]? = some (.cells #[x, v, .map (some c), y] 58 (0, 0))) := by
    obtain ⟨u, hu, -⟩ := (HT.out.ofBelow HC4.out).cells
    exact ⟨_, _, hW ▸ blk_put hu 1 v rfl⟩
  have MW : Aside0 (W.heap[g]? = some (.cells #[.int .i64 m.f0, .int .i64 m.f1, .string m.f2] 30 (0, 0))) := ⟨hW ▸ blk_far M4.out hgb _⟩
  have HRW : Aside0 (Kd.R kM 30 W w2.heap.size (fun k => (ok k ∧ k ≠ g)) v (takeL X.l i)) := ⟨hW ▸ Kd.R_far HR.out (fun k hk => HO.out k hk.1) _⟩
  have HCW : Aside0 (Chg (fun k => k = b) w W) := ⟨hW ▸ Chg.set (S := fun k => k = b) (p := ⟨b, 1, none⟩) HC4.out.only (.inl rfl) _⟩
  have HTW : Aside0 (NetAt (fun _ => True) W b c n { X with l := takeL X.l i }) := by
    have h1 := (HT.out.ofBelow HC4.out)
    obtain ⟨hne, ⟨u, hu, -⟩, hC⟩ := h1
    exact ⟨⟨hne, ⟨v, hW ▸ blk_set hu _ _, Kd.R_V (Kd.R_mono HRW.out (fun _ _ => trivial))⟩, hC.block (hW ▸ Below.heap_setCell w4 ⟨b, 1, none⟩ v c (fun e => hne e.symm))⟩⟩
  have HBS : Aside0 (w2.heap.size ≤ W.heap.size) := ⟨Nat.le_trans HCy.out.low.size (hW ▸ by simp)⟩
  have HNS : Aside0 (w.heap.size ≤ w2.heap.size) := ⟨HC2.out.low.size⟩
  clear hW M4 HR HC HC2 HC4 HCy M2
  obtain ⟨x, y, hB⟩ := B4.out
  obtain ⟨-, h1, -, -, -, f1, -, -⟩ := box4 hB
  obtain ⟨d0, d1, d2, -, -, -⟩ := box3 MW.out
  have hlt := blk_lt hB
  have hgW := blk_lt MW.out
  refine wp_plan [(0, 0, 29), (1, 0, 30), (2, 0, 31), (3, 0, 32), (4, 0, 33), (5, 0, 34), (6, 0, 35), (7, 2, 36), (8, 2, 37), (9, 1, 38), (10, 1, 39), (11, 3, 0)] [11] (fun W => W.cell? ⟨b, 1, none⟩ = some v ∧ W.cell? ⟨g, 0, none⟩ = some (.int .i64 m.f0) ∧ W.cell? ⟨g, 1, none⟩ = some (.int .i64 m.f1) ∧ W.cell? ⟨g, 2, none⟩ = some (.string m.f2)) (by kernel_rfl) rfl (by kernel_rfl) (fun _ t _ _ _ h => by cases t <;> exact h) ⟨h1, d0, d1, d2⟩ (fun hS => ?_)
  repeat (refine RP.take (v := ?_) (a' := ?_) rfl rfl (by assumption) (Or.inl ⟨by rfl, ?_⟩) ?_ ?_; rotate_left; (focus (rintro w' ⟨hS0, hS1, hS2, hS3⟩; go_simp; with_reducible rfl)); rotate_left; (focus (simp only [Act.put, List.setIfInBounds_toArray, List.set_cons_zero, List.set_cons_succ, i64_w, i32_w]; rfl)))
  refine RP.one rfl rfl (fun K hK => ?_)
  go_simp
  have hk2 := ((Chg.refl (fun _ => False) W).drewN 1).alloc (.cells #[.int .i64 m.f0, .int .i64 m.f1, .string m.f2] 30 (0, 0))
  refine hK.out _ _ ⟨(hk2.cell (p := ⟨b, 1, none⟩) hlt).trans h1, (hk2.cell (p := ⟨g, 0, none⟩) hgW).trans d0, (hk2.cell (p := ⟨g, 1, none⟩) hgW).trans d1, (hk2.cell (p := ⟨g, 2, none⟩) hgW).trans d2⟩ (fun hS => ?_)
  clear hK K
  refine RP.one rfl rfl (fun K hK => ?_)
  refine goes_ Try.func28 (by kernel_rfl) rfl #[v, .int .i64 (j : Int), .slice (some ⟨W.heap.size, 0, none⟩) 1 1] (by rfl) rfl rfl (by (try simp only [List.map_toArray, List.map_cons, List.map_nil]); first | done | rfl) ?_
  have HRA := Kd.R_alloc (Kd.R_drewN HRW.out 1) (.cells #[.int .i64 m.f0, .int .i64 m.f1, .string m.f2] 30 (0, 0))
  have hlen : (takeL X.l i).length = X.l.length - 1 := by have := HI.out; unfold takeL; simp; omega
  have hWs : ((W.drewN 1).alloc (.cells #[.int .i64 m.f0, .int .i64 m.f1, .string m.f2] 30 (0, 0))).heap.size = W.heap.size + 1 := by simp [World.drewN]
  refine (insert_calls (fun k => ok k ∧ k ≠ g) w2.heap.size v (takeL X.l i) j W.heap.size m _ HRA (by have := HJ.out; omega) (by have := HL.out; omega) (by have := HBS.out; omega) (fun k hk => ⟨HN.out k (by have := HBS.out; have := HNS.out; omega), by omega⟩) (heap_alloc_new _ _) (fun e => by have := R_lt HRW.out e; omega)).mono ?_
  rintro e w5 ⟨v', rfl, hR5, hg5⟩
  obtain ⟨A5, n5, c5, rfl⟩ : ∃ A5 n5 c5, v' = .slice A5 n5 c5 := by
    obtain ⟨A5, c5, e⟩ := Kd.V_slice (Kd.R_V (base' := 0) hR5)
    exact ⟨A5, _, c5, e⟩
  obtain ⟨v', hv'⟩ : ∃ v', Value.slice A5 n5 c5 = v' := ⟨_, rfl⟩
  rw [hv'] at hR5
  refine ⟨_, rfl, ?_⟩
  have hvb : ∀ k, v.ownBlock = some k → k ≠ b ∧ k ≠ g ∧ w2.heap.size ≤ k := fun k hk => ⟨HO.out k (HRW.out.1 k hk).1, (HRW.out.1 k hk).2, Kd.R_base HRW.out k hk⟩
  have hnb : some b ≠ v.ownBlock := fun e => (hvb b e.symm).1 rfl
  have hng : some g ≠ v.ownBlock := fun e => (hvb g e.symm).2.1 rfl
  have k1 := fun (p : Addr) (hp : p.block < W.heap.size) (hne : some p.block ≠ v.ownBlock) => (hg5.cell_far p (by rw [hWs]; omega) hne).trans (hk2.cell (p := p) hp)
  have kf := (hg5.frozen_far ⟨b, 1, none⟩ (by rw [hWs]; exact Nat.lt_succ_of_lt hlt) hnb).trans ((hk2.frozen (p := ⟨b, 1, none⟩) hlt).trans f1)
  have hcz := (k1 ⟨b, 1, none⟩ hlt hnb).trans h1
  refine hK.out _ _ ⟨hcz, (k1 ⟨g, 0, none⟩ hgW hng).trans d0, (k1 ⟨g, 1, none⟩ hgW hng).trans d1, (k1 ⟨g, 2, none⟩ hgW hng).trans d2⟩ (fun hS => ?_)
  clear hK K
  have HE : Aside0 (NetAt ok (w5.setCell ⟨b, 1, none⟩ v') b c n { X with l := insL (takeL X.l i) j m } ∧ Chg (fun k => k = b) w (w5.setCell ⟨b, 1, none⟩ v')) := by
    obtain ⟨hne, ⟨u, hu, -⟩, hC⟩ := HTW.out
    have hblk : ∀ k, k < W.heap.size → some k ≠ v.ownBlock → w5.heap[k]? = W.heap[k]? := fun k hk hn => (hg5.block k (by rw [hWs]; omega) hn).trans (hk2.keep k hk (fun h => h))
    have hcl := HT.out.cuts.lt
    have hnc : some c ≠ v.ownBlock := fun e => by have := (hvb c e.symm).2.2; have := HNS.out; omega
    have hcW : c < W.heap.size := by have := HBS.out; have := HNS.out; omega
    refine ⟨⟨hne, ⟨v', blk_set ((hblk b hlt hnb).trans hu) 1 v', ?_⟩, (hC.block (hblk c hcW hnc)).block (Below.heap_setCell w5 ⟨b, 1, none⟩ v' c (fun e => hne e.symm))⟩, ?_⟩
    · exact Kd.V_mono (Kd.V_far (Kd.R_V (base' := 0) hR5) (p := ⟨b, 1, none⟩) (fun k hk => HO.out k hk.1) v') (fun k hk => hk.1)
    · exact Chg.set (S := fun k => k = b) (p := ⟨b, 1, none⟩) (((HCW.out.drewN 1).alloc _).grown hg5 (fun k e => .inr (by have := (hvb k e).2.2; have := HNS.out; omega))) (.inl rfl) _
  subst hv'
  clear hR5 hg5 hvb hnb hng k1 hk2 HRA hWs hlen h1 d0 d1 d2 f1 hlt hgW hB
  refine RP.norm (a' := ?_) ?_ ?_
  rotate_left
  · show Act.put _ (some 37) _ = _
    simp only [Act.put, List.setIfInBounds_toArray, List.set_cons_zero, List.set_cons_succ, i64_w, i32_w]
    rfl
  repeat (refine RP.pure (v := ?_) (a' := ?_) rfl rfl (Or.inl ⟨by rfl, ?_⟩) ?_ ?_; rotate_left; (focus (intro w'; go_simp; with_reducible rfl)); rotate_left; (focus (simp only [Act.put, List.setIfInBounds_toArray, List.set_cons_zero, List.set_cons_succ, i64_w, i32_w]; rfl)))
  refine RP.last rfl rfl (fun K hK => ?_)
  go_simp
  refine hK.out _ _ (RP.nil ?_)
  clear hK K
  go_wp2
  go_ret
  exact ⟨rfl, HE.out.1, HE.out.2⟩
theorem Move_calls (ok : Nat → Prop) (b c n : Nat) (X : Nt) (i j : Int) (w : World) (hT : NetAt ok w b c n X) (hl : X.l.length ≤ 256) (hok : ∀ k, ok k → k ≠ b) (hnew : ∀ k, w.heap.size ≤ k → ok k) :
    Calls Try.prog 11 #[.pointer (some ⟨b, 0, none⟩), .int .i64 i, .int .i64 j] w fun e w' => e = .returned (.int .i64 (nMove X i j).1) ∧ NetAt ok w' b c n (nMove X i j).2 ∧ Chg (fun k => k = b) w w' := by
  unfold nMove
  by_cases h : Is X i ∧ Is X j
  · rw [if_pos h]
    obtain ⟨hi, hj⟩ := h
    obtain ⟨i', rfl⟩ : ∃ k : Nat, i = k := ⟨i.toNat, by unfold Is at hi; omega⟩
    obtain ⟨j', rfl⟩ : ∃ k : Nat, j = k := ⟨j.toNat, by unfold Is at hj; omega⟩
    exact move_yes ok b c n X i' j' _ w hT hl hok hnew hi hj rfl
  · rw [if_neg h]
    have h' : ¬ Is X i ∨ (Is X i ∧ ¬ Is X j) := by
      by_cases hi : Is X i
      · exact .inr ⟨hi, fun hj => h ⟨hi, hj⟩⟩
      · exact .inl hi
    refine (move_not ok b c n X i j w hT h').mono ?_
    rintro e w' ⟨he, hc⟩
    exact ⟨he, hT.ofBelow hc, hc.only⟩

end Go.Proofs.Ytclmhodgfhkgcaa.Q

/- The law NetOrder: its plain part: what is sent, moved there and back, doubled and dropped, delivered. -/
namespace Go.Proofs.Ytclmhodgfhkgcaa.Q
open Go.RowKit Go.Proofs.YtclmhodgfhkgcaaW.PrintWords Go.Proofs.YtclmhodgfhkgcaaW.PrintLast Go.Proofs.YtclmhodgfhkgcaaW.PrintMore
set_option linter.unusedVariables false
set_option linter.unusedSimpArgs false

/-- A net of sixteen nodes of which no link is cut. -/
def oX (l : List Msg) (z : Int) : Nt := ⟨16, l, fun _ _ => false, z⟩
def okM (m : Msg) : Bool := decide (0 ≤ m.f0 ∧ 0 ≤ m.f1 ∧ m.f0 < 16 ∧ m.f1 < 16 ∧ m.f0 ≠ m.f1) && decide (m.f2.size ≤ 8192)
def sentL (l : List Msg) : List Msg := l.filter okM
theorem oX_two {s : List Msg} {z : Int} {m : Msg} (h : okM m = true) : Two (oX s z) m.f0 m.f1 := by
  unfold okM at h
  simp only [Bool.and_eq_true, decide_eq_true_eq] at h
  obtain ⟨⟨h0, h1, h2, h3, h4⟩, -⟩ := h
  exact ⟨h0, h1, h2, h3, h4⟩
theorem o_up {s : List Msg} {z : Int} {m : Msg} (h : okM m = true) : upB (oX s z) m.f0 m.f1 = true := by
  unfold upB
  rw [decide_eq_true (oX_two h)]
  rfl
theorem o_send_yes {s : List Msg} {m : Msg} (h : okM m = true) (hs : s.length < 256) : nSend (oX s 0) m = (0, oX (s ++ [m]) 0) := by
  have h2 := oX_two (s := s) (z := 0) h
  have h3 : m.f2.size ≤ 8192 := by
    unfold okM at h
    simp only [Bool.and_eq_true, decide_eq_true_eq] at h
    exact h.2
  unfold nSend
  rw [if_pos h2, if_neg (by omega), if_neg (by simp [isCut, oX]), if_neg (by simp only [oX]; omega)]
  rfl
theorem o_send_no {s : List Msg} {m : Msg} (h : okM m = false) : nSend (oX s 0) m = (2, oX s 0) ∨ nSend (oX s 0) m = (4, oX s 0) := by
  unfold nSend
  by_cases h2 : Two (oX s 0) m.f0 m.f1
  · right
    have h3 : 8192 < m.f2.size := by
      apply Classical.byContradiction
      intro hn
      have h4 : okM m = true := by
        unfold okM
        obtain ⟨a, b, c, d, e⟩ := h2
        rw [decide_eq_true ⟨a, b, c, d, e⟩, decide_eq_true (by omega)]
        rfl
      rw [h] at h4
      cases h4
    rw [if_pos h2, if_pos (by omega)]
  · left
    rw [if_neg h2]
theorem sent_snoc {l : List Msg} {i : Nat} (hi : i < l.length) : sentL (l.take (i + 1)) = if okM l[i] then sentL (l.take i) ++ [l[i]] else sentL (l.take i) := by
  unfold sentL
  rw [List.take_succ_eq_append_getElem hi, List.filter_append]
  by_cases h : okM l[i] = true
  · rw [if_pos h]
    simp [List.filter_cons, h]
  · rw [if_neg h]
    simp [List.filter_cons, h]
theorem sent_len (l : List Msg) (i : Nat) : (sentL (l.take i)).length ≤ i := Nat.le_trans (List.length_filter_le _ _) (List.length_take_le _ _)
theorem sent_ok {l : List Msg} {i : Nat} : ∀ m ∈ sentL (l.take i), okM m = true := fun m hm => (List.mem_filter.1 hm).2
theorem rdM_nat {l : List Msg} {i : Nat} (hi : i < l.length) : rdM l (i : Int) = l[i] := by
  show l.getD (i : Int).toNat _ = _
  rw [Int.toNat_natCast]
  simp [List.getD_eq_getElem?_getD, hi]
theorem takeL_insL {l : List Msg} {j : Nat} {m : Msg} (h : j ≤ l.length) : takeL (insL l j m) j = l := by
  unfold takeL insL
  have e : (l.take j).length = j := by simp; omega
  rw [List.take_append_of_le_length (by omega), List.take_of_length_le (by omega), List.drop_append, List.drop_of_length_le (by omega), e, show j + 1 - j = 1 by omega, List.nil_append]
  exact List.take_append_drop j l
theorem insL_takeL {l : List Msg} {i : Nat} (h : i < l.length) : insL (takeL l i) i l[i] = l := by
  unfold takeL insL
  have e : (l.take i).length = i := by simp; omega
  rw [List.take_append_of_le_length (by omega), List.take_of_length_le (by omega), List.drop_append, List.drop_of_length_le (by omega), e]
  simp
theorem takeL_len {l : List Msg} {i : Nat} (h : i < l.length) : (takeL l i).length = l.length - 1 := by unfold takeL; simp; omega
theorem insL_len {l : List Msg} {j : Nat} {m : Msg} (h : j ≤ l.length) : (insL l j m).length = l.length + 1 := by unfold insL; simp; omega
theorem insL_get {l : List Msg} {j : Nat} {m : Msg} (h : j ≤ l.length) (h2 : j < (insL l j m).length) : (insL l j m)[j] = m := by
  have e : (l.take j).length = j := by simp; omega
  have h3 : (l.take j ++ m :: l.drop j)[j]? = some m := by
    rw [List.getElem?_append_right (by omega), e, Nat.sub_self]
    rfl
  exact (List.getElem?_eq_some_iff.1 h3).2
/-- There .. -/
theorem o_move {s : List Msg} {z : Int} {i j : Nat} (hi : i < s.length) (hj : j < s.length) : nMove (oX s z) i j = (0, oX (insL (takeL s i) j s[i]) z) := by
  unfold nMove
  rw [if_pos ⟨⟨by omega, by show (i : Int) < s.length; omega⟩, ⟨by omega, by show (j : Int) < s.length; omega⟩⟩]
  show ((0 : Int), _) = _
  have e : rdM (oX s z).l (i : Int) = s[i] := rdM_nat hi
  rw [e]
  rfl
/-- .. and back. -/
theorem o_back {s : List Msg} {z : Int} {i j : Nat} (hi : i < s.length) (hj : j < s.length) : nMove (oX (insL (takeL s i) j s[i]) z) j i = (0, oX s z) := by
  have h1 := takeL_len hi
  have h2 : j ≤ (takeL s i).length := by omega
  have h3 := insL_len (m := s[i]) h2
  rw [o_move (by omega) (by omega), takeL_insL h2, insL_get h2, insL_takeL hi]
theorem o_move_no {s : List Msg} {z i j : Int} (h : ¬ (0 ≤ i ∧ i < s.length ∧ 0 ≤ j ∧ j < s.length)) : nMove (oX s z) i j = (3, oX s z) := by
  unfold nMove
  rw [if_neg (fun hc => h ⟨hc.1.1, hc.1.2, hc.2.1, hc.2.2⟩)]
theorem o_double {s : List Msg} {i : Nat} (hi : i < s.length) (hs : s.length < 256) : nDouble (oX s 0) i = (0, oX (s ++ [s[i]]) 0) := by
  unfold nDouble
  have e : rdM (oX s 0).l (i : Int) = s[i] := rdM_nat hi
  rw [if_pos ⟨by omega, by show (i : Int) < s.length; omega⟩, if_neg (by show ¬ 256 ≤ s.length; omega), e]
  rfl
theorem o_double_no {s : List Msg} {i : Int} (h : ¬ (0 ≤ i ∧ i < s.length)) : nDouble (oX s 0) i = (3, oX s 0) := by
  unfold nDouble
  rw [if_neg (fun hc => h ⟨hc.1, hc.2⟩)]
theorem o_drop {s : List Msg} {m : Msg} : nDrop (oX (s ++ [m]) 0) s.length = (0, oX s 1) := by
  unfold nDrop
  rw [if_pos ⟨by omega, by show (s.length : Int) < (s ++ [m]).length; simp; omega⟩]
  have e : takeL (s ++ [m]) ((s.length : Int)).toNat = s := by
    unfold takeL
    simp
  show ((0 : Int), (⟨16, takeL (s ++ [m]) ((s.length : Int)).toNat, _, _⟩ : Nt)) = _
  rw [e]
  rfl
theorem o_deliver {s : List Msg} {m : Msg} {z : Int} (h : okM m = true) : nDeliver (oX (m :: s) z) 0 = ((m, 0), oX s z) := by
  unfold nDeliver
  have e : rdM (oX (m :: s) z).l 0 = m := rfl
  rw [if_pos ⟨by omega, by show (0 : Int) < (m :: s).length; simp⟩, e, if_pos (o_up h)]
  rfl
theorem o_deliver_no {z : Int} : nDeliver (oX [] z) 0 = ((zM, 3), oX [] z) := by
  unfold nDeliver
  rw [if_neg (fun hc => by have := hc.2; exact absurd this (by show ¬ (0 : Int) < (([] : List Msg).length : Int); simp))]
theorem oF {l : List Msg} {z : Int} (h : l.length ≤ 256) (h0 : 0 ≤ z) (h1 : z ≤ 1) : Fine (oX l z) := ⟨⟨by simp [oX], by simp [oX]⟩, h, h0, by simp only [oX]; omega⟩

end Go.Proofs.Ytclmhodgfhkgcaa.Q

/- The contract of the net's Join. -/
namespace Go.Proofs.Ytclmhodgfhkgcaa.Q
open Go.RowKit Go.Proofs.YtclmhodgfhkgcaaW.PrintWords Go.Proofs.YtclmhodgfhkgcaaW.PrintLast Go.Proofs.YtclmhodgfhkgcaaW.PrintMore
set_option linter.unusedVariables false
set_option linter.unusedSimpArgs false

set_option maxHeartbeats 4000000 in
theorem join_no (ok : Nat → Prop) (b c n : Nat) (X : Nt) (p q : Int) (w : World) (hT : NetAt ok w b c n X) (h : ¬ Two X p q) :
    Calls Try.prog 24 #[.pointer (some ⟨b, 0, none⟩), .int .i64 p, .int .i64 q] w fun e w' => e = .returned (.int .i64 2) ∧ Chg (fun _ => False) w w' := by
  have HT := Aside0.mk hT
  have HB := Aside0.mk (fun w0 h => between_calls ok b c n X p q w0 h)
  rw [decide_eq_false h] at HB
  generalize min p q = mn at *
  generalize max p q = mx at *
  clear hT h
  go_enter Try.func24, Try.ntmps24
  go_wp2_with (first
    | (go_at_call 25; refine (HB.out _ HT.out).mono ?_; rintro e w1 ⟨rfl, hc⟩; have HC := Aside0.mk hc; clear hc))
  go_ret
  exact ⟨rfl, HC.out.alloc _⟩
set_option maxHeartbeats 4000000 in
theorem join_yes (ok : Nat → Prop) (b c n : Nat) (X : Nt) (p q : Int) (w : World) (hT : NetAt ok w b c n X) (hF : Few X) (h : Two X p q) (hok : ∀ k, ok k → k ≠ c) :
    Calls Try.prog 24 #[.pointer (some ⟨b, 0, none⟩), .int .i64 p, .int .i64 q] w fun e w' => e = .returned (.int .i64 0) ∧ NetAt ok w' b c n (cutX X p q false) ∧ Chg (fun k => k = c) w w' := by
  have HT := Aside0.mk hT
  have HO := Aside0.mk hok
  have HB := Aside0.mk (fun w0 h => between_calls ok b c n X p q w0 h)
  rw [decide_eq_true h] at HB
  have HND := Aside0.mk (h.nd hF)
  unfold cutX
  generalize min p q = mn at *
  generalize max p q = mx at *
  clear hT h hok hF
  go_enter Try.func24, Try.ntmps24
  go_wp2_with (first
    | (go_at_call 25; refine (HB.out _ HT.out).mono ?_; rintro e w1 ⟨rfl, hc⟩; have HC := Aside0.mk hc; clear hc))
  obtain ⟨W1, hW1⟩ : ∃ W1, w1.alloc (.cells #[.int .i64 mn, .int .i64 mx] 60 (0, 0)) = W1 := ⟨_, rfl⟩
  have HC1 : Aside0 (Chg (fun _ => False) w W1) := ⟨hW1 ▸ HC.out.alloc _⟩
  have B3 : Aside0 (W1.heap[w1.heap.size]? = some (.cells #[.int .i64 mn, .int .i64 mx] 60 (0, 0))) := ⟨hW1 ▸ blk_new _ _⟩
  rw [hW1]
  generalize w1.heap.size = g at *
  clear hW1 HC
  have HT1 := Aside0.mk (HT.out.ofBelow HC1.out)
  obtain ⟨-, -, hm, -, -⟩ := HT1.out.open
  have hlt := HT1.out.lt
  obtain ⟨k0, k1, -, -⟩ := box2 B3.out
  refine wp_plan [(0, 0, 20), (1, 0, 21), (2, 0, 22), (3, 0, 23), (4, 0, 24), (5, 3, 0)] [5] (fun W => W.cell? ⟨b, 2, none⟩ = some (.map (some c)) ∧ W.cell? ⟨g, 0, none⟩ = some (.int .i64 mn) ∧ W.cell? ⟨g, 1, none⟩ = some (.int .i64 mx)) (by kernel_rfl) rfl (by kernel_rfl) (fun _ t _ _ _ h => by cases t <;> exact h) ⟨hm, k0, k1⟩ (fun hS => ?_)
  repeat (refine RP.take (v := ?_) (a' := ?_) rfl rfl (by assumption) (Or.inl ⟨by rfl, ?_⟩) ?_ ?_; rotate_left; (focus (rintro w' ⟨hS0, hS1, hS2⟩; go_simp; with_reducible rfl)); rotate_left; (focus (simp only [Act.put, List.setIfInBounds_toArray, List.set_cons_zero, List.set_cons_succ, i64_w, i32_w]; rfl)))
  refine RP.last rfl rfl (fun K hK => ?_)
  refine step_del (c := c) (n := n) (f := X.cut) (p := mn) (q := mx) (by rfl) (.tmp 23) (.tmp 24) (by rfl) (by rfl) (by rfl) ((HT1.out.ofBelow ((Chg.refl _ _).drewN 1)).cuts) HND.out.1 HND.out.2 ?_
  intro w2 hC2 hg2
  have HN2 := Aside0.mk ((HT1.out.ofBelow ((Chg.refl _ _).drewN 1)).setCut HO.out hC2 hg2)
  have HC2 := Aside0.mk (((HC1.out.drewN 1).only (b := c)).grown hg2 (fun k e => by cases e; exact .inl rfl))
  clear hC2 hg2 hm k0 k1 hS
  refine hK.out _ _ (RP.nil ?_)
  clear hK K
  go_wp2
  go_ret
  exact ⟨rfl, HN2.out, HC2.out⟩

end Go.Proofs.Ytclmhodgfhkgcaa.Q

/- A net beside a row of messages of the call's own. -/
namespace Go.Proofs.Ytclmhodgfhkgcaa.Q
open Go.RowKit Go.Proofs.YtclmhodgfhkgcaaW.PrintWords Go.Proofs.YtclmhodgfhkgcaaW.PrintLast Go.Proofs.YtclmhodgfhkgcaaW.PrintMore
set_option linter.unusedVariables false
set_option linter.unusedSimpArgs false

def okO (b c : Nat) (v : Value) (k : Nat) : Prop := k ≠ b ∧ k ≠ c ∧ some k ≠ v.ownBlock
/-- The net, and the row. -/
structure Ord (w wr : World) (b c n : Nat) (X : Nt) (v : Value) (s : List Msg) : Prop where
  net : NetAt (okO b c v) wr b c n X
  row : Kd.R kM 30 wr w.heap.size (fun k => k ≠ b ∧ k ≠ c) v s
  low : Below w.heap.size w wr
  ge : w.heap.size ≤ b ∧ w.heap.size ≤ c
section
variable {w wr w' : World} {b c n : Nat} {X : Nt} {v : Value} {s : List Msg}
theorem Ord.old (h : Ord w wr b c n X v s) : ∀ k, wr.heap.size ≤ k → okO b c v k := fun k hk =>
  ⟨fun e => by have := h.net.lt; omega, fun e => by have := h.net.cuts.lt; omega, fun e => by have := R_lt h.row e.symm; omega⟩
theorem Ord.size (h : Ord w wr b c n X v s) : w.heap.size ≤ wr.heap.size := h.low.size
theorem Ord.chg (h : Ord w wr b c n X v s) {n' : Nat} {X' : Nt} (hn : NetAt (okO b c v) w' b c n' X') (hc : Chg (fun k => k = b ∨ k = c) wr w') : Ord w w' b c n' X' v s :=
  ⟨hn, Kd.R_step h.row (fun k hk hlt => hc.keep k hlt (fun e => by rcases e with e | e; exact hk.1 e; exact hk.2 e)), hc.below h.low h.size (fun k e => by rcases e with rfl | rfl; exact h.ge.1; exact h.ge.2), h.ge⟩
theorem Ord.quiet (h : Ord w wr b c n X v s) (hc : Chg (fun _ => False) wr w') : Ord w w' b c n X v s :=
  h.chg (h.net.ofBelow hc) (hc.mono (fun _ h => h.elim))
theorem Ord.app (h : Ord w wr b c n X v s) {v1 : Value} {m : Msg} (hr : Kd.R kM 30 w' w.heap.size (fun k => k ≠ b ∧ k ≠ c) v1 (s ++ [m])) (hb : Below w.heap.size w w') (hg : wr.grownBy w' v.ownBlock) (hat : v1.ownBlock = v.ownBlock ∨ ∃ b, v1.ownBlock = some b ∧ wr.heap.size ≤ b) : Ord w w' b c n X v1 (s ++ [m]) := by
  have hvb : v.ownBlock ≠ some b := fun e => (h.row.1 b e).1 rfl
  have hvc : v.ownBlock ≠ some c := fun e => (h.row.1 c e).2 rfl
  have hc : Chg (fun k => some k = v.ownBlock) wr w' := (Chg.refl _ _).grown hg (fun k e => .inl e.symm)
  refine ⟨?_, hr, hb, h.ge⟩
  refine NetAt.mono (h.net.bound.chg hc (fun e => hvb e.symm) (fun e => hvc e.symm) (fun k hk e => hk.1.2.2 e)) (fun k hk => ⟨hk.1.1, hk.1.2.1, fun e => ?_⟩)
  rcases hat with h1 | ⟨q, h1, h2⟩
  · exact hk.1.2.2 (by rw [← h1]; exact e)
  · rw [h1] at e
    cases e
    have := hk.2
    omega
theorem only_b {S : Nat} (hc : Chg (fun k => k = S) wr w') (h : S = b ∨ S = c) : Chg (fun k => k = b ∨ k = c) wr w' := hc.mono (fun k e => by subst e; exact h)
theorem Ord.send (h : Ord w wr b c n X v s) (hF : Fine X) (m : Msg) : Calls Try.prog 10 #[.pointer (some ⟨b, 0, none⟩), MsgV m] wr fun e w' => e = .returned (.int .i64 (nSend X m).1) ∧ Ord w w' b c n (nSend X m).2 v s :=
  (Send_calls _ b c n X m wr h.net hF (fun k hk => hk.1) h.old).mono fun e w' ⟨he, hn, hc⟩ => ⟨he, h.chg hn (only_b hc (.inl rfl))⟩
theorem Ord.double (h : Ord w wr b c n X v s) (i : Int) : Calls Try.prog 12 #[.pointer (some ⟨b, 0, none⟩), .int .i64 i] wr fun e w' => e = .returned (.int .i64 (nDouble X i).1) ∧ Ord w w' b c n (nDouble X i).2 v s :=
  (Double_calls _ b c n X i wr h.net (fun k hk => hk.1) h.old).mono fun e w' ⟨he, hn, hc⟩ => ⟨he, h.chg hn (only_b hc (.inl rfl))⟩
theorem Ord.drop (h : Ord w wr b c n X v s) (hF : Fine X) (i : Int) : Calls Try.prog 13 #[.pointer (some ⟨b, 0, none⟩), .int .i64 i] wr fun e w' => e = .returned (.int .i64 (nDrop X i).1) ∧ Ord w w' b c n (nDrop X i).2 v s :=
  (Drop_calls _ b c n X i wr h.net hF (fun k hk => hk.1) h.old).mono fun e w' ⟨he, hn, hc⟩ => ⟨he, h.chg hn (only_b hc (.inl rfl))⟩
theorem Ord.move (h : Ord w wr b c n X v s) (hl : X.l.length ≤ 256) (i j : Int) : Calls Try.prog 11 #[.pointer (some ⟨b, 0, none⟩), .int .i64 i, .int .i64 j] wr fun e w' => e = .returned (.int .i64 (nMove X i j).1) ∧ Ord w w' b c n (nMove X i j).2 v s :=
  (Move_calls _ b c n X i j wr h.net hl (fun k hk => hk.1) h.old).mono fun e w' ⟨he, hn, hc⟩ => ⟨he, h.chg hn (only_b hc (.inl rfl))⟩
theorem Ord.deliver (h : Ord w wr b c n X v s) (hF : Fine X) (i : Int) : Calls Try.prog 14 #[.pointer (some ⟨b, 0, none⟩), .int .i64 i] wr fun e w' => e = .returned (.tuple #[MsgV (nDeliver X i).1.1, .int .i64 (nDeliver X i).1.2]) ∧ Ord w w' b c n (nDeliver X i).2 v s :=
  (Deliver_calls _ b c n X i wr h.net hF (fun k hk => hk.1) h.old).mono fun e w' ⟨he, hn, hc⟩ => ⟨he, h.chg hn (only_b hc (.inl rfl))⟩
end
theorem msg_cells {w : World} {A : Option Addr} {l : List Msg} (h : Kd.C kM w A l.length l) (i : Nat) (hi : i < l.length) :
    ∃ ad, A = some ad ∧ w.cell? (ad.add (i * 3)) = some (.int .i64 l[i].f0) ∧ w.cell? ⟨(ad.add (i * 3)).block, (ad.add (i * 3)).off + 1, none⟩ = some (.int .i64 l[i].f1) ∧ w.cell? ⟨(ad.add (i * 3)).block, (ad.add (i * 3)).off + 2, none⟩ = some (.string l[i].f2) := by
  have h1 := at_T30 h (i : Int) (by omega) (by omega)
  have e : rd_T30 l (i : Int) = l[i] := rdM_nat hi
  rw [e] at h1
  exact h1

end Go.Proofs.Ytclmhodgfhkgcaa.Q
