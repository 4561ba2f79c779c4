/- The law's row: it holds. -/
import Derived.Test.YtbfehjncllkogaaRows
import Derived.Test.YtbfehjncllkogaaTCodecListsi
import Derived.Deep.CondSized
import Derived.JoinedCond
import Derived.WalkKit
import Derived.ProofKit
import Derived.OpenShut
import Derived.ShutString
import Derived.ChangeOld
import Derived.Below
import Derived.SizedLaws
import Derived.WideShapes
namespace Go.Proofs.Ytbfehjncllkogaa.codecLists
set_option linter.unusedSimpArgs false
open Go.ChangeShapes Go.WideShapes Go.ChangeAt Go.RowKit Go.Proofs.Ytbfehjncllkogaa.Q Go.Proofs.YtbfehjncllkogaaW.PrintWords
open Go.ChangeMaps (open_string shut_string)
set_option linter.unusedVariables false
theorem own : ownKnob Try.prog.godebug = none := by kernel_rfl
theorem laidOut : laidOutB Try.prog = true := by kernel_rfl
set_option maxRecDepth 100000 in
theorem opens0 {H : Type} (enc_ : TypeId × Value → H) (W_ : World) : OpensM enc_ Try.prog W_ 42 (Kd.slice 93 k93) (fun y1 : List (S93) => (y1.length * 56 ≤ 140737488351232 ∧ y1.length ≤ 9223372036854775807 ∧ ∀ y2 ∈ y1, (y2.f0.size ≤ 140737488351232 ∧ ((Lit.int .i64 y2.f1.f0).wf = true ∧ (Lit.int .i64 y2.f1.f1).wf = true ∧ (y2.f1.f2.length * 8 ≤ 140737488351232 ∧ y2.f1.f2.length ≤ 9223372036854775807 ∧ ∀ y3 ∈ y2.f1.f2, (Lit.int .i64 y3).wf = true))))) (fun y1 : List (S93) => ((y1.map fun y2 => ((y2.f0.size + 1) + (1 + (1 + ((y2.f1.f2.map fun y3 => 1).sum + 1))))).sum + 1)) :=
  (OpensM.slice (z93 : S93) 56 Try.underlying42 (by kernel_rfl) (by kernel_rfl) (show OpensM enc_ Try.prog W_ 93 k93 _ _ from OpensM.struct [9, 91] (fun x : S93 => (x.f0, x.f1)) (fun q => (⟨q.1, q.2⟩ : S93)) (fun _ => rfl) Try.underlying93 rfl (by kernel_rfl) (by kernel_rfl) (OpensSeqM.cons (OpensM.string Try.underlying9 (by kernel_rfl)) (OpensSeqM.one (show OpensM enc_ Try.prog W_ 91 k91 _ _ from OpensM.struct [3, 3, 22] (fun x : S91 => (x.f0, (x.f1, x.f2))) (fun q => (⟨q.1, q.2.1, q.2.2⟩ : S91)) (fun _ => rfl) Try.underlying91 rfl (by kernel_rfl) (by kernel_rfl) (OpensSeqM.cons (OpensM.int Try.underlying3 (by kernel_rfl)) (OpensSeqM.cons (OpensM.int Try.underlying3 (by kernel_rfl)) (OpensSeqM.one (OpensM.slice (0 : Int) 8 Try.underlying22 (by kernel_rfl) (by kernel_rfl) (OpensM.int Try.underlying3 (by kernel_rfl)))))))))))
set_option maxRecDepth 100000 in
theorem opens1 {H : Type} (enc_ : TypeId × Value → H) (W_ : World) : OpensM enc_ Try.prog W_ 43 (Kd.slice 97 k97) (fun y1 : List (S97) => (y1.length * 16 ≤ 140737488351232 ∧ y1.length ≤ 9223372036854775807 ∧ ∀ y2 ∈ y1, ((Lit.int .i64 y2.f0).wf = true ∧ (Lit.int .i64 y2.f1).wf = true))) (fun y1 : List (S97) => ((y1.map fun y2 => (1 + 1)).sum + 1)) :=
  (OpensM.slice (z97 : S97) 16 Try.underlying43 (by kernel_rfl) (by kernel_rfl) (show OpensM enc_ Try.prog W_ 97 k97 _ _ from OpensM.struct [3, 3] (fun x : S97 => (x.f0, x.f1)) (fun q => (⟨q.1, q.2⟩ : S97)) (fun _ => rfl) Try.underlying97 rfl (by kernel_rfl) (by kernel_rfl) (OpensSeqM.cons (OpensM.int Try.underlying3 (by kernel_rfl)) (OpensSeqM.one (OpensM.int Try.underlying3 (by kernel_rfl))))))
set_option maxRecDepth 100000 in
theorem opens2 {H : Type} (enc_ : TypeId × Value → H) (W_ : World) : OpensM enc_ Try.prog W_ 44 (Kd.slice 9 Kd.string) (fun y1 : List ByteArray => (y1.length * 16 ≤ 140737488351232 ∧ y1.length ≤ 9223372036854775807 ∧ ∀ y2 ∈ y1, y2.size ≤ 140737488351232)) (fun y1 : List ByteArray => ((y1.map fun y2 => (y2.size + 1)).sum + 1)) :=
  (OpensM.slice ((⟨#[]⟩ : ByteArray) : ByteArray) 16 Try.underlying44 (by kernel_rfl) (by kernel_rfl) (OpensM.string Try.underlying9 (by kernel_rfl)))
set_option maxRecDepth 100000 in
theorem lifted (os : Os) (started : os.Started) (H : Type) (enc : TypeId × Value → H) (F0 : Stop.Interp) :
    ReturnsInHanded {} Try.checked os 4 .any ((Rows.OpenSpec.upto Rows.codecListsSpec).pre6 enc Try.prog Try.f4 Rows.codecListsUptoRow.domain false) (((Rows.OpenSpec.upto Rows.codecListsSpec).at F0).post enc Try.prog Try.f4 false true false false) := by
  refine returnsInHanded_of_cond_sized (C := Try.checked) (s := (Rows.OpenSpec.upto Rows.codecListsSpec)) (k := Rows.uptoSmall) rfl own started (by kernel_rfl) Try.func4
    (OpenSpec.witness (enc := enc) (C := Try.checked) (s := (Rows.OpenSpec.upto Rows.codecListsSpec)) (k := Rows.uptoSmall) rfl false ⟨#[], #[.slice none 0 0, .slice none 0 0, .slice none 0 0], []⟩ 12 (by kernel_rfl) (by kernel_rfl) (by kernel_rfl)
      (x := ([.nil, .nil, .nil], [], [])) (by kernel_rfl) (by kernel_rfl) (by kernel_rfl)) ?_
  intro W base args ds gs before hval0 hW hcnd hkk hsz0 _
  have hsz : (DataW.weightsEach Try.prog (Try.f4.params.toList ++ Rows.codecListsSpec.plain.varTypes Try.prog) (ds ++ gs)).all (· ≤ reachBytes) = true := hsz0
  have hval : ∀ (j : Nat) t v, Try.f4.params[j]? = some t → args[j]? = some v → Value.okWide Try.prog W .any base t v := hval0
  have hW' := hW
  obtain ⟨p, q, hA0, hV, rfl, hfz, hnd⟩ := hW
  have hA : DataW.TrodAll enc Try.prog W 0 (fun _ => true) true Try.f4.params.toList args.toList ds p := hA0
  rw [Try.params4] at hA hval hsz
  obtain ⟨v0, vs0, d0, ds0, p0, q0, hargs, rfl, rfl, h0, r0⟩ := trodAll_cons hA
  obtain ⟨v1, vs1, d1, ds1, p1, q1, rfl, rfl, rfl, h1, r1⟩ := trodAll_cons r0
  obtain ⟨v2, vs2, d2, ds2, p2, q2, rfl, rfl, rfl, h2, r2⟩ := trodAll_cons r1
  obtain ⟨rfl, rfl, rfl⟩ := trodAll_nil r2
  obtain rfl : args = #[v0, v1, v2] := by cases args; simp_all
  obtain ⟨rfl, rfl⟩ := trodVars_none hV
  have k0 := h0
  have lt0 : ∀ x ∈ p0, x.block < W.heap.size := by obtain ⟨m, hm⟩ := k0; exact DataW.trod_lt m _ _ _ hm
  obtain ⟨fuel0, hf0⟩ := h0
  obtain ⟨y0, hK0, hG0, hM0⟩ := (opens0 enc W).2 fuel0 _ _ hf0 (fun n hn => of_decide_eq_true (List.all_eq_true.1 hsz n (weights_each (j := 0) rfl rfl n hn)))
  obtain ⟨b0, len0, cap0, rfl⟩ := okWide_slice Try.underlying42 (hval 0 42 v0 rfl rfl)
  obtain ⟨A0, c0, hcs0, hle0, hC0⟩ := hK0
  simp [Value.cells] at hcs0
  obtain ⟨rfl, rfl, rfl⟩ := hcs0
  have k1 := h1
  have lt1 : ∀ x ∈ p1, x.block < W.heap.size := by obtain ⟨m, hm⟩ := k1; exact DataW.trod_lt m _ _ _ hm
  obtain ⟨fuel1, hf1⟩ := h1
  obtain ⟨y1, hK1, hG1, hM1⟩ := (opens1 enc W).2 fuel1 _ _ hf1 (fun n hn => of_decide_eq_true (List.all_eq_true.1 hsz n (weights_each (j := 1) rfl rfl n hn)))
  obtain ⟨b1, len1, cap1, rfl⟩ := okWide_slice Try.underlying43 (hval 1 43 v1 rfl rfl)
  obtain ⟨A1, c1, hcs1, hle1, hC1⟩ := hK1
  simp [Value.cells] at hcs1
  obtain ⟨rfl, rfl, rfl⟩ := hcs1
  have k2 := h2
  have lt2 : ∀ x ∈ p2, x.block < W.heap.size := by obtain ⟨m, hm⟩ := k2; exact DataW.trod_lt m _ _ _ hm
  obtain ⟨fuel2, hf2⟩ := h2
  obtain ⟨y2, hK2, hG2, hM2⟩ := (opens2 enc W).2 fuel2 _ _ hf2 (fun n hn => of_decide_eq_true (List.all_eq_true.1 hsz n (weights_each (j := 2) rfl rfl n hn)))
  obtain ⟨b2, len2, cap2, rfl⟩ := okWide_slice Try.underlying44 (hval 2 44 v2 rfl rfl)
  obtain ⟨A2, c2, hcs2, hle2, hC2⟩ := hK2
  simp [Value.cells] at hcs2
  obtain ⟨rfl, rfl, rfl⟩ := hcs2
  have hbk : Rows.uptoBulkAll _ ≤ 1048576 := of_decide_eq_true hkk
  simp only [List.nil_append, List.append_nil, Rows.uptoBulkAll] at hbk
  have hB0 : (fun y1 => ((y1.map fun y2 => ((y2.f0.size + 1) + (1 + (1 + ((y2.f1.f2.map fun y3 => 1).sum + 1))))).sum + 1)) y0 ≤ 1048576 := by
    refine Nat.le_trans (show _ ≤ Rows.uptoBulk d0 from hM0) ?_
    omega
  have hB1 : (fun y1 => ((y1.map fun y2 => (1 + 1)).sum + 1)) y1 ≤ 1048576 := by
    refine Nat.le_trans (show _ ≤ Rows.uptoBulk d1 from hM1) ?_
    omega
  have hB2 : (fun y1 => ((y1.map fun y2 => (y2.size + 1)).sum + 1)) y2 ≤ 1048576 := by
    refine Nat.le_trans (show _ ≤ Rows.uptoBulk d2 from hM2) ?_
    omega
  obtain ⟨k, hk⟩ := Pure.CodecListsUpto y0 y1 y2 hG0 hG1 hG2 hB0 hB1 hB2
  refine (surmiselaw10_CodecLists.calls k _ _ y0 _ _ y1 _ _ y2 true W hC0 hle0 hC1 hle1 hC2 hle2 hk).mono fun e W' he0 => ?_
  obtain ⟨he, hd⟩ := he0
  have bel : Below W.heap.size W W' := hd
  subst he
  exact ⟨_, rfl, _, _, _, [], _, [], hW', trodAll_mk1 (shut_bool Try.underlying4 _), (trodAll_cons_mk (Below.trod laidOut (by kernel_rfl) (of_decide_eq_true (by kernel_rfl)) k0 bel lt0) (trodAll_cons_mk (Below.trod laidOut (by kernel_rfl) (of_decide_eq_true (by kernel_rfl)) k1 bel lt1) (trodAll_cons_mk (Below.trod laidOut (by kernel_rfl) (of_decide_eq_true (by kernel_rfl)) k2 bel lt2) trodAll_mk0))), rfl, bel.frame _, fun h => by cases h⟩
theorem over : Rows.codecListsUptoRow.holds Try.pinned (Rows.OpenSpec.upto Rows.codecListsSpec) :=
  OpenClaim.holds_of_cond 4 Try.f4 rfl rfl rfl rfl rfl rfl rfl ⟨rfl, rfl, rfl, rfl, rfl⟩ rfl rfl rfl rfl rfl (by kernel_rfl) Try.func4 (by kernel_rfl)
    (of_decide_eq_true (by kernel_rfl)) (by unfold Func.isWrapper; first | (rw [if_pos (by decide +kernel)]; kernel_rfl) | (rw [if_neg (by decide +kernel)]; exact ⟨rfl, rfl⟩))
    (fun os started H enc _ F0 => lifted os started H enc F0)
theorem proved : Rows.CodecListsUptoSaid := over
#print axioms proved
end Go.Proofs.Ytbfehjncllkogaa.codecLists
namespace Go.Proofs.Ytbfehjncllkogaa
theorem codecListsUpto_holds : Rows.CodecListsUptoSaid := codecLists.proved
end Go.Proofs.Ytbfehjncllkogaa
