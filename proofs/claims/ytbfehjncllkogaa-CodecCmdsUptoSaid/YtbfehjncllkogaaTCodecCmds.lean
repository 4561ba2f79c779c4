/- The law's row: it holds. -/
import Derived.Test.YtbfehjncllkogaaRows
import Derived.Test.YtbfehjncllkogaaTCodecCmdsh
import Derived.Deep.CondSized
import Derived.JoinedCond
import Derived.WalkKit
import Derived.ProofKit
import Derived.OpenShut
import Derived.ShutString
import Derived.ChangeOld
import Derived.Below
import Derived.SizedLaws
import Derived.WideShapes
namespace Go.Proofs.Ytbfehjncllkogaa.codecCmds
set_option linter.unusedSimpArgs false
open Go.ChangeShapes Go.WideShapes Go.ChangeAt Go.RowKit Go.Proofs.Ytbfehjncllkogaa.Q Go.Proofs.YtbfehjncllkogaaW.PrintWords
open Go.ChangeMaps (open_string shut_string)
set_option linter.unusedVariables false
theorem own : ownKnob Try.prog.godebug = none := by kernel_rfl
theorem laidOut : laidOutB Try.prog = true := by kernel_rfl
set_option maxRecDepth 100000 in
theorem opens0 {H : Type} (enc_ : TypeId × Value → H) (W_ : World) : OpensM enc_ Try.prog W_ 24 (Kd.iso (Kd.pair (Kd.int .i64) (Kd.pair (Kd.int .i64) (Kd.pair Kd.string (Kd.pair (Kd.int .i64) (Kd.pair (Kd.slice 3 (Kd.int .i64)) (Kd.int .i64)))))) id) (fun y1 => ((Lit.int .i64 y1.1).wf = true ∧ (Lit.int .i64 y1.2.1).wf = true ∧ y1.2.2.1.size ≤ 140737488351232 ∧ (Lit.int .i64 y1.2.2.2.1).wf = true ∧ (y1.2.2.2.2.1.length * 8 ≤ 140737488351232 ∧ y1.2.2.2.2.1.length ≤ 9223372036854775807 ∧ ∀ y2 ∈ y1.2.2.2.2.1, (Lit.int .i64 y2).wf = true) ∧ (Lit.int .i64 y1.2.2.2.2.2).wf = true)) (fun y1 => (1 + (1 + ((y1.2.2.1.size + 1) + (1 + (((y1.2.2.2.2.1.map fun y2 => 1).sum + 1) + 1)))))) :=
  (show OpensM enc_ Try.prog W_ 24 (Kd.iso (Kd.pair (Kd.int .i64) (Kd.pair (Kd.int .i64) (Kd.pair Kd.string (Kd.pair (Kd.int .i64) (Kd.pair (Kd.slice 3 (Kd.int .i64)) (Kd.int .i64)))))) id) _ _ from OpensM.struct [3, 3, 9, 3, 22, 3] id id (fun _ => rfl) Try.underlying24 rfl (by kernel_rfl) (by kernel_rfl) (OpensSeqM.cons (OpensM.int Try.underlying3 (by kernel_rfl)) (OpensSeqM.cons (OpensM.int Try.underlying3 (by kernel_rfl)) (OpensSeqM.cons (OpensM.string Try.underlying9 (by kernel_rfl)) (OpensSeqM.cons (OpensM.int Try.underlying3 (by kernel_rfl)) (OpensSeqM.cons (OpensM.slice (0 : Int) 8 Try.underlying22 (by kernel_rfl) (by kernel_rfl) (OpensM.int Try.underlying3 (by kernel_rfl))) (OpensSeqM.one (OpensM.int Try.underlying3 (by kernel_rfl)))))))))
set_option maxRecDepth 100000 in
theorem opens1 {H : Type} (enc_ : TypeId × Value → H) (W_ : World) : OpensM enc_ Try.prog W_ 27 (Kd.iso (Kd.pair (Kd.int .i64) (Kd.pair (Kd.int .i64) (Kd.pair Kd.string (Kd.pair (Kd.int .i64) (Kd.slice 81 k81))))) id) (fun y1 => ((Lit.int .i64 y1.1).wf = true ∧ (Lit.int .i64 y1.2.1).wf = true ∧ y1.2.2.1.size ≤ 140737488351232 ∧ (Lit.int .i64 y1.2.2.2.1).wf = true ∧ (y1.2.2.2.2.length * 32 ≤ 140737488351232 ∧ y1.2.2.2.2.length ≤ 9223372036854775807 ∧ ∀ y2 ∈ y1.2.2.2.2, ((Lit.int .i64 y2.f0).wf = true ∧ (y2.f1.length * 8 ≤ 140737488351232 ∧ y2.f1.length ≤ 9223372036854775807 ∧ ∀ y3 ∈ y2.f1, (Lit.int .i64 y3).wf = true))))) (fun y1 => (1 + (1 + ((y1.2.2.1.size + 1) + (1 + ((y1.2.2.2.2.map fun y2 => (1 + ((y2.f1.map fun y3 => 1).sum + 1))).sum + 1)))))) :=
  (show OpensM enc_ Try.prog W_ 27 (Kd.iso (Kd.pair (Kd.int .i64) (Kd.pair (Kd.int .i64) (Kd.pair Kd.string (Kd.pair (Kd.int .i64) (Kd.slice 81 k81))))) id) _ _ from OpensM.struct [3, 3, 9, 3, 25] id id (fun _ => rfl) Try.underlying27 rfl (by kernel_rfl) (by kernel_rfl) (OpensSeqM.cons (OpensM.int Try.underlying3 (by kernel_rfl)) (OpensSeqM.cons (OpensM.int Try.underlying3 (by kernel_rfl)) (OpensSeqM.cons (OpensM.string Try.underlying9 (by kernel_rfl)) (OpensSeqM.cons (OpensM.int Try.underlying3 (by kernel_rfl)) (OpensSeqM.one (OpensM.slice (z81 : S81) 32 Try.underlying25 (by kernel_rfl) (by kernel_rfl) (show OpensM enc_ Try.prog W_ 81 k81 _ _ from OpensM.struct [3, 22] (fun x : S81 => (x.f0, x.f1)) (fun q => (⟨q.1, q.2⟩ : S81)) (fun _ => rfl) Try.underlying81 rfl (by kernel_rfl) (by kernel_rfl) (OpensSeqM.cons (OpensM.int Try.underlying3 (by kernel_rfl)) (OpensSeqM.one (OpensM.slice (0 : Int) 8 Try.underlying22 (by kernel_rfl) (by kernel_rfl) (OpensM.int Try.underlying3 (by kernel_rfl)))))))))))))
set_option maxRecDepth 100000 in
theorem lifted (os : Os) (started : os.Started) (H : Type) (enc : TypeId × Value → H) (F0 : Stop.Interp) :
    ReturnsInHanded {} Try.checked os 3 .any ((Rows.OpenSpec.upto Rows.codecCmdsSpec).pre6 enc Try.prog Try.f3 Rows.codecCmdsUptoRow.domain false) (((Rows.OpenSpec.upto Rows.codecCmdsSpec).at F0).post enc Try.prog Try.f3 false true false false) := by
  refine returnsInHanded_of_cond_sized (C := Try.checked) (s := (Rows.OpenSpec.upto Rows.codecCmdsSpec)) (k := Rows.uptoSmall) rfl own started (by kernel_rfl) Try.func3
    (OpenSpec.witness (enc := enc) (C := Try.checked) (s := (Rows.OpenSpec.upto Rows.codecCmdsSpec)) (k := Rows.uptoSmall) rfl false ⟨#[], #[.agg #[.int .i64 0, .int .i64 0, .string ByteArray.empty, .int .i64 0, .slice none 0 0, .int .i64 0], .agg #[.int .i64 0, .int .i64 0, .string ByteArray.empty, .int .i64 0, .slice none 0 0]], []⟩ 12 (by kernel_rfl) (by kernel_rfl) (by kernel_rfl)
      (x := ([.agg [.lit (.int .i64 0), .lit (.int .i64 0), .lit (.string []), .lit (.int .i64 0), .nil, .lit (.int .i64 0)], .agg [.lit (.int .i64 0), .lit (.int .i64 0), .lit (.string []), .lit (.int .i64 0), .nil]], [], [])) (by kernel_rfl) (by kernel_rfl) (by kernel_rfl)) ?_
  intro W base args ds gs before hval0 hW hcnd hkk hsz0 _
  have hsz : (DataW.weightsEach Try.prog (Try.f3.params.toList ++ Rows.codecCmdsSpec.plain.varTypes Try.prog) (ds ++ gs)).all (· ≤ reachBytes) = true := hsz0
  have hval : ∀ (j : Nat) t v, Try.f3.params[j]? = some t → args[j]? = some v → Value.okWide Try.prog W .any base t v := hval0
  have hW' := hW
  obtain ⟨p, q, hA0, hV, rfl, hfz, hnd⟩ := hW
  have hA : DataW.TrodAll enc Try.prog W 0 (fun _ => true) true Try.f3.params.toList args.toList ds p := hA0
  rw [Try.params3] at hA hval hsz
  obtain ⟨v0, vs0, d0, ds0, p0, q0, hargs, rfl, rfl, h0, r0⟩ := trodAll_cons hA
  obtain ⟨v1, vs1, d1, ds1, p1, q1, rfl, rfl, rfl, h1, r1⟩ := trodAll_cons r0
  obtain ⟨rfl, rfl, rfl⟩ := trodAll_nil r1
  obtain rfl : args = #[v0, v1] := by cases args; simp_all
  obtain ⟨rfl, rfl⟩ := trodVars_none hV
  have k0 := h0
  have lt0 : ∀ x ∈ p0, x.block < W.heap.size := by obtain ⟨m, hm⟩ := k0; exact DataW.trod_lt m _ _ _ hm
  obtain ⟨fuel0, hf0⟩ := h0
  obtain ⟨y0, hK0, hG0, hM0⟩ := (opens0 enc W).2 fuel0 _ _ hf0 (fun n hn => of_decide_eq_true (List.all_eq_true.1 hsz n (weights_each (j := 0) rfl rfl n hn)))
  obtain ⟨cs0, rfl, -⟩ := okWide_struct Try.underlying24 (hval 0 24 v0 rfl rfl)
  obtain ⟨x0_0, z0_0, hE0, hl0_0, hr0_0⟩ := hK0
  obtain rfl := hl0_0
  obtain ⟨x0_1, z0_1, rfl, hl0_1, hr0_1⟩ := hr0_0
  obtain rfl := hl0_1
  obtain ⟨x0_2, z0_2, rfl, hl0_2, hr0_2⟩ := hr0_1
  obtain rfl := hl0_2
  obtain ⟨x0_3, z0_3, rfl, hl0_3, hr0_3⟩ := hr0_2
  obtain rfl := hl0_3
  obtain ⟨x0_4, z0_4, rfl, hl0_4, hr0_4⟩ := hr0_3
  obtain ⟨A0_4, c0_4, rfl, hle0_4, hC0_4⟩ := hl0_4
  obtain rfl := hr0_4
  obtain rfl : cs0 = #[.int .i64 y0.1, .int .i64 y0.2.1, .string y0.2.2.1, .int .i64 y0.2.2.2.1, .slice A0_4 y0.2.2.2.2.1.length c0_4, .int .i64 y0.2.2.2.2.2] := Array.ext' hE0
  have k1 := h1
  have lt1 : ∀ x ∈ p1, x.block < W.heap.size := by obtain ⟨m, hm⟩ := k1; exact DataW.trod_lt m _ _ _ hm
  obtain ⟨fuel1, hf1⟩ := h1
  obtain ⟨y1, hK1, hG1, hM1⟩ := (opens1 enc W).2 fuel1 _ _ hf1 (fun n hn => of_decide_eq_true (List.all_eq_true.1 hsz n (weights_each (j := 1) rfl rfl n hn)))
  obtain ⟨cs1, rfl, -⟩ := okWide_struct Try.underlying27 (hval 1 27 v1 rfl rfl)
  obtain ⟨x1_0, z1_0, hE1, hl1_0, hr1_0⟩ := hK1
  obtain rfl := hl1_0
  obtain ⟨x1_1, z1_1, rfl, hl1_1, hr1_1⟩ := hr1_0
  obtain rfl := hl1_1
  obtain ⟨x1_2, z1_2, rfl, hl1_2, hr1_2⟩ := hr1_1
  obtain rfl := hl1_2
  obtain ⟨x1_3, z1_3, rfl, hl1_3, hr1_3⟩ := hr1_2
  obtain rfl := hl1_3
  obtain ⟨A1_4, c1_4, rfl, hle1_4, hC1_4⟩ := hr1_3
  obtain rfl : cs1 = #[.int .i64 y1.1, .int .i64 y1.2.1, .string y1.2.2.1, .int .i64 y1.2.2.2.1, .slice A1_4 y1.2.2.2.2.length c1_4] := Array.ext' hE1
  have hbk : Rows.uptoBulkAll _ ≤ 1048576 := of_decide_eq_true hkk
  simp only [List.nil_append, List.append_nil, Rows.uptoBulkAll] at hbk
  have hB0 : (fun y1 => (1 + (1 + ((y1.2.2.1.size + 1) + (1 + (((y1.2.2.2.2.1.map fun y2 => 1).sum + 1) + 1)))))) y0 ≤ 1048576 := by
    refine Nat.le_trans (show _ ≤ Rows.uptoBulk d0 from hM0) ?_
    omega
  have hB1 : (fun y1 => (1 + (1 + ((y1.2.2.1.size + 1) + (1 + ((y1.2.2.2.2.map fun y2 => (1 + ((y2.f1.map fun y3 => 1).sum + 1))).sum + 1)))))) y1 ≤ 1048576 := by
    refine Nat.le_trans (show _ ≤ Rows.uptoBulk d1 from hM1) ?_
    omega
  obtain ⟨k, hk⟩ := Pure.CodecCmdsUpto y0.1 y0.2.1 y0.2.2.1 y0.2.2.2.1 y0.2.2.2.2.1 y0.2.2.2.2.2 y1.1 y1.2.1 y1.2.2.1 y1.2.2.2.1 y1.2.2.2.2 hG0.1 hG0.2.1 hG0.2.2.1 hG0.2.2.2.1 hG0.2.2.2.2.1 hG0.2.2.2.2.2 hG1.1 hG1.2.1 hG1.2.2.1 hG1.2.2.2.1 hG1.2.2.2.2 hB0 hB1
  refine (surmiselaw10_CodecCmds.calls k y0.1 y0.2.1 y0.2.2.1 y0.2.2.2.1 _ _ y0.2.2.2.2.1 y0.2.2.2.2.2 y1.1 y1.2.1 y1.2.2.1 y1.2.2.2.1 _ _ y1.2.2.2.2 true W hC0_4 hle0_4 hC1_4 hle1_4 hk).mono fun e W' he0 => ?_
  obtain ⟨he, hd⟩ := he0
  have bel : Below W.heap.size W W' := hd
  subst he
  exact ⟨_, rfl, _, _, _, [], _, [], hW', trodAll_mk1 (shut_bool Try.underlying4 _), (trodAll_cons_mk (Below.trod laidOut (by kernel_rfl) (of_decide_eq_true (by kernel_rfl)) k0 bel lt0) (trodAll_cons_mk (Below.trod laidOut (by kernel_rfl) (of_decide_eq_true (by kernel_rfl)) k1 bel lt1) trodAll_mk0)), rfl, bel.frame _, fun h => by cases h⟩
theorem over : Rows.codecCmdsUptoRow.holds Try.pinned (Rows.OpenSpec.upto Rows.codecCmdsSpec) :=
  OpenClaim.holds_of_cond 3 Try.f3 rfl rfl rfl rfl rfl rfl rfl ⟨rfl, rfl, rfl, rfl, rfl⟩ rfl rfl rfl rfl rfl (by kernel_rfl) Try.func3 (by kernel_rfl)
    (of_decide_eq_true (by kernel_rfl)) (by unfold Func.isWrapper; first | (rw [if_pos (by decide +kernel)]; kernel_rfl) | (rw [if_neg (by decide +kernel)]; exact ⟨rfl, rfl⟩))
    (fun os started H enc _ F0 => lifted os started H enc F0)
theorem proved : Rows.CodecCmdsUptoSaid := over
#print axioms proved
end Go.Proofs.Ytbfehjncllkogaa.codecCmds
namespace Go.Proofs.Ytbfehjncllkogaa
theorem codecCmdsUpto_holds : Rows.CodecCmdsUptoSaid := codecCmds.proved
end Go.Proofs.Ytbfehjncllkogaa
