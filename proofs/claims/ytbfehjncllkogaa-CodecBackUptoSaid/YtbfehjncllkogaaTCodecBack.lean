/- The law's row: it holds. -/
import Derived.Test.YtbfehjncllkogaaRows
import Derived.Test.YtbfehjncllkogaaTCodecBackj
import Derived.Deep.CondSized
import Derived.JoinedCond
import Derived.WalkKit
import Derived.ProofKit
import Derived.OpenShut
import Derived.ShutString
import Derived.ChangeOld
import Derived.Below
import Derived.SizedLaws
import Derived.WideShapes
namespace Go.Proofs.Ytbfehjncllkogaa.codecBack
set_option linter.unusedSimpArgs false
open Go.ChangeShapes Go.WideShapes Go.ChangeAt Go.RowKit Go.Proofs.Ytbfehjncllkogaa.Q Go.Proofs.YtbfehjncllkogaaW.PrintWords
open Go.ChangeMaps (open_string shut_string)
set_option linter.unusedVariables false
theorem own : ownKnob Try.prog.godebug = none := by kernel_rfl
theorem laidOut : laidOutB Try.prog = true := by kernel_rfl
set_option maxRecDepth 100000 in
theorem opens0 {H : Type} (enc_ : TypeId × Value → H) (W_ : World) : yt enc_ Try.prog W_ 65 (Kd.iso (Kd.pair Kd.string (Kd.pair Kd.string (Kd.pair (Kd.iso (Kd.pair (Kd.int .i64) (Kd.pair (Kd.int .i64) (Kd.pair Kd.string (Kd.pair (Kd.int .i64) (Kd.pair (Kd.slice 3 (Kd.int .i64)) (Kd.int .i64)))))) id) (Kd.pair (Kd.iso (Kd.pair (Kd.int .i64) (Kd.pair (Kd.int .i64) (Kd.pair Kd.string (Kd.pair (Kd.int .i64) (Kd.slice 81 k81))))) id) (Kd.pair (Kd.slice 93 k93) (Kd.pair (Kd.slice 97 k97) (Kd.slice 9 Kd.string))))))) id) (fun y1 => (y1.1.size ≤ 140737488351232 ∧ y1.2.1.size ≤ 140737488351232 ∧ ((Lit.int .i64 y1.2.2.1.1).wf = true ∧ (Lit.int .i64 y1.2.2.1.2.1).wf = true ∧ y1.2.2.1.2.2.1.size ≤ 140737488351232 ∧ (Lit.int .i64 y1.2.2.1.2.2.2.1).wf = true ∧ (y1.2.2.1.2.2.2.2.1.length * 8 ≤ 140737488351232 ∧ y1.2.2.1.2.2.2.2.1.length ≤ 9223372036854775807 ∧ ∀ y2 ∈ y1.2.2.1.2.2.2.2.1, (Lit.int .i64 y2).wf = true) ∧ (Lit.int .i64 y1.2.2.1.2.2.2.2.2).wf = true) ∧ ((Lit.int .i64 y1.2.2.2.1.1).wf = true ∧ (Lit.int .i64 y1.2.2.2.1.2.1).wf = true ∧ y1.2.2.2.1.2.2.1.size ≤ 140737488351232 ∧ (Lit.int .i64 y1.2.2.2.1.2.2.2.1).wf = true ∧ (y1.2.2.2.1.2.2.2.2.length * 32 ≤ 140737488351232 ∧ y1.2.2.2.1.2.2.2.2.length ≤ 9223372036854775807 ∧ ∀ y2 ∈ y1.2.2.2.1.2.2.2.2, ((Lit.int .i64 y2.f0).wf = true ∧ (y2.f1.length * 8 ≤ 140737488351232 ∧ y2.f1.length ≤ 9223372036854775807 ∧ ∀ y3 ∈ y2.f1, (Lit.int .i64 y3).wf = true)))) ∧ (y1.2.2.2.2.1.length * 56 ≤ 140737488351232 ∧ y1.2.2.2.2.1.length ≤ 9223372036854775807 ∧ ∀ y2 ∈ y1.2.2.2.2.1, (y2.f0.size ≤ 140737488351232 ∧ ((Lit.int .i64 y2.f1.f0).wf = true ∧ (Lit.int .i64 y2.f1.f1).wf = true ∧ (y2.f1.f2.length * 8 ≤ 140737488351232 ∧ y2.f1.f2.length ≤ 9223372036854775807 ∧ ∀ y3 ∈ y2.f1.f2, (Lit.int .i64 y3).wf = true)))) ∧ (y1.2.2.2.2.2.1.length * 16 ≤ 140737488351232 ∧ y1.2.2.2.2.2.1.length ≤ 9223372036854775807 ∧ ∀ y2 ∈ y1.2.2.2.2.2.1, ((Lit.int .i64 y2.f0).wf = true ∧ (Lit.int .i64 y2.f1).wf = true)) ∧ (y1.2.2.2.2.2.2.length * 16 ≤ 140737488351232 ∧ y1.2.2.2.2.2.2.length ≤ 9223372036854775807 ∧ ∀ y2 ∈ y1.2.2.2.2.2.2, y2.size ≤ 140737488351232))) (fun y1 => ((y1.1.size + 1) + ((y1.2.1.size + 1) + ((1 + (1 + ((y1.2.2.1.2.2.1.size + 1) + (1 + (((y1.2.2.1.2.2.2.2.1.map fun y2 => 1).sum + 1) + 1))))) + ((1 + (1 + ((y1.2.2.2.1.2.2.1.size + 1) + (1 + ((y1.2.2.2.1.2.2.2.2.map fun y2 => (1 + ((y2.f1.map fun y3 => 1).sum + 1))).sum + 1))))) + (((y1.2.2.2.2.1.map fun y2 => ((y2.f0.size + 1) + (1 + (1 + ((y2.f1.f2.map fun y3 => 1).sum + 1))))).sum + 1) + (((y1.2.2.2.2.2.1.map fun y2 => (1 + 1)).sum + 1) + ((y1.2.2.2.2.2.2.map fun y2 => (y2.size + 1)).sum + 1)))))))) :=
  (show yt enc_ Try.prog W_ 65 (Kd.iso (Kd.pair Kd.string (Kd.pair Kd.string (Kd.pair (Kd.iso (Kd.pair (Kd.int .i64) (Kd.pair (Kd.int .i64) (Kd.pair Kd.string (Kd.pair (Kd.int .i64) (Kd.pair (Kd.slice 3 (Kd.int .i64)) (Kd.int .i64)))))) id) (Kd.pair (Kd.iso (Kd.pair (Kd.int .i64) (Kd.pair (Kd.int .i64) (Kd.pair Kd.string (Kd.pair (Kd.int .i64) (Kd.slice 81 k81))))) id) (Kd.pair (Kd.slice 93 k93) (Kd.pair (Kd.slice 97 k97) (Kd.slice 9 Kd.string))))))) id) _ _ from yt.struct [9, 9, 24, 27, 42, 43, 44] id id (fun _ => rfl) Try.underlying65 rfl (by kernel_rfl) (by kernel_rfl) (yA.cons (yt.string Try.underlying9 (by kernel_rfl)) (yA.cons (yt.string Try.underlying9 (by kernel_rfl)) (yA.cons (show yt enc_ Try.prog W_ 24 (Kd.iso (Kd.pair (Kd.int .i64) (Kd.pair (Kd.int .i64) (Kd.pair Kd.string (Kd.pair (Kd.int .i64) (Kd.pair (Kd.slice 3 (Kd.int .i64)) (Kd.int .i64)))))) id) _ _ from yt.struct [3, 3, 9, 3, 22, 3] id id (fun _ => rfl) Try.underlying24 rfl (by kernel_rfl) (by kernel_rfl) (yA.cons (yt.int Try.underlying3 (by kernel_rfl)) (yA.cons (yt.int Try.underlying3 (by kernel_rfl)) (yA.cons (yt.string Try.underlying9 (by kernel_rfl)) (yA.cons (yt.int Try.underlying3 (by kernel_rfl)) (yA.cons (yt.slice (0 : Int) 8 Try.underlying22 (by kernel_rfl) (by kernel_rfl) (yt.int Try.underlying3 (by kernel_rfl))) (yA.one (yt.int Try.underlying3 (by kernel_rfl))))))))) (yA.cons (show yt enc_ Try.prog W_ 27 (Kd.iso (Kd.pair (Kd.int .i64) (Kd.pair (Kd.int .i64) (Kd.pair Kd.string (Kd.pair (Kd.int .i64) (Kd.slice 81 k81))))) id) _ _ from yt.struct [3, 3, 9, 3, 25] id id (fun _ => rfl) Try.underlying27 rfl (by kernel_rfl) (by kernel_rfl) (yA.cons (yt.int Try.underlying3 (by kernel_rfl)) (yA.cons (yt.int Try.underlying3 (by kernel_rfl)) (yA.cons (yt.string Try.underlying9 (by kernel_rfl)) (yA.cons (yt.int Try.underlying3 (by kernel_rfl)) (yA.one (yt.slice (z81 : S81) 32 Try.underlying25 (by kernel_rfl) (by kernel_rfl) (show yt enc_ Try.prog W_ 81 k81 _ _ from yt.struct [3, 22] (fun x : S81 => (x.f0, x.f1)) (fun q => (⟨q.1, q.2⟩ : S81)) (fun _ => rfl) Try.underlying81 rfl (by kernel_rfl) (by kernel_rfl) (yA.cons (yt.int Try.underlying3 (by kernel_rfl)) (yA.one (yt.slice (0 : Int) 8 Try.underlying22 (by kernel_rfl) (by kernel_rfl) (yt.int Try.underlying3 (by kernel_rfl))))))))))))) (yA.cons (yt.slice (z93 : S93) 56 Try.underlying42 (by kernel_rfl) (by kernel_rfl) (show yt enc_ Try.prog W_ 93 k93 _ _ from yt.struct [9, 91] (fun x : S93 => (x.f0, x.f1)) (fun q => (⟨q.1, q.2⟩ : S93)) (fun _ => rfl) Try.underlying93 rfl (by kernel_rfl) (by kernel_rfl) (yA.cons (yt.string Try.underlying9 (by kernel_rfl)) (yA.one (show yt enc_ Try.prog W_ 91 k91 _ _ from yt.struct [3, 3, 22] (fun x : S91 => (x.f0, (x.f1, x.f2))) (fun q => (⟨q.1, q.2.1, q.2.2⟩ : S91)) (fun _ => rfl) Try.underlying91 rfl (by kernel_rfl) (by kernel_rfl) (yA.cons (yt.int Try.underlying3 (by kernel_rfl)) (yA.cons (yt.int Try.underlying3 (by kernel_rfl)) (yA.one (yt.slice (0 : Int) 8 Try.underlying22 (by kernel_rfl) (by kernel_rfl) (yt.int Try.underlying3 (by kernel_rfl))))))))))) (yA.cons (yt.slice (z97 : S97) 16 Try.underlying43 (by kernel_rfl) (by kernel_rfl) (show yt enc_ Try.prog W_ 97 k97 _ _ from yt.struct [3, 3] (fun x : S97 => (x.f0, x.f1)) (fun q => (⟨q.1, q.2⟩ : S97)) (fun _ => rfl) Try.underlying97 rfl (by kernel_rfl) (by kernel_rfl) (yA.cons (yt.int Try.underlying3 (by kernel_rfl)) (yA.one (yt.int Try.underlying3 (by kernel_rfl)))))) (yA.one (yt.slice ((⟨#[]⟩ : ByteArray) : ByteArray) 16 Try.underlying44 (by kernel_rfl) (by kernel_rfl) (yt.string Try.underlying9 (by kernel_rfl)))))))))))
set_option maxRecDepth 100000 in
theorem lifted (os : Os) (started : os.Started) (H : Type) (enc : TypeId × Value → H) (F0 : Stop.Interp) :
    ReturnsInHanded {} Try.checked os 6 .any ((Rows.OpenSpec.upto Rows.codecBackSpec).pre6 enc Try.prog Try.f6 Rows.codecBackUptoRow.domain false) (((Rows.OpenSpec.upto Rows.codecBackSpec).at F0).post enc Try.prog Try.f6 false true false false) := by
  refine returnsInHanded_of_cond_sized (C := Try.checked) (s := (Rows.OpenSpec.upto Rows.codecBackSpec)) (k := Rows.uptoSmall) rfl own started (by kernel_rfl) Try.func6
    (OpenSpec.witness (enc := enc) (C := Try.checked) (s := (Rows.OpenSpec.upto Rows.codecBackSpec)) (k := Rows.uptoSmall) rfl false ⟨#[], #[.agg #[.string ByteArray.empty, .string ByteArray.empty, .int .i64 0, .int .i64 0, .string ByteArray.empty, .int .i64 0, .slice none 0 0, .int .i64 0, .int .i64 0, .int .i64 0, .string ByteArray.empty, .int .i64 0, .slice none 0 0, .slice none 0 0, .slice none 0 0, .slice none 0 0]], []⟩ 12 (by kernel_rfl) (by kernel_rfl) (by kernel_rfl)
      (x := ([.agg [.lit (.string []), .lit (.string []), .agg [.lit (.int .i64 0), .lit (.int .i64 0), .lit (.string []), .lit (.int .i64 0), .nil, .lit (.int .i64 0)], .agg [.lit (.int .i64 0), .lit (.int .i64 0), .lit (.string []), .lit (.int .i64 0), .nil], .nil, .nil, .nil]], [], [])) (by kernel_rfl) (by kernel_rfl) (by kernel_rfl)) ?_
  intro W base args ds gs before hval0 hW hcnd hkk hsz0 _
  have hsz : (DataW.weightsEach Try.prog (Try.f6.params.toList ++ Rows.codecBackSpec.plain.varTypes Try.prog) (ds ++ gs)).all (· ≤ reachBytes) = true := hsz0
  have hval : ∀ (j : Nat) t v, Try.f6.params[j]? = some t → args[j]? = some v → Value.okWide Try.prog W .any base t v := hval0
  have hW' := hW
  obtain ⟨p, q, hA0, hV, rfl, hfz, hnd⟩ := hW
  have hA : DataW.TrodAll enc Try.prog W 0 (fun _ => true) true Try.f6.params.toList args.toList ds p := hA0
  rw [Try.params6] at hA hval hsz
  obtain ⟨v0, vs0, d0, ds0, p0, q0, hargs, rfl, rfl, h0, r0⟩ := trodAll_cons hA
  obtain ⟨rfl, rfl, rfl⟩ := trodAll_nil r0
  obtain rfl : args = #[v0] := by cases args; simp_all
  obtain ⟨rfl, rfl⟩ := trodVars_none hV
  have k0 := h0
  have lt0 : ∀ x ∈ p0, x.block < W.heap.size := by obtain ⟨m, hm⟩ := k0; exact DataW.trod_lt m _ _ _ hm
  obtain ⟨fuel0, hf0⟩ := h0
  obtain ⟨y0, hK0, hG0, hM0⟩ := (opens0 enc W).2 fuel0 _ _ hf0 (fun n hn => of_decide_eq_true (List.all_eq_true.1 hsz n (Xm (j := 0) rfl rfl n hn)))
  obtain ⟨cs0, rfl, -⟩ := okWide_struct Try.underlying65 (hval 0 65 v0 rfl rfl)
  obtain ⟨x0_0, z0_0, hE0, hl0_0, hr0_0⟩ := hK0
  obtain rfl := hl0_0
  obtain ⟨x0_1, z0_1, rfl, hl0_1, hr0_1⟩ := hr0_0
  obtain rfl := hl0_1
  obtain ⟨x0_2, z0_2, rfl, hl0_2, hr0_2⟩ := hr0_1
  obtain ⟨x0_2_0, z0_2_0, rfl, hl0_2_0, hr0_2_0⟩ := hl0_2
  obtain rfl := hl0_2_0
  obtain ⟨x0_2_1, z0_2_1, rfl, hl0_2_1, hr0_2_1⟩ := hr0_2_0
  obtain rfl := hl0_2_1
  obtain ⟨x0_2_2, z0_2_2, rfl, hl0_2_2, hr0_2_2⟩ := hr0_2_1
  obtain rfl := hl0_2_2
  obtain ⟨x0_2_3, z0_2_3, rfl, hl0_2_3, hr0_2_3⟩ := hr0_2_2
  obtain rfl := hl0_2_3
  obtain ⟨x0_2_4, z0_2_4, rfl, hl0_2_4, hr0_2_4⟩ := hr0_2_3
  obtain ⟨A0_2_4, c0_2_4, rfl, hle0_2_4, hC0_2_4⟩ := hl0_2_4
  obtain rfl := hr0_2_4
  obtain ⟨x0_3, z0_3, rfl, hl0_3, hr0_3⟩ := hr0_2
  obtain ⟨x0_3_0, z0_3_0, rfl, hl0_3_0, hr0_3_0⟩ := hl0_3
  obtain rfl := hl0_3_0
  obtain ⟨x0_3_1, z0_3_1, rfl, hl0_3_1, hr0_3_1⟩ := hr0_3_0
  obtain rfl := hl0_3_1
  obtain ⟨x0_3_2, z0_3_2, rfl, hl0_3_2, hr0_3_2⟩ := hr0_3_1
  obtain rfl := hl0_3_2
  obtain ⟨x0_3_3, z0_3_3, rfl, hl0_3_3, hr0_3_3⟩ := hr0_3_2
  obtain rfl := hl0_3_3
  obtain ⟨A0_3_4, c0_3_4, rfl, hle0_3_4, hC0_3_4⟩ := hr0_3_3
  obtain ⟨x0_4, z0_4, rfl, hl0_4, hr0_4⟩ := hr0_3
  obtain ⟨A0_4, c0_4, rfl, hle0_4, hC0_4⟩ := hl0_4
  obtain ⟨x0_5, z0_5, rfl, hl0_5, hr0_5⟩ := hr0_4
  obtain ⟨A0_5, c0_5, rfl, hle0_5, hC0_5⟩ := hl0_5
  obtain ⟨A0_6, c0_6, rfl, hle0_6, hC0_6⟩ := hr0_5
  obtain rfl : cs0 = #[.string y0.1, .string y0.2.1, .int .i64 y0.2.2.1.1, .int .i64 y0.2.2.1.2.1, .string y0.2.2.1.2.2.1, .int .i64 y0.2.2.1.2.2.2.1, .slice A0_2_4 y0.2.2.1.2.2.2.2.1.length c0_2_4, .int .i64 y0.2.2.1.2.2.2.2.2, .int .i64 y0.2.2.2.1.1, .int .i64 y0.2.2.2.1.2.1, .string y0.2.2.2.1.2.2.1, .int .i64 y0.2.2.2.1.2.2.2.1, .slice A0_3_4 y0.2.2.2.1.2.2.2.2.length c0_3_4, .slice A0_4 y0.2.2.2.2.1.length c0_4, .slice A0_5 y0.2.2.2.2.2.1.length c0_5, .slice A0_6 y0.2.2.2.2.2.2.length c0_6] := Array.ext' hE0
  have hbk : Rows.uptoBulkAll _ ≤ 1048576 := of_decide_eq_true hkk
  simp only [List.nil_append, List.append_nil, Rows.uptoBulkAll] at hbk
  have hB0 : (fun y1 => ((y1.1.size + 1) + ((y1.2.1.size + 1) + ((1 + (1 + ((y1.2.2.1.2.2.1.size + 1) + (1 + (((y1.2.2.1.2.2.2.2.1.map fun y2 => 1).sum + 1) + 1))))) + ((1 + (1 + ((y1.2.2.2.1.2.2.1.size + 1) + (1 + ((y1.2.2.2.1.2.2.2.2.map fun y2 => (1 + ((y2.f1.map fun y3 => 1).sum + 1))).sum + 1))))) + (((y1.2.2.2.2.1.map fun y2 => ((y2.f0.size + 1) + (1 + (1 + ((y2.f1.f2.map fun y3 => 1).sum + 1))))).sum + 1) + (((y1.2.2.2.2.2.1.map fun y2 => (1 + 1)).sum + 1) + ((y1.2.2.2.2.2.2.map fun y2 => (y2.size + 1)).sum + 1)))))))) y0 ≤ 1048576 := by
    refine Nat.le_trans (show _ ≤ Rows.uptoBulk d0 from hM0) ?_
    omega
  obtain ⟨k, hk⟩ := Pure.CodecBackUpto y0.1 y0.2.1 y0.2.2.1.1 y0.2.2.1.2.1 y0.2.2.1.2.2.1 y0.2.2.1.2.2.2.1 y0.2.2.1.2.2.2.2.1 y0.2.2.1.2.2.2.2.2 y0.2.2.2.1.1 y0.2.2.2.1.2.1 y0.2.2.2.1.2.2.1 y0.2.2.2.1.2.2.2.1 y0.2.2.2.1.2.2.2.2 y0.2.2.2.2.1 y0.2.2.2.2.2.1 y0.2.2.2.2.2.2 hG0.1 hG0.2.1 hG0.2.2.1.1 hG0.2.2.1.2.1 hG0.2.2.1.2.2.1 hG0.2.2.1.2.2.2.1 hG0.2.2.1.2.2.2.2.1 hG0.2.2.1.2.2.2.2.2 hG0.2.2.2.1.1 hG0.2.2.2.1.2.1 hG0.2.2.2.1.2.2.1 hG0.2.2.2.1.2.2.2.1 hG0.2.2.2.1.2.2.2.2 hG0.2.2.2.2.1 hG0.2.2.2.2.2.1 hG0.2.2.2.2.2.2 hB0
  refine (xS.calls k y0.1 y0.2.1 y0.2.2.1.1 y0.2.2.1.2.1 y0.2.2.1.2.2.1 y0.2.2.1.2.2.2.1 _ _ y0.2.2.1.2.2.2.2.1 y0.2.2.1.2.2.2.2.2 y0.2.2.2.1.1 y0.2.2.2.1.2.1 y0.2.2.2.1.2.2.1 y0.2.2.2.1.2.2.2.1 _ _ y0.2.2.2.1.2.2.2.2 _ _ y0.2.2.2.2.1 _ _ y0.2.2.2.2.2.1 _ _ y0.2.2.2.2.2.2 true W hC0_2_4 hle0_2_4 hC0_3_4 hle0_3_4 hC0_4 hle0_4 hC0_5 hle0_5 hC0_6 hle0_6 hk).mono fun e W' he0 => ?_
  obtain ⟨he, hd⟩ := he0
  have bel : Below W.heap.size W W' := hd
  subst he
  exact ⟨_, rfl, _, _, _, [], _, [], hW', trodAll_mk1 (shut_bool Try.underlying4 _), (trodAll_cons_mk (Below.trod laidOut (by kernel_rfl) (of_decide_eq_true (by kernel_rfl)) k0 bel lt0) trodAll_mk0), rfl, bel.frame _, fun h => by cases h⟩
theorem over : Rows.codecBackUptoRow.holds Try.pinned (Rows.OpenSpec.upto Rows.codecBackSpec) :=
  OpenClaim.holds_of_cond 6 Try.f6 rfl rfl rfl rfl rfl rfl rfl ⟨rfl, rfl, rfl, rfl, rfl⟩ rfl rfl rfl rfl rfl (by kernel_rfl) Try.func6 (by kernel_rfl)
    (of_decide_eq_true (by kernel_rfl)) (by unfold Func.isWrapper; first | (rw [if_pos (by decide +kernel)]; kernel_rfl) | (rw [if_neg (by decide +kernel)]; exact ⟨rfl, rfl⟩))
    (fun os started H enc _ F0 => lifted os started H enc F0)
theorem proved : Rows.CodecBackUptoSaid := over
#print axioms proved
end Go.Proofs.Ytbfehjncllkogaa.codecBack
namespace Go.Proofs.Ytbfehjncllkogaa
theorem codecBackUpto_holds : Rows.CodecBackUptoSaid := codecBack.proved
end Go.Proofs.Ytbfehjncllkogaa
