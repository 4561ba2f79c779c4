/- The law's row: it holds. -/
import Derived.Test.YtepipnpfggnadaaGreatRows
import Derived.Test.YtepipnpfggnadaaGreatTFramesPuth
import Derived.Deep.CondSized
import Derived.JoinedCond
import Derived.WalkKit
import Derived.ProofKit
import Derived.OpenShut
import Derived.ShutString
import Derived.ChangeOld
import Derived.Below
import Derived.SizedLaws
import Derived.WideShapes
namespace Go.Proofs.YtepipnpfggnadaaGreat.framesPut
set_option linter.unusedSimpArgs false
open Go.ChangeShapes Go.WideShapes Go.ChangeAt Go.RowKit Go.Proofs.YtepipnpfggnadaaGreat.Q Go.Proofs.YtepipnpfggnadaaGreatW.PrintWords
open Go.ChangeMaps (open_string shut_string)
set_option linter.unusedVariables false
theorem own : ownKnob Tryz.prog.godebug = none := by kernel_rfl
theorem laidOut : laidOutB Tryz.prog = true := by kernel_rfl
set_option maxRecDepth 100000 in
theorem opens0 {H : Type} (enc_ : TypeId × Value → H) (W_ : World) : ye enc_ Tryz.prog W_ 28 (Kd.iso (Kd.pair (Kd.int .i64) (Kd.pair (Kd.int .i64) (Kd.pair (Kd.int .i64) (Kd.pair (Kd.int .i64) (Kd.pair (Kd.int .i64) (Kd.pair (Kd.slice 9 Kd.string) (Kd.pair (Kd.slice 52 k52) (Kd.pair (Kd.slice 46 k46) (Kd.pair (Kd.slice 86 k86) (Kd.slice 77 k77)))))))))) id) (fun y1 => ((Lit.int .i64 y1.1).wf = true ∧ (Lit.int .i64 y1.2.1).wf = true ∧ (Lit.int .i64 y1.2.2.1).wf = true ∧ (Lit.int .i64 y1.2.2.2.1).wf = true ∧ (Lit.int .i64 y1.2.2.2.2.1).wf = true ∧ (y1.2.2.2.2.2.1.length * 16 ≤ 140737488351232 ∧ y1.2.2.2.2.2.1.length ≤ 9223372036854775807 ∧ ∀ y2 ∈ y1.2.2.2.2.2.1, y2.size ≤ 140737488351232) ∧ (y1.2.2.2.2.2.2.1.length * 72 ≤ 140737488351232 ∧ y1.2.2.2.2.2.2.1.length ≤ 9223372036854775807 ∧ ∀ y2 ∈ y1.2.2.2.2.2.2.1, ((Lit.int .i64 y2.f0).wf = true ∧ (Lit.int .i64 y2.f1).wf = true ∧ y2.f2.size ≤ 140737488351232 ∧ (Lit.int .i64 y2.f3).wf = true ∧ (y2.f4.length * 8 ≤ 140737488351232 ∧ y2.f4.length ≤ 9223372036854775807 ∧ ∀ y3 ∈ y2.f4, (Lit.int .i64 y3).wf = true) ∧ (Lit.int .i64 y2.f5).wf = true)) ∧ (y1.2.2.2.2.2.2.2.1.length * 64 ≤ 140737488351232 ∧ y1.2.2.2.2.2.2.2.1.length ≤ 9223372036854775807 ∧ ∀ y2 ∈ y1.2.2.2.2.2.2.2.1, ((Lit.int .i64 y2.f0).wf = true ∧ y2.f1.size ≤ 140737488351232 ∧ (y2.f2.length * 32 ≤ 140737488351232 ∧ y2.f2.length ≤ 9223372036854775807 ∧ ∀ y3 ∈ y2.f2, ((Lit.int .i64 y3.f0).wf = true ∧ (y3.f1.length * 8 ≤ 140737488351232 ∧ y3.f1.length ≤ 9223372036854775807 ∧ ∀ y4 ∈ y3.f1, (Lit.int .i64 y4).wf = true))) ∧ (Lit.int .i64 y2.f3).wf = true ∧ (Lit.int .i64 y2.f4).wf = true)) ∧ (y1.2.2.2.2.2.2.2.2.1.length * 56 ≤ 140737488351232 ∧ y1.2.2.2.2.2.2.2.2.1.length ≤ 9223372036854775807 ∧ ∀ y2 ∈ y1.2.2.2.2.2.2.2.2.1, (y2.f0.size ≤ 140737488351232 ∧ ((Lit.int .i64 y2.f1.f0).wf = true ∧ (Lit.int .i64 y2.f1.f1).wf = true ∧ (y2.f1.f2.length * 8 ≤ 140737488351232 ∧ y2.f1.f2.length ≤ 9223372036854775807 ∧ ∀ y3 ∈ y2.f1.f2, (Lit.int .i64 y3).wf = true)))) ∧ (y1.2.2.2.2.2.2.2.2.2.length * 16 ≤ 140737488351232 ∧ y1.2.2.2.2.2.2.2.2.2.length ≤ 9223372036854775807 ∧ ∀ y2 ∈ y1.2.2.2.2.2.2.2.2.2, ((Lit.int .i64 y2.f0).wf = true ∧ (Lit.int .i64 y2.f1).wf = true)))) (fun y1 => (1 + (1 + (1 + (1 + (1 + (((y1.2.2.2.2.2.1.map fun y2 => (y2.size + 1)).sum + 1) + (((y1.2.2.2.2.2.2.1.map fun y2 => (1 + (1 + ((y2.f2.size + 1) + (1 + (((y2.f4.map fun y3 => 1).sum + 1) + 1)))))).sum + 1) + (((y1.2.2.2.2.2.2.2.1.map fun y2 => (1 + ((y2.f1.size + 1) + (((y2.f2.map fun y3 => (1 + ((y3.f1.map fun y4 => 1).sum + 1))).sum + 1) + (1 + 1))))).sum + 1) + (((y1.2.2.2.2.2.2.2.2.1.map fun y2 => ((y2.f0.size + 1) + (1 + (1 + ((y2.f1.f2.map fun y3 => 1).sum + 1))))).sum + 1) + ((y1.2.2.2.2.2.2.2.2.2.map fun y2 => (1 + 1)).sum + 1))))))))))) :=
  (show ye enc_ Tryz.prog W_ 28 (Kd.iso (Kd.pair (Kd.int .i64) (Kd.pair (Kd.int .i64) (Kd.pair (Kd.int .i64) (Kd.pair (Kd.int .i64) (Kd.pair (Kd.int .i64) (Kd.pair (Kd.slice 9 Kd.string) (Kd.pair (Kd.slice 52 k52) (Kd.pair (Kd.slice 46 k46) (Kd.pair (Kd.slice 86 k86) (Kd.slice 77 k77)))))))))) id) _ _ from ye.struct [3, 3, 3, 3, 3, 22, 23, 24, 25, 26] id id (fun _ => rfl) Tryz.underlying28 rfl (by kernel_rfl) (by kernel_rfl) (yk.cons (ye.int Tryz.underlying3 (by kernel_rfl)) (yk.cons (ye.int Tryz.underlying3 (by kernel_rfl)) (yk.cons (ye.int Tryz.underlying3 (by kernel_rfl)) (yk.cons (ye.int Tryz.underlying3 (by kernel_rfl)) (yk.cons (ye.int Tryz.underlying3 (by kernel_rfl)) (yk.cons (ye.slice ((⟨#[]⟩ : ByteArray) : ByteArray) 16 Tryz.underlying22 (by kernel_rfl) (by kernel_rfl) (ye.string Tryz.underlying9 (by kernel_rfl))) (yk.cons (ye.slice (z52 : S52) 72 Tryz.underlying23 (by kernel_rfl) (by kernel_rfl) (show ye enc_ Tryz.prog W_ 52 k52 _ _ from ye.struct [3, 3, 9, 3, 50, 3] (fun x : S52 => (x.f0, (x.f1, (x.f2, (x.f3, (x.f4, x.f5)))))) (fun q => (⟨q.1, q.2.1, q.2.2.1, q.2.2.2.1, q.2.2.2.2.1, q.2.2.2.2.2⟩ : S52)) (fun _ => rfl) Tryz.underlying52 rfl (by kernel_rfl) (by kernel_rfl) (yk.cons (ye.int Tryz.underlying3 (by kernel_rfl)) (yk.cons (ye.int Tryz.underlying3 (by kernel_rfl)) (yk.cons (ye.string Tryz.underlying9 (by kernel_rfl)) (yk.cons (ye.int Tryz.underlying3 (by kernel_rfl)) (yk.cons (ye.slice (0 : Int) 8 Tryz.underlying50 (by kernel_rfl) (by kernel_rfl) (ye.int Tryz.underlying3 (by kernel_rfl))) (yk.one (ye.int Tryz.underlying3 (by kernel_rfl)))))))))) (yk.cons (ye.slice (z46 : S46) 64 Tryz.underlying24 (by kernel_rfl) (by kernel_rfl) (show ye enc_ Tryz.prog W_ 46 k46 _ _ from ye.struct [3, 9, 44, 3, 3] (fun x : S46 => (x.f0, (x.f1, (x.f2, (x.f3, x.f4))))) (fun q => (⟨q.1, q.2.1, q.2.2.1, q.2.2.2.1, q.2.2.2.2⟩ : S46)) (fun _ => rfl) Tryz.underlying46 rfl (by kernel_rfl) (by kernel_rfl) (yk.cons (ye.int Tryz.underlying3 (by kernel_rfl)) (yk.cons (ye.string Tryz.underlying9 (by kernel_rfl)) (yk.cons (ye.slice (z108 : S108) 32 Tryz.underlying44 (by kernel_rfl) (by kernel_rfl) (show ye enc_ Tryz.prog W_ 108 k108 _ _ from ye.struct [3, 50] (fun x : S108 => (x.f0, x.f1)) (fun q => (⟨q.1, q.2⟩ : S108)) (fun _ => rfl) Tryz.underlying108 rfl (by kernel_rfl) (by kernel_rfl) (yk.cons (ye.int Tryz.underlying3 (by kernel_rfl)) (yk.one (ye.slice (0 : Int) 8 Tryz.underlying50 (by kernel_rfl) (by kernel_rfl) (ye.int Tryz.underlying3 (by kernel_rfl))))))) (yk.cons (ye.int Tryz.underlying3 (by kernel_rfl)) (yk.one (ye.int Tryz.underlying3 (by kernel_rfl))))))))) (yk.cons (ye.slice (z86 : S86) 56 Tryz.underlying25 (by kernel_rfl) (by kernel_rfl) (show ye enc_ Tryz.prog W_ 86 k86 _ _ from ye.struct [9, 84] (fun x : S86 => (x.f0, x.f1)) (fun q => (⟨q.1, q.2⟩ : S86)) (fun _ => rfl) Tryz.underlying86 rfl (by kernel_rfl) (by kernel_rfl) (yk.cons (ye.string Tryz.underlying9 (by kernel_rfl)) (yk.one (show ye enc_ Tryz.prog W_ 84 k84 _ _ from ye.struct [3, 3, 50] (fun x : S84 => (x.f0, (x.f1, x.f2))) (fun q => (⟨q.1, q.2.1, q.2.2⟩ : S84)) (fun _ => rfl) Tryz.underlying84 rfl (by kernel_rfl) (by kernel_rfl) (yk.cons (ye.int Tryz.underlying3 (by kernel_rfl)) (yk.cons (ye.int Tryz.underlying3 (by kernel_rfl)) (yk.one (ye.slice (0 : Int) 8 Tryz.underlying50 (by kernel_rfl) (by kernel_rfl) (ye.int Tryz.underlying3 (by kernel_rfl))))))))))) (yk.one (ye.slice (z77 : S77) 16 Tryz.underlying26 (by kernel_rfl) (by kernel_rfl) (show ye enc_ Tryz.prog W_ 77 k77 _ _ from ye.struct [3, 3] (fun x : S77 => (x.f0, x.f1)) (fun q => (⟨q.1, q.2⟩ : S77)) (fun _ => rfl) Tryz.underlying77 rfl (by kernel_rfl) (by kernel_rfl) (yk.cons (ye.int Tryz.underlying3 (by kernel_rfl)) (yk.one (ye.int Tryz.underlying3 (by kernel_rfl)))))))))))))))))
set_option maxRecDepth 100000 in
theorem lifted (os : Os) (started : os.Started) (H : Type) (enc : TypeId × Value → H) (F0 : Stop.Interp) :
    ReturnsInHanded {} Tryz.checked os 3 .any ((Rows.OpenSpec.upto Rows.framesPutSpec).pre6 enc Tryz.prog Tryz.f3 Rows.framesPutUptoRow.domain false) (((Rows.OpenSpec.upto Rows.framesPutSpec).at F0).post enc Tryz.prog Tryz.f3 false true false false) := by
  refine returnsInHanded_of_cond_sized (C := Tryz.checked) (s := (Rows.OpenSpec.upto Rows.framesPutSpec)) (k := Rows.uptoSmall) rfl own started (by kernel_rfl) Tryz.func3
    (OpenSpec.witness (enc := enc) (C := Tryz.checked) (s := (Rows.OpenSpec.upto Rows.framesPutSpec)) (k := Rows.uptoSmall) rfl false ⟨#[], #[.agg #[.int .i64 0, .int .i64 0, .int .i64 0, .int .i64 0, .int .i64 0, .slice none 0 0, .slice none 0 0, .slice none 0 0, .slice none 0 0, .slice none 0 0]], []⟩ 12 (by kernel_rfl) (by kernel_rfl) (by kernel_rfl)
      (x := ([.agg [.lit (.int .i64 0), .lit (.int .i64 0), .lit (.int .i64 0), .lit (.int .i64 0), .lit (.int .i64 0), .nil, .nil, .nil, .nil, .nil]], [], [])) (by kernel_rfl) (by kernel_rfl) (by kernel_rfl)) ?_
  intro W base args ds gs before hval0 hW hcnd hkk hsz0 _
  have hsz : (DataW.weightsEach Tryz.prog (Tryz.f3.params.toList ++ Rows.framesPutSpec.plain.varTypes Tryz.prog) (ds ++ gs)).all (· ≤ reachBytes) = true := hsz0
  have hval : ∀ (j : Nat) t v, Tryz.f3.params[j]? = some t → args[j]? = some v → Value.okWide Tryz.prog W .any base t v := hval0
  have hW' := hW
  obtain ⟨p, q, hA0, hV, rfl, hfz, hnd⟩ := hW
  have hA : DataW.TrodAll enc Tryz.prog W 0 (fun _ => true) true Tryz.f3.params.toList args.toList ds p := hA0
  rw [Tryz.params3] at hA hval hsz
  obtain ⟨v0, vs0, d0, ds0, p0, q0, hargs, rfl, rfl, h0, r0⟩ := trodAll_cons hA
  obtain ⟨rfl, rfl, rfl⟩ := trodAll_nil r0
  obtain rfl : args = #[v0] := by cases args; simp_all
  obtain ⟨rfl, rfl⟩ := trodVars_none hV
  have k0 := h0
  have lt0 : ∀ x ∈ p0, x.block < W.heap.size := by obtain ⟨m, hm⟩ := k0; exact DataW.trod_lt m _ _ _ hm
  obtain ⟨fuel0, hf0⟩ := h0
  obtain ⟨y0, hK0, hG0, hM0⟩ := (opens0 enc W).2 fuel0 _ _ hf0 (fun n hn => of_decide_eq_true (List.all_eq_true.1 hsz n (JB (j := 0) rfl rfl n hn)))
  obtain ⟨cs0, rfl, -⟩ := okWide_struct Tryz.underlying28 (hval 0 28 v0 rfl rfl)
  obtain ⟨x0_0, z0_0, hE0, hl0_0, hr0_0⟩ := hK0
  obtain rfl := hl0_0
  obtain ⟨x0_1, z0_1, rfl, hl0_1, hr0_1⟩ := hr0_0
  obtain rfl := hl0_1
  obtain ⟨x0_2, z0_2, rfl, hl0_2, hr0_2⟩ := hr0_1
  obtain rfl := hl0_2
  obtain ⟨x0_3, z0_3, rfl, hl0_3, hr0_3⟩ := hr0_2
  obtain rfl := hl0_3
  obtain ⟨x0_4, z0_4, rfl, hl0_4, hr0_4⟩ := hr0_3
  obtain rfl := hl0_4
  obtain ⟨x0_5, z0_5, rfl, hl0_5, hr0_5⟩ := hr0_4
  obtain ⟨A0_5, c0_5, rfl, hle0_5, hC0_5⟩ := hl0_5
  obtain ⟨x0_6, z0_6, rfl, hl0_6, hr0_6⟩ := hr0_5
  obtain ⟨A0_6, c0_6, rfl, hle0_6, hC0_6⟩ := hl0_6
  obtain ⟨x0_7, z0_7, rfl, hl0_7, hr0_7⟩ := hr0_6
  obtain ⟨A0_7, c0_7, rfl, hle0_7, hC0_7⟩ := hl0_7
  obtain ⟨x0_8, z0_8, rfl, hl0_8, hr0_8⟩ := hr0_7
  obtain ⟨A0_8, c0_8, rfl, hle0_8, hC0_8⟩ := hl0_8
  obtain ⟨A0_9, c0_9, rfl, hle0_9, hC0_9⟩ := hr0_8
  obtain rfl : cs0 = #[.int .i64 y0.1, .int .i64 y0.2.1, .int .i64 y0.2.2.1, .int .i64 y0.2.2.2.1, .int .i64 y0.2.2.2.2.1, .slice A0_5 y0.2.2.2.2.2.1.length c0_5, .slice A0_6 y0.2.2.2.2.2.2.1.length c0_6, .slice A0_7 y0.2.2.2.2.2.2.2.1.length c0_7, .slice A0_8 y0.2.2.2.2.2.2.2.2.1.length c0_8, .slice A0_9 y0.2.2.2.2.2.2.2.2.2.length c0_9] := Array.ext' hE0
  have hbk : Rows.uptoBulkAll _ ≤ 1048576 := of_decide_eq_true hkk
  simp only [List.nil_append, List.append_nil, Rows.uptoBulkAll] at hbk
  have hB0 : (fun y1 => (1 + (1 + (1 + (1 + (1 + (((y1.2.2.2.2.2.1.map fun y2 => (y2.size + 1)).sum + 1) + (((y1.2.2.2.2.2.2.1.map fun y2 => (1 + (1 + ((y2.f2.size + 1) + (1 + (((y2.f4.map fun y3 => 1).sum + 1) + 1)))))).sum + 1) + (((y1.2.2.2.2.2.2.2.1.map fun y2 => (1 + ((y2.f1.size + 1) + (((y2.f2.map fun y3 => (1 + ((y3.f1.map fun y4 => 1).sum + 1))).sum + 1) + (1 + 1))))).sum + 1) + (((y1.2.2.2.2.2.2.2.2.1.map fun y2 => ((y2.f0.size + 1) + (1 + (1 + ((y2.f1.f2.map fun y3 => 1).sum + 1))))).sum + 1) + ((y1.2.2.2.2.2.2.2.2.2.map fun y2 => (1 + 1)).sum + 1))))))))))) y0 ≤ 1048576 := by
    refine Nat.le_trans (show _ ≤ Rows.uptoBulk d0 from hM0) ?_
    omega
  refine (QK y0.1 y0.2.1 y0.2.2.1 y0.2.2.2.1 y0.2.2.2.2.1 _ _ y0.2.2.2.2.2.1 _ _ y0.2.2.2.2.2.2.1 _ _ y0.2.2.2.2.2.2.2.1 _ _ y0.2.2.2.2.2.2.2.2.1 _ _ y0.2.2.2.2.2.2.2.2.2 W hG0.1 hG0.2.1 hG0.2.2.1 hG0.2.2.2.1 hG0.2.2.2.2.1 hG0.2.2.2.2.2.1 hG0.2.2.2.2.2.2.1 hG0.2.2.2.2.2.2.2.1 hG0.2.2.2.2.2.2.2.2.1 hG0.2.2.2.2.2.2.2.2.2 hC0_5 hle0_5 hC0_6 hle0_6 hC0_7 hle0_7 hC0_8 hle0_8 hC0_9 hle0_9 hB0).mono fun e W' he0 => ?_
  obtain ⟨he, bel⟩ := he0
  subst he
  exact ⟨_, rfl, _, _, _, [], _, [], hW', trodAll_mk1 (shut_bool Tryz.underlying4 _), (trodAll_cons_mk (Below.trod laidOut (by kernel_rfl) (of_decide_eq_true (by kernel_rfl)) k0 bel lt0) trodAll_mk0), rfl, bel.frame _, fun h => by cases h⟩
theorem over : Rows.framesPutUptoRow.holds Tryz.pinned (Rows.OpenSpec.upto Rows.framesPutSpec) :=
  OpenClaim.holds_of_cond 3 Tryz.f3 rfl rfl rfl rfl rfl rfl rfl ⟨rfl, rfl, rfl, rfl, rfl⟩ rfl rfl rfl rfl rfl (by kernel_rfl) Tryz.func3 (by kernel_rfl)
    (of_decide_eq_true (by kernel_rfl)) (by unfold Func.isWrapper; first | (rw [if_pos (by decide +kernel)]; kernel_rfl) | (rw [if_neg (by decide +kernel)]; exact ⟨rfl, rfl⟩))
    (fun os started H enc _ F0 => lifted os started H enc F0)
theorem proved : Rows.FramesPutUptoSaid := over
#print axioms proved
end Go.Proofs.YtepipnpfggnadaaGreat.framesPut
namespace Go.Proofs.YtepipnpfggnadaaGreat
theorem framesPutUpto_holds : Rows.FramesPutUptoSaid := framesPut.proved
end Go.Proofs.YtepipnpfggnadaaGreat
