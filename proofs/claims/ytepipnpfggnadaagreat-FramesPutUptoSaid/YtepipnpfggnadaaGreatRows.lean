/-
  No cell of these rows narrows 'for every input' (looked for: loops, veiled, ifaces, maps, wideKeys, modest, calm, conditions, laid).
  DERIVED. THE GIVEN ROWS OF THIS SEAT. 4 by the template 'for every input the law returns true; each argument reads behind the call as it read before'; 0 by the template 'total and deterministic' (their statements: YtepipnpfggnadaaGreatTotals.lean).
  GIVEN WITH THE SEED: the statements are not yours to turn. If you find one false, say at which input.
  Laid BY PROGRAM, IN A SANDBOX (cutbox-rows.mjs): the forced cells as the released guide's own fill.sh prints them over the translation 320c88c9380ecf20… (all of the seat's roots in one cut). By AI agents, Wed Nov 11 2026. No macro, syntax, notation, axiom, sorry.
-/
import Derived.Test.YtepipnpfggnadaaGreatChecked
import GoSem.Claim
import GoSem.ClaimJoined
import GoSem.ClaimMapViews
import Derived.JoinedTies
import Derived.KernelRfl
namespace Go.Proofs.YtepipnpfggnadaaGreat
/- THE CELL 'sum', in the pinned program and in every row, IS THE sha256 OF THE DUMP (.gsa) THAT YtepipnpfggnadaaGreatProg.lean LOADS. Nothing in Lean hashes anything: it is a label: what it is worth is what the hold of that sum in a sandbox is worth. -/
noncomputable def Tryz.pinned : Pinned := { name := "ytepipnpfggnadaagreat", sum := "320c88c9380ecf20c77dc3e0a28128082f7a0e4e5cb8b422d1010653ec141dd2", checked := Tryz.checked }
namespace Rows
def none {H : Type} : Left H := { results := [], args := [] }

/-- 'surmiselaw11.FramesPut': WHATEVER THE INPUT: true; the input reads as it did. -/
def framesPutSpec : ChangeSpec := { name := "framesPut", fn := fun _ => fun
  | [d] => { results := [.lit (.bool true)], args := [d] }
  | _ => none }
def framesPutRow : OpenClaim := { program := "ytepipnpfggnadaagreat", sum := "320c88c9380ecf20c77dc3e0a28128082f7a0e4e5cb8b422d1010653ec141dd2", func := "surmise/surmiselaw11.FramesPut", spec := "framesPut", unfollowed := true, recurses := true, apart := false }
def FramesPutSaid : Prop := framesPutRow.holds Tryz.pinned (OpenSpec.ofChange framesPutSpec)

/-- ITS FALSE NEIGHBOUR: 'it returns false'. Refute it at one input. -/
def framesPutWrong : ChangeSpec := { name := "framesPut", fn := fun _ => fun
  | [d] => { results := [.lit (.bool false)], args := [d] }
  | _ => none }
def FramesPutWrongFalsely : Prop := framesPutRow.holds Tryz.pinned (OpenSpec.ofChange framesPutWrong)

/-- 'surmiselaw11.FramesBack': WHATEVER THE INPUT: true; the input reads as it did. -/
def framesBackSpec : ChangeSpec := { name := "framesBack", fn := fun _ => fun
  | [d1, d2] => { results := [.lit (.bool true)], args := [d1, d2] }
  | _ => none }
def framesBackRow : OpenClaim := { program := "ytepipnpfggnadaagreat", sum := "320c88c9380ecf20c77dc3e0a28128082f7a0e4e5cb8b422d1010653ec141dd2", func := "surmise/surmiselaw11.FramesBack", spec := "framesBack", unfollowed := true, recurses := true, apart := false }
def FramesBackSaid : Prop := framesBackRow.holds Tryz.pinned (OpenSpec.ofChange framesBackSpec)

/-- ITS FALSE NEIGHBOUR: 'it returns false'. Refute it at one input. -/
def framesBackWrong : ChangeSpec := { name := "framesBack", fn := fun _ => fun
  | [d1, d2] => { results := [.lit (.bool false)], args := [d1, d2] }
  | _ => none }
def FramesBackWrongFalsely : Prop := framesBackRow.holds Tryz.pinned (OpenSpec.ofChange framesBackWrong)

/-- 'surmiselaw11.FramesSame': WHATEVER THE INPUT: true; the input reads as it did. -/
def framesSameSpec : ChangeSpec := { name := "framesSame", fn := fun _ => fun
  | [d1, d2] => { results := [.lit (.bool true)], args := [d1, d2] }
  | _ => none }
def framesSameRow : OpenClaim := { program := "ytepipnpfggnadaagreat", sum := "320c88c9380ecf20c77dc3e0a28128082f7a0e4e5cb8b422d1010653ec141dd2", func := "surmise/surmiselaw11.FramesSame", spec := "framesSame", unfollowed := true, recurses := true, apart := false }
def FramesSameSaid : Prop := framesSameRow.holds Tryz.pinned (OpenSpec.ofChange framesSameSpec)

/-- ITS FALSE NEIGHBOUR: 'it returns false'. Refute it at one input. -/
def framesSameWrong : ChangeSpec := { name := "framesSame", fn := fun _ => fun
  | [d1, d2] => { results := [.lit (.bool false)], args := [d1, d2] }
  | _ => none }
def FramesSameWrongFalsely : Prop := framesSameRow.holds Tryz.pinned (OpenSpec.ofChange framesSameWrong)

/-- 'surmiselaw11.FramesSpoilt': WHATEVER THE INPUT: true; the input reads as it did. -/
def framesSpoiltSpec : ChangeSpec := { name := "framesSpoilt", fn := fun _ => fun
  | [d1, d2, d3] => { results := [.lit (.bool true)], args := [d1, d2, d3] }
  | _ => none }
def framesSpoiltRow : OpenClaim := { program := "ytepipnpfggnadaagreat", sum := "320c88c9380ecf20c77dc3e0a28128082f7a0e4e5cb8b422d1010653ec141dd2", func := "surmise/surmiselaw11.FramesSpoilt", spec := "framesSpoilt", unfollowed := true, recurses := true, apart := false }
def FramesSpoiltSaid : Prop := framesSpoiltRow.holds Tryz.pinned (OpenSpec.ofChange framesSpoiltSpec)

/-- ITS FALSE NEIGHBOUR: 'it returns false'. Refute it at one input. -/
def framesSpoiltWrong : ChangeSpec := { name := "framesSpoilt", fn := fun _ => fun
  | [d1, d2, d3] => { results := [.lit (.bool false)], args := [d1, d2, d3] }
  | _ => none }
def FramesSpoiltWrongFalsely : Prop := framesSpoiltRow.holds Tryz.pinned (OpenSpec.ofChange framesSpoiltWrong)

/- THE SECOND FORM. 'bulk': how many values and letters a reading holds, each counted each time it is reached (what is shared counts as often as it is met; a slice's spare places count too). A statement '..UptoSaid' is the law's where the arguments, and the package variables that the reading takes, are together of bulk at most 1048576: NARROWER than '..Said'. Prove '..Said' where nothing that the law and all that it calls make is longer than what came in: it says more and counts as full. Else prove '..UptoSaid'. A law counts once. -/
mutual
def uptoBulk {H : Type} : DataW H → Nat
  | .lit (.string bytes) => bytes.length + 1
  | .lit _ => 1
  | .nil => 1
  | .ptr d => uptoBulk d + 1
  | .slice elems spare => uptoBulkAll elems + uptoBulkAll spare + 1
  | .agg parts => uptoBulkAll parts + 1
  | .iface _ d => uptoBulk d + 1
  | .map entries => uptoBulkEntries entries + 1
  | .held _ => 1
def uptoBulkAll {H : Type} : List (DataW H) → Nat
  | [] => 0
  | d :: r => uptoBulk d + uptoBulkAll r
def uptoBulkEntries {H : Type} : List (Lit × DataW H) → Nat
  | [] => 0
  | x :: r => uptoBulkEntry x + uptoBulkEntries r
def uptoBulkEntry {H : Type} : Lit × DataW H → Nat
  | (.string bytes, d) => bytes.length + uptoBulk d + 1
  | (_, d) => uptoBulk d + 1
 end
def uptoSmall : (H : Type) → List (DataW H) → Bool := fun _ ds => decide (uptoBulkAll ds ≤ 1048576)
def OpenSpec.upto (s : _root_.Go.ChangeSpec) : _root_.Go.OpenSpec := { _root_.Go.OpenSpec.ofChange s with cond := some uptoSmall }

/-- 'surmiselaw11.FramesPut', WHERE WHAT IT READS IS OF BULK AT MOST 1048576: true; the input reads as it did. -/
def framesPutUptoRow : OpenClaim := { program := "ytepipnpfggnadaagreat", sum := "320c88c9380ecf20c77dc3e0a28128082f7a0e4e5cb8b422d1010653ec141dd2", func := "surmise/surmiselaw11.FramesPut", spec := "framesPut", unfollowed := true, recurses := true, apart := false, narrowed := true }
def FramesPutUptoSaid : Prop := framesPutUptoRow.holds Tryz.pinned (OpenSpec.upto framesPutSpec)

/-- 'surmiselaw11.FramesBack', WHERE WHAT IT READS IS OF BULK AT MOST 1048576: true; the input reads as it did. -/
def framesBackUptoRow : OpenClaim := { program := "ytepipnpfggnadaagreat", sum := "320c88c9380ecf20c77dc3e0a28128082f7a0e4e5cb8b422d1010653ec141dd2", func := "surmise/surmiselaw11.FramesBack", spec := "framesBack", unfollowed := true, recurses := true, apart := false, narrowed := true }
def FramesBackUptoSaid : Prop := framesBackUptoRow.holds Tryz.pinned (OpenSpec.upto framesBackSpec)

/-- 'surmiselaw11.FramesSame', WHERE WHAT IT READS IS OF BULK AT MOST 1048576: true; the input reads as it did. -/
def framesSameUptoRow : OpenClaim := { program := "ytepipnpfggnadaagreat", sum := "320c88c9380ecf20c77dc3e0a28128082f7a0e4e5cb8b422d1010653ec141dd2", func := "surmise/surmiselaw11.FramesSame", spec := "framesSame", unfollowed := true, recurses := true, apart := false, narrowed := true }
def FramesSameUptoSaid : Prop := framesSameUptoRow.holds Tryz.pinned (OpenSpec.upto framesSameSpec)

/-- 'surmiselaw11.FramesSpoilt', WHERE WHAT IT READS IS OF BULK AT MOST 1048576: true; the input reads as it did. -/
def framesSpoiltUptoRow : OpenClaim := { program := "ytepipnpfggnadaagreat", sum := "320c88c9380ecf20c77dc3e0a28128082f7a0e4e5cb8b422d1010653ec141dd2", func := "surmise/surmiselaw11.FramesSpoilt", spec := "framesSpoilt", unfollowed := true, recurses := true, apart := false, narrowed := true }
def FramesSpoiltUptoSaid : Prop := framesSpoiltUptoRow.holds Tryz.pinned (OpenSpec.upto framesSpoiltSpec)

end Rows
end Go.Proofs.YtepipnpfggnadaaGreat
