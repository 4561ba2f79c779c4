/-
  No cell of these rows narrows 'for every input' (looked for: loops, veiled, ifaces, maps, wideKeys, modest, calm, conditions, laid).
  DERIVED. THE GIVEN ROWS OF THIS SEAT. 5 by the template 'for every input the law returns true; each argument reads behind the call as it read before'; 0 by the template 'total and deterministic' (their statements: YtfmlamnkpoloaaaTotals.lean).
  GIVEN WITH THE SEED: the statements are not yours to turn. If you find one false, say at which input.
  Laid BY PROGRAM, IN A SANDBOX (cutbox-rows.mjs): the forced cells as the released guide's own fill.sh prints them over the translation 7e89d7942e5aa00f… (all of the seat's roots in one cut). By AI agents, Wed Nov 11 2026. No macro, syntax, notation, axiom, sorry.
-/
import Derived.Test.YtfmlamnkpoloaaaChecked
import GoSem.Claim
import GoSem.ClaimJoined
import GoSem.ClaimMapViews
import Derived.JoinedTies
import Derived.KernelRfl
namespace Go.Proofs.Ytfmlamnkpoloaaa
/- THE CELL 'sum', in the pinned program and in every row, IS THE sha256 OF THE DUMP (.gsa) THAT YtfmlamnkpoloaaaProg.lean LOADS. Nothing in Lean hashes anything: it is a label: what it is worth is what the hold of that sum in a sandbox is worth. -/
noncomputable def Try.pinned : Pinned := { name := "ytfmlamnkpoloaaa", sum := "7e89d7942e5aa00f30eca17c963718feac158a885bf5183787a451c92666239d", checked := Try.checked }
namespace Rows
def none {H : Type} : Left H := { results := [], args := [] }

/-- 'surmiselaw16.DedupOnce': WHATEVER THE INPUT: true; the input reads as it did. -/
def dedupOnceSpec : ChangeSpec := { name := "dedupOnce", fn := fun _ => fun
  | [d] => { results := [.lit (.bool true)], args := [d] }
  | _ => none }
def dedupOnceRow : OpenClaim := { program := "ytfmlamnkpoloaaa", sum := "7e89d7942e5aa00f30eca17c963718feac158a885bf5183787a451c92666239d", func := "surmise/surmiselaw16.DedupOnce", spec := "dedupOnce", apart := false }
def DedupOnceSaid : Prop := dedupOnceRow.holds Try.pinned (OpenSpec.ofChange dedupOnceSpec)

/-- ITS FALSE NEIGHBOUR: 'it returns false'. Refute it at one input. -/
def dedupOnceWrong : ChangeSpec := { name := "dedupOnce", fn := fun _ => fun
  | [d] => { results := [.lit (.bool false)], args := [d] }
  | _ => none }
def DedupOnceWrongFalsely : Prop := dedupOnceRow.holds Try.pinned (OpenSpec.ofChange dedupOnceWrong)

/-- 'surmiselaw16.DedupApart': WHATEVER THE INPUT: true; the input reads as it did. -/
def dedupApartSpec : ChangeSpec := { name := "dedupApart", fn := fun _ => fun
  | [d1, d2, d3] => { results := [.lit (.bool true)], args := [d1, d2, d3] }
  | _ => none }
def dedupApartRow : OpenClaim := { program := "ytfmlamnkpoloaaa", sum := "7e89d7942e5aa00f30eca17c963718feac158a885bf5183787a451c92666239d", func := "surmise/surmiselaw16.DedupApart", spec := "dedupApart", apart := false }
def DedupApartSaid : Prop := dedupApartRow.holds Try.pinned (OpenSpec.ofChange dedupApartSpec)

/-- ITS FALSE NEIGHBOUR: 'it returns false'. Refute it at one input. -/
def dedupApartWrong : ChangeSpec := { name := "dedupApart", fn := fun _ => fun
  | [d1, d2, d3] => { results := [.lit (.bool false)], args := [d1, d2, d3] }
  | _ => none }
def DedupApartWrongFalsely : Prop := dedupApartRow.holds Try.pinned (OpenSpec.ofChange dedupApartWrong)

/-- 'surmiselaw16.DedupDoes': WHATEVER THE INPUT: true; the input reads as it did. -/
def dedupDoesSpec : ChangeSpec := { name := "dedupDoes", fn := fun _ => fun
  | [d] => { results := [.lit (.bool true)], args := [d] }
  | _ => none }
def dedupDoesRow : OpenClaim := { program := "ytfmlamnkpoloaaa", sum := "7e89d7942e5aa00f30eca17c963718feac158a885bf5183787a451c92666239d", func := "surmise/surmiselaw16.DedupDoes", spec := "dedupDoes", unfollowed := true, recurses := true, apart := false }
def DedupDoesSaid : Prop := dedupDoesRow.holds Try.pinned (OpenSpec.ofChange dedupDoesSpec)

/-- ITS FALSE NEIGHBOUR: 'it returns false'. Refute it at one input. -/
def dedupDoesWrong : ChangeSpec := { name := "dedupDoes", fn := fun _ => fun
  | [d] => { results := [.lit (.bool false)], args := [d] }
  | _ => none }
def DedupDoesWrongFalsely : Prop := dedupDoesRow.holds Try.pinned (OpenSpec.ofChange dedupDoesWrong)

/-- 'surmiselaw16.DedupNone': WHATEVER THE INPUT: true; the input reads as it did. -/
def dedupNoneSpec : ChangeSpec := { name := "dedupNone", fn := fun _ => fun
  | [d] => { results := [.lit (.bool true)], args := [d] }
  | _ => none }
def dedupNoneRow : OpenClaim := { program := "ytfmlamnkpoloaaa", sum := "7e89d7942e5aa00f30eca17c963718feac158a885bf5183787a451c92666239d", func := "surmise/surmiselaw16.DedupNone", spec := "dedupNone", unfollowed := true, recurses := true, apart := false }
def DedupNoneSaid : Prop := dedupNoneRow.holds Try.pinned (OpenSpec.ofChange dedupNoneSpec)

/-- ITS FALSE NEIGHBOUR: 'it returns false'. Refute it at one input. -/
def dedupNoneWrong : ChangeSpec := { name := "dedupNone", fn := fun _ => fun
  | [d] => { results := [.lit (.bool false)], args := [d] }
  | _ => none }
def DedupNoneWrongFalsely : Prop := dedupNoneRow.holds Try.pinned (OpenSpec.ofChange dedupNoneWrong)

/-- 'surmiselaw16.DedupBack': WHATEVER THE INPUT: true; the input reads as it did. -/
def dedupBackSpec : ChangeSpec := { name := "dedupBack", fn := fun _ => fun
  | [d1, d2, d3] => { results := [.lit (.bool true)], args := [d1, d2, d3] }
  | _ => none }
def dedupBackRow : OpenClaim := { program := "ytfmlamnkpoloaaa", sum := "7e89d7942e5aa00f30eca17c963718feac158a885bf5183787a451c92666239d", func := "surmise/surmiselaw16.DedupBack", spec := "dedupBack", unfollowed := true, recurses := true, apart := false }
def DedupBackSaid : Prop := dedupBackRow.holds Try.pinned (OpenSpec.ofChange dedupBackSpec)

/-- ITS FALSE NEIGHBOUR: 'it returns false'. Refute it at one input. -/
def dedupBackWrong : ChangeSpec := { name := "dedupBack", fn := fun _ => fun
  | [d1, d2, d3] => { results := [.lit (.bool false)], args := [d1, d2, d3] }
  | _ => none }
def DedupBackWrongFalsely : Prop := dedupBackRow.holds Try.pinned (OpenSpec.ofChange dedupBackWrong)

/- THE SECOND FORM. 'bulk': how many values and letters a reading holds, each counted each time it is reached (what is shared counts as often as it is met; a slice's spare places count too). A statement '..UptoSaid' is the law's where the arguments, and the package variables that the reading takes, are together of bulk at most 1048576: NARROWER than '..Said'. Prove '..Said' where nothing that the law and all that it calls make is longer than what came in: it says more and counts as full. Else prove '..UptoSaid'. A law counts once. -/
mutual
def uptoBulk {H : Type} : DataW H → Nat
  | .lit (.string bytes) => bytes.length + 1
  | .lit _ => 1
  | .nil => 1
  | .ptr d => uptoBulk d + 1
  | .slice elems spare => uptoBulkAll elems + uptoBulkAll spare + 1
  | .agg parts => uptoBulkAll parts + 1
  | .iface _ d => uptoBulk d + 1
  | .map entries => uptoBulkEntries entries + 1
  | .held _ => 1
def uptoBulkAll {H : Type} : List (DataW H) → Nat
  | [] => 0
  | d :: r => uptoBulk d + uptoBulkAll r
def uptoBulkEntries {H : Type} : List (Lit × DataW H) → Nat
  | [] => 0
  | x :: r => uptoBulkEntry x + uptoBulkEntries r
def uptoBulkEntry {H : Type} : Lit × DataW H → Nat
  | (.string bytes, d) => bytes.length + uptoBulk d + 1
  | (_, d) => uptoBulk d + 1
 end
def uptoSmall : (H : Type) → List (DataW H) → Bool := fun _ ds => decide (uptoBulkAll ds ≤ 1048576)
def OpenSpec.upto (s : _root_.Go.ChangeSpec) : _root_.Go.OpenSpec := { _root_.Go.OpenSpec.ofChange s with cond := some uptoSmall }

/-- 'surmiselaw16.DedupOnce', WHERE WHAT IT READS IS OF BULK AT MOST 1048576: true; the input reads as it did. -/
def dedupOnceUptoRow : OpenClaim := { program := "ytfmlamnkpoloaaa", sum := "7e89d7942e5aa00f30eca17c963718feac158a885bf5183787a451c92666239d", func := "surmise/surmiselaw16.DedupOnce", spec := "dedupOnce", apart := false, narrowed := true }
def DedupOnceUptoSaid : Prop := dedupOnceUptoRow.holds Try.pinned (OpenSpec.upto dedupOnceSpec)

/-- 'surmiselaw16.DedupApart', WHERE WHAT IT READS IS OF BULK AT MOST 1048576: true; the input reads as it did. -/
def dedupApartUptoRow : OpenClaim := { program := "ytfmlamnkpoloaaa", sum := "7e89d7942e5aa00f30eca17c963718feac158a885bf5183787a451c92666239d", func := "surmise/surmiselaw16.DedupApart", spec := "dedupApart", apart := false, narrowed := true }
def DedupApartUptoSaid : Prop := dedupApartUptoRow.holds Try.pinned (OpenSpec.upto dedupApartSpec)

/-- 'surmiselaw16.DedupDoes', WHERE WHAT IT READS IS OF BULK AT MOST 1048576: true; the input reads as it did. -/
def dedupDoesUptoRow : OpenClaim := { program := "ytfmlamnkpoloaaa", sum := "7e89d7942e5aa00f30eca17c963718feac158a885bf5183787a451c92666239d", func := "surmise/surmiselaw16.DedupDoes", spec := "dedupDoes", unfollowed := true, recurses := true, apart := false, narrowed := true }
def DedupDoesUptoSaid : Prop := dedupDoesUptoRow.holds Try.pinned (OpenSpec.upto dedupDoesSpec)

/-- 'surmiselaw16.DedupNone', WHERE WHAT IT READS IS OF BULK AT MOST 1048576: true; the input reads as it did. -/
def dedupNoneUptoRow : OpenClaim := { program := "ytfmlamnkpoloaaa", sum := "7e89d7942e5aa00f30eca17c963718feac158a885bf5183787a451c92666239d", func := "surmise/surmiselaw16.DedupNone", spec := "dedupNone", unfollowed := true, recurses := true, apart := false, narrowed := true }
def DedupNoneUptoSaid : Prop := dedupNoneUptoRow.holds Try.pinned (OpenSpec.upto dedupNoneSpec)

/-- 'surmiselaw16.DedupBack', WHERE WHAT IT READS IS OF BULK AT MOST 1048576: true; the input reads as it did. -/
def dedupBackUptoRow : OpenClaim := { program := "ytfmlamnkpoloaaa", sum := "7e89d7942e5aa00f30eca17c963718feac158a885bf5183787a451c92666239d", func := "surmise/surmiselaw16.DedupBack", spec := "dedupBack", unfollowed := true, recurses := true, apart := false, narrowed := true }
def DedupBackUptoSaid : Prop := dedupBackUptoRow.holds Try.pinned (OpenSpec.upto dedupBackSpec)

end Rows
end Go.Proofs.Ytfmlamnkpoloaaa
