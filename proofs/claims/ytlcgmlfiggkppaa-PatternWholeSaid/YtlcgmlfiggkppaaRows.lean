/-
  No cell of these rows narrows 'for every input' (looked for: loops, veiled, ifaces, maps, wideKeys, modest, calm, conditions, laid).
  DERIVED. THE GIVEN ROWS OF THIS SEAT. 5 by the template 'for every input the law returns true; each argument reads behind the call as it read before'; 0 by the template 'total and deterministic' (their statements: YtlcgmlfiggkppaaTotals.lean).
  GIVEN WITH THE SEED: the statements are not yours to turn. If you find one false, say at which input.
  Laid BY PROGRAM, IN A SANDBOX (cutbox-rows.mjs): the forced cells as the released guide's own fill.sh prints them over the translation 1e3be5172da3a445… (all of the seat's roots in one cut). By AI agents, Wed Nov 11 2026. No macro, syntax, notation, axiom, sorry.
-/
import Derived.Test.YtlcgmlfiggkppaaChecked
import GoSem.Claim
import GoSem.ClaimJoined
import GoSem.ClaimMapViews
import Derived.JoinedTies
import Derived.KernelRfl
namespace Go.Proofs.Ytlcgmlfiggkppaa
/- THE CELL 'sum', in the pinned program and in every row, IS THE sha256 OF THE DUMP (.gsa) THAT YtlcgmlfiggkppaaProg.lean LOADS. Nothing in Lean hashes anything: it is a label: what it is worth is what the hold of that sum in a sandbox is worth. -/
noncomputable def Try.pinned : Pinned := { name := "ytlcgmlfiggkppaa", sum := "1e3be5172da3a445a26b1c599a04df8804b7c0ec7e679a0fdc98d1b879e5ae74", checked := Try.checked }
namespace Rows
def none {H : Type} : Left H := { results := [], args := [] }

/-- 'surmiselaw08.PatternMatches': WHATEVER THE INPUT: true; the input reads as it did. -/
def patternMatchesSpec : ChangeSpec := { name := "patternMatches", fn := fun _ => fun
  | [d1, d2] => { results := [.lit (.bool true)], args := [d1, d2] }
  | _ => none }
def patternMatchesRow : OpenClaim := { program := "ytlcgmlfiggkppaa", sum := "1e3be5172da3a445a26b1c599a04df8804b7c0ec7e679a0fdc98d1b879e5ae74", func := "surmise/surmiselaw08.PatternMatches", spec := "patternMatches", unfollowed := true, recurses := true, apart := false }
def PatternMatchesSaid : Prop := patternMatchesRow.holds Try.pinned (OpenSpec.ofChange patternMatchesSpec)

/-- ITS FALSE NEIGHBOUR: 'it returns false'. Refute it at one input. -/
def patternMatchesWrong : ChangeSpec := { name := "patternMatches", fn := fun _ => fun
  | [d1, d2] => { results := [.lit (.bool false)], args := [d1, d2] }
  | _ => none }
def PatternMatchesWrongFalsely : Prop := patternMatchesRow.holds Try.pinned (OpenSpec.ofChange patternMatchesWrong)

/-- 'surmiselaw08.PatternCovers': WHATEVER THE INPUT: true; the input reads as it did. -/
def patternCoversSpec : ChangeSpec := { name := "patternCovers", fn := fun _ => fun
  | [d1, d2] => { results := [.lit (.bool true)], args := [d1, d2] }
  | _ => none }
def patternCoversRow : OpenClaim := { program := "ytlcgmlfiggkppaa", sum := "1e3be5172da3a445a26b1c599a04df8804b7c0ec7e679a0fdc98d1b879e5ae74", func := "surmise/surmiselaw08.PatternCovers", spec := "patternCovers", unfollowed := true, recurses := true, apart := false }
def PatternCoversSaid : Prop := patternCoversRow.holds Try.pinned (OpenSpec.ofChange patternCoversSpec)

/-- ITS FALSE NEIGHBOUR: 'it returns false'. Refute it at one input. -/
def patternCoversWrong : ChangeSpec := { name := "patternCovers", fn := fun _ => fun
  | [d1, d2] => { results := [.lit (.bool false)], args := [d1, d2] }
  | _ => none }
def PatternCoversWrongFalsely : Prop := patternCoversRow.holds Try.pinned (OpenSpec.ofChange patternCoversWrong)

/-- 'surmiselaw08.PatternSound': WHATEVER THE INPUT: true; the input reads as it did. -/
def patternSoundSpec : ChangeSpec := { name := "patternSound", fn := fun _ => fun
  | [d1, d2, d3] => { results := [.lit (.bool true)], args := [d1, d2, d3] }
  | _ => none }
def patternSoundRow : OpenClaim := { program := "ytlcgmlfiggkppaa", sum := "1e3be5172da3a445a26b1c599a04df8804b7c0ec7e679a0fdc98d1b879e5ae74", func := "surmise/surmiselaw08.PatternSound", spec := "patternSound", unfollowed := true, recurses := true, apart := false }
def PatternSoundSaid : Prop := patternSoundRow.holds Try.pinned (OpenSpec.ofChange patternSoundSpec)

/-- ITS FALSE NEIGHBOUR: 'it returns false'. Refute it at one input. -/
def patternSoundWrong : ChangeSpec := { name := "patternSound", fn := fun _ => fun
  | [d1, d2, d3] => { results := [.lit (.bool false)], args := [d1, d2, d3] }
  | _ => none }
def PatternSoundWrongFalsely : Prop := patternSoundRow.holds Try.pinned (OpenSpec.ofChange patternSoundWrong)

/-- 'surmiselaw08.PatternWhole': WHATEVER THE INPUT: true; the input reads as it did. -/
def patternWholeSpec : ChangeSpec := { name := "patternWhole", fn := fun _ => fun
  | [d1, d2] => { results := [.lit (.bool true)], args := [d1, d2] }
  | _ => none }
def patternWholeRow : OpenClaim := { program := "ytlcgmlfiggkppaa", sum := "1e3be5172da3a445a26b1c599a04df8804b7c0ec7e679a0fdc98d1b879e5ae74", func := "surmise/surmiselaw08.PatternWhole", spec := "patternWhole", unfollowed := true, recurses := true, apart := false }
def PatternWholeSaid : Prop := patternWholeRow.holds Try.pinned (OpenSpec.ofChange patternWholeSpec)

/-- ITS FALSE NEIGHBOUR: 'it returns false'. Refute it at one input. -/
def patternWholeWrong : ChangeSpec := { name := "patternWhole", fn := fun _ => fun
  | [d1, d2] => { results := [.lit (.bool false)], args := [d1, d2] }
  | _ => none }
def PatternWholeWrongFalsely : Prop := patternWholeRow.holds Try.pinned (OpenSpec.ofChange patternWholeWrong)

/-- 'surmiselaw08.PatternMeets': WHATEVER THE INPUT: true; the input reads as it did. -/
def patternMeetsSpec : ChangeSpec := { name := "patternMeets", fn := fun _ => fun
  | [d1, d2, d3] => { results := [.lit (.bool true)], args := [d1, d2, d3] }
  | _ => none }
def patternMeetsRow : OpenClaim := { program := "ytlcgmlfiggkppaa", sum := "1e3be5172da3a445a26b1c599a04df8804b7c0ec7e679a0fdc98d1b879e5ae74", func := "surmise/surmiselaw08.PatternMeets", spec := "patternMeets", unfollowed := true, recurses := true, apart := false }
def PatternMeetsSaid : Prop := patternMeetsRow.holds Try.pinned (OpenSpec.ofChange patternMeetsSpec)

/-- ITS FALSE NEIGHBOUR: 'it returns false'. Refute it at one input. -/
def patternMeetsWrong : ChangeSpec := { name := "patternMeets", fn := fun _ => fun
  | [d1, d2, d3] => { results := [.lit (.bool false)], args := [d1, d2, d3] }
  | _ => none }
def PatternMeetsWrongFalsely : Prop := patternMeetsRow.holds Try.pinned (OpenSpec.ofChange patternMeetsWrong)

/- THE SECOND FORM. 'bulk': how many values and letters a reading holds, each counted each time it is reached (what is shared counts as often as it is met; a slice's spare places count too). A statement '..UptoSaid' is the law's where the arguments, and the package variables that the reading takes, are together of bulk at most 1048576: NARROWER than '..Said'. Prove '..Said' where nothing that the law and all that it calls make is longer than what came in: it says more and counts as full. Else prove '..UptoSaid'. A law counts once. -/
mutual
def uptoBulk {H : Type} : DataW H → Nat
  | .lit (.string bytes) => bytes.length + 1
  | .lit _ => 1
  | .nil => 1
  | .ptr d => uptoBulk d + 1
  | .slice elems spare => uptoBulkAll elems + uptoBulkAll spare + 1
  | .agg parts => uptoBulkAll parts + 1
  | .iface _ d => uptoBulk d + 1
  | .map entries => uptoBulkEntries entries + 1
  | .held _ => 1
def uptoBulkAll {H : Type} : List (DataW H) → Nat
  | [] => 0
  | d :: r => uptoBulk d + uptoBulkAll r
def uptoBulkEntries {H : Type} : List (Lit × DataW H) → Nat
  | [] => 0
  | x :: r => uptoBulkEntry x + uptoBulkEntries r
def uptoBulkEntry {H : Type} : Lit × DataW H → Nat
  | (.string bytes, d) => bytes.length + uptoBulk d + 1
  | (_, d) => uptoBulk d + 1
 end
def uptoSmall : (H : Type) → List (DataW H) → Bool := fun _ ds => decide (uptoBulkAll ds ≤ 1048576)
def OpenSpec.upto (s : _root_.Go.ChangeSpec) : _root_.Go.OpenSpec := { _root_.Go.OpenSpec.ofChange s with cond := some uptoSmall }

/-- 'surmiselaw08.PatternMatches', WHERE WHAT IT READS IS OF BULK AT MOST 1048576: true; the input reads as it did. -/
def patternMatchesUptoRow : OpenClaim := { program := "ytlcgmlfiggkppaa", sum := "1e3be5172da3a445a26b1c599a04df8804b7c0ec7e679a0fdc98d1b879e5ae74", func := "surmise/surmiselaw08.PatternMatches", spec := "patternMatches", unfollowed := true, recurses := true, apart := false, narrowed := true }
def PatternMatchesUptoSaid : Prop := patternMatchesUptoRow.holds Try.pinned (OpenSpec.upto patternMatchesSpec)

/-- 'surmiselaw08.PatternCovers', WHERE WHAT IT READS IS OF BULK AT MOST 1048576: true; the input reads as it did. -/
def patternCoversUptoRow : OpenClaim := { program := "ytlcgmlfiggkppaa", sum := "1e3be5172da3a445a26b1c599a04df8804b7c0ec7e679a0fdc98d1b879e5ae74", func := "surmise/surmiselaw08.PatternCovers", spec := "patternCovers", unfollowed := true, recurses := true, apart := false, narrowed := true }
def PatternCoversUptoSaid : Prop := patternCoversUptoRow.holds Try.pinned (OpenSpec.upto patternCoversSpec)

/-- 'surmiselaw08.PatternSound', WHERE WHAT IT READS IS OF BULK AT MOST 1048576: true; the input reads as it did. -/
def patternSoundUptoRow : OpenClaim := { program := "ytlcgmlfiggkppaa", sum := "1e3be5172da3a445a26b1c599a04df8804b7c0ec7e679a0fdc98d1b879e5ae74", func := "surmise/surmiselaw08.PatternSound", spec := "patternSound", unfollowed := true, recurses := true, apart := false, narrowed := true }
def PatternSoundUptoSaid : Prop := patternSoundUptoRow.holds Try.pinned (OpenSpec.upto patternSoundSpec)

/-- 'surmiselaw08.PatternWhole', WHERE WHAT IT READS IS OF BULK AT MOST 1048576: true; the input reads as it did. -/
def patternWholeUptoRow : OpenClaim := { program := "ytlcgmlfiggkppaa", sum := "1e3be5172da3a445a26b1c599a04df8804b7c0ec7e679a0fdc98d1b879e5ae74", func := "surmise/surmiselaw08.PatternWhole", spec := "patternWhole", unfollowed := true, recurses := true, apart := false, narrowed := true }
def PatternWholeUptoSaid : Prop := patternWholeUptoRow.holds Try.pinned (OpenSpec.upto patternWholeSpec)

/-- 'surmiselaw08.PatternMeets', WHERE WHAT IT READS IS OF BULK AT MOST 1048576: true; the input reads as it did. -/
def patternMeetsUptoRow : OpenClaim := { program := "ytlcgmlfiggkppaa", sum := "1e3be5172da3a445a26b1c599a04df8804b7c0ec7e679a0fdc98d1b879e5ae74", func := "surmise/surmiselaw08.PatternMeets", spec := "patternMeets", unfollowed := true, recurses := true, apart := false, narrowed := true }
def PatternMeetsUptoSaid : Prop := patternMeetsUptoRow.holds Try.pinned (OpenSpec.upto patternMeetsSpec)

end Rows
end Go.Proofs.Ytlcgmlfiggkppaa
