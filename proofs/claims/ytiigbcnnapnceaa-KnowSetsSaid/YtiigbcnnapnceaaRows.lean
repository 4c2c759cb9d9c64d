/-
  No cell of these rows narrows 'for every input' (looked for: loops, veiled, ifaces, maps, wideKeys, modest, calm, conditions, laid).
  DERIVED. THE GIVEN ROWS OF THIS SEAT. 7 by the template 'for every input the law returns true; each argument reads behind the call as it read before'; 0 by the template 'total and deterministic' (their statements: YtiigbcnnapnceaaTotals.lean).
  GIVEN WITH THE SEED: the statements are not yours to turn. If you find one false, say at which input.
  Laid BY PROGRAM, IN A SANDBOX (cutbox-rows.mjs): the forced cells as the released guide's own fill.sh prints them over the translation afe02d197cfbd3c5… (all of the seat's roots in one cut). By AI agents, Wed Nov 11 2026. No macro, syntax, notation, axiom, sorry.
-/
import Derived.Test.YtiigbcnnapnceaaChecked
import GoSem.Claim
import GoSem.ClaimJoined
import GoSem.ClaimMapViews
import Derived.JoinedTies
import Derived.KernelRfl
namespace Go.Proofs.Ytiigbcnnapnceaa
/- THE CELL 'sum', in the pinned program and in every row, IS THE sha256 OF THE DUMP (.gsa) THAT YtiigbcnnapnceaaProg.lean LOADS. Nothing in Lean hashes anything: it is a label: what it is worth is what the hold of that sum in a sandbox is worth. -/
noncomputable def Try.pinned : Pinned := { name := "ytiigbcnnapnceaa", sum := "afe02d197cfbd3c55bd2cf7111d4cef95922d0b5a4702ab0bc3fdb4663c149a5", checked := Try.checked }
namespace Rows
def none {H : Type} : Left H := { results := [], args := [] }

/-- 'reedlaw.FormTells': WHATEVER THE INPUT: true; the input reads as it did. -/
def formTellsSpec : ChangeSpec := { name := "formTells", fn := fun _ => fun
  | [d] => { results := [.lit (.bool true)], args := [d] }
  | _ => none }
def formTellsRow : OpenClaim := { program := "ytiigbcnnapnceaa", sum := "afe02d197cfbd3c55bd2cf7111d4cef95922d0b5a4702ab0bc3fdb4663c149a5", func := "reedmace/reedlaw.FormTells", spec := "formTells", unfollowed := true, recurses := true, apart := false }
def FormTellsSaid : Prop := formTellsRow.holds Try.pinned (OpenSpec.ofChange formTellsSpec)

/-- ITS FALSE NEIGHBOUR: 'it returns false'. Refute it at one input. -/
def formTellsWrong : ChangeSpec := { name := "formTells", fn := fun _ => fun
  | [d] => { results := [.lit (.bool false)], args := [d] }
  | _ => none }
def FormTellsWrongFalsely : Prop := formTellsRow.holds Try.pinned (OpenSpec.ofChange formTellsWrong)

/-- 'reedlaw.CubeSays': WHATEVER THE INPUT: true; the input reads as it did. -/
def cubeSaysSpec : ChangeSpec := { name := "cubeSays", fn := fun _ => fun
  | [d1, d2, d3] => { results := [.lit (.bool true)], args := [d1, d2, d3] }
  | _ => none }
def cubeSaysRow : OpenClaim := { program := "ytiigbcnnapnceaa", sum := "afe02d197cfbd3c55bd2cf7111d4cef95922d0b5a4702ab0bc3fdb4663c149a5", func := "reedmace/reedlaw.CubeSays", spec := "cubeSays", apart := false }
def CubeSaysSaid : Prop := cubeSaysRow.holds Try.pinned (OpenSpec.ofChange cubeSaysSpec)

/-- ITS FALSE NEIGHBOUR: 'it returns false'. Refute it at one input. -/
def cubeSaysWrong : ChangeSpec := { name := "cubeSays", fn := fun _ => fun
  | [d1, d2, d3] => { results := [.lit (.bool false)], args := [d1, d2, d3] }
  | _ => none }
def CubeSaysWrongFalsely : Prop := cubeSaysRow.holds Try.pinned (OpenSpec.ofChange cubeSaysWrong)

/-- 'reedlaw.FilterSets': WHATEVER THE INPUT: true; the input reads as it did. -/
def filterSetsSpec : ChangeSpec := { name := "filterSets", fn := fun _ => fun
  | [d1, d2] => { results := [.lit (.bool true)], args := [d1, d2] }
  | _ => none }
def filterSetsRow : OpenClaim := { program := "ytiigbcnnapnceaa", sum := "afe02d197cfbd3c55bd2cf7111d4cef95922d0b5a4702ab0bc3fdb4663c149a5", func := "reedmace/reedlaw.FilterSets", spec := "filterSets", unfollowed := true, recurses := true, apart := false }
def FilterSetsSaid : Prop := filterSetsRow.holds Try.pinned (OpenSpec.ofChange filterSetsSpec)

/-- ITS FALSE NEIGHBOUR: 'it returns false'. Refute it at one input. -/
def filterSetsWrong : ChangeSpec := { name := "filterSets", fn := fun _ => fun
  | [d1, d2] => { results := [.lit (.bool false)], args := [d1, d2] }
  | _ => none }
def FilterSetsWrongFalsely : Prop := filterSetsRow.holds Try.pinned (OpenSpec.ofChange filterSetsWrong)

/-- 'reedlaw.FilterSays': WHATEVER THE INPUT: true; the input reads as it did. -/
def filterSaysSpec : ChangeSpec := { name := "filterSays", fn := fun _ => fun
  | [d1, d2, d3] => { results := [.lit (.bool true)], args := [d1, d2, d3] }
  | _ => none }
def filterSaysRow : OpenClaim := { program := "ytiigbcnnapnceaa", sum := "afe02d197cfbd3c55bd2cf7111d4cef95922d0b5a4702ab0bc3fdb4663c149a5", func := "reedmace/reedlaw.FilterSays", spec := "filterSays", unfollowed := true, recurses := true, apart := false }
def FilterSaysSaid : Prop := filterSaysRow.holds Try.pinned (OpenSpec.ofChange filterSaysSpec)

/-- ITS FALSE NEIGHBOUR: 'it returns false'. Refute it at one input. -/
def filterSaysWrong : ChangeSpec := { name := "filterSays", fn := fun _ => fun
  | [d1, d2, d3] => { results := [.lit (.bool false)], args := [d1, d2, d3] }
  | _ => none }
def FilterSaysWrongFalsely : Prop := filterSaysRow.holds Try.pinned (OpenSpec.ofChange filterSaysWrong)

/-- 'reedlaw.FormSays': WHATEVER THE INPUT: true; the input reads as it did. -/
def formSaysSpec : ChangeSpec := { name := "formSays", fn := fun _ => fun
  | [d1, d2] => { results := [.lit (.bool true)], args := [d1, d2] }
  | _ => none }
def formSaysRow : OpenClaim := { program := "ytiigbcnnapnceaa", sum := "afe02d197cfbd3c55bd2cf7111d4cef95922d0b5a4702ab0bc3fdb4663c149a5", func := "reedmace/reedlaw.FormSays", spec := "formSays", unfollowed := true, recurses := true, apart := false }
def FormSaysSaid : Prop := formSaysRow.holds Try.pinned (OpenSpec.ofChange formSaysSpec)

/-- ITS FALSE NEIGHBOUR: 'it returns false'. Refute it at one input. -/
def formSaysWrong : ChangeSpec := { name := "formSays", fn := fun _ => fun
  | [d1, d2] => { results := [.lit (.bool false)], args := [d1, d2] }
  | _ => none }
def FormSaysWrongFalsely : Prop := formSaysRow.holds Try.pinned (OpenSpec.ofChange formSaysWrong)

/-- 'reedlaw.KnowSays': WHATEVER THE INPUT: true; the input reads as it did. -/
def knowSaysSpec : ChangeSpec := { name := "knowSays", fn := fun _ => fun
  | [d1, d2] => { results := [.lit (.bool true)], args := [d1, d2] }
  | _ => none }
def knowSaysRow : OpenClaim := { program := "ytiigbcnnapnceaa", sum := "afe02d197cfbd3c55bd2cf7111d4cef95922d0b5a4702ab0bc3fdb4663c149a5", func := "reedmace/reedlaw.KnowSays", spec := "knowSays", unfollowed := true, recurses := true, apart := false }
def KnowSaysSaid : Prop := knowSaysRow.holds Try.pinned (OpenSpec.ofChange knowSaysSpec)

/-- ITS FALSE NEIGHBOUR: 'it returns false'. Refute it at one input. -/
def knowSaysWrong : ChangeSpec := { name := "knowSays", fn := fun _ => fun
  | [d1, d2] => { results := [.lit (.bool false)], args := [d1, d2] }
  | _ => none }
def KnowSaysWrongFalsely : Prop := knowSaysRow.holds Try.pinned (OpenSpec.ofChange knowSaysWrong)

/-- 'reedlaw.KnowSets': WHATEVER THE INPUT: true; the input reads as it did. -/
def knowSetsSpec : ChangeSpec := { name := "knowSets", fn := fun _ => fun
  | [d1, d2] => { results := [.lit (.bool true)], args := [d1, d2] }
  | _ => none }
def knowSetsRow : OpenClaim := { program := "ytiigbcnnapnceaa", sum := "afe02d197cfbd3c55bd2cf7111d4cef95922d0b5a4702ab0bc3fdb4663c149a5", func := "reedmace/reedlaw.KnowSets", spec := "knowSets", unfollowed := true, recurses := true, apart := false }
def KnowSetsSaid : Prop := knowSetsRow.holds Try.pinned (OpenSpec.ofChange knowSetsSpec)

/-- ITS FALSE NEIGHBOUR: 'it returns false'. Refute it at one input. -/
def knowSetsWrong : ChangeSpec := { name := "knowSets", fn := fun _ => fun
  | [d1, d2] => { results := [.lit (.bool false)], args := [d1, d2] }
  | _ => none }
def KnowSetsWrongFalsely : Prop := knowSetsRow.holds Try.pinned (OpenSpec.ofChange knowSetsWrong)

/- THE SECOND FORM. 'bulk': how many values and letters a reading holds, each counted each time it is reached (what is shared counts as often as it is met; a slice's spare places count too). A statement '..UptoSaid' is the law's where the arguments, and the package variables that the reading takes, are together of bulk at most 1048576: NARROWER than '..Said'. Prove '..Said' where nothing that the law and all that it calls make is longer than what came in: it says more and counts as full. Else prove '..UptoSaid'. A law counts once. -/
mutual
def uptoBulk {H : Type} : DataW H → Nat
  | .lit (.string bytes) => bytes.length + 1
  | .lit _ => 1
  | .nil => 1
  | .ptr d => uptoBulk d + 1
  | .slice elems spare => uptoBulkAll elems + uptoBulkAll spare + 1
  | .agg parts => uptoBulkAll parts + 1
  | .iface _ d => uptoBulk d + 1
  | .map entries => uptoBulkEntries entries + 1
  | .held _ => 1
def uptoBulkAll {H : Type} : List (DataW H) → Nat
  | [] => 0
  | d :: r => uptoBulk d + uptoBulkAll r
def uptoBulkEntries {H : Type} : List (Lit × DataW H) → Nat
  | [] => 0
  | x :: r => uptoBulkEntry x + uptoBulkEntries r
def uptoBulkEntry {H : Type} : Lit × DataW H → Nat
  | (.string bytes, d) => bytes.length + uptoBulk d + 1
  | (_, d) => uptoBulk d + 1
 end
def uptoSmall : (H : Type) → List (DataW H) → Bool := fun _ ds => decide (uptoBulkAll ds ≤ 1048576)
def OpenSpec.upto (s : _root_.Go.ChangeSpec) : _root_.Go.OpenSpec := { _root_.Go.OpenSpec.ofChange s with cond := some uptoSmall }

/-- 'reedlaw.FormTells', WHERE WHAT IT READS IS OF BULK AT MOST 1048576: true; the input reads as it did. -/
def formTellsUptoRow : OpenClaim := { program := "ytiigbcnnapnceaa", sum := "afe02d197cfbd3c55bd2cf7111d4cef95922d0b5a4702ab0bc3fdb4663c149a5", func := "reedmace/reedlaw.FormTells", spec := "formTells", unfollowed := true, recurses := true, apart := false, narrowed := true }
def FormTellsUptoSaid : Prop := formTellsUptoRow.holds Try.pinned (OpenSpec.upto formTellsSpec)

/-- 'reedlaw.CubeSays', WHERE WHAT IT READS IS OF BULK AT MOST 1048576: true; the input reads as it did. -/
def cubeSaysUptoRow : OpenClaim := { program := "ytiigbcnnapnceaa", sum := "afe02d197cfbd3c55bd2cf7111d4cef95922d0b5a4702ab0bc3fdb4663c149a5", func := "reedmace/reedlaw.CubeSays", spec := "cubeSays", apart := false, narrowed := true }
def CubeSaysUptoSaid : Prop := cubeSaysUptoRow.holds Try.pinned (OpenSpec.upto cubeSaysSpec)

/-- 'reedlaw.FilterSets', WHERE WHAT IT READS IS OF BULK AT MOST 1048576: true; the input reads as it did. -/
def filterSetsUptoRow : OpenClaim := { program := "ytiigbcnnapnceaa", sum := "afe02d197cfbd3c55bd2cf7111d4cef95922d0b5a4702ab0bc3fdb4663c149a5", func := "reedmace/reedlaw.FilterSets", spec := "filterSets", unfollowed := true, recurses := true, apart := false, narrowed := true }
def FilterSetsUptoSaid : Prop := filterSetsUptoRow.holds Try.pinned (OpenSpec.upto filterSetsSpec)

/-- 'reedlaw.FilterSays', WHERE WHAT IT READS IS OF BULK AT MOST 1048576: true; the input reads as it did. -/
def filterSaysUptoRow : OpenClaim := { program := "ytiigbcnnapnceaa", sum := "afe02d197cfbd3c55bd2cf7111d4cef95922d0b5a4702ab0bc3fdb4663c149a5", func := "reedmace/reedlaw.FilterSays", spec := "filterSays", unfollowed := true, recurses := true, apart := false, narrowed := true }
def FilterSaysUptoSaid : Prop := filterSaysUptoRow.holds Try.pinned (OpenSpec.upto filterSaysSpec)

/-- 'reedlaw.FormSays', WHERE WHAT IT READS IS OF BULK AT MOST 1048576: true; the input reads as it did. -/
def formSaysUptoRow : OpenClaim := { program := "ytiigbcnnapnceaa", sum := "afe02d197cfbd3c55bd2cf7111d4cef95922d0b5a4702ab0bc3fdb4663c149a5", func := "reedmace/reedlaw.FormSays", spec := "formSays", unfollowed := true, recurses := true, apart := false, narrowed := true }
def FormSaysUptoSaid : Prop := formSaysUptoRow.holds Try.pinned (OpenSpec.upto formSaysSpec)

/-- 'reedlaw.KnowSays', WHERE WHAT IT READS IS OF BULK AT MOST 1048576: true; the input reads as it did. -/
def knowSaysUptoRow : OpenClaim := { program := "ytiigbcnnapnceaa", sum := "afe02d197cfbd3c55bd2cf7111d4cef95922d0b5a4702ab0bc3fdb4663c149a5", func := "reedmace/reedlaw.KnowSays", spec := "knowSays", unfollowed := true, recurses := true, apart := false, narrowed := true }
def KnowSaysUptoSaid : Prop := knowSaysUptoRow.holds Try.pinned (OpenSpec.upto knowSaysSpec)

/-- 'reedlaw.KnowSets', WHERE WHAT IT READS IS OF BULK AT MOST 1048576: true; the input reads as it did. -/
def knowSetsUptoRow : OpenClaim := { program := "ytiigbcnnapnceaa", sum := "afe02d197cfbd3c55bd2cf7111d4cef95922d0b5a4702ab0bc3fdb4663c149a5", func := "reedmace/reedlaw.KnowSets", spec := "knowSets", unfollowed := true, recurses := true, apart := false, narrowed := true }
def KnowSetsUptoSaid : Prop := knowSetsUptoRow.holds Try.pinned (OpenSpec.upto knowSetsSpec)

end Rows
end Go.Proofs.Ytiigbcnnapnceaa
