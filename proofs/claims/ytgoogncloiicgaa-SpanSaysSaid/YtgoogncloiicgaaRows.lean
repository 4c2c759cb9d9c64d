/-
  No cell of these rows narrows 'for every input' (looked for: loops, veiled, ifaces, maps, wideKeys, modest, calm, conditions, laid).
  DERIVED. THE GIVEN ROWS OF THIS SEAT. 15 by the template 'for every input the law returns true; each argument reads behind the call as it read before'; 0 by the template 'total and deterministic' (their statements: YtgoogncloiicgaaTotals.lean).
  GIVEN WITH THE SEED: the statements are not yours to turn. If you find one false, say at which input.
  Laid BY PROGRAM, IN A SANDBOX (cutbox-rows.mjs): the forced cells as the released guide's own fill.sh prints them over the translation 305574d22cf96917… (all of the seat's roots in one cut). By AI agents, Wed Nov 11 2026. No macro, syntax, notation, axiom, sorry.
-/
import Derived.Test.YtgoogncloiicgaaChecked
import GoSem.Claim
import GoSem.ClaimJoined
import GoSem.ClaimMapViews
import Derived.JoinedTies
import Derived.KernelRfl
namespace Go.Proofs.Ytgoogncloiicgaa
/- THE CELL 'sum', in the pinned program and in every row, IS THE sha256 OF THE DUMP (.gsa) THAT YtgoogncloiicgaaProg.lean LOADS. Nothing in Lean hashes anything: it is a label: what it is worth is what the hold of that sum in a sandbox is worth. -/
noncomputable def Try.pinned : Pinned := { name := "ytgoogncloiicgaa", sum := "305574d22cf969171ca56af7545e70cb1dbf1caea659576c5d34c943e38154f6", checked := Try.checked }
namespace Rows
def none {H : Type} : Left H := { results := [], args := [] }

/-- 'reedlaw.FormTells': WHATEVER THE INPUT: true; the input reads as it did. -/
def formTellsSpec : ChangeSpec := { name := "formTells", fn := fun _ => fun
  | [d] => { results := [.lit (.bool true)], args := [d] }
  | _ => none }
def formTellsRow : OpenClaim := { program := "ytgoogncloiicgaa", sum := "305574d22cf969171ca56af7545e70cb1dbf1caea659576c5d34c943e38154f6", func := "reedmace/reedlaw.FormTells", spec := "formTells", unfollowed := true, recurses := true, apart := false }
def FormTellsSaid : Prop := formTellsRow.holds Try.pinned (OpenSpec.ofChange formTellsSpec)

/-- ITS FALSE NEIGHBOUR: 'it returns false'. Refute it at one input. -/
def formTellsWrong : ChangeSpec := { name := "formTells", fn := fun _ => fun
  | [d] => { results := [.lit (.bool false)], args := [d] }
  | _ => none }
def FormTellsWrongFalsely : Prop := formTellsRow.holds Try.pinned (OpenSpec.ofChange formTellsWrong)

/-- 'reedlaw.SpanSets': WHATEVER THE INPUT: true; the input reads as it did. -/
def spanSetsSpec : ChangeSpec := { name := "spanSets", fn := fun _ => fun
  | [d1, d2] => { results := [.lit (.bool true)], args := [d1, d2] }
  | _ => none }
def spanSetsRow : OpenClaim := { program := "ytgoogncloiicgaa", sum := "305574d22cf969171ca56af7545e70cb1dbf1caea659576c5d34c943e38154f6", func := "reedmace/reedlaw.SpanSets", spec := "spanSets", unfollowed := true, recurses := true, apart := false }
def SpanSetsSaid : Prop := spanSetsRow.holds Try.pinned (OpenSpec.ofChange spanSetsSpec)

/-- ITS FALSE NEIGHBOUR: 'it returns false'. Refute it at one input. -/
def spanSetsWrong : ChangeSpec := { name := "spanSets", fn := fun _ => fun
  | [d1, d2] => { results := [.lit (.bool false)], args := [d1, d2] }
  | _ => none }
def SpanSetsWrongFalsely : Prop := spanSetsRow.holds Try.pinned (OpenSpec.ofChange spanSetsWrong)

/-- 'reedlaw.SpanSays': WHATEVER THE INPUT: true; the input reads as it did. -/
def spanSaysSpec : ChangeSpec := { name := "spanSays", fn := fun _ => fun
  | [d1, d2, d3] => { results := [.lit (.bool true)], args := [d1, d2, d3] }
  | _ => none }
def spanSaysRow : OpenClaim := { program := "ytgoogncloiicgaa", sum := "305574d22cf969171ca56af7545e70cb1dbf1caea659576c5d34c943e38154f6", func := "reedmace/reedlaw.SpanSays", spec := "spanSays", unfollowed := true, recurses := true, apart := false }
def SpanSaysSaid : Prop := spanSaysRow.holds Try.pinned (OpenSpec.ofChange spanSaysSpec)

/-- ITS FALSE NEIGHBOUR: 'it returns false'. Refute it at one input. -/
def spanSaysWrong : ChangeSpec := { name := "spanSays", fn := fun _ => fun
  | [d1, d2, d3] => { results := [.lit (.bool false)], args := [d1, d2, d3] }
  | _ => none }
def SpanSaysWrongFalsely : Prop := spanSaysRow.holds Try.pinned (OpenSpec.ofChange spanSaysWrong)

/-- 'reedlaw.CubeSays': WHATEVER THE INPUT: true; the input reads as it did. -/
def cubeSaysSpec : ChangeSpec := { name := "cubeSays", fn := fun _ => fun
  | [d1, d2, d3] => { results := [.lit (.bool true)], args := [d1, d2, d3] }
  | _ => none }
def cubeSaysRow : OpenClaim := { program := "ytgoogncloiicgaa", sum := "305574d22cf969171ca56af7545e70cb1dbf1caea659576c5d34c943e38154f6", func := "reedmace/reedlaw.CubeSays", spec := "cubeSays", apart := false }
def CubeSaysSaid : Prop := cubeSaysRow.holds Try.pinned (OpenSpec.ofChange cubeSaysSpec)

/-- ITS FALSE NEIGHBOUR: 'it returns false'. Refute it at one input. -/
def cubeSaysWrong : ChangeSpec := { name := "cubeSays", fn := fun _ => fun
  | [d1, d2, d3] => { results := [.lit (.bool false)], args := [d1, d2, d3] }
  | _ => none }
def CubeSaysWrongFalsely : Prop := cubeSaysRow.holds Try.pinned (OpenSpec.ofChange cubeSaysWrong)

/-- 'reedlaw.FilterSets': WHATEVER THE INPUT: true; the input reads as it did. -/
def filterSetsSpec : ChangeSpec := { name := "filterSets", fn := fun _ => fun
  | [d1, d2] => { results := [.lit (.bool true)], args := [d1, d2] }
  | _ => none }
def filterSetsRow : OpenClaim := { program := "ytgoogncloiicgaa", sum := "305574d22cf969171ca56af7545e70cb1dbf1caea659576c5d34c943e38154f6", func := "reedmace/reedlaw.FilterSets", spec := "filterSets", unfollowed := true, recurses := true, apart := false }
def FilterSetsSaid : Prop := filterSetsRow.holds Try.pinned (OpenSpec.ofChange filterSetsSpec)

/-- ITS FALSE NEIGHBOUR: 'it returns false'. Refute it at one input. -/
def filterSetsWrong : ChangeSpec := { name := "filterSets", fn := fun _ => fun
  | [d1, d2] => { results := [.lit (.bool false)], args := [d1, d2] }
  | _ => none }
def FilterSetsWrongFalsely : Prop := filterSetsRow.holds Try.pinned (OpenSpec.ofChange filterSetsWrong)

/-- 'reedlaw.FilterSays': WHATEVER THE INPUT: true; the input reads as it did. -/
def filterSaysSpec : ChangeSpec := { name := "filterSays", fn := fun _ => fun
  | [d1, d2, d3] => { results := [.lit (.bool true)], args := [d1, d2, d3] }
  | _ => none }
def filterSaysRow : OpenClaim := { program := "ytgoogncloiicgaa", sum := "305574d22cf969171ca56af7545e70cb1dbf1caea659576c5d34c943e38154f6", func := "reedmace/reedlaw.FilterSays", spec := "filterSays", unfollowed := true, recurses := true, apart := false }
def FilterSaysSaid : Prop := filterSaysRow.holds Try.pinned (OpenSpec.ofChange filterSaysSpec)

/-- ITS FALSE NEIGHBOUR: 'it returns false'. Refute it at one input. -/
def filterSaysWrong : ChangeSpec := { name := "filterSays", fn := fun _ => fun
  | [d1, d2, d3] => { results := [.lit (.bool false)], args := [d1, d2, d3] }
  | _ => none }
def FilterSaysWrongFalsely : Prop := filterSaysRow.holds Try.pinned (OpenSpec.ofChange filterSaysWrong)

/-- 'reedlaw.FormSays': WHATEVER THE INPUT: true; the input reads as it did. -/
def formSaysSpec : ChangeSpec := { name := "formSays", fn := fun _ => fun
  | [d1, d2] => { results := [.lit (.bool true)], args := [d1, d2] }
  | _ => none }
def formSaysRow : OpenClaim := { program := "ytgoogncloiicgaa", sum := "305574d22cf969171ca56af7545e70cb1dbf1caea659576c5d34c943e38154f6", func := "reedmace/reedlaw.FormSays", spec := "formSays", unfollowed := true, recurses := true, apart := false }
def FormSaysSaid : Prop := formSaysRow.holds Try.pinned (OpenSpec.ofChange formSaysSpec)

/-- ITS FALSE NEIGHBOUR: 'it returns false'. Refute it at one input. -/
def formSaysWrong : ChangeSpec := { name := "formSays", fn := fun _ => fun
  | [d1, d2] => { results := [.lit (.bool false)], args := [d1, d2] }
  | _ => none }
def FormSaysWrongFalsely : Prop := formSaysRow.holds Try.pinned (OpenSpec.ofChange formSaysWrong)

/-- 'reedlaw.WireSays': WHATEVER THE INPUT: true; the input reads as it did. -/
def wireSaysSpec : ChangeSpec := { name := "wireSays", fn := fun _ => fun
  | [d1, d2] => { results := [.lit (.bool true)], args := [d1, d2] }
  | _ => none }
def wireSaysRow : OpenClaim := { program := "ytgoogncloiicgaa", sum := "305574d22cf969171ca56af7545e70cb1dbf1caea659576c5d34c943e38154f6", func := "reedmace/reedlaw.WireSays", spec := "wireSays", unfollowed := true, recurses := true, apart := false }
def WireSaysSaid : Prop := wireSaysRow.holds Try.pinned (OpenSpec.ofChange wireSaysSpec)

/-- ITS FALSE NEIGHBOUR: 'it returns false'. Refute it at one input. -/
def wireSaysWrong : ChangeSpec := { name := "wireSays", fn := fun _ => fun
  | [d1, d2] => { results := [.lit (.bool false)], args := [d1, d2] }
  | _ => none }
def WireSaysWrongFalsely : Prop := wireSaysRow.holds Try.pinned (OpenSpec.ofChange wireSaysWrong)

/-- 'reedlaw.KnowSays': WHATEVER THE INPUT: true; the input reads as it did. -/
def knowSaysSpec : ChangeSpec := { name := "knowSays", fn := fun _ => fun
  | [d1, d2] => { results := [.lit (.bool true)], args := [d1, d2] }
  | _ => none }
def knowSaysRow : OpenClaim := { program := "ytgoogncloiicgaa", sum := "305574d22cf969171ca56af7545e70cb1dbf1caea659576c5d34c943e38154f6", func := "reedmace/reedlaw.KnowSays", spec := "knowSays", unfollowed := true, recurses := true, apart := false }
def KnowSaysSaid : Prop := knowSaysRow.holds Try.pinned (OpenSpec.ofChange knowSaysSpec)

/-- ITS FALSE NEIGHBOUR: 'it returns false'. Refute it at one input. -/
def knowSaysWrong : ChangeSpec := { name := "knowSays", fn := fun _ => fun
  | [d1, d2] => { results := [.lit (.bool false)], args := [d1, d2] }
  | _ => none }
def KnowSaysWrongFalsely : Prop := knowSaysRow.holds Try.pinned (OpenSpec.ofChange knowSaysWrong)

/-- 'reedlaw.KnowSets': WHATEVER THE INPUT: true; the input reads as it did. -/
def knowSetsSpec : ChangeSpec := { name := "knowSets", fn := fun _ => fun
  | [d1, d2] => { results := [.lit (.bool true)], args := [d1, d2] }
  | _ => none }
def knowSetsRow : OpenClaim := { program := "ytgoogncloiicgaa", sum := "305574d22cf969171ca56af7545e70cb1dbf1caea659576c5d34c943e38154f6", func := "reedmace/reedlaw.KnowSets", spec := "knowSets", unfollowed := true, recurses := true, apart := false }
def KnowSetsSaid : Prop := knowSetsRow.holds Try.pinned (OpenSpec.ofChange knowSetsSpec)

/-- ITS FALSE NEIGHBOUR: 'it returns false'. Refute it at one input. -/
def knowSetsWrong : ChangeSpec := { name := "knowSets", fn := fun _ => fun
  | [d1, d2] => { results := [.lit (.bool false)], args := [d1, d2] }
  | _ => none }
def KnowSetsWrongFalsely : Prop := knowSetsRow.holds Try.pinned (OpenSpec.ofChange knowSetsWrong)

/-- 'reedlaw.ShelfPuts': WHATEVER THE INPUT: true; the input reads as it did. -/
def shelfPutsSpec : ChangeSpec := { name := "shelfPuts", fn := fun _ => fun
  | [d1, d2, d3] => { results := [.lit (.bool true)], args := [d1, d2, d3] }
  | _ => none }
def shelfPutsRow : OpenClaim := { program := "ytgoogncloiicgaa", sum := "305574d22cf969171ca56af7545e70cb1dbf1caea659576c5d34c943e38154f6", func := "reedmace/reedlaw.ShelfPuts", spec := "shelfPuts", inPlace := ["internal/bytealg.abigen_runtime_cmpstring", "slices.overlaps[reedmace/api.Version]", "internal/reflectlite.ValueOf", "internal/reflectlite.Swapper", "(internal/reflectlite.Value).Len"], unfollowed := true, recurses := true, apart := false }
def ShelfPutsSaid : Prop := shelfPutsRow.holds Try.pinned (OpenSpec.ofChange shelfPutsSpec)

/-- ITS FALSE NEIGHBOUR: 'it returns false'. Refute it at one input. -/
def shelfPutsWrong : ChangeSpec := { name := "shelfPuts", fn := fun _ => fun
  | [d1, d2, d3] => { results := [.lit (.bool false)], args := [d1, d2, d3] }
  | _ => none }
def ShelfPutsWrongFalsely : Prop := shelfPutsRow.holds Try.pinned (OpenSpec.ofChange shelfPutsWrong)

/-- 'reedlaw.ShelfSays': WHATEVER THE INPUT: true; the input reads as it did. -/
def shelfSaysSpec : ChangeSpec := { name := "shelfSays", fn := fun _ => fun
  | [d1, d2, d3] => { results := [.lit (.bool true)], args := [d1, d2, d3] }
  | _ => none }
def shelfSaysRow : OpenClaim := { program := "ytgoogncloiicgaa", sum := "305574d22cf969171ca56af7545e70cb1dbf1caea659576c5d34c943e38154f6", func := "reedmace/reedlaw.ShelfSays", spec := "shelfSays", inPlace := ["internal/bytealg.abigen_runtime_cmpstring"], unfollowed := true, recurses := true, apart := false }
def ShelfSaysSaid : Prop := shelfSaysRow.holds Try.pinned (OpenSpec.ofChange shelfSaysSpec)

/-- ITS FALSE NEIGHBOUR: 'it returns false'. Refute it at one input. -/
def shelfSaysWrong : ChangeSpec := { name := "shelfSays", fn := fun _ => fun
  | [d1, d2, d3] => { results := [.lit (.bool false)], args := [d1, d2, d3] }
  | _ => none }
def ShelfSaysWrongFalsely : Prop := shelfSaysRow.holds Try.pinned (OpenSpec.ofChange shelfSaysWrong)

/-- 'reedlaw.PartSays': WHATEVER THE INPUT: true; the input reads as it did. -/
def partSaysSpec : ChangeSpec := { name := "partSays", fn := fun _ => fun
  | [d1, d2, d3, d4] => { results := [.lit (.bool true)], args := [d1, d2, d3, d4] }
  | _ => none }
def partSaysRow : OpenClaim := { program := "ytgoogncloiicgaa", sum := "305574d22cf969171ca56af7545e70cb1dbf1caea659576c5d34c943e38154f6", func := "reedmace/reedlaw.PartSays", spec := "partSays", unfollowed := true, recurses := true, apart := false }
def PartSaysSaid : Prop := partSaysRow.holds Try.pinned (OpenSpec.ofChange partSaysSpec)

/-- ITS FALSE NEIGHBOUR: 'it returns false'. Refute it at one input. -/
def partSaysWrong : ChangeSpec := { name := "partSays", fn := fun _ => fun
  | [d1, d2, d3, d4] => { results := [.lit (.bool false)], args := [d1, d2, d3, d4] }
  | _ => none }
def PartSaysWrongFalsely : Prop := partSaysRow.holds Try.pinned (OpenSpec.ofChange partSaysWrong)

/-- 'reedlaw.WireSame': WHATEVER THE INPUT: true; the input reads as it did. -/
def wireSameSpec : ChangeSpec := { name := "wireSame", fn := fun _ => fun
  | [d1, d2] => { results := [.lit (.bool true)], args := [d1, d2] }
  | _ => none }
def wireSameRow : OpenClaim := { program := "ytgoogncloiicgaa", sum := "305574d22cf969171ca56af7545e70cb1dbf1caea659576c5d34c943e38154f6", func := "reedmace/reedlaw.WireSame", spec := "wireSame", unfollowed := true, recurses := true, apart := false }
def WireSameSaid : Prop := wireSameRow.holds Try.pinned (OpenSpec.ofChange wireSameSpec)

/-- ITS FALSE NEIGHBOUR: 'it returns false'. Refute it at one input. -/
def wireSameWrong : ChangeSpec := { name := "wireSame", fn := fun _ => fun
  | [d1, d2] => { results := [.lit (.bool false)], args := [d1, d2] }
  | _ => none }
def WireSameWrongFalsely : Prop := wireSameRow.holds Try.pinned (OpenSpec.ofChange wireSameWrong)

/-- 'reedlaw.PartSets': WHATEVER THE INPUT: true; the input reads as it did. -/
def partSetsSpec : ChangeSpec := { name := "partSets", fn := fun _ => fun
  | [d1, d2, d3] => { results := [.lit (.bool true)], args := [d1, d2, d3] }
  | _ => none }
def partSetsRow : OpenClaim := { program := "ytgoogncloiicgaa", sum := "305574d22cf969171ca56af7545e70cb1dbf1caea659576c5d34c943e38154f6", func := "reedmace/reedlaw.PartSets", spec := "partSets", unfollowed := true, recurses := true, apart := false }
def PartSetsSaid : Prop := partSetsRow.holds Try.pinned (OpenSpec.ofChange partSetsSpec)

/-- ITS FALSE NEIGHBOUR: 'it returns false'. Refute it at one input. -/
def partSetsWrong : ChangeSpec := { name := "partSets", fn := fun _ => fun
  | [d1, d2, d3] => { results := [.lit (.bool false)], args := [d1, d2, d3] }
  | _ => none }
def PartSetsWrongFalsely : Prop := partSetsRow.holds Try.pinned (OpenSpec.ofChange partSetsWrong)

/- THE SECOND FORM. 'bulk': how many values and letters a reading holds, each counted each time it is reached (what is shared counts as often as it is met; a slice's spare places count too). A statement '..UptoSaid' is the law's where the arguments, and the package variables that the reading takes, are together of bulk at most 1048576: NARROWER than '..Said'. Prove '..Said' where nothing that the law and all that it calls make is longer than what came in: it says more and counts as full. Else prove '..UptoSaid'. A law counts once. -/
mutual
def uptoBulk {H : Type} : DataW H → Nat
  | .lit (.string bytes) => bytes.length + 1
  | .lit _ => 1
  | .nil => 1
  | .ptr d => uptoBulk d + 1
  | .slice elems spare => uptoBulkAll elems + uptoBulkAll spare + 1
  | .agg parts => uptoBulkAll parts + 1
  | .iface _ d => uptoBulk d + 1
  | .map entries => uptoBulkEntries entries + 1
  | .held _ => 1
def uptoBulkAll {H : Type} : List (DataW H) → Nat
  | [] => 0
  | d :: r => uptoBulk d + uptoBulkAll r
def uptoBulkEntries {H : Type} : List (Lit × DataW H) → Nat
  | [] => 0
  | x :: r => uptoBulkEntry x + uptoBulkEntries r
def uptoBulkEntry {H : Type} : Lit × DataW H → Nat
  | (.string bytes, d) => bytes.length + uptoBulk d + 1
  | (_, d) => uptoBulk d + 1
 end
def uptoSmall : (H : Type) → List (DataW H) → Bool := fun _ ds => decide (uptoBulkAll ds ≤ 1048576)
def OpenSpec.upto (s : _root_.Go.ChangeSpec) : _root_.Go.OpenSpec := { _root_.Go.OpenSpec.ofChange s with cond := some uptoSmall }

/-- 'reedlaw.FormTells', WHERE WHAT IT READS IS OF BULK AT MOST 1048576: true; the input reads as it did. -/
def formTellsUptoRow : OpenClaim := { program := "ytgoogncloiicgaa", sum := "305574d22cf969171ca56af7545e70cb1dbf1caea659576c5d34c943e38154f6", func := "reedmace/reedlaw.FormTells", spec := "formTells", unfollowed := true, recurses := true, apart := false, narrowed := true }
def FormTellsUptoSaid : Prop := formTellsUptoRow.holds Try.pinned (OpenSpec.upto formTellsSpec)

/-- 'reedlaw.SpanSets', WHERE WHAT IT READS IS OF BULK AT MOST 1048576: true; the input reads as it did. -/
def spanSetsUptoRow : OpenClaim := { program := "ytgoogncloiicgaa", sum := "305574d22cf969171ca56af7545e70cb1dbf1caea659576c5d34c943e38154f6", func := "reedmace/reedlaw.SpanSets", spec := "spanSets", unfollowed := true, recurses := true, apart := false, narrowed := true }
def SpanSetsUptoSaid : Prop := spanSetsUptoRow.holds Try.pinned (OpenSpec.upto spanSetsSpec)

/-- 'reedlaw.SpanSays', WHERE WHAT IT READS IS OF BULK AT MOST 1048576: true; the input reads as it did. -/
def spanSaysUptoRow : OpenClaim := { program := "ytgoogncloiicgaa", sum := "305574d22cf969171ca56af7545e70cb1dbf1caea659576c5d34c943e38154f6", func := "reedmace/reedlaw.SpanSays", spec := "spanSays", unfollowed := true, recurses := true, apart := false, narrowed := true }
def SpanSaysUptoSaid : Prop := spanSaysUptoRow.holds Try.pinned (OpenSpec.upto spanSaysSpec)

/-- 'reedlaw.CubeSays', WHERE WHAT IT READS IS OF BULK AT MOST 1048576: true; the input reads as it did. -/
def cubeSaysUptoRow : OpenClaim := { program := "ytgoogncloiicgaa", sum := "305574d22cf969171ca56af7545e70cb1dbf1caea659576c5d34c943e38154f6", func := "reedmace/reedlaw.CubeSays", spec := "cubeSays", apart := false, narrowed := true }
def CubeSaysUptoSaid : Prop := cubeSaysUptoRow.holds Try.pinned (OpenSpec.upto cubeSaysSpec)

/-- 'reedlaw.FilterSets', WHERE WHAT IT READS IS OF BULK AT MOST 1048576: true; the input reads as it did. -/
def filterSetsUptoRow : OpenClaim := { program := "ytgoogncloiicgaa", sum := "305574d22cf969171ca56af7545e70cb1dbf1caea659576c5d34c943e38154f6", func := "reedmace/reedlaw.FilterSets", spec := "filterSets", unfollowed := true, recurses := true, apart := false, narrowed := true }
def FilterSetsUptoSaid : Prop := filterSetsUptoRow.holds Try.pinned (OpenSpec.upto filterSetsSpec)

/-- 'reedlaw.FilterSays', WHERE WHAT IT READS IS OF BULK AT MOST 1048576: true; the input reads as it did. -/
def filterSaysUptoRow : OpenClaim := { program := "ytgoogncloiicgaa", sum := "305574d22cf969171ca56af7545e70cb1dbf1caea659576c5d34c943e38154f6", func := "reedmace/reedlaw.FilterSays", spec := "filterSays", unfollowed := true, recurses := true, apart := false, narrowed := true }
def FilterSaysUptoSaid : Prop := filterSaysUptoRow.holds Try.pinned (OpenSpec.upto filterSaysSpec)

/-- 'reedlaw.FormSays', WHERE WHAT IT READS IS OF BULK AT MOST 1048576: true; the input reads as it did. -/
def formSaysUptoRow : OpenClaim := { program := "ytgoogncloiicgaa", sum := "305574d22cf969171ca56af7545e70cb1dbf1caea659576c5d34c943e38154f6", func := "reedmace/reedlaw.FormSays", spec := "formSays", unfollowed := true, recurses := true, apart := false, narrowed := true }
def FormSaysUptoSaid : Prop := formSaysUptoRow.holds Try.pinned (OpenSpec.upto formSaysSpec)

/-- 'reedlaw.WireSays', WHERE WHAT IT READS IS OF BULK AT MOST 1048576: true; the input reads as it did. -/
def wireSaysUptoRow : OpenClaim := { program := "ytgoogncloiicgaa", sum := "305574d22cf969171ca56af7545e70cb1dbf1caea659576c5d34c943e38154f6", func := "reedmace/reedlaw.WireSays", spec := "wireSays", unfollowed := true, recurses := true, apart := false, narrowed := true }
def WireSaysUptoSaid : Prop := wireSaysUptoRow.holds Try.pinned (OpenSpec.upto wireSaysSpec)

/-- 'reedlaw.KnowSays', WHERE WHAT IT READS IS OF BULK AT MOST 1048576: true; the input reads as it did. -/
def knowSaysUptoRow : OpenClaim := { program := "ytgoogncloiicgaa", sum := "305574d22cf969171ca56af7545e70cb1dbf1caea659576c5d34c943e38154f6", func := "reedmace/reedlaw.KnowSays", spec := "knowSays", unfollowed := true, recurses := true, apart := false, narrowed := true }
def KnowSaysUptoSaid : Prop := knowSaysUptoRow.holds Try.pinned (OpenSpec.upto knowSaysSpec)

/-- 'reedlaw.KnowSets', WHERE WHAT IT READS IS OF BULK AT MOST 1048576: true; the input reads as it did. -/
def knowSetsUptoRow : OpenClaim := { program := "ytgoogncloiicgaa", sum := "305574d22cf969171ca56af7545e70cb1dbf1caea659576c5d34c943e38154f6", func := "reedmace/reedlaw.KnowSets", spec := "knowSets", unfollowed := true, recurses := true, apart := false, narrowed := true }
def KnowSetsUptoSaid : Prop := knowSetsUptoRow.holds Try.pinned (OpenSpec.upto knowSetsSpec)

/-- 'reedlaw.ShelfPuts', WHERE WHAT IT READS IS OF BULK AT MOST 1048576: true; the input reads as it did. -/
def shelfPutsUptoRow : OpenClaim := { program := "ytgoogncloiicgaa", sum := "305574d22cf969171ca56af7545e70cb1dbf1caea659576c5d34c943e38154f6", func := "reedmace/reedlaw.ShelfPuts", spec := "shelfPuts", inPlace := ["internal/bytealg.abigen_runtime_cmpstring", "slices.overlaps[reedmace/api.Version]", "internal/reflectlite.ValueOf", "internal/reflectlite.Swapper", "(internal/reflectlite.Value).Len"], unfollowed := true, recurses := true, apart := false, narrowed := true }
def ShelfPutsUptoSaid : Prop := shelfPutsUptoRow.holds Try.pinned (OpenSpec.upto shelfPutsSpec)

/-- 'reedlaw.ShelfSays', WHERE WHAT IT READS IS OF BULK AT MOST 1048576: true; the input reads as it did. -/
def shelfSaysUptoRow : OpenClaim := { program := "ytgoogncloiicgaa", sum := "305574d22cf969171ca56af7545e70cb1dbf1caea659576c5d34c943e38154f6", func := "reedmace/reedlaw.ShelfSays", spec := "shelfSays", inPlace := ["internal/bytealg.abigen_runtime_cmpstring"], unfollowed := true, recurses := true, apart := false, narrowed := true }
def ShelfSaysUptoSaid : Prop := shelfSaysUptoRow.holds Try.pinned (OpenSpec.upto shelfSaysSpec)

/-- 'reedlaw.PartSays', WHERE WHAT IT READS IS OF BULK AT MOST 1048576: true; the input reads as it did. -/
def partSaysUptoRow : OpenClaim := { program := "ytgoogncloiicgaa", sum := "305574d22cf969171ca56af7545e70cb1dbf1caea659576c5d34c943e38154f6", func := "reedmace/reedlaw.PartSays", spec := "partSays", unfollowed := true, recurses := true, apart := false, narrowed := true }
def PartSaysUptoSaid : Prop := partSaysUptoRow.holds Try.pinned (OpenSpec.upto partSaysSpec)

/-- 'reedlaw.WireSame', WHERE WHAT IT READS IS OF BULK AT MOST 1048576: true; the input reads as it did. -/
def wireSameUptoRow : OpenClaim := { program := "ytgoogncloiicgaa", sum := "305574d22cf969171ca56af7545e70cb1dbf1caea659576c5d34c943e38154f6", func := "reedmace/reedlaw.WireSame", spec := "wireSame", unfollowed := true, recurses := true, apart := false, narrowed := true }
def WireSameUptoSaid : Prop := wireSameUptoRow.holds Try.pinned (OpenSpec.upto wireSameSpec)

/-- 'reedlaw.PartSets', WHERE WHAT IT READS IS OF BULK AT MOST 1048576: true; the input reads as it did. -/
def partSetsUptoRow : OpenClaim := { program := "ytgoogncloiicgaa", sum := "305574d22cf969171ca56af7545e70cb1dbf1caea659576c5d34c943e38154f6", func := "reedmace/reedlaw.PartSets", spec := "partSets", unfollowed := true, recurses := true, apart := false, narrowed := true }
def PartSetsUptoSaid : Prop := partSetsUptoRow.holds Try.pinned (OpenSpec.upto partSetsSpec)

end Rows
end Go.Proofs.Ytgoogncloiicgaa
