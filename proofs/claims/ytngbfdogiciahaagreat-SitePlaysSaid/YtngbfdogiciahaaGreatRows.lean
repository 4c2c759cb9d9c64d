/-
  No cell of these rows narrows 'for every input' (looked for: loops, veiled, ifaces, maps, wideKeys, modest, calm, conditions, laid).
  DERIVED. THE GIVEN ROWS OF THIS SEAT. 5 by the template 'for every input the law returns true; each argument reads behind the call as it read before'; 0 by the template 'total and deterministic' (their statements: YtngbfdogiciahaaGreatTotals.lean).
  GIVEN WITH THE SEED: the statements are not yours to turn. If you find one false, say at which input.
  Laid BY PROGRAM, IN A SANDBOX (cutbox-rows.mjs): the forced cells as the released guide's own fill.sh prints them over the translation 097b84a3febc117f… (all of the seat's roots in one cut). By AI agents, Wed Nov 11 2026. No macro, syntax, notation, axiom, sorry.
-/
import Derived.Test.YtngbfdogiciahaaGreatChecked
import GoSem.Claim
import GoSem.ClaimJoined
import GoSem.ClaimMapViews
import Derived.JoinedTies
import Derived.KernelRfl
namespace Go.Proofs.YtngbfdogiciahaaGreat
/- THE CELL 'sum', in the pinned program and in every row, IS THE sha256 OF THE DUMP (.gsa) THAT YtngbfdogiciahaaGreatProg.lean LOADS. Nothing in Lean hashes anything: it is a label: what it is worth is what the hold of that sum in a sandbox is worth. -/
noncomputable def Tryz.pinned : Pinned := { name := "ytngbfdogiciahaagreat", sum := "097b84a3febc117f09d478299d95c809cae9e79807205ccb3a3c692f2edddbea", checked := Tryz.checked }
namespace Rows
def none {H : Type} : Left H := { results := [], args := [] }

/-- 'reedtop.TopLetters': WHATEVER THE INPUT: true; the input reads as it did. -/
def topLettersSpec : ChangeSpec := { name := "topLetters", fn := fun _ => fun
  | [d1, d2] => { results := [.lit (.bool true)], args := [d1, d2] }
  | _ => none }
def topLettersRow : OpenClaim := { program := "ytngbfdogiciahaagreat", sum := "097b84a3febc117f09d478299d95c809cae9e79807205ccb3a3c692f2edddbea", func := "reedmace/reedtop.TopLetters", spec := "topLetters", inPlace := ["internal/bytealg.abigen_runtime_cmpstring", "slices.overlaps[reedmace/api.Version]"], unfollowed := true, recurses := true, apart := false }
def TopLettersSaid : Prop := topLettersRow.holds Tryz.pinned (OpenSpec.ofChange topLettersSpec)

/-- ITS FALSE NEIGHBOUR: 'it returns false'. Refute it at one input. -/
def topLettersWrong : ChangeSpec := { name := "topLetters", fn := fun _ => fun
  | [d1, d2] => { results := [.lit (.bool false)], args := [d1, d2] }
  | _ => none }
def TopLettersWrongFalsely : Prop := topLettersRow.holds Tryz.pinned (OpenSpec.ofChange topLettersWrong)

/-- 'reedtop.TopRing': WHATEVER THE INPUT: true; the input reads as it did. -/
def topRingSpec : ChangeSpec := { name := "topRing", fn := fun _ => fun
  | [d] => { results := [.lit (.bool true)], args := [d] }
  | _ => none }
def topRingRow : OpenClaim := { program := "ytngbfdogiciahaagreat", sum := "097b84a3febc117f09d478299d95c809cae9e79807205ccb3a3c692f2edddbea", func := "reedmace/reedtop.TopRing", spec := "topRing", inPlace := ["internal/bytealg.abigen_runtime_cmpstring", "slices.overlaps[reedmace/api.Version]"], unfollowed := true, recurses := true, apart := false }
def TopRingSaid : Prop := topRingRow.holds Tryz.pinned (OpenSpec.ofChange topRingSpec)

/-- ITS FALSE NEIGHBOUR: 'it returns false'. Refute it at one input. -/
def topRingWrong : ChangeSpec := { name := "topRing", fn := fun _ => fun
  | [d] => { results := [.lit (.bool false)], args := [d] }
  | _ => none }
def TopRingWrongFalsely : Prop := topRingRow.holds Tryz.pinned (OpenSpec.ofChange topRingWrong)

/-- 'reedlaw.SitePlays': WHATEVER THE INPUT: true; the input reads as it did. -/
def sitePlaysSpec : ChangeSpec := { name := "sitePlays", fn := fun _ => fun
  | [d1, d2, d3, d4, d5, d6, d7] => { results := [.lit (.bool true)], args := [d1, d2, d3, d4, d5, d6, d7] }
  | _ => none }
def sitePlaysRow : OpenClaim := { program := "ytngbfdogiciahaagreat", sum := "097b84a3febc117f09d478299d95c809cae9e79807205ccb3a3c692f2edddbea", func := "reedmace/reedlaw.SitePlays", spec := "sitePlays", inPlace := ["internal/bytealg.abigen_runtime_cmpstring", "slices.overlaps[reedmace/api.Version]", "internal/reflectlite.ValueOf", "internal/reflectlite.Swapper", "(internal/reflectlite.Value).Len"], unfollowed := true, recurses := true, apart := false }
def SitePlaysSaid : Prop := sitePlaysRow.holds Tryz.pinned (OpenSpec.ofChange sitePlaysSpec)

/-- ITS FALSE NEIGHBOUR: 'it returns false'. Refute it at one input. -/
def sitePlaysWrong : ChangeSpec := { name := "sitePlays", fn := fun _ => fun
  | [d1, d2, d3, d4, d5, d6, d7] => { results := [.lit (.bool false)], args := [d1, d2, d3, d4, d5, d6, d7] }
  | _ => none }
def SitePlaysWrongFalsely : Prop := sitePlaysRow.holds Tryz.pinned (OpenSpec.ofChange sitePlaysWrong)

/-- 'reedlaw.TownPlays': WHATEVER THE INPUT: true; the input reads as it did. -/
def townPlaysSpec : ChangeSpec := { name := "townPlays", fn := fun _ => fun
  | [d1, d2, d3] => { results := [.lit (.bool true)], args := [d1, d2, d3] }
  | _ => none }
def townPlaysRow : OpenClaim := { program := "ytngbfdogiciahaagreat", sum := "097b84a3febc117f09d478299d95c809cae9e79807205ccb3a3c692f2edddbea", func := "reedmace/reedlaw.TownPlays", spec := "townPlays", inPlace := ["internal/bytealg.abigen_runtime_cmpstring", "slices.overlaps[reedmace/api.Version]", "internal/reflectlite.ValueOf", "internal/reflectlite.Swapper", "(internal/reflectlite.Value).Len"], unfollowed := true, recurses := true, apart := false }
def TownPlaysSaid : Prop := townPlaysRow.holds Tryz.pinned (OpenSpec.ofChange townPlaysSpec)

/-- ITS FALSE NEIGHBOUR: 'it returns false'. Refute it at one input. -/
def townPlaysWrong : ChangeSpec := { name := "townPlays", fn := fun _ => fun
  | [d1, d2, d3] => { results := [.lit (.bool false)], args := [d1, d2, d3] }
  | _ => none }
def TownPlaysWrongFalsely : Prop := townPlaysRow.holds Tryz.pinned (OpenSpec.ofChange townPlaysWrong)

/-- 'reedtop.TopAll': WHATEVER THE INPUT: true; the input reads as it did. -/
def topAllSpec : ChangeSpec := { name := "topAll", fn := fun _ => fun
  | [d1, d2] => { results := [.lit (.bool true)], args := [d1, d2] }
  | _ => none }
def topAllRow : OpenClaim := { program := "ytngbfdogiciahaagreat", sum := "097b84a3febc117f09d478299d95c809cae9e79807205ccb3a3c692f2edddbea", func := "reedmace/reedtop.TopAll", spec := "topAll", inPlace := ["internal/bytealg.abigen_runtime_cmpstring", "slices.overlaps[reedmace/api.Version]"], unfollowed := true, recurses := true, apart := false }
def TopAllSaid : Prop := topAllRow.holds Tryz.pinned (OpenSpec.ofChange topAllSpec)

/-- ITS FALSE NEIGHBOUR: 'it returns false'. Refute it at one input. -/
def topAllWrong : ChangeSpec := { name := "topAll", fn := fun _ => fun
  | [d1, d2] => { results := [.lit (.bool false)], args := [d1, d2] }
  | _ => none }
def TopAllWrongFalsely : Prop := topAllRow.holds Tryz.pinned (OpenSpec.ofChange topAllWrong)

/- THE SECOND FORM. 'bulk': how many values and letters a reading holds, each counted each time it is reached (what is shared counts as often as it is met; a slice's spare places count too). A statement '..UptoSaid' is the law's where the arguments, and the package variables that the reading takes, are together of bulk at most 1048576: NARROWER than '..Said'. Prove '..Said' where nothing that the law and all that it calls make is longer than what came in: it says more and counts as full. Else prove '..UptoSaid'. A law counts once. -/
mutual
def uptoBulk {H : Type} : DataW H → Nat
  | .lit (.string bytes) => bytes.length + 1
  | .lit _ => 1
  | .nil => 1
  | .ptr d => uptoBulk d + 1
  | .slice elems spare => uptoBulkAll elems + uptoBulkAll spare + 1
  | .agg parts => uptoBulkAll parts + 1
  | .iface _ d => uptoBulk d + 1
  | .map entries => uptoBulkEntries entries + 1
  | .held _ => 1
def uptoBulkAll {H : Type} : List (DataW H) → Nat
  | [] => 0
  | d :: r => uptoBulk d + uptoBulkAll r
def uptoBulkEntries {H : Type} : List (Lit × DataW H) → Nat
  | [] => 0
  | x :: r => uptoBulkEntry x + uptoBulkEntries r
def uptoBulkEntry {H : Type} : Lit × DataW H → Nat
  | (.string bytes, d) => bytes.length + uptoBulk d + 1
  | (_, d) => uptoBulk d + 1
 end
def uptoSmall : (H : Type) → List (DataW H) → Bool := fun _ ds => decide (uptoBulkAll ds ≤ 1048576)
def OpenSpec.upto (s : _root_.Go.ChangeSpec) : _root_.Go.OpenSpec := { _root_.Go.OpenSpec.ofChange s with cond := some uptoSmall }

/-- 'reedtop.TopLetters', WHERE WHAT IT READS IS OF BULK AT MOST 1048576: true; the input reads as it did. -/
def topLettersUptoRow : OpenClaim := { program := "ytngbfdogiciahaagreat", sum := "097b84a3febc117f09d478299d95c809cae9e79807205ccb3a3c692f2edddbea", func := "reedmace/reedtop.TopLetters", spec := "topLetters", inPlace := ["internal/bytealg.abigen_runtime_cmpstring", "slices.overlaps[reedmace/api.Version]"], unfollowed := true, recurses := true, apart := false, narrowed := true }
def TopLettersUptoSaid : Prop := topLettersUptoRow.holds Tryz.pinned (OpenSpec.upto topLettersSpec)

/-- 'reedtop.TopRing', WHERE WHAT IT READS IS OF BULK AT MOST 1048576: true; the input reads as it did. -/
def topRingUptoRow : OpenClaim := { program := "ytngbfdogiciahaagreat", sum := "097b84a3febc117f09d478299d95c809cae9e79807205ccb3a3c692f2edddbea", func := "reedmace/reedtop.TopRing", spec := "topRing", inPlace := ["internal/bytealg.abigen_runtime_cmpstring", "slices.overlaps[reedmace/api.Version]"], unfollowed := true, recurses := true, apart := false, narrowed := true }
def TopRingUptoSaid : Prop := topRingUptoRow.holds Tryz.pinned (OpenSpec.upto topRingSpec)

/-- 'reedlaw.SitePlays', WHERE WHAT IT READS IS OF BULK AT MOST 1048576: true; the input reads as it did. -/
def sitePlaysUptoRow : OpenClaim := { program := "ytngbfdogiciahaagreat", sum := "097b84a3febc117f09d478299d95c809cae9e79807205ccb3a3c692f2edddbea", func := "reedmace/reedlaw.SitePlays", spec := "sitePlays", inPlace := ["internal/bytealg.abigen_runtime_cmpstring", "slices.overlaps[reedmace/api.Version]", "internal/reflectlite.ValueOf", "internal/reflectlite.Swapper", "(internal/reflectlite.Value).Len"], unfollowed := true, recurses := true, apart := false, narrowed := true }
def SitePlaysUptoSaid : Prop := sitePlaysUptoRow.holds Tryz.pinned (OpenSpec.upto sitePlaysSpec)

/-- 'reedlaw.TownPlays', WHERE WHAT IT READS IS OF BULK AT MOST 1048576: true; the input reads as it did. -/
def townPlaysUptoRow : OpenClaim := { program := "ytngbfdogiciahaagreat", sum := "097b84a3febc117f09d478299d95c809cae9e79807205ccb3a3c692f2edddbea", func := "reedmace/reedlaw.TownPlays", spec := "townPlays", inPlace := ["internal/bytealg.abigen_runtime_cmpstring", "slices.overlaps[reedmace/api.Version]", "internal/reflectlite.ValueOf", "internal/reflectlite.Swapper", "(internal/reflectlite.Value).Len"], unfollowed := true, recurses := true, apart := false, narrowed := true }
def TownPlaysUptoSaid : Prop := townPlaysUptoRow.holds Tryz.pinned (OpenSpec.upto townPlaysSpec)

/-- 'reedtop.TopAll', WHERE WHAT IT READS IS OF BULK AT MOST 1048576: true; the input reads as it did. -/
def topAllUptoRow : OpenClaim := { program := "ytngbfdogiciahaagreat", sum := "097b84a3febc117f09d478299d95c809cae9e79807205ccb3a3c692f2edddbea", func := "reedmace/reedtop.TopAll", spec := "topAll", inPlace := ["internal/bytealg.abigen_runtime_cmpstring", "slices.overlaps[reedmace/api.Version]"], unfollowed := true, recurses := true, apart := false, narrowed := true }
def TopAllUptoSaid : Prop := topAllUptoRow.holds Tryz.pinned (OpenSpec.upto topAllSpec)

end Rows
end Go.Proofs.YtngbfdogiciahaaGreat
