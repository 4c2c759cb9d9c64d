/- The walks of slices.IndexFunc, ContainsFunc, DeleteFunc, Clone at versions. -/
import Derived.Test.YtmedmfjhpabfdaaShelfD
import Derived.Test.YtmedmfjhpabfdaaBase
import Derived.Test.YtmedmfjhpabfdaaKnT
namespace Go.Proofs.Ytmedmfjhpabfdaa
open Go Go.RowKit

theorem ei_ver : ElemInfo Try.prog 22 46 8 104 := ElemInfo.mk_ (z := .agg #[.string ⟨#[]⟩, .int .i64 0, .int .i64 0, .int .i64 0, .int .i64 0, .int .i64 0, .slice none 0 0, .slice none 0 0]) Try.underlying22 (by kernel_rfl) rfl (by decide)
end Go.Proofs.Ytmedmfjhpabfdaa
