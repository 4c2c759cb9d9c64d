/- Where the bodies of slices.SortFunc at dots lie in this program: what the shelf's contracts ask. No walk. -/
import Derived.Shelf.SlLaysF0
import Derived.Test.YtmedmfjhpabfdaaProg
namespace Go.Proofs.Ytmedmfjhpabfdaa
open Go Go.Shelf

def sortD_ren : Go.Shelf.Ren := ⟨fun | 6 => 138 | 15 => 174 | 14 => 173 | 28 => 200 | 29 => 201 | 20 => 192 | 21 => 193 | 22 => 194 | 23 => 195 | 24 => 196 | 25 => 197 | 26 => 198 | 27 => 199 | 46 => 208 | 47 => 209 | 48 => 210 | 49 => 211 | 50 => 212 | 57 => 214 | n => n, fun | 22 => 42 | 24 => 38 | 25 => 172 | 3 => 3 | 39 => 111 | 0 => 0 | 53 => 201 | 55 => 80 | 4 => 4 | 46 => 234 | 45 => 233 | 50 => 127 | 5 => 5 | 9 => 9 | 66 => 245 | 70 => 249 | 76 => 251 | 77 => 252 | n => n, fun | n => n⟩
theorem sortD : SlLaysF0.n6 Try.prog sortD_ren where
  mixed := by kernel_rfl
  f6 := ⟨ "slices.SortFunc[[]reedmace/api.Dot,reedmace/api.Dot]", by decide, Try.func138.trans (congrArg some (by kernel_rfl))⟩
  f14 := ⟨ "slices.pdqsortCmpFunc[reedmace/api.Dot]", by decide, Try.func173.trans (congrArg some (by kernel_rfl))⟩
  f15 := Try.func174.trans (congrArg some (by kernel_rfl))
  f20 := ⟨ "slices.insertionSortCmpFunc[reedmace/api.Dot]", by decide, Try.func192.trans (congrArg some (by kernel_rfl))⟩
  f21 := ⟨ "slices.heapSortCmpFunc[reedmace/api.Dot]", by decide, Try.func193.trans (congrArg some (by kernel_rfl))⟩
  f22 := ⟨ "slices.breakPatternsCmpFunc[reedmace/api.Dot]", by decide, Try.func194.trans (congrArg some (by kernel_rfl))⟩
  f23 := ⟨ "slices.choosePivotCmpFunc[reedmace/api.Dot]", by decide, Try.func195.trans (congrArg some (by kernel_rfl))⟩
  f24 := ⟨ "slices.reverseRangeCmpFunc[reedmace/api.Dot]", by decide, Try.func196.trans (congrArg some (by kernel_rfl))⟩
  f25 := ⟨ "slices.partialInsertionSortCmpFunc[reedmace/api.Dot]", by decide, Try.func197.trans (congrArg some (by kernel_rfl))⟩
  f26 := ⟨ "slices.partitionEqualCmpFunc[reedmace/api.Dot]", by decide, Try.func198.trans (congrArg some (by kernel_rfl))⟩
  f27 := ⟨ "slices.partitionCmpFunc[reedmace/api.Dot]", by decide, Try.func199.trans (congrArg some (by kernel_rfl))⟩
  f28 := Try.func200.trans (congrArg some (by kernel_rfl))
  f29 := Try.func201.trans (congrArg some (by kernel_rfl))
  f46 := ⟨ "slices.siftDownCmpFunc[reedmace/api.Dot]", by decide, Try.func208.trans (congrArg some (by kernel_rfl))⟩
  f47 := Try.func209.trans (congrArg some (by kernel_rfl))
  f48 := Try.func210.trans (congrArg some (by kernel_rfl))
  f49 := ⟨ "slices.medianAdjacentCmpFunc[reedmace/api.Dot]", by decide, Try.func211.trans (congrArg some (by kernel_rfl))⟩
  f50 := ⟨ "slices.medianCmpFunc[reedmace/api.Dot]", by decide, Try.func212.trans (congrArg some (by kernel_rfl))⟩
  f57 := ⟨ "slices.order2CmpFunc[reedmace/api.Dot]", by decide, Try.func214.trans (congrArg some (by kernel_rfl))⟩
  t0 := Try.underlying0
  a0 := Try.isAgg0
  z0 := Try.sizeOf0
  v0 := Try.zeroValue0
  t3 := Try.underlying3
  a3 := Try.isAgg3
  z3 := Try.sizeOf3
  v3 := Try.zeroValue3
  t4 := Try.underlying4
  a4 := Try.isAgg4
  z4 := Try.sizeOf4
  v4 := Try.zeroValue4
  t5 := Try.underlying5
  a5 := Try.isAgg5
  z5 := Try.sizeOf5
  v5 := Try.zeroValue5
  t9 := Try.underlying9
  a9 := Try.isAgg9
  z9 := Try.sizeOf9
  v9 := Try.zeroValue9
  t22 := Try.underlying42
  a22 := Try.isAgg42
  z22 := Try.sizeOf42
  v22 := Try.zeroValue42
  t25 := Try.underlying172
  a25 := Try.isAgg172
  z25 := Try.sizeOf172
  v25 := Try.zeroValue172
  t39 := Try.underlying111
  a39 := Try.isAgg111
  z39 := Try.sizeOf111
  v39 := Try.zeroValue111
  t45 := Try.underlying233
  a45 := Try.isAgg233
  z45 := Try.sizeOf233
  v45 := Try.zeroValue233
  t46 := Try.underlying234
  a46 := Try.isAgg234
  z46 := Try.sizeOf234
  v46 := Try.zeroValue234
  t50 := Try.underlying127
  a50 := Try.isAgg127
  z50 := Try.sizeOf127
  v50 := Try.zeroValue127
  t53 := Try.underlying201
  a53 := Try.isAgg201
  z53 := Try.sizeOf201
  v53 := Try.zeroValue201
  t55 := Try.underlying80
  a55 := Try.isAgg80
  z55 := Try.sizeOf80
  v55 := Try.zeroValue80
  t66 := Try.underlying245
  a66 := Try.isAgg245
  z66 := Try.sizeOf245
  v66 := Try.zeroValue245
  t70 := Try.underlying249
  a70 := Try.isAgg249
  z70 := Try.sizeOf249
  v70 := Try.zeroValue249
  t76 := Try.underlying251
  a76 := Try.isAgg251
  z76 := Try.sizeOf251
  v76 := Try.zeroValue251
  t77 := Try.underlying252
  a77 := Try.isAgg252
  z77 := Try.sizeOf252
  v77 := Try.zeroValue252

end Go.Proofs.Ytmedmfjhpabfdaa
