/- The walk of sort.SliceStable at versions. -/
import Derived.Test.YtmedmfjhpabfdaaSrtS
import Derived.Test.YtmedmfjhpabfdaaSrtO
import Derived.Test.YtmedmfjhpabfdaaShelfD
import Derived.Lib.ReflectliteSlice
import Derived.Lib.ReflectliteSwap
namespace Go.Proofs.Ytmedmfjhpabfdaa
open Go Go.RowKit

noncomputable def tVers : TypeInfo := (Try.prog.info? 22).get (by kernel_rfl)
noncomputable def tVer : TypeInfo := (Try.prog.info? 46).get (by kernel_rfl)
theorem info_vers : Try.prog.info? 22 = some tVers := by kernel_rfl
theorem desc_vers : tVers.desc = .slice 46 := by kernel_rfl
theorem info_ver : Try.prog.info? 46 = some tVer := by kernel_rfl
theorem size_ver : tVer.size = 8 := by kernel_rfl
theorem kind_ver (w : World) : (Extern.Rtype.kind 46).run Try.prog w = .ok 25 w := by kernel_rfl
theorem agg_ver (w : World) : (isAgg 46).run Try.prog w = .ok true w := by kernel_rfl
theorem swapper_many (n : Nat) (h2 : 2 ≤ n) : Lib.swapperK n tVer 25 = 9 := by
  have a : tVer.hasPointers = true := by kernel_rfl
  have b : tVer.bytes = 104 := by kernel_rfl
  have c : (n == 0) = false := by simp; omega
  have d : (n == 1) = false := by simp; omega
  simp [Lib.swapperK, a, b, c, d]
theorem swapper_one : Lib.swapperK 1 tVer 25 = 2 := by simp [Lib.swapperK]

section
variable {lt : Version → Version → Bool} {g sf : FuncId} {lb sb : Array Value} {St : List Version → World → Prop}
set_option maxRecDepth 100000 in
set_option maxHeartbeats 1000000 in
theorem slice_stable (K : Srtr lt g sf lb sb St) (O : Ord lt) (A : Option Addr) (c : Nat) (l : List Version) (w : World) (hl : l.length ≤ 1000) (h : St l w)
    (hsf : ∀ w, (Extern.ReflectliteSwapper.swapper "internal/reflectlite" (Extern.ReflectliteValue.valueError "Swapper") #[.iface 22 (.slice A l.length c)]).run Try.prog w = .ok (.func (.func sf) #[] sb) w) :
    Calls Try.prog 84 #[.iface 22 (.slice A l.length c), .func (.func g) #[] lb] w fun e w' => e = .returned (.tuple #[]) ∧ ∃ m, m.Perm l ∧ Srt lt m ∧ St m w' := by
  have hv := Lib.run_valueOf_slice (P := Try.prog) 22 46 tVers info_vers desc_vers A l.length c w
  have hlen := fun a w ha => Lib.run_valueLen_slice (P := Try.prog) 22 46 tVers info_vers desc_vers (by kernel_rfl) a A l.length c w ha
  simp only [typeHandle] at hv hlen
  first
    | simp only [show Try.prog.globals.size = 1 from by kernel_rfl] at hv hlen
    | simp only [show Try.prog.globals.size = 0 from by kernel_rfl] at hv hlen
    | simp only [show Try.prog.globals.size = 2 from by kernel_rfl] at hv hlen
    | simp only [show Try.prog.globals.size = 3 from by kernel_rfl] at hv hlen
    | simp only [show Try.prog.globals.size = 4 from by kernel_rfl] at hv hlen
    | simp only [show Try.prog.globals.size = 5 from by kernel_rfl] at hv hlen
    | simp only [show Try.prog.globals.size = 6 from by kernel_rfl] at hv hlen
  have HL := hid hl
  have HH := hid h
  clear hl h
  go_enter Try.func84, Try.ntmps84
  go_wp2_with fail
  rw [run_callFunc_extern Try.func133 (by kernel_rfl) (by kernel_rfl) (by kernel_rfl) (e := fun args => Extern.ReflectliteValue.unpack (args.getD 0 (.tuple #[]))) (by kernel_rfl),
    show Sem.run Try.prog ((fun args : Array Value => Extern.ReflectliteValue.unpack (args.getD 0 (.tuple #[]))) #[.iface 22 (.slice A l.length c)]) w = _ from hv]
  simp only [Result.andThen]
  rw [Oper.upon_value]
  go_wp2_with fail
  rw [run_callFunc_extern Try.func134 (by kernel_rfl) (by kernel_rfl) (by kernel_rfl) (e := Extern.ReflectliteSwapper.swapper "internal/reflectlite" (Extern.ReflectliteValue.valueError "Swapper")) (by kernel_rfl), hsf]
  simp only [Result.andThen]
  rw [Oper.upon_value]
  go_wp2_with fail
  rw [run_callFunc_extern Try.func136 (by kernel_rfl) (by kernel_rfl) (by kernel_rfl) (e := Extern.ReflectliteValue.method (Extern.ReflectliteValue.valueError "reflectlite.Value.Len" 0) Extern.ReflectliteValue.len) (by kernel_rfl),
    hlen _ _ (by simp)]
  simp only [Result.andThen]
  rw [Oper.upon_value]
  go_wp2_with fail
  refine (stable K O l _ (l.length : Int) rfl HL.out (K.ext _ _ _ HH.out (((Ext.refl w).alloc _).alloc _))).mono ?_
  rintro e w' ⟨rfl, m, hm1, hm2, hm3, _⟩
  go_wp2_with fail
  go_end0
  exact ⟨rfl, m, hm1, hm2, hm3⟩
end
end Go.Proofs.Ytmedmfjhpabfdaa
