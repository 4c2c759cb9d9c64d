/- Bytes in memory: rows of the call's own that grow by literals and strings. No program in sight but its table of types. -/
import Derived.Test.YtmedmfjhpabfdaaWireQ
import Derived.Test.YtmedmfjhpabfdaaWireD
import Derived.Test.YtmedmfjhpabfdaaKnT
import Derived.Lib.AppendStr
import Derived.Laws.BytesString
namespace Go.Proofs.Ytmedmfjhpabfdaa
open Go Go.RowKit

def byteV (b : UInt8) : Value := .int .u8 b.toNat
def RByte (_ : World) (cs : List Value) (b : UInt8) : Prop := cs = [byteV b]
theorem RByte.mono {B : Nat} {ts : List TypeId} : Mono B ts RByte := fun _ _ _ _ _ h => h
theorem RByte.oneC : OneC RByte := by
  rintro w cs b rfl u hu
  simp at hu
  subst hu; rfl
abbrev OwnB (w : World) (base : Nat) (v : Value) (l : List UInt8) : Prop := Own RByte 1 5 w base v l
theorem ei_byte : ElemInfo Try.prog 98 5 1 1 := ElemInfo.mk_ (z := .int .u8 0) Try.underlying98 (by kernel_rfl) rfl (by decide)
theorem OwnB.flat {xs : List (List Value)} {l : List UInt8} (hl : xs.length = l.length) (h : ∀ (i : Nat) (cs : List Value) (x : UInt8), xs[i]? = some cs → l[i]? = some x → cs.length = 1 ∧ cs = [byteV x]) : xs.flatten = l.map byteV := by
  induction xs generalizing l with
  | nil =>
    obtain rfl : l = [] := List.eq_nil_of_length_eq_zero hl.symm
    rfl
  | cons y ys ih =>
    match l, hl with
    | x :: r, hl =>
      have h0 := (h 0 y x rfl rfl).2
      subst h0
      rw [List.flatten_cons, ih (l := r) (by simpa using hl) (fun i cs z h1 h2 => h (i + 1) cs z (by simpa using h1) (by simpa using h2))]
      rfl
theorem OwnB.row {w : World} {base : Nat} {v : Value} {l : List UInt8} (h : OwnB w base v l) : w.ownsRow base 5 1 v l.length (l.map byteV) := by
  obtain ⟨xs, hl, hR, ho⟩ := h
  rwa [OwnB.flat hl hR] at ho
theorem OwnB.of_row {w : World} {base : Nat} {v : Value} {l : List UInt8} (h : w.ownsRow base 5 1 v l.length (l.map byteV)) : OwnB w base v l := by
  refine ⟨l.map fun b => [byteV b], by simp, ?_, ?_⟩
  · intro i cs x h1 h2
    rw [List.getElem?_map, h2] at h1
    simp at h1
    subst h1
    exact ⟨rfl, rfl⟩
  · have e : (l.map fun b => [byteV b]).flatten = l.map byteV := by
      clear h
      induction l with
      | nil => rfl
      | cons a r ih => simp only [List.map_cons, List.flatten_cons, ih]; rfl
    rw [e]; exact h
theorem wpList_appS {base B : Nat} {w : World} {v : Value} {l : List UInt8} {ops : Array Oper} {rest : List Oper} {o : Oper} {a : Act} {Q : Exit → Act → World → Prop} (hgd : o.guard = none) (s x : Operand)
    (ho : o.op = .call { callee := .builtin .append, args := #[s, x], argTypes := #[98, 9] })
    (hs : a.eval s = v) (hown : OwnB w base v l) (hB : B ≤ base) (hb : base ≤ w.heap.size) {st : ByteArray} (hx : a.eval x = .string st)
    (hby : l.length + st.size ≤ 140737488355328)
    (h : ∀ v' w', OwnB w' base v' (l ++ st.data.toList) → Chg B [5] w w' → Below base w w' → wpList Try.prog ops Q rest (a.put o.dst v') w') : wpList Try.prog ops Q (o :: rest) a w := by
  refine wpList_plain hgd fun K hK => ?_
  have ei := ei_byte
  obtain ⟨i, z, ht, hi, hz0, hs0, hby0, hzs, _⟩ := ei
  have hz' : (Try.prog.info? 5).bind (·.zero) = some (.int .u8 0) := by kernel_rfl
  rw [hi, Option.bind_some] at hz'
  obtain ⟨v', w', hr, h2, h3, _⟩ := Lib.run_append_own_string (P := Try.prog) w base 98 9 o.type 5 i ht Try.underlying9 hi hz' hs0 hby0 v l.length (l.map byteV) hown.row st (by unfold maxLen; omega) hby hb
  have hc : Chg B [5] w w' := hown.chg_of hB h3
  unfold Oper.wp execOp
  simp only [ho, resolve, invoke, builtin, Sem.run_bind, Sem.run_pure, Result.andThen_ok, List.map_toArray, List.map_cons, List.map_nil, hs, hx, hr]
  refine hK _ _ (h _ _ (OwnB.of_row ?_) hc (hown.below_of h3 hb))
  rw [List.length_append, List.map_append, Array.length_toList]
  exact h2
theorem foldl_push (l : List UInt8) (acc : List UInt8) : ((l.map fun b => ((b.toNat : Nat) : Int)).foldl (fun r n => r.push (UInt8.ofNat n.toNat)) (bstr acc)) = bstr (acc ++ l) := by
  induction l generalizing acc with
  | nil => simp
  | cons b r ih =>
    rw [List.map_cons, List.foldl_cons]
    have e : (bstr acc).push (UInt8.ofNat ((b.toNat : Int)).toNat) = bstr (acc ++ [b]) := by
      apply ByteArray.ext
      simp [bstr]
    rw [e, ih]
    simp
/-- bytes as a string. -/
theorem run_bytes_string {w : World} {base : Nat} {v : Value} {l : List UInt8} (h : OwnB w base v l) : (convert 98 9 v).run Try.prog w = .ok (.string (bstr l)) w := by
  rcases h.at_ with ⟨rfl, rfl⟩ | ⟨g, c, rfl, _, _, _, _, hc⟩
  · rw [run_convert_bytes_string w _ _ 5 none 0 0 Try.underlying98 Try.underlying5 Try.underlying9]
    rfl
  · rw [run_convert_bytes_string w _ _ 5 _ _ _ Try.underlying98 Try.underlying5 Try.underlying9]
    have hcell : ∀ j u, (l.map byteV)[j]? = some u → w.cell? ((⟨g, 0, none⟩ : Addr).add j) = some u := by
      intro j u hj
      rw [List.getElem?_map] at hj
      obtain ⟨x, hx, rfl⟩ := Option.map_eq_some_iff.1 hj
      obtain ⟨cs, _, h1, rfl⟩ := hc j x hx
      have := h1 0 _ rfl
      simp only [Nat.mul_one, Nat.add_zero] at this
      unfold Addr.add
      split
      · subst_vars; exact this
      · rw [Nat.zero_add]; exact this
    have hl : (loadCells (⟨g, 0, none⟩ : Addr) l.length).run Try.prog w = .ok ((l.map fun b => ((b.toNat : Nat) : Int)).map (Value.int .u8)).toArray w := by
      have := run_loadCells_list (P := Try.prog) (w := w) ⟨g, 0, none⟩ (l.map byteV) hcell
      rw [List.length_map] at this
      rw [this, List.map_map]
      rfl
    rw [run_bytesToString w _ _ _ _ hl]
    have := foldl_push l []
    rw [List.nil_append] at this
    rw [← this]
    rfl
end Go.Proofs.Ytmedmfjhpabfdaa
