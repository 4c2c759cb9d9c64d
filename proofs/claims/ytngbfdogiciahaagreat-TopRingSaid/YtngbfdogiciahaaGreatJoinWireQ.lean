/- Several texts in one: data, readings, plain laws, walks. No condition. -/
import Derived.Test.YtngbfdogiciahaaGreatJoinKnZ
import Derived.Lib.AppendStr
import Derived.Test.YtngbfdogiciahaaGreatJoinSiteP
import Derived.Test.YtngbfdogiciahaaGreatJoinKnT
import Derived.Laws.BytesString
namespace Go.Proofs.YtngbfdogiciahaaGreat
open Go Go.RowKit
def three (n : Int) : List UInt8 := [UInt8.ofNat (n.toNat / 65536), UInt8.ofNat (n.toNat / 256), UInt8.ofNat n.toNat]
theorem three_len (n : Int) : (three n).length = 3 := rfl
def bstr (l : List UInt8) : ByteArray := ⟨l.toArray⟩
theorem bstr_size (l : List UInt8) : (bstr l).size = l.length := by simp [bstr, ByteArray.size]
theorem bstr_list (s : ByteArray) : bstr s.data.toList = s := by
 obtain ⟨x⟩ := s
 simp [bstr]
theorem bstr_data (l : List UInt8) : (bstr l).data.toList = l := by simp [bstr]
def nums (l : List Int) : List UInt8 := l.flatMap three
theorem nums_len (l : List Int) : (nums l).length = 3 * l.length := by
 induction l with
 | nil => rfl
 | cons a r ih => simp only [nums, List.flatMap_cons, List.length_append, three_len, List.length_cons] at ih ⊢; omega
theorem nums_cons (n : Int) (l : List Int) : nums (n :: l) = three n ++ nums l := rfl
theorem nums_append (a b : List Int) : nums (a ++ b) = nums a ++ nums b := by simp [nums]
theorem nums_take (l : List Int) (k : Nat) (hk : k < l.length) : nums (l.take (k + 1)) = nums (l.take k) ++ three l[k] := by
 rw [List.take_succ_eq_append_getElem hk, nums_append]
 simp [nums]
def dotsB (l : List Dot) : List UInt8 := l.flatMap fun d => nums [d.site, d.count]
def knowB (k : Know) : List UInt8 := three k.vec.length ++ nums k.vec ++ three k.more.length ++ dotsB k.more
def textB (s : ByteArray) : List UInt8 := three s.size ++ s.data.toList
def verB (v : Version) : List UInt8 := textB v.id ++ nums [v.dot.site, v.dot.count, v.pt.tags, v.pt.num, v.body] ++ knowB v.past
def goneB (g : Gone) : List UInt8 := textB g.id ++ knowB g.past
def spansB (l : List Span) : List UInt8 := l.flatMap fun s => nums [s.fr, s.to]
def boxB (b : Box) : List UInt8 := nums [b.cube.yes, b.cube.no, (b.spans.length : Int)] ++ spansB b.spans
def boxesB (l : List Box) : List UInt8 := l.flatMap boxB
def partB (p : Part) : List UInt8 := three p.filter.length ++ boxesB p.filter ++ knowB p.know
def bodyB (b : Batch) : List UInt8 := nums [b.site, b.stamp, (b.vers.length : Int)] ++ b.vers.flatMap verB ++ three b.gone.length ++ b.gone.flatMap goneB ++ three b.parts.length ++ b.parts.flatMap partB
def sumN (l : List UInt8) : Nat → Nat
 | 0 => 0
 | k + 1 => sumN l k + (k + 1) * (l.getD k 0).toNat
def sumB (l : List UInt8) : Int := ((sumN l l.length % 65521 : Nat) : Int)
def packB (b : Batch) : List UInt8 := bodyB b ++ three (sumB (bodyB b))
theorem flat_take {α : Type} (f : α → List UInt8) (l : List α) (k : Nat) (hk : k < l.length) : (l.take (k + 1)).flatMap f = (l.take k).flatMap f ++ f l[k] := by
 rw [List.take_succ_eq_append_getElem hk, List.flatMap_append]
 simp
theorem flat_len {α : Type} (f : α → List UInt8) (m : Nat) : ∀ l : List α, (∀ x ∈ l, (f x).length ≤ m) → (l.flatMap f).length ≤ m * l.length
 | [], _ => by simp
 | x :: r, h => by
  have h1 := h x (by simp)
  have h2 := flat_len f m r fun y hy => h y (by simp [hy])
  rw [List.flatMap_cons, List.length_append, List.length_cons, Nat.mul_succ]
  omega
theorem dotsB_len (l : List Dot) : (dotsB l).length ≤ 6 * l.length := flat_len _ 6 l fun _ _ => by rw [nums_len]; simp
theorem spansB_len (l : List Span) : (spansB l).length ≤ 6 * l.length := flat_len _ 6 l fun _ _ => by rw [nums_len]; simp
theorem knowB_len {k : Know} (h : KnowOk k) : (knowB k).length ≤ 400 := by
 have h1 := h.vlen
 have h2 := h.mlen
 have h3 := dotsB_len k.more
 simp only [knowB, List.length_append, three_len, nums_len]
 omega
theorem textB_len {s : ByteArray} (h : idOk s = true) : (textB s).length ≤ 11 ∧ s.size ≤ 8 := by
 simp only [idOk, Bool.and_eq_true, decide_eq_true_eq] at h
 have h1 := h.1.2
 refine ⟨?_, h1⟩
 rw [textB, List.length_append, three_len, Array.length_toList]
 have : s.data.size = s.size := rfl
 omega
theorem verB_len {v : Version} (h : VerOk v) : (verB v).length ≤ 430 := by
 have h1 := (textB_len h.id).1
 have h2 := knowB_len h.k
 simp only [verB, List.length_append, nums_len, List.length_cons, List.length_nil]
 omega
theorem goneB_len {g : Gone} (h : GoneOk g) : (goneB g).length ≤ 430 := by
 have h1 := (textB_len h.id).1
 have h2 := knowB_len h.k
 simp only [goneB, List.length_append]
 omega
theorem box_nums {b : Box} (h : BoxOk b) : (0 ≤ b.cube.yes ∧ b.cube.yes ≤ 15) ∧ (0 ≤ b.cube.no ∧ b.cube.no ≤ 15) ∧ b.spans.length ≤ 16 ∧ ∀ s ∈ b.spans, (0 ≤ s.fr ∧ s.fr ≤ 32) ∧ (0 ≤ s.to ∧ s.to ≤ 32) := by
 obtain ⟨h1, h2⟩ := h
 have hc : tagsOk b.cube.yes = true ∧ tagsOk b.cube.no = true := by
  unfold cubeCheck at h1
  by_cases hc : tagsOk b.cube.yes = true ∧ tagsOk b.cube.no = true
  ·exact hc
  ·rw [if_neg hc] at h1; cases h1
 obtain ⟨c1, c2⟩ := hc
 unfold tagsOk at c1 c2
 have hl : b.spans.length ≤ 16 := by
  unfold spanCheck at h2
  by_cases hl : 16 < b.spans.length
  ·rw [if_pos hl] at h2; cases h2
  ·omega
 refine ⟨of_decide_eq_true c1, of_decide_eq_true c2, hl, fun s hs => ?_⟩
 have := (spanCheck_ok h2).1 s hs
 omega
theorem boxB_len {b : Box} (h : BoxOk b) : (boxB b).length ≤ 105 := by
 have h1 := (box_nums h).2.2.1
 have h2 := spansB_len b.spans
 simp only [boxB, List.length_append, nums_len, List.length_cons, List.length_nil]
 omega
theorem boxesB_len {l : List Box} (h : ∀ b ∈ l, BoxOk b) : (boxesB l).length ≤ 105 * l.length := flat_len _ 105 l fun b hb => boxB_len (h b hb)
theorem partB_len {p : Part} (h : PartOk p) : (partB p).length ≤ 4603 := by
 obtain ⟨h1, h2⟩ := filterCheck_ok h.f
 have h3 := boxesB_len h2
 have h4 := knowB_len h.k
 simp only [partB, List.length_append, three_len]
 omega
theorem take_len {α : Type} (f : α → List UInt8) (m : Nat) (l : List α) (h : ∀ x ∈ l, (f x).length ≤ m) (k : Nat) : ((l.take k).flatMap f).length ≤ m * l.length := by
 have h1 := flat_len f m (l.take k) fun x hx => h x (List.mem_of_mem_take hx)
 have h2 : (l.take k).length ≤ l.length := by rw [List.length_take]; omega
 exact Nat.le_trans h1 (Nat.mul_le_mul_left m h2)
end Go.Proofs.YtngbfdogiciahaaGreat
namespace Go.Proofs.YtngbfdogiciahaaGreat
open Go Go.RowKit
def byteV (b : UInt8) : Value := .int .u8 b.toNat
def RByte (_ : World) (cs : List Value) (b : UInt8) : Prop := cs = [byteV b]
theorem RByte.mono {B : Nat} {ts : List TypeId} : Mono B ts RByte := fun _ _ _ _ _ h => h
theorem RByte.oneC : OneC RByte := by
 rintro w cs b rfl u hu
 simp at hu
 subst hu; rfl
abbrev OwnB (w : World) (base : Nat) (v : Value) (l : List UInt8) : Prop := Own RByte 1 5 w base v l
theorem ei_byte : ElemInfo Tryz.prog 211 5 1 1 := ElemInfo.mk_ (z := .int .u8 0) Tryz.underlying211 (by kernel_rfl) rfl (by decide)
theorem OwnB.flat {xs : List (List Value)} {l : List UInt8} (hl : xs.length = l.length) (h : ∀ (i : Nat) (cs : List Value) (x : UInt8), xs[i]? = some cs → l[i]? = some x → cs.length = 1 ∧ cs = [byteV x]) : xs.flatten = l.map byteV := by
 induction xs generalizing l with
 | nil =>
  obtain rfl : l = [] := List.eq_nil_of_length_eq_zero hl.symm
  rfl
 | cons y ys ih =>
  match l, hl with
  | x :: r, hl =>
   have h0 := (h 0 y x rfl rfl).2
   subst h0
   rw [List.flatten_cons, ih (l := r) (by simpa using hl) (fun i cs z h1 h2 => h (i + 1) cs z (by simpa using h1) (by simpa using h2))]
   rfl
theorem OwnB.row {w : World} {base : Nat} {v : Value} {l : List UInt8} (h : OwnB w base v l) : w.ownsRow base 5 1 v l.length (l.map byteV) := by
 obtain ⟨xs, hl, hR, ho⟩ := h
 rwa [OwnB.flat hl hR] at ho
theorem OwnB.of_row {w : World} {base : Nat} {v : Value} {l : List UInt8} (h : w.ownsRow base 5 1 v l.length (l.map byteV)) : OwnB w base v l := by
 refine ⟨l.map fun b => [byteV b], by simp, ?_, ?_⟩
 ·intro i cs x h1 h2
  rw [List.getElem?_map, h2] at h1
  simp at h1
  subst h1
  exact ⟨rfl, rfl⟩
 ·have e : (l.map fun b => [byteV b]).flatten = l.map byteV := by
   clear h
   induction l with
   | nil => rfl
   | cons a r ih => simp only [List.map_cons, List.flatten_cons, ih]; rfl
  rw [e]; exact h
theorem wpList_appS {base B : Nat} {w : World} {v : Value} {l : List UInt8} {ops : Array Oper} {rest : List Oper} {o : Oper} {a : Act} {Q : Exit → Act → World → Prop} (hgd : o.guard = none) (s x : Operand)
  (ho : o.op = .call { callee := .builtin .append, args := #[s, x], argTypes := #[211, 9] })
  (hs : a.eval s = v) (hown : OwnB w base v l) (hB : B ≤ base) (hb : base ≤ w.heap.size) {st : ByteArray} (hx : a.eval x = .string st)
  (hby : l.length + st.size ≤ 140737488355328)
  (h : ∀ v' w', OwnB w' base v' (l ++ st.data.toList) → Chg B [5] w w' → Below base w w' → wpList Tryz.prog ops Q rest (a.put o.dst v') w') : wpList Tryz.prog ops Q (o :: rest) a w := by
 refine wpList_plain hgd fun K hK => ?_
 have ei := ei_byte
 obtain ⟨i, z, ht, hi, hz0, hs0, hby0, hzs, _⟩ := ei
 have hz' : (Tryz.prog.info? 5).bind (·.zero) = some (.int .u8 0) := by kernel_rfl
 rw [hi, Option.bind_some] at hz'
 obtain ⟨v', w', hr, h2, h3, _⟩ := Lib.run_append_own_string (P := Tryz.prog) w base 211 9 o.type 5 i ht Tryz.underlying9 hi hz' hs0 hby0 v l.length (l.map byteV) hown.row st (by unfold maxLen; omega) hby hb
 have hc : Chg B [5] w w' := hown.chg_of hB h3
 unfold Oper.wp execOp
 simp only [ho, resolve, invoke, builtin, Sem.run_bind, Sem.run_pure, Result.andThen_ok, List.map_toArray, List.map_cons, List.map_nil, hs, hx, hr]
 refine hK _ _ (h _ _ (OwnB.of_row ?_) hc (hown.below_of h3 hb))
 rw [List.length_append, List.map_append, Array.length_toList]
 exact h2
theorem foldl_push (l : List UInt8) (acc : List UInt8) : ((l.map fun b => ((b.toNat : Nat) : Int)).foldl (fun r n => r.push (UInt8.ofNat n.toNat)) (bstr acc)) = bstr (acc ++ l) := by
 induction l generalizing acc with
 | nil => simp
 | cons b r ih =>
  rw [List.map_cons, List.foldl_cons]
  have e : (bstr acc).push (UInt8.ofNat ((b.toNat : Int)).toNat) = bstr (acc ++ [b]) := by
   apply ByteArray.ext
   simp [bstr]
  rw [e, ih]
  simp
theorem run_bytes_string {w : World} {base : Nat} {v : Value} {l : List UInt8} (h : OwnB w base v l) : (convert 211 9 v).run Tryz.prog w = .ok (.string (bstr l)) w := by
 rcases h.at_ with ⟨rfl, rfl⟩ | ⟨g, c, rfl, _, _, _, _, hc⟩
 ·rw [run_convert_bytes_string w _ _ 5 none 0 0 Tryz.underlying211 Tryz.underlying5 Tryz.underlying9]
  rfl
 ·rw [run_convert_bytes_string w _ _ 5 _ _ _ Tryz.underlying211 Tryz.underlying5 Tryz.underlying9]
  have hcell : ∀ j u, (l.map byteV)[j]? = some u → w.cell? ((⟨g, 0, none⟩ : Addr).add j) = some u := by
   intro j u hj
   rw [List.getElem?_map] at hj
   obtain ⟨x, hx, rfl⟩ := Option.map_eq_some_iff.1 hj
   obtain ⟨cs, _, h1, rfl⟩ := hc j x hx
   have := h1 0 _ rfl
   simp only [Nat.mul_one, Nat.add_zero] at this
   unfold Addr.add
   split
   ·subst_vars; exact this
   ·rw [Nat.zero_add]; exact this
  have hl : (loadCells (⟨g, 0, none⟩ : Addr) l.length).run Tryz.prog w = .ok ((l.map fun b => ((b.toNat : Nat) : Int)).map (Value.int .u8)).toArray w := by
   have := run_loadCells_list (P := Tryz.prog) (w := w) ⟨g, 0, none⟩ (l.map byteV) hcell
   rw [List.length_map] at this
   rw [this, List.map_map]
   rfl
  rw [run_bytesToString w _ _ _ _ hl]
  have := foldl_push l []
  rw [List.nil_append] at this
  rw [← this]
  rfl
end Go.Proofs.YtngbfdogiciahaaGreat
namespace Go.Proofs.YtngbfdogiciahaaGreat
open Go Go.RowKit
theorem byteV_ofNat (x : Nat) : byteV (UInt8.ofNat x) = .int .u8 ((x : Int) % 256) := by
 unfold byteV
 congr 1
theorem own_three (w : World) (base : Nat) (hb : base ≤ w.heap.size) (l : List UInt8) (cs : Array Value) (h : cs.toList = l.map byteV) (n : Nat) (hn : n = l.length) (hm : l.length ≤ maxLen) : OwnB (w.alloc (.cells cs 5)) base (.slice (some ⟨w.heap.size, 0, none⟩) n n) l := by
 subst hn
 have hs : cs.size = l.length * 1 := by rw [Nat.mul_one, ← List.length_map (f := byteV), ← h, Array.length_toList]
 have := World.ownsRow_lit (base := base) (e := 5) (size := 1) w cs l.length hb hm hs
 rw [h] at this
 exact OwnB.of_row this
theorem sum_step (l : List UInt8) (k : Nat) (hk : k ≤ 140737488355328) (x : Nat) (hx : (l.getD k 0).toNat = x) : (wrap64 (((sumN l k % 65521 : Nat) : Int) + wrap64 (((k : Int) + 1) * wrap64 (x : Int)))).tmod 65521 = ((sumN l (k + 1) % 65521 : Nat) : Int) := by
 have h1 : x < 256 := by rw [← hx]; exact UInt8.toNat_lt _
 have h2 : wrap64 (x : Int) = x := by unfold wrap64; omega
 have h3 : ((k : Int) + 1) * (x : Int) = (((k + 1) * x : Nat) : Int) := by push_cast; rfl
 have h4 : (k + 1) * x ≤ 140737488355329 * 255 := Nat.mul_le_mul (by omega) (by omega)
 have h5 : wrap64 (((k + 1) * x : Nat) : Int) = (((k + 1) * x : Nat) : Int) := by unfold wrap64; omega
 have h6 : sumN l k % 65521 < 65521 := Nat.mod_lt _ (by omega)
 have e : sumN l (k + 1) = sumN l k + (k + 1) * x := by rw [sumN, hx]
 rw [h2, h3, h5, e]
 generalize (k + 1) * x = y at h4
 generalize sumN l k = a at h6
 have h7 : wrap64 (((a % 65521 : Nat) : Int) + (y : Int)) = ((a % 65521 + y : Nat) : Int) := by unfold wrap64; omega
 rw [h7, show (65521 : Int) = ((65521 : Nat) : Int) from rfl, ← Int.ofNat_tmod, Nat.mod_add_mod]
set_option maxHeartbeats 400000 in
theorem wire_Sum (s : ByteArray) (hs : s.size ≤ 140737488355328) (w : World) :
  Calls Tryz.prog 129 #[.string s] w fun e w' => e = .returned (.int .i64 (sumB s.data.toList)) ∧ w' = w := by
 have hss : (s.size : Int) ≤ 140737488355328 := by omega
 have HS := hid (show s.data.toList.length = s.size from by rw [Array.length_toList]; rfl)
 go_enter Tryz.func129, Tryz.ntmps129
 go_wp2_with fail
 go_loopw [7, 3] (fun i n wr => ∃ (k : Nat) (m : Int), k ≤ s.size ∧ i = .int .i64 k ∧ n = .int .i64 m ∧ m = ((sumN s.data.toList k % 65521 : Nat) : Int) ∧ wr = w) (fun i _ _ => s.size - (intOf i).toNat)
 case atStart => exact ⟨0, 0, Nat.zero_le _, rfl, rfl, rfl, rfl⟩
 case round =>
  obtain ⟨k, m, hk, rfl, rfl, hm, rfl⟩ := hrel
  have HM := hid hm
  clear hm
  by_cases hlt : k < s.size
  ·go_wp2_with fail
   go_roundw
   case rel => exact ⟨k + 1, _, hlt, by go_num, rfl, by rw [HM.out]; exact sum_step _ k (by omega) _ (by rw [List.getD, List.getElem?_eq_getElem (by rw [HS.out]; exact hlt)]; rfl), trivial⟩
   case measure => simp [intOf]; omega
  ·obtain rfl : k = s.size := by omega
   go_wp2_with fail
   go_ret
   exact ⟨ret_int (by rw [HM.out, sumB, HS.out]), rfl⟩
end Go.Proofs.YtngbfdogiciahaaGreat
