/- Base: Rep, Data, SpanP, CubeP, FilP, FilQ, KnowP, Open, OpenP, Arr, FilD, KnD, Qext, QextV, KnL, KnowQ, EqA, OwnE, Agg, Row, Make, Step, EqM in one text: data, readings, plain laws, small walks. No condition. -/
import Derived.Test.YtngbfdogiciahaaGreatShort
import Derived.ChangeKeysEq
import Derived.ChangeOld
import Derived.ChangeSame
import Derived.Deep.Draws
import Derived.Deep.Fields
import Derived.Deep.MidRow
import Derived.Deep.QuietTactic
import Derived.Deep.RegionLaw
import Derived.Deep.Slices
import Derived.Deep.WholeRow
import Derived.Great.BuildSlice
import Derived.Laws.BitsAllLaws
import Derived.Laws.MakeOwn
import Derived.Laws.Tables
import Derived.Lib.AppendZeros
import Derived.Lib.SmallJoins
import Derived.Maps.AppendAt
import Derived.OpenShut
import Derived.ProofKit
import Derived.ShutString
import Derived.Test.YtngbfdogiciahaaGreatChecked
import Derived.Test.YtngbfdogiciahaaGreatProg
import Derived.WalkKit
set_option maxRecDepth 100000
set_option maxHeartbeats 40000000
namespace Go.Proofs.YtngbfdogiciahaaGreat
open Go Go.RowKit
theorem hid {p:Prop} (h:p):Hid p:=h
theorem qa7 {a b:Bool} (h:a=b):Ending.returned (.bool a)=.returned (.bool b):=by rw [h]
theorem qa8 {k:IntKind} {a b:Int} (h:a=b):Ending.returned (.int k a)=.returned (.int k b):=by rw [h]
theorem jez {α:Type} [DecidableEq α] (l:List α):((l.length:Int)==0)=decide (l=[]):=by
 cases l with
 | nil=>simp
 | cons a l=>simp;omega
def Ext (w w':World):Prop:=Below w.heap.size w w'
namespace Ext
variable {a b c w:World}
theorem refl (w:World):Ext w w:=Below.refl _ _
theorem size (h:Ext a b):a.heap.size≤b.heap.size:=Below.size h
theorem trans (h:Ext a b) (k:Ext b c):Ext a c:=Below.trans h (Below.mono k h.size)
theorem alloc (h:Ext a w) (o:Obj):Ext a (w.alloc o):=Below.alloc h h.size o
theorem drew (h:Ext a w):Ext a w.drew:=Below.drew h
theorem drewN (h:Ext a w) (n:Nat):Ext a (w.drewN n):=by
 obtain ⟨h1,h2,h3,h4,h5⟩:=h;exact ⟨h1,h2,h3,h4,h5⟩
theorem setCell (h:Ext a w) {p:Addr} (hp:a.heap.size≤p.block) (u:Value):Ext a (w.setCell p u):=Below.setCell h hp u
theorem below {B:Nat} (h:Ext a w) (k:Below B w b) (hB:a.heap.size≤B):Ext a b:=Below.trans h (Below.mono k hB)
theorem cellAt (h:Ext a w) {k o:Nat} (hb:k < a.heap.size):w.cell? ⟨k,o,none⟩=a.cell? ⟨k,o,none⟩:=Below.cell (p:=⟨k,o,none⟩) h hb
theorem cell (h:Ext a w) {p:Addr} {u:Value} (hc:a.cell? p=some u):w.cell? p=some u:=(Below.cell h (World.block_lt_of_cell? _ p hc)).trans hc
theorem frozenAt (h:Ext a w) {k o:Nat} (hb:k < a.heap.size):w.frozen? ⟨k,o,none⟩=a.frozen? ⟨k,o,none⟩:=Below.frozen (p:=⟨k,o,none⟩) h hb
theorem blockAt (h:Ext a w) {k:Nat} (hb:k < a.heap.size):w.heap[k]?=a.heap[k]?:=Below.block h k hb
theorem cells (h:Ext a w):∀ k o,k < a.heap.size→w.cell? ⟨k,o,none⟩=a.cell? ⟨k,o,none⟩:=fun _ _ hb=>h.cellAt hb
end Ext
def tyAt (w:World) (k:Nat):Option TypeId:=match w.heap[k]? with | some (.cells _ e _)=>some e | _=>none
theorem qep {w w':World} {k:Nat} (h:w'.heap[k]?=w.heap[k]?):tyAt w' k=tyAt w k:=by unfold tyAt;rw [h]
structure Chg (B:Nat) (ts:List TypeId) (w w':World):Prop where
 os:w'.os=w.os
 tape:w'.tape=w.tape
 output:w'.output=w.output
 size:w.heap.size≤w'.heap.size
 block:∀ k,k < w.heap.size→(k < B∨∀ t∈ts,tyAt w k≠some t)→w'.heap[k]?=w.heap[k]?
namespace Chg
variable {B:Nat} {ts us:List TypeId} {a b c w w':World}
theorem of_ext (h:Ext a b):Chg B ts a b:=⟨Below.os h,Below.tape h,Below.output h,h.size,fun _ hk _=>h.blockAt hk⟩
theorem refl (w:World):Chg B ts w w:=of_ext (Ext.refl w)
theorem more (h:Chg B ts a b) (hs:∀ t∈ts,t∈us):Chg B us a b:=⟨h.os,h.tape,h.output,h.size,fun k hk hc=>h.block k hk (hc.imp id fun g t ht=>g t (hs t ht))⟩
theorem trans (h:Chg B ts a b) (k:Chg B ts b c):Chg B ts a c:=by
 refine ⟨k.os.trans h.os,k.tape.trans h.tape,k.output.trans h.output,Nat.le_trans h.size k.size,fun i hi hc=>?_⟩;have h1:=h.block i hi hc;refine (k.block i (Nat.lt_of_lt_of_le hi h.size) ?_).trans h1;rcases hc with hc | hc
 ·exact .inl hc
 exact .inr fun t ht=>by rw [qep h1];exact hc t ht
theorem cell (h:Chg B ts a b) {k o:Nat} {u:Value} (hk:k < B∨∀ t∈ts,tyAt a k≠some t) (hc:a.cell? ⟨k,o,none⟩=some u):b.cell? ⟨k,o,none⟩=some u:=
 (World.cell?_of_block (w:=a) (h.block k (World.block_lt_of_cell? _ _ hc) hk)).trans hc
theorem ext (h:Chg B ts a b) (hB:a.heap.size≤B):Ext a b:=⟨h.os,h.tape,h.output,h.size,fun k hk=>h.block k hk (.inl (by omega))⟩
theorem setCell (h:Chg B ts a w) {p:Addr} {t:TypeId} (ht:tyAt w p.block=some t) (hm:t∈ts) (u:Value) (hB:B≤p.block):Chg B ts a (w.setCell p u):=by
 refine h.trans ⟨rfl,rfl,rfl,by simp [World.setCell],fun k hk hc=>Below.heap_setCell _ _ _ _ ?_⟩;rintro rfl;rcases hc with hc | hc
 ·omega
 exact hc t hm ht
end Chg
def CellsAt (w:World) (b off:Nat) (cs:List Value):Prop:=∀ j u,cs[j]?=some u→w.cell? ⟨b,off+j,none⟩=some u
def Okb (B:Nat) (e:TypeId) (w:World) (b:Nat):Prop:=b < B∨tyAt w b=some e
def Sl {α:Type} (B:Nat) (e:TypeId) (R:World→List Value→α→Prop) (sz:Nat) (w:World) (A:Option Addr) (l:List α):Prop:=
 ∀ i x,l[i]?=some x→∃ b off cs,A=some ⟨b,off,none⟩∧b < w.heap.size∧Okb B e w b∧cs.length=sz∧CellsAt w b (off+i*sz) cs∧R w cs x
def IsSl {α:Type} (B:Nat) (e:TypeId) (R:World→List Value→α→Prop) (sz:Nat) (w:World) (v:Value) (l:List α):Prop:=
 ∃ A c,v=.slice A l.length c∧l.length≤c∧c≤maxLen∧Sl B e R sz w A l
def Mono {α:Type} (B:Nat) (ts:List TypeId) (R:World→List Value→α→Prop):Prop:=∀ (w w':World) (cs:List Value) (x:α),Chg B ts w w'→R w cs x→R w' cs x
theorem CellsAt.chg {w w':World} {B:Nat} {ts:List TypeId} {b off:Nat} {cs:List Value} (h:CellsAt w b off cs) (x:Chg B ts w w') (hb:b < B∨∀ t∈ts,tyAt w b≠some t):CellsAt w' b off cs:=
 fun j u hj=>x.cell hb (h j u hj)
section
variable {α:Type} {B:Nat} {e:TypeId} {ts:List TypeId} {R:World→List Value→α→Prop} {sz:Nat} {w w':World} {A:Option Addr} {v:Value} {l:List α}
theorem Sl.chg (m:Mono B ts R) (he:e∉ts) (h:Sl B e R sz w A l) (x:Chg B ts w w'):Sl B e R sz w' A l:=by
 intro i y hy;obtain ⟨b,off,cs,hA,hb,hk,hl,hc,hR⟩:=h i y hy;have ho:b < B∨∀ t∈ts,tyAt w b≠some t:=by
  rcases hk with hk | hk
  ·exact .inl hk
  refine .inr fun t ht h2=>?_;rw [hk] at h2;injection h2 with h2;exact he (h2 ▸ ht)
 refine ⟨b,off,cs,hA,Nat.lt_of_lt_of_le hb x.size,?_,hl,hc.chg x ho,m _ _ _ _ x hR⟩;rcases hk with hk | hk
 ·exact .inl hk
 exact .inr ((qep (x.block b hb ho)).trans hk)
theorem Sl.ext (m:Mono B [] R) (h:Sl B e R sz w A l) (x:Ext w w'):Sl B e R sz w' A l:=h.chg m (by simp) (.of_ext x)
theorem IsSl.chg (m:Mono B ts R) (he:e∉ts) (h:IsSl B e R sz w v l) (x:Chg B ts w w'):IsSl B e R sz w' v l:=by
 obtain ⟨A,c,hv,h1,h2,hs⟩:=h;exact ⟨A,c,hv,h1,h2,hs.chg m he x⟩
theorem IsSl.ext (m:Mono B [] R) (h:IsSl B e R sz w v l) (x:Ext w w'):IsSl B e R sz w' v l:=h.chg m (by simp) (.of_ext x)
theorem Sl.nil:Sl B e R sz w A ([]:List α):=by
 intro i x h;simp at h
theorem IsSl.nil:IsSl B e R sz w (.slice none 0 0) ([]:List α):=⟨none,0,rfl,Nat.le_refl _,Nat.zero_le _,Sl.nil⟩
theorem Sl.at_ (h:Sl B e R sz w A l) {i:Nat} (hi:i < l.length) :
  ∃ b off cs,A=some ⟨b,off,none⟩∧b < w.heap.size∧cs.length=sz∧CellsAt w b (off+i*sz) cs∧R w cs l[i]:=by
 obtain ⟨b,off,cs,h1,h2,_,h3,h4,h5⟩:=h i _ (List.getElem?_eq_getElem hi);exact ⟨b,off,cs,h1,h2,h3,h4,h5⟩
theorem Sl.old {B':Nat} (m:∀ cs x,R w cs x→R w cs x) (h:Sl B e R sz w A l) (hB:B≤B'):Sl B' e R sz w A l:=by
 intro i y hy;obtain ⟨b,off,cs,hA,hb,hk,hl,hc,hR⟩:=h i y hy;exact ⟨b,off,cs,hA,hb,hk.imp (fun h=>by omega) id,hl,hc,m _ _ hR⟩
end
def RInt (_:World) (cs:List Value) (n:Int):Prop:=cs=[.int .i64 n]
theorem RInt.mono {B:Nat} {ts:List TypeId}:Mono B ts RInt:=fun _ _ _ _ _ h=>h
theorem Sl.int {B:Nat} {e:TypeId} {w:World} {A:Option Addr} {l:List Int} (h:Sl B e RInt 1 w A l) {i:Nat} (hi:i < l.length):∃ b off,A=some ⟨b,off,none⟩∧b < w.heap.size∧w.cell? ⟨b,off+i,none⟩=some (.int .i64 l[i]):=by
 obtain ⟨b,off,cs,hA,hb,_,hc,rfl⟩:=h.at_ hi;have:=hc 0 _ rfl;simp only [Nat.mul_one,Nat.add_zero] at this;exact ⟨b,off,hA,hb,this⟩
def RPair {α:Type} (f g:α→Int) (_:World) (cs:List Value) (x:α):Prop:=cs=[.int .i64 (f x),.int .i64 (g x)]
theorem RPair.mono {α:Type} {f g:α→Int} {B:Nat} {ts:List TypeId}:Mono B ts (RPair f g):=fun _ _ _ _ _ h=>h
theorem Sl.pair {α:Type} {f g:α→Int} {B:Nat} {e:TypeId} {w:World} {A:Option Addr} {l:List α} (h:Sl B e (RPair f g) 2 w A l) {i:Nat} (hi:i < l.length) :
  ∃ b off,A=some ⟨b,off,none⟩∧b < w.heap.size∧w.cell? ⟨b,off+i*2,none⟩=some (.int .i64 (f l[i]))∧w.cell? ⟨b,off+i*2+1,none⟩=some (.int .i64 (g l[i])):=by
 obtain ⟨b,off,cs,hA,hb,_,hc,rfl⟩:=h.at_ hi;have h0:=hc 0 _ rfl;have h1:=hc 1 _ rfl;simp only [Nat.add_zero] at h0;exact ⟨b,off,hA,hb,h0,h1⟩
def RTrip {α:Type} (f g k:α→Int) (_:World) (cs:List Value) (x:α):Prop:=cs=[.int .i64 (f x),.int .i64 (g x),.int .i64 (k x)]
theorem RTrip.mono {α:Type} {f g k:α→Int} {B:Nat} {ts:List TypeId}:Mono B ts (RTrip f g k):=fun _ _ _ _ _ h=>h
def Own {α:Type} (R:World→List Value→α→Prop) (sz:Nat) (e:TypeId) (w:World) (base:Nat) (v:Value) (l:List α):Prop:=
 ∃ xs:List (List Value),xs.length=l.length∧(∀ (i:Nat) (cs:List Value) (x:α),xs[i]?=some cs→l[i]?=some x→cs.length=sz∧R w cs x)∧w.ownsRow base e sz v l.length xs.flatten
theorem qhb {α:Type} (sz:Nat):∀ (xs:List (List α)) (_:∀ cs∈xs,cs.length=sz) (i j:Nat) (cs:List α),xs[i]?=some cs→j < sz→xs.flatten[i*sz+j]?=cs[j]?:=by
 intro xs
 induction xs with
 | nil=>intro _ i j cs h;simp at h
 | cons y ys ih=>
  intro hl i j cs h hj;have hy:y.length=sz:=hl y (by simp);rw [List.flatten_cons]
  cases i with
  | zero=>
   simp at h;subst h;rw [Nat.zero_mul,Nat.zero_add,List.getElem?_append_left (by omega)]
  | succ i=>
   have h':ys[i]?=some cs:=by simpa using h
   rw [List.getElem?_append_right (by rw [hy,Nat.succ_mul];omega),hy];have e:(i+1)*sz+j - sz=i*sz+j:=by rw [Nat.succ_mul];omega
   rw [e];exact ih (fun c hc=>hl c (by simp [hc])) i j cs h' hj
theorem qs4 {α:Type} (sz:Nat) (aW:0 < sz):∀ (xs:List (List α)) (_:∀ cs∈xs,cs.length=sz) (q:Nat) (u:α),xs.flatten[q]?=some u→∃ cs,xs[q / sz]?=some cs∧cs[q % sz]?=some u:=by
 intro xs hl q u hq;have ag:∀ (ys:List (List α)),(∀ cs∈ys,cs.length=sz)→ys.flatten.length=ys.length*sz:=by
  intro ys
  induction ys with
  | nil=>simp
  | cons y ys ih=>intro h;simp [h y (by simp),ih (fun c hc=>h c (by simp [hc])),Nat.succ_mul,Nat.add_comm]
 have hq1:q < xs.length*sz:=by rw [← ag xs hl];exact (List.getElem?_eq_some_iff.1 hq).1
 have hd:q / sz < xs.length:=Nat.div_lt_of_lt_mul (by rw [Nat.mul_comm];exact hq1);refine ⟨xs[q / sz],List.getElem?_eq_getElem hd,?_⟩;rw [← qhb sz xs hl (q / sz) (q % sz) _ (List.getElem?_eq_getElem hd) (Nat.mod_lt _ aW)];have:q / sz*sz+q % sz=q:=by rw [Nat.mul_comm];exact Nat.div_add_mod q sz
 rw [this];exact hq
section
variable {α:Type} {B:Nat} {R:World→List Value→α→Prop} {sz:Nat} {e:TypeId} {w w':World} {base:Nat} {v:Value} {l:List α}
theorem Own.nil:Own R sz e w base (.slice none 0 0) ([]:List α):=⟨[],rfl,by intro i cs x h;simp at h,World.ownsRow_nil _ _ _ _⟩
theorem Own.len (h:Own R sz e w base v l):∃ A c,v=.slice A l.length c∧l.length≤c∧c≤maxLen:=by
 obtain ⟨xs,_,_,ho⟩:=h;rcases ho.2 with ⟨hv,hn⟩ | ⟨g,cap,cur,hv,_,_,h1,h2,_⟩
 ·exact ⟨none,0,by rw [hv,hn],by omega,Nat.zero_le _⟩
 exact ⟨_,cap,hv,h1,h2⟩
theorem Own.at_ (h:Own R sz e w base v l):(v=.slice none 0 0∧l=[])∨∃ g c,v=.slice (some ⟨g,0,none⟩) l.length c∧base≤g∧g < w.heap.size∧tyAt w g=some e∧(∀ o,w.frozen? ⟨g,o,none⟩=false)∧
  ∀ i x,l[i]?=some x→∃ cs,cs.length=sz∧CellsAt w g (i*sz) cs∧R w cs x:=by
 obtain ⟨xs,hx,hR,ho⟩:=h;have bL:∀ cs∈xs,cs.length=sz:=by
  intro cs bK;obtain ⟨i,hi,rfl⟩:=List.getElem_of_mem bK;exact (hR i _ _ (List.getElem?_eq_getElem hi) (List.getElem?_eq_getElem (by omega))).1
 rcases ho.2 with ⟨rfl,hn⟩ | ⟨g,cap,cur,rfl,hb,hg,h1,h2,h3,h4⟩
 ·exact .inl ⟨rfl,List.eq_nil_of_length_eq_zero hn⟩
 refine .inr ⟨g,cap,rfl,hb,(Array.getElem?_eq_some_iff.1 hg).1,by unfold tyAt;rw [hg],fun o=>by simp [World.frozen?,hg],?_⟩;intro i x hix;have hil:i < l.length:=(List.getElem?_eq_some_iff.1 hix).1;have hxi:xs[i]?=some xs[i]:=List.getElem?_eq_getElem (by omega);obtain ⟨ag,hr⟩:=hR i _ _ hxi hix;refine ⟨xs[i],ag,?_,hr⟩;intro j u hj;have hj':j < sz:=by have:=(List.getElem?_eq_some_iff.1 hj).1;omega
 have:=ho.cells (g:=g) rfl (i*sz+j) u (by rw [qhb sz xs bL i j _ hxi hj'];exact hj);have e1:(⟨g,0,none⟩:Addr).add (i*sz+j)=⟨g,i*sz+j,none⟩:=by unfold Addr.add;split <;> simp_all
 rwa [e1] at this
theorem Own.isSl (B:Nat) (h:Own R sz e w base v l):IsSl B e R sz w v l:=by
 obtain ⟨A,c,hv,h1,h2⟩:=h.len;refine ⟨A,c,hv,h1,h2,?_⟩;rcases h.at_ with ⟨_,rfl⟩ | ⟨g,c',hv',hb,aD,ht,_,hc⟩
 ·exact Sl.nil
 rw [hv] at hv';injection hv' with hA _ _;subst hA;intro i x hix;obtain ⟨cs,h3,h4,h5⟩:=hc i x hix;exact ⟨g,0,cs,rfl,aD,.inr ht,h3,by rw [Nat.zero_add];exact h4,h5⟩
theorem Own.chg {ts:List TypeId} (m:Mono B ts R) (h:Own R sz e w base v l) (x:Chg B ts w w') (hk:∀ g,v.ownBlock=some g→w'.heap[g]?=w.heap[g]?):Own R sz e w' base v l:=by
 obtain ⟨xs,hx,hR,ho⟩:=h;refine ⟨xs,hx,fun i cs y h1 h2=>⟨(hR i cs y h1 h2).1,m _ _ _ _ x (hR i cs y h1 h2).2⟩,ho.1,?_⟩;rcases ho.2 with hn | ⟨g,cap,cur,rfl,hb,hgg,rest⟩
 ·exact .inl hn
 exact .inr ⟨g,cap,cur,rfl,hb,(hk g (by simp [Value.ownBlock])).trans hgg,rest⟩
theorem Own.lt (h:Own R sz e w base v l) {g:Nat} (hg:v.ownBlock=some g):base≤g∧g < w.heap.size:=by
 obtain ⟨xs,_,_,ho⟩:=h;exact ho.lt g hg
theorem Own.ext (m:Mono B [] R) (h:Own R sz e w base v l) (x:Ext w w'):Own R sz e w' base v l:=
 h.chg m (.of_ext x) fun _ hg=>x.blockAt (h.lt hg).2
theorem Own.chg_of (h:Own R sz e w base v l) (hB:B≤base) (hg:w.grownBy w' v.ownBlock):Chg B [e] w w':=by
 refine ⟨hg.os,hg.tape,hg.output,hg.size,fun k hk hc=>hg.block k hk fun he=>?_⟩;rcases h.at_ with ⟨rfl,_⟩ | ⟨g,c,rfl,hb,_,ht,_⟩
 ·simp [Value.ownBlock] at he
 simp [Value.ownBlock] at he;subst he;rcases hc with hc | hc
 ·omega
 exact hc e (by simp) ht
theorem Own.below_of (h:Own R sz e w base v l) (hg:w.grownBy w' v.ownBlock) (hb:base≤w.heap.size):Below base w w':=
 (Below.refl base w).grown hg hb fun _ hk=>(h.lt hk).1
end
def ElemInfo (P:Program) (t e:TypeId) (sz bytes:Nat):Prop:=
 ∃ i z,P.underlying t=some (.slice e)∧P.info? e=some i∧i.zero=some z∧i.size=sz∧i.bytes=bytes∧z.cells.size=sz∧0 < sz
theorem ElemInfo.mk_ {P:Program} {t e:TypeId} {z:Value} {sz bytes:Nat} (ht:P.underlying t=some (.slice e)) (hi:(P.info? e).map (fun i=>(i.zero,i.size,i.bytes))=some (some z,sz,bytes)) (hz:z.cells.size=sz) (hs:0 < sz):ElemInfo P t e sz bytes:=by
 cases h:P.info? e with
 | none=>rw [h] at hi;cases hi
 | some i=>
  rw [h] at hi;simp only [Option.map_some,Option.some.injEq,Prod.mk.injEq] at hi;exact ⟨i,z,ht,h,hi.1,hi.2.1,hi.2.2,hz,hs⟩
def OneC {α:Type} (R:World→List Value→α→Prop):Prop:=∀ w cs x,R w cs x→∀ u∈cs,u.oneCell'=true
theorem RInt.oneC:OneC RInt:=by rintro w cs x rfl u hu;simp at hu;subst hu;rfl
theorem RPair.oneC {α:Type} {f g:α→Int}:OneC (RPair f g):=by
 rintro w cs x rfl u hu;simp at hu;rcases hu with rfl | rfl <;> rfl
theorem RTrip.oneC {α:Type} {f g k:α→Int}:OneC (RTrip f g k):=by
 rintro w cs x rfl u hu;simp at hu;rcases hu with rfl | rfl | rfl <;> rfl
section
variable {α:Type} {P:Program} {R:World→List Value→α→Prop} {sz bytes:Nat} {t ty e:TypeId} {w:World} {base B B':Nat} {v:Value} {l ys:List α} {A:Option Addr} {c:Nat}
theorem quz (ei:ElemInfo P t e sz bytes) (ay:Own R sz e w base v l) (A:Option Addr) (c:Nat):(Builtin.append_ #[t,t] ty #[v,.slice A 0 c]).run P w=.ok v w:=by
 obtain ⟨i,z,ht,hi,hz,hs,hb,hzs,h0⟩:=ei;obtain ⟨xs,_,_,ho⟩:=ay;rcases ho.2 with ⟨rfl,hn⟩ | ⟨g,cap,cur,rfl,_,_,hnc,_⟩
 ·cases A <;> simp [Builtin.append_,run_underlying ht,sizeOf,typeInfo,hi,Builtin.lenOf,Builtin.firstCells,loadCells,loadCellsFrom]
 cases A <;> simp [Builtin.append_,run_underlying ht,sizeOf,typeInfo,hi,Builtin.lenOf,Builtin.firstCells,hnc,storeCells,loadCells,loadCellsFrom]
theorem qjb {β:Type} {p:Nat→β→Prop}:∀ n:Nat,(∀ i,i < n→∃ c,p i c)→∃ zs:List β,zs.length=n∧∀ i c,zs[i]?=some c→p i c:=by
 intro n
 induction n with
 | zero=>intro _;exact ⟨[],rfl,by simp⟩
 | succ n ih=>
  intro h;obtain ⟨zs,hl,hz⟩:=ih fun i hi=>h i (by omega);obtain ⟨c,hc⟩:=h n (by omega);refine ⟨zs++[c],by simp [hl],fun i d hd=>?_⟩
  by_cases hi:i < n
  ·rw [List.getElem?_append_left (by omega)] at hd;exact hz i d hd
  have:i=n:=by
   have:=(List.getElem?_eq_some_iff.1 hd).1;simp [hl] at this;omega
  subst this;rw [List.getElem?_append_right (by omega),hl,Nat.sub_self] at hd;simp at hd;subst hd;exact hc
theorem quy (ei:ElemInfo P t e sz bytes) (ay:Own R sz e w base v l) (hB:B≤base) (hb:base≤w.heap.size) {e':TypeId} (hs:Sl B' e' R sz w A ys) (h1:OneC R) (m:Mono B [e] R)
  (cO:l.length+ys.length≤maxLen) (cI:(l.length+ys.length)*bytes≤140737488355328) :
  ∃ v' w',(Builtin.append_ #[t,t] ty #[v,.slice A ys.length c]).run P w=.ok v' w'∧Own R sz e w' base v' (l++ys)∧w.grownBy w' v.ownBlock∧Chg B [e] w w'∧Below base w w':=by
 by_cases hy:ys=[]
 ·subst hy
  refine ⟨v,w,quz ei ay A c,by simpa using ay,World.grownBy.refl w _,Chg.refl w,Below.refl _ _⟩
 have fT:0 < ys.length:=List.length_pos_iff.2 hy;obtain ⟨b,off,_,rfl,_,_,_⟩:=hs.at_ fT;obtain ⟨zs,hzl,hz⟩:=qjb (p:=fun i cs=>∀ x,ys[i]?=some x→cs.length=sz∧CellsAt w b (off+i*sz) cs∧R w cs x) ys.length (by
  intro i hi;obtain ⟨b',off',cs,hA,_,h3,h4,h5⟩:=hs.at_ hi;injection hA with hA;injection hA with hb' ho' _;subst hb' ho';refine ⟨cs,fun x hx=>?_⟩;rw [List.getElem?_eq_getElem hi] at hx;injection hx with hx;subst hx;exact ⟨h3,h4,h5⟩)
 have hyi:∀ i cs,zs[i]?=some cs→∃ x,ys[i]?=some x:=fun i cs h=>⟨ys[i]'(by have:=(List.getElem?_eq_some_iff.1 h).1;omega),List.getElem?_eq_getElem _⟩
 have hzall:∀ cs∈zs,cs.length=sz:=by
  intro cs bK;obtain ⟨i,hi,rfl⟩:=List.getElem_of_mem bK;obtain ⟨x,hx⟩:=hyi i _ (List.getElem?_eq_getElem hi);exact (hz i _ (List.getElem?_eq_getElem hi) x hx).1
 have hsz0:0 < sz:=by obtain ⟨_,_,_,_,_,_,_,_,h⟩:=ei;exact h
 have hnews:∀ j u,zs.flatten[j]?=some u→w.cell? ((⟨b,off,none⟩:Addr).add j)=some u:=by
  intro j u hj;obtain ⟨cs,h3,h4⟩:=qs4 sz hsz0 zs hzall j u hj;obtain ⟨x,hx⟩:=hyi _ _ h3;have:=(hz _ _ h3 x hx).2.1 _ u h4;have e1:off+j / sz*sz+j % sz=off+j:=by
   have:=Nat.div_add_mod j sz;rw [Nat.mul_comm] at this;omega
  rw [e1] at this;unfold Addr.add;split
  ·subst_vars;simpa using this
  exact this
 have ag:zs.flatten.length=ys.length*sz:=by
  rw [← hzl];clear hyi hz hnews hzl
  induction zs with
  | nil=>simp
  | cons y ys ih=>simp [hzall y (by simp),ih (fun c hc=>hzall c (by simp [hc])),Nat.succ_mul,Nat.add_comm]
 have aN:∀ u∈zs.flatten,u.oneCell'=true:=by
  intro u hu;obtain ⟨cs,bK,hu⟩:=List.mem_flatten.1 hu;obtain ⟨i,hi,rfl⟩:=List.getElem_of_mem bK;obtain ⟨x,hx⟩:=hyi i _ (List.getElem?_eq_getElem hi);exact h1 _ _ _ (hz i _ (List.getElem?_eq_getElem hi) x hx).2.2 u hu
 obtain ⟨i,z,ht,hi,hz0,hs0,hby0,hzs,_⟩:=ei;obtain ⟨xs,aK,hxR,ho⟩:=id ay;obtain ⟨v',w',hrun,hown',hg,_,_⟩:=run_append_own_at (P:=P) w base t ty e i z sz bytes ht hi hz0 hs0 hby0 hzs hsz0 v l.length xs.flatten ho ⟨b,off,none⟩ ys.length c zs.flatten ag hnews aN cO cI hb;have hc:Chg B [e] w w':=ay.chg_of hB hg;refine ⟨v',w',hrun,⟨xs++zs,by simp [aK,hzl],?_,by rw [List.length_append,List.flatten_append];exact hown'⟩,hg,hc,ay.below_of hg hb⟩;intro k cs x hk hx
 by_cases dC:k < l.length
 ·rw [List.getElem?_append_left (by omega)] at hk hx
  exact ⟨(hxR k cs x hk hx).1,m _ _ _ _ hc (hxR k cs x hk hx).2⟩
 rw [List.getElem?_append_right (by omega),aK] at hk;rw [List.getElem?_append_right (by omega)] at hx;exact ⟨(hz _ _ hk x hx).1,m _ _ _ _ hc (hz _ _ hk x hx).2.2⟩
theorem qaf {ops:Array Oper} {rest:List Oper} {o:Oper} {a:Act} {Q:Exit→Act→World→Prop} (hgd:o.guard=none) (s x:Operand)
  (ho:o.op=.call { callee:=.builtin .append,args:=#[s,x],argTypes:=#[t,t] }) (ei:ElemInfo P t e sz bytes)
  (hs:a.eval s=v) (ay:Own R sz e w base v l) (hB:B≤base) (hb:base≤w.heap.size) {e':TypeId} (hx:a.eval x=.slice A ys.length c) (bW:Sl B' e' R sz w A ys) (h1:OneC R) (m:Mono B [e] R)
  (cO:l.length+ys.length≤maxLen) (cI:(l.length+ys.length)*bytes≤140737488355328)
  (h:∀ v' w',Own R sz e w' base v' (l++ys)→Chg B [e] w w'→Below base w w'→w.grownBy w' v.ownBlock→wpList P ops Q rest (a.put o.dst v') w'):wpList P ops Q (o::rest) a w:=by
 refine wpList_plain hgd fun K hK=>?_;obtain ⟨v',w',hr,h2,h3,h4,h5⟩:=quy (P:=P) (t:=t) (ty:=o.type) (c:=c) ei ay hB hb bW h1 m cO cI;unfold Oper.wp execOp;simp only [ho,resolve,invoke,builtin,Sem.run_bind,Sem.run_pure,Result.andThen_ok,List.map_toArray,List.map_cons,List.map_nil,hs,hx,hr];exact hK _ _ (h v' w' h2 h4 h5 h3)
theorem Sl.one {o:World} {cs:List Value} {y:α} (ho:o=w.alloc (.cells cs.toArray e)) (hl:cs.length=sz) (hR:R o cs y):Sl B e R sz o (some ⟨w.heap.size,0,none⟩) [y]:=by
 subst ho;intro i x hi
 match i,hi with
 | 0,hi=>
  simp at hi;subst hi;refine ⟨_,0,cs,rfl,by simp,.inr (by unfold tyAt;rw [heap_alloc_new]),hl,fun j u hj=>?_,hR⟩;rw [cell_of_row _ _ _ _ e (0,0) (heap_alloc_new w _)];simpa using hj
end
theorem Own.lit {α:Type} {R:World→List Value→α→Prop} {sz:Nat} {e:TypeId} {w:World} {base:Nat} {cs:List Value} {y:α} (hb:base≤w.heap.size) (hl:cs.length=sz) (hR:R (w.alloc (.cells cs.toArray e)) cs y) :
  Own R sz e (w.alloc (.cells cs.toArray e)) base (.slice (some ⟨w.heap.size,0,none⟩) 1 1) [y]:=by
 refine ⟨[cs],rfl,?_,by simp [hl],.inr ⟨w.heap.size,1,cs.toArray,rfl,hb,heap_alloc_new w _,Nat.le_refl _,by simp [maxLen],by simp [hl],?_⟩⟩
 ·intro i c x h1 h2
  match i,h1,h2 with
  | 0,h1,h2=>simp at h1 h2;subst h1 h2;exact ⟨hl,hR⟩
 simp [← hl]
theorem qu8 {α:Type} (sz:Nat):∀ (xs:List (List α)) (_:∀ cs∈xs,cs.length=sz) (i j:Nat) (cs:List α) (u:α),xs[i]?=some cs→j < sz→(xs.set i (cs.set j u)).flatten=xs.flatten.set (i*sz+j) u:=by
 intro xs
 induction xs with
 | nil=>intro _ i j cs u h;simp at h
 | cons y ys ih=>
  intro hl i j cs u h hj;have hy:y.length=sz:=hl y (by simp)
  cases i with
  | zero=>
   simp at h;subst h;simp only [List.set_cons_zero,List.flatten_cons,Nat.zero_mul,Nat.zero_add];rw [List.set_append_left _ _ (by omega)]
  | succ i=>
   have h':ys[i]?=some cs:=by simpa using h
   simp only [List.set_cons_succ,List.flatten_cons];rw [ih (fun c hc=>hl c (by simp [hc])) i j cs u h' hj,List.set_append_right _ _ (by rw [hy,Nat.succ_mul];omega)];congr 2;rw [hy,Nat.succ_mul];omega
theorem Own.set {α:Type} {R:World→List Value→α→Prop} {sz:Nat} {e:TypeId} {w:World} {base B g c:Nat} {l:List α} (h:Own R sz e w base (.slice (some ⟨g,0,none⟩) l.length c) l) (m:Mono B [e] R) (hB:B≤base)
  {i j:Nat} (hi:i < l.length) (hj:j < sz) (u:Value) (y:α) (hy:∀ cs,cs.length=sz→R w cs l[i]→R (w.setCell ⟨g,i*sz+j,none⟩ u) (cs.set j u) y) :
  Own R sz e (w.setCell ⟨g,i*sz+j,none⟩ u) base (.slice (some ⟨g,0,none⟩) l.length c) (l.set i y)∧Chg B [e] w (w.setCell ⟨g,i*sz+j,none⟩ u)∧Below base w (w.setCell ⟨g,i*sz+j,none⟩ u):=by
 obtain ⟨xs,hx,hR,ho⟩:=id h;have hxi:xs[i]?=some xs[i]:=List.getElem?_eq_getElem (by omega);obtain ⟨ag,hr⟩:=hR i _ _ hxi (List.getElem?_eq_getElem hi);have bL:∀ cs∈xs,cs.length=sz:=by
  intro cs bK;obtain ⟨k,hk,rfl⟩:=List.getElem_of_mem bK;exact (hR k _ _ (List.getElem?_eq_getElem hk) (List.getElem?_eq_getElem (by omega))).1
 obtain ⟨ho',hg⟩:=ho.stored (i*sz+j) u;have hg':w.grownBy (w.setCell ⟨g,i*sz+j,none⟩ u) (Value.slice (some ⟨g,0,none⟩) l.length c).ownBlock:=hg;have hc:Chg B [e] w (w.setCell ⟨g,i*sz+j,none⟩ u):=h.chg_of hB hg';refine ⟨⟨xs.set i (xs[i].set j u),by simp [hx],?_,?_⟩,hc,?_⟩
 ·intro k cs x hk ar
  by_cases hki:i=k
  ·subst hki
   rw [List.getElem?_set_self (by omega)] at hk;rw [List.getElem?_set_self hi] at ar;injection hk with hk;injection ar with ar;subst hk ar;exact ⟨by simp [ag],hy _ ag hr⟩
  rw [List.getElem?_set_ne hki] at hk ar;exact ⟨(hR k cs x hk ar).1,m _ _ _ _ hc (hR k cs x hk ar).2⟩
 ·rw [qu8 sz xs bL i j _ u hxi hj,List.length_set]
  exact ho'
 refine (Below.refl base w).setCell (p:=⟨g,i*sz+j,none⟩) ?_ u;exact (h.lt (g:=g) rfl).1
structure Span where
 fr:Int
 to:Int
deriving DecidableEq,Inhabited
structure Cube where
 yes:Int
 no:Int
deriving DecidableEq,Inhabited
structure Point where
 tags:Int
 num:Int
deriving DecidableEq,Inhabited
structure Box where
 cube:Cube
 spans:List Span
deriving DecidableEq,Inhabited
structure Dot where
 site:Int
 count:Int
deriving DecidableEq,Inhabited
structure Know where
 vec:List Int
 more:List Dot
deriving DecidableEq,Inhabited
structure Part where
 filter:List Box
 know:Know
deriving DecidableEq,Inhabited
abbrev jc3:World→List Value→Span→Prop:=RPair Span.fr Span.to
abbrev RDot:World→List Value→Dot→Prop:=RPair Dot.site Dot.count
abbrev qh5 (B:Nat):=Sl B 137 jc3 2
abbrev qn8 (B:Nat):=IsSl B 137 jc3 2
abbrev IsDots (B:Nat):=IsSl B 35 RDot 2
abbrev qhu (B:Nat):=IsSl B 3 RInt 1
def qlq (s:Span):Bool:=decide (s.fr < 0)||decide (32 < s.to)||decide (s.to≤s.fr)
def qei:Int→List Span→Int
 | _,[]=>0
 | last,s::r=>if qlq s then 1 else if s.fr≤last then 3 else qei s.to r
def qav (l:List Span):Int:=if 16 < l.length then 2 else qei (-1) l
def qfv (l:List Span) (k:Nat):Int:=if k=0 then -1 else (l[k - 1]?.map Span.to).getD 0
theorem qov (l:List Span) (k:Nat) (hk:k < l.length):qei (qfv l k) (l.drop k)=if l[k].fr < 0∨32 < l[k].to∨l[k].to≤l[k].fr then 1 else if l[k].fr≤qfv l k then 3 else qei (qfv l (k+1)) (l.drop (k+1)):=by
 rw [List.drop_eq_getElem_cons hk,qei];have:qfv l (k+1)=l[k].to:=by simp [qfv,hk]
 rw [this];simp [qlq,or_assoc]
def qai:List Span→Int→Bool
 | [],_=>false
 | s::r,n=>if s.fr≤n∧n < s.to then true else qai r n
theorem qv4 (l:List Span) (n:Int) (k:Nat) (hk:k < l.length):qai (l.drop k) n=if l[k].fr≤n∧n < l[k].to then true else qai (l.drop (k+1)) n:=by
 rw [List.drop_eq_getElem_cons hk,qai]
def qj7 (p:Int→Bool) (out:List Span) (n:Int):List Span:=
 if p n then
  match out.getLast? with
  | some s=>if s.to=n then out.set (out.length - 1) ⟨s.fr,n+1⟩ else out++[⟨n,n+1⟩]
  | none=>[⟨n,n+1⟩]
 else out
def qcb (p:Int→Bool):Nat→List Span
 | 0=>[]
 | n+1=>qj7 p (qcb p n) n
theorem qxl (p:Int→Bool) (out:List Span) (n:Int):(qj7 p out n).length≤out.length+1:=by
 unfold qj7;split
 ·split
  ·split
   ·simp
   simp
  simp
 omega
theorem qod (p:Int→Bool):∀ n,(qcb p n).length≤n
 | 0=>by simp [qcb]
 | n+1=>by
  rw [qcb];have:=qxl p (qcb p n) n;have:=qod p n;omega
def SpansOk (l:List Span):Prop:=∀ s∈l,0≤s.fr∧s.fr < s.to∧s.to≤32
theorem qtb:∀ (l:List Span) (last:Int),qei last l=0→SpansOk l
 | [],_,_=>by intro s h;simp at h
 | s::r,last,h=>by
  rw [qei] at h
  by_cases hb:qlq s=true
  ·simp [hb] at h
  by_cases hl:s.fr≤last
  ·simp [hb,hl] at h
  have h2:qei s.to r=0:=by simpa [hb,hl] using h
  intro t ht;rcases List.mem_cons.1 ht with rfl | ht
  ·simp [qlq] at hb
   omega
  exact qtb r _ h2 t ht
theorem qe6 {l:List Span} (h:qav l=0):SpansOk l∧l.length≤16:=by
 unfold qav at h
 by_cases hl:16 < l.length
 ·simp [hl] at h
 rw [if_neg hl] at h;exact ⟨qtb l _ h,by omega⟩
theorem qv5 (l:List Span) (n:Int) (k:Nat) (hk:k < l.length):qai (l.take (k+1)) n=(qai (l.take k) n||decide (l[k].fr≤n∧n < l[k].to)):=by
 rw [List.take_succ_eq_append_getElem hk];generalize l.take k=m
 induction m with
 | nil=>by_cases h:l[k].fr≤n∧n < l[k].to <;> simp [qai,h]
 | cons s r ih=>
  simp only [List.cons_append,qai]
  by_cases h:s.fr≤n∧n < s.to
  ·simp [h]
  simp only [h,if_false];exact ih
def jdz (p:Nat→Bool) (out:List Span) (n:Nat):List Span:=
 if p n then
  match out with
  | s::r=>if s.fr=n+1 then ⟨n,s.to⟩::r else ⟨n,n+1⟩::s::r
  | []=>[⟨n,n+1⟩]
 else out
def jgk (p:Nat→Bool):Nat→List Span
 | 0=>[]
 | k+1=>jdz p (jgk p k) (31 - k)
def told (p:Nat→Bool):List Span:=jgk p 32
end Go.Proofs.YtngbfdogiciahaaGreat
namespace Go.Proofs.YtngbfdogiciahaaGreat
open Go
def Canon:Int→List Span→Prop
 | _,[]=>True
 | lo,s::r=>lo < s.fr∧s.fr < s.to∧Canon s.to r
theorem Canon.mono:∀ {l:List Span} {lo lo':Int},Canon lo l→lo'≤lo→Canon lo' l
 | [],_,_,_,_=>trivial
 | s::r,lo,lo',h,hl=>⟨by have:=h.1;omega,h.2⟩
theorem qbh (s:Span) (r:List Span) (x:Int):qai (s::r) x=(decide (s.fr≤x∧x < s.to)||qai r x):=by
 rw [qai]
 by_cases h:s.fr≤x∧x < s.to <;> simp [h]
theorem qq5 (s:Span) (x:Int):qai [s] x=decide (s.fr≤x∧x < s.to):=by
 rw [qbh,qai,Bool.or_false]
theorem qhl (l m:List Span) (x:Int):qai (l++m) x=(qai l x||qai m x):=by
 induction l with
 | nil=>simp [qai]
 | cons s r ih=>rw [List.cons_append,qbh,qbh,ih,Bool.or_assoc]
theorem Canon.above:∀ {l:List Span} {lo x:Int},Canon lo l→qai l x=true→lo < x
 | [],_,_,_,h=>by simp [qai] at h
 | s::r,lo,x,hc,h=>by
  rw [qbh,Bool.or_eq_true,decide_eq_true_eq] at h;rcases h with h | h
  ·have:=hc.1;omega
  have:=Canon.above hc.2.2 h;have:=hc.1;have:=hc.2.1;omega
theorem Canon.unique:∀ {l m:List Span} {lo:Int},Canon lo l→Canon lo m→(∀ x,qai l x=qai m x)→l=m
 | [],[],_,_,_,_=>rfl
 | [],t::q,_,_,hm,h=>by
  have:=h t.fr;rw [qbh] at this;have h2:=hm.2.1;simp [qai,h2] at this
 | s::r,[],_,hl,_,h=>by
  have:=h s.fr;rw [qbh] at this;have h2:=hl.2.1;simp [qai,h2] at this
 | s::r,t::q,lo,hl,hm,h=>by
  have bZ:∀ (u:Span) (z:List Span) (lo:Int),Canon lo (u::z)→qai (u::z) u.fr=true:=by
   intro u z lo hc;have:=hc.2.1;rw [qbh];simp [this]
  have hlow:∀ (u:Span) (z:List Span) (lo x:Int),Canon lo (u::z)→qai (u::z) x=true→u.fr≤x:=by
   intro u z lo x hc hx;rw [qbh,Bool.or_eq_true,decide_eq_true_eq] at hx;rcases hx with hx | hx
   ·exact hx.1
   have:=Canon.above hc.2.2 hx;have:=hc.2.1;omega
  have az:s.fr=t.fr:=by
   have h1:=hlow t q lo s.fr hm (by rw [← h];exact bZ s r lo hl);have h2:=hlow s r lo t.fr hl (by rw [h];exact bZ t q lo hm);omega
  have hend:∀ (u:Span) (z:List Span) (lo:Int),Canon lo (u::z)→qai (u::z) u.to=false:=by
   intro u z lo hc;rw [qbh]
   cases hz:qai z u.to with
   | true=>have:=Canon.above hc.2.2 hz;omega
   | false=>simp
  have hto:s.to=t.to:=by
   have h1:=hend s r lo hl;have h2:=hend t q lo hm;rw [h,qbh] at h1;rw [← h,qbh] at h2;have h3:=hl.2.1;have h4:=hm.2.1;simp only [Bool.or_eq_false_iff,decide_eq_false_iff_not] at h1 h2;omega
  have hst:s=t:=by cases s;cases t;simp_all
  subst hst;have:r=q:=by
   refine Canon.unique hl.2.2 hm.2.2 fun x=>?_;have hx:=h x;rw [qbh,qbh] at hx
   by_cases hxs:s.fr≤x∧x < s.to
   ·have h1:qai r x=false:=by
     cases hz:qai r x with
     | true=>have:=Canon.above hl.2.2 hz;omega
     | false=>rfl
    have h2:qai q x=false:=by
     cases hz:qai q x with
     | true=>have:=Canon.above hm.2.2 hz;omega
     | false=>rfl
    rw [h1,h2]
   simpa [hxs] using hx
  rw [this]
theorem Canon.concat:∀ {l:List Span} {lo:Int} {s:Span},Canon lo l→lo < s.fr→s.fr < s.to→(∀ t∈l,t.to < s.fr)→Canon lo (l++[s])
 | [],_,_,_,h1,h2,_=>⟨h1,h2,trivial⟩
 | t::r,_,s,hc,_,h2,h3=>⟨hc.1,hc.2.1,Canon.concat hc.2.2 (h3 t (by simp)) h2 fun u hu=>h3 u (by simp [hu])⟩
theorem Canon.split:∀ {l:List Span} {lo:Int} {s:Span},Canon lo (l++[s])→Canon lo l∧lo < s.fr∧s.fr < s.to∧∀ t∈l,t.to < s.fr
 | [],_,_,h=>⟨trivial,h.1,h.2.1,by simp⟩
 | t::r,lo,s,h=>by
  obtain ⟨h1,h2,h3,h4⟩:=Canon.split (l:=r) h.2.2;refine ⟨⟨h.1,h.2.1,h1⟩,by have:=h.1;have:=h.2.1;omega,h3,fun u hu=>?_⟩;rcases List.mem_cons.1 hu with rfl | hu
  ·exact h2
  exact h4 u hu
theorem qla (p:Int→Bool):∀ n:Nat,Canon (-1) (qcb p n)∧(∀ s∈qcb p n,s.to≤n)∧∀ x:Int,qai (qcb p n) x=(decide (0≤x∧x < n)&&p x)
 | 0=>⟨trivial,by simp [qcb],fun x=>by
   have:¬ (0≤x∧x < ((0:Nat):Int)):=by omega
   simp only [qcb,qai,this,decide_false,Bool.false_and]⟩
 | n+1=>by
  obtain ⟨hc,ht,hi⟩:=qla p n;have hrange:∀ x:Int,(decide (0≤x∧x < ((n+1:Nat):Int))&&p x)=((decide (0≤x∧x < (n:Int))&&p x)||(decide (x=n)&&p n)):=by
   intro x
   by_cases hx:x=n
   ·subst hx
    have h1:(0:Int)≤n∧(n:Int) < ((n+1:Nat):Int):=by omega
    have h2:¬ ((0:Int)≤n∧(n:Int) < n):=by omega
    rw [decide_eq_true h1,decide_eq_false h2];simp
   have h1:(0≤x∧x < ((n+1:Nat):Int))↔(0≤x∧x < (n:Int)):=by omega
   simp only [hx,decide_false,Bool.false_and,Bool.or_false];rw [decide_eq_decide.2 h1]
  have new:∀ L:List Span,Canon (-1) L→(∀ t∈L,t.to < (n:Int))→(∀ x,qai L x=(decide (0≤x∧x < (n:Int))&&p x))→p n=true→
    Canon (-1) (L++[⟨n,n+1⟩])∧(∀ s∈L++[⟨n,n+1⟩],s.to≤((n+1:Nat):Int))∧∀ x:Int,qai (L++[⟨n,n+1⟩]) x=(decide (0≤x∧x < ((n+1:Nat):Int))&&p x):=by
   intro L h1 h2 h3 hp;refine ⟨Canon.concat h1 (by show (-1:Int) < n;omega) (by show (n:Int) < n+1;omega) h2,?_,fun x=>?_⟩
   ·intro s hs
    rcases List.mem_append.1 hs with hs | hs
    ·have:=h2 s hs;omega
    simp at hs;subst hs;show (n:Int)+1≤_;omega
   rw [hrange,← h3,hp,qhl];congr 1;simp only [qq5,Bool.and_true];rw [decide_eq_decide];show ((n:Int)≤x∧x < n+1)↔_;omega
  rw [qcb];generalize qcb p n=L at *;unfold qj7
  by_cases hp:p n=true
  ·rw [if_pos hp]
   rcases List.eq_nil_or_concat L with rfl | ⟨L',s,rfl⟩
   ·simpa using new [] trivial (by simp) hi hp
   simp only [List.concat_eq_append,List.getLast?_append,List.getLast?_singleton,Option.some_or] at *;obtain ⟨k1,k2,k3,k4⟩:=Canon.split hc
   by_cases he:s.to=n
   ·simp only [he,if_true]
    have eB:(L'++[s]).set ((L'++[s]).length - 1) ⟨s.fr,(n:Int)+1⟩=L'++[⟨s.fr,(n:Int)+1⟩]:=by
     rw [List.length_append,List.set_append_right _ _ (by simp)];simp
    rw [eB];refine ⟨Canon.concat k1 k2 (by show s.fr < (n:Int)+1;omega) k4,?_,fun x=>?_⟩
    ·intro t ht'
     rcases List.mem_append.1 ht' with h | h
     ·have:=ht t (by simp [h]);omega
     simp at h;subst h;show (n:Int)+1≤_;omega
    rw [hrange,← hi,hp,qhl,qhl,Bool.or_assoc];congr 1;simp only [qq5,Bool.and_true];rw [← Bool.decide_or,decide_eq_decide];show (s.fr≤x∧x < (n:Int)+1)↔_;omega
   simp only [he,if_false];refine new (L'++[s]) hc ?_ hi hp;intro t ht';rcases List.mem_append.1 ht' with h | h
   ·have:=k4 t h
    have:=ht s (by simp);omega
   simp at h;subst h;have:=ht t (by simp);omega
  rw [if_neg hp];refine ⟨hc,fun s hs=>by have:=ht s hs;omega,fun x=>?_⟩;rw [hrange,hi];simp [hp]
def qds (p:Nat→Bool):Nat→Bool
 | 0=>true
 | k+1=>qds p k&&p k
theorem qcy (p:Nat→Bool):∀ n,qds p n=true↔∀ i,i < n→p i=true
 | 0=>by simp [qds]
 | n+1=>by
  rw [qds,Bool.and_eq_true,qcy p n];constructor
  ·rintro ⟨h1,h2⟩ i hi
   by_cases h:i=n
   ·subst h;exact h2
   exact h1 i (by omega)
  intro h;exact ⟨fun i hi=>h i (by omega),h n (by omega)⟩
def qal (p:Nat→Bool):Nat→Int
 | 0=>0
 | k+1=>qal p k+if p k then 1 else 0
theorem ql5 (p:Nat→Bool):∀ k:Nat,0≤qal p k∧qal p k≤k
 | 0=>by simp [qal]
 | k+1=>by
  have:=ql5 p k;rw [qal];split <;> omega
theorem qbf {p q:Nat→Bool}:∀ {k:Nat},(∀ i,i < k→p i=q i)→qal p k=qal q k
 | 0,_=>rfl
 | k+1,h=>by rw [qal,qal,qbf fun i hi=>h i (by omega),h k (by omega)]
theorem qhy:∀ k,qal (fun _=>false) k=0
 | 0=>rfl
 | k+1=>by rw [qal,qhy k];simp
theorem jc4:∀ a,a < 16→∀ b,b < 16→bits .and .i64 ((a:Nat):Int) ((b:Nat):Int)=((a&&& b:Nat):Int):=by decide +kernel
def qdm (n:Int):Bool:=decide (0≤n∧n≤15)
def qaq (c:Cube):Int:=
 if qdm c.yes=true∧qdm c.no=true then (if c.yes.toNat&&& c.no.toNat=0 then 0 else 3) else 1
structure CubeOk (c:Cube) (y n:Nat):Prop where
 yes:c.yes=(y:Int)
 no:c.no=(n:Int)
 hy:y < 16
 hn:n < 16
 dis:y&&& n=0
theorem qdj {n:Int}:qdm n=true↔0≤n∧n≤15:=by simp [qdm]
theorem qnk {c:Cube} (h:qaq c=0):∃ y n,CubeOk c y n:=by
 unfold qaq at h;split at h
 ·rename_i h1
  split at h
  ·rename_i h2
   have a:=qdj.1 h1.1;have b:=qdj.1 h1.2;exact ⟨c.yes.toNat,c.no.toNat,by omega,by omega,by omega,by omega,h2⟩
  simp at h
 simp at h
def qce (y n t:Nat):Bool:=(t&&& y==y)&&(t&&& n==0)
theorem qvk (a b:Nat):((a:Int)==(b:Int))=(a==b):=by
 rw [Bool.eq_iff_iff,beq_iff_eq,beq_iff_eq];omega
theorem qrn (a:Nat):((a:Int)==0)=(a==0):=qvk a 0
def bitb (v k:Nat):Bool:=v / 2 ^ k % 2==1
theorem qtr (v k:Nat):((v:Int) / 2 ^ k).tmod 2=if bitb v k then 1 else 0:=by
 have h1:((v:Int) / 2 ^ k)=((v / 2 ^ k:Nat):Int):=by simp
 rw [h1,show (2:Int)=((2:Nat):Int) from rfl,← Int.ofNat_tmod];unfold bitb;have:v / 2 ^ k % 2=0∨v / 2 ^ k % 2=1:=by omega
 rcases this with h | h <;> simp [h]
def jet (y n t k:Nat):Bool:=!(bitb y k&&!bitb t k||bitb n k&&bitb t k)
theorem qu0:∀ y,y < 16→∀ n,n < 16→∀ t,t < 16→qce y n t=qds (jet y n t) 4:=by decide +kernel
theorem jem (a b i:Nat):(2 ^ b - 2 ^ a).testBit i=decide (a≤i∧i < b):=by
 by_cases h:a≤b
 ·obtain ⟨c,rfl⟩:=Nat.exists_eq_add_of_le h
  have e:2 ^ (a+c) - 2 ^ a=2 ^ a*(2 ^ c - 1):=by rw [Nat.pow_add,Nat.mul_sub,Nat.mul_one]
  rw [e,Nat.testBit_two_pow_mul,Nat.testBit_two_pow_sub_one];rw [Bool.eq_iff_iff];simp;omega
 have e:2 ^ b - 2 ^ a=0:=Nat.sub_eq_zero_of_le (Nat.pow_le_pow_right (by omega) (by omega));rw [e];have:¬ (a≤i∧i < b):=by omega
 simp [this]
theorem jad {a b:Nat} (ha:a < 4294967296) (hb:b < 4294967296):a||| b < 4294967296:=Nat.or_lt_two_pow (n:=32) ha hb
theorem qmk {a b:Nat} (ha:a < 4294967296):a&&& b < 4294967296:=Nat.lt_of_le_of_lt Nat.and_le_left ha
theorem qzi {a i:Nat} (ha:a < 4294967296) (hi:32≤i):a.testBit i=false:=
 Nat.testBit_lt_two_pow (Nat.lt_of_lt_of_le ha (show 2 ^ 32≤2 ^ i from Nat.pow_le_pow_right (by omega) hi))
theorem eq32 {a b:Nat} (ha:a < 4294967296) (hb:b < 4294967296) (h:∀ i,i < 32→a.testBit i=b.testBit i):a=b:=by
 apply Nat.eq_of_testBit_eq;intro i
 by_cases hi:i < 32
 ·exact h i hi
 rw [qzi ha (by omega),qzi hb (by omega)]
theorem ja6 (b i:Nat) (hi:i < 32) (hb:b < 4294967296):(4294967295 - b).testBit i=!b.testBit i:=by
 have:=Nat.testBit_two_pow_sub_succ (n:=32) (x:=b) hb i;have e:2 ^ 32 - (b+1)=4294967295 - b:=by omega
 rw [e] at this;rw [this];simp [hi]
def qcn:List Box→Int
 | []=>0
 | b::r=>if qaq b.cube=0 then (if qav b.spans=0 then qcn r else qav b.spans) else qaq b.cube
def qa0 (f:List Box):Int:=if 40 < f.length then 2 else qcn f
theorem qk2 (f:List Box) (k:Nat) (hk:k < f.length):qcn (f.drop k)=if qaq f[k].cube=0 then (if qav f[k].spans=0 then qcn (f.drop (k+1)) else qav f[k].spans) else qaq f[k].cube:=by
 rw [List.drop_eq_getElem_cons hk,qcn]
def qgl (b:Box):Prop:=qaq b.cube=0∧qav b.spans=0
theorem qjd:∀ f:List Box,qcn f=0↔∀ b∈f,qgl b
 | []=>by simp [qcn]
 | b::r=>by
  rw [qcn]
  by_cases h1:qaq b.cube=0
  ·by_cases h2:qav b.spans=0
   ·rw [if_pos h1,if_pos h2,qjd r]
    simp [qgl,h1,h2]
   rw [if_pos h1,if_neg h2];simp [qgl,h2]
  rw [if_neg h1];simp [qgl,h1]
theorem qah {f:List Box} (h:qa0 f=0):f.length≤40∧∀ b∈f,qgl b:=by
 unfold qa0 at h
 by_cases hl:40 < f.length
 ·simp [hl] at h
 rw [if_neg hl] at h;exact ⟨by omega,(qjd f).1 h⟩
theorem qpd {f:List Box} (h:f.length≤40) (hb:∀ b∈f,qgl b):qa0 f=0:=by
 rw [qa0,if_neg (by omega)];exact (qjd f).2 hb
def qb1 (f g:List Box):Int:=if qa0 f=0 then qa0 g else qa0 f
def qd9 (b:Box) (t:Nat):Bool:=qce b.cube.yes.toNat b.cube.no.toNat t
def pts (f:List Box) (i:Nat):Bool:=f.any fun b=>qai b.spans (i % 32:Nat)&&qd9 b (i / 32)
theorem jdb (f:List Box) (k:Nat) (hk:k < f.length) (i:Nat):pts (f.take (k+1)) i=(pts (f.take k) i||(qai f[k].spans (i % 32:Nat)&&qd9 f[k] (i / 32))):=by
 rw [List.take_succ_eq_append_getElem hk];unfold pts;rw [List.any_append,List.any_cons,List.any_nil,Bool.or_false]
def qcx (l:List Span):Nat:=l.foldl (fun acc s=>acc||| (2 ^ s.to.toNat - 2 ^ s.fr.toNat)) 0
theorem qrc (l:List Span) (k:Nat) (hk:k < l.length):qcx (l.take (k+1))=qcx (l.take k)||| (2 ^ l[k].to.toNat - 2 ^ l[k].fr.toNat):=by
 rw [List.take_succ_eq_append_getElem hk,qcx,List.foldl_append];rfl
theorem qrb (l:List Span) (h:SpansOk l):∀ (a n:Nat),(l.foldl (fun acc s=>acc||| (2 ^ s.to.toNat - 2 ^ s.fr.toNat)) a).testBit n=(a.testBit n||qai l n):=by
 induction l with
 | nil=>intro a n;simp [qai]
 | cons s r ih=>
  intro a n;rw [List.foldl_cons,ih (fun t ht=>h t (by simp [ht])),Nat.testBit_or,jem,qbh,Bool.or_assoc];have:=h s (by simp);congr 2;rw [decide_eq_decide];omega
theorem qta (l:List Span) (h:SpansOk l) (n:Nat):(qcx l).testBit n=qai l n:=by
 rw [qcx,qrb l h];simp
theorem jda {t:Nat} (h:t≤32):2 ^ t≤4294967296:=Nat.pow_le_pow_right (n:=2) (j:=32) (by omega) h
theorem qwe {f t:Nat} (_h:f < t) (ht:t≤32):2 ^ t - 2 ^ f < 4294967296:=by
 have:=jda ht;have:=Nat.two_pow_pos f;omega
theorem qmj (l:List Span) (h:SpansOk l):∀ a,a < 4294967296→(l.foldl (fun acc s=>acc||| (2 ^ s.to.toNat - 2 ^ s.fr.toNat)) a) < 4294967296:=by
 induction l with
 | nil=>intro a ha;exact ha
 | cons s r ih=>
  intro a ha;rw [List.foldl_cons];refine ih (fun t ht=>h t (by simp [ht])) _ (jad ha ?_);have:=h s (by simp);exact qwe (by omega) (by omega)
theorem SpansOk.take {l:List Span} (h:SpansOk l) (k:Nat):SpansOk (l.take k):=fun s hs=>h s (List.mem_of_mem_take hs)
theorem qjn {l:List Span} (h:SpansOk l):qcx l < 4294967296:=qmj l h 0 (by omega)
def tab (f:List Box) (t:Nat):Nat:=f.foldl (fun acc b=>if qd9 b t then acc||| qcx b.spans else acc) 0
theorem jdx (f:List Box) (k:Nat) (hk:k < f.length) (t:Nat):tab (f.take (k+1)) t=if qd9 f[k] t then tab (f.take k) t||| qcx f[k].spans else tab (f.take k) t:=by
 rw [List.take_succ_eq_append_getElem hk,tab,List.foldl_append];rfl
theorem jdw (f:List Box) (h:∀ b∈f,qgl b) (t:Nat):∀ (a n:Nat),(f.foldl (fun acc b=>if qd9 b t then acc||| qcx b.spans else acc) a).testBit n=(a.testBit n||f.any fun b=>qai b.spans n&&qd9 b t):=by
 induction f with
 | nil=>intro a n;simp
 | cons b r ih=>
  intro a n;rw [List.foldl_cons,ih (fun x hx=>h x (by simp [hx])),List.any_cons,← Bool.or_assoc];congr 1;have hb:=qta b.spans (qe6 (h b (by simp)).2).1 n
  by_cases hi:qd9 b t=true
  ·simp [hi,hb]
  simp [hi]
theorem jfm {f:List Box} (h:∀ b∈f,qgl b) (t n:Nat):(tab f t).testBit n=f.any fun b=>qai b.spans n&&qd9 b t:=by
 rw [tab,jdw f h];simp
theorem qv7 (f:List Box) (h:∀ b∈f,qgl b) (t:Nat):∀ a,a < 4294967296→(f.foldl (fun acc b=>if qd9 b t then acc||| qcx b.spans else acc) a) < 4294967296:=by
 induction f with
 | nil=>intro a ha;exact ha
 | cons b r ih=>
  intro a ha;rw [List.foldl_cons];refine ih (fun x hx=>h x (by simp [hx])) _ ?_;split
  ·exact jad ha (qjn (qe6 (h b (by simp)).2).1)
  exact ha
theorem qgz {f:List Box} (h:∀ b∈f,qgl b) (t:Nat):tab f t < 4294967296:=qv7 f h t 0 (by omega)
theorem qic {f:List Box} (h:∀ b∈f,qgl b) (i:Nat):pts f i=(tab f (i / 32)).testBit (i % 32):=by
 rw [jfm h,pts]
def clr (v k:Nat):Nat:=v&&& (15 - 2 ^ k)
def qr9 (T:Nat→Nat) (t:Nat) (d:Nat×Nat):Bool:=qds (fun o=>!qce d.1 d.2 o||T o==T t) 16
def qd7 (T:Nat→Nat) (t:Nat):Nat→Nat×Nat
 | 0=>(t,15 - t)
 | k+1=>if qr9 T t (clr (qd7 T t k).1 k,clr (qd7 T t k).2 k) then (clr (qd7 T t k).1 k,clr (qd7 T t k).2 k) else qd7 T t k
def qp8 (T:Nat→Nat) (t:Nat):Box:=⟨⟨((qd7 T t 4).1:Int),((qd7 T t 4).2:Int)⟩,qcb (fun n=>(T t).testBit n.toNat) 32⟩
def boxK (T:Nat→Nat):Nat→(Nat→Bool)×List Box
 | 0=>(fun _=>false,[])
 | k+1=>if (boxK T k).1 k||T k==0 then boxK T k else (fun o=>(boxK T k).1 o||qce (qd7 T k 4).1 (qd7 T k 4).2 o,(boxK T k).2++[qp8 T k])
def qfx (T:Nat→Nat):List Box:=(boxK T 16).2
theorem qxd:∀ t,t < 16→qce t (15 - t) t=true∧(∀ o,o < 16→qce t (15 - t) o=true→o=t)∧15 - t < 16∧t&&& (15 - t)=0:=by decide +kernel
theorem jfx:∀ k,k < 4→∀ y,y < 16→∀ n,n < 16→∀ t,t < 16→qce y n t=true→qce (clr y k) (clr n k) t=true:=by decide +kernel
theorem qvl:∀ k,k < 4→∀ y,y < 16→clr y k < 16:=by decide +kernel
theorem qyr:∀ k,k < 4→∀ y,y < 16→∀ n,n < 16→y&&& n=0→clr y k&&& clr n k=0:=by decide +kernel
structure GrowOk (T:Nat→Nat) (t:Nat) (c:Nat×Nat):Prop where
 y:c.1 < 16
 n:c.2 < 16
 dis:c.1&&& c.2=0
 self:qce c.1 c.2 t=true
 same:∀ o,o < 16→qce c.1 c.2 o=true→T o=T t
theorem qk5 (T:Nat→Nat) (t:Nat) (ht:t < 16):∀ k,k≤4→GrowOk T t (qd7 T t k)
 | 0,_=>by
  obtain ⟨h1,h2,h3,h4⟩:=qxd t ht;exact ⟨ht,h3,h4,h1,fun o ho hc=>by rw [h2 o ho hc]⟩
 | k+1,hk=>by
  have g:=qk5 T t ht k (by omega);rw [qd7]
  by_cases hs:qr9 T t (clr (qd7 T t k).1 k,clr (qd7 T t k).2 k)=true
  ·rw [if_pos hs]
   refine ⟨qvl k (by omega) _ g.y,qvl k (by omega) _ g.n,qyr k (by omega) _ g.y _ g.n g.dis,jfx k (by omega) _ g.y _ g.n t ht g.self,fun o ho hc=>?_⟩;have:=(qcy _ 16).1 hs o ho;simp only [hc,Bool.not_true,Bool.false_or,beq_iff_eq] at this;exact this
  rw [if_neg hs];exact g
theorem qrm:∀ {l:List Span} {lo:Int},Canon lo l→SpansOk l→lo≤32→2*(l.length:Int)≤32 - lo
 | [],lo,_,_,h=>by simp;omega
 | s::r,lo,h,aO,hlo=>by
  have h1:=aO s (by simp);have ih:=qrm (l:=r) (lo:=s.to) h.2.2 (fun t ht=>aO t (by simp [ht])) h1.2.2;have:=h.1;have:=h.2.1;simp only [List.length_cons];omega
theorem qvi:∀ {l:List Span} {lo:Int},Canon lo l→SpansOk l→qei lo l=0
 | [],_,_,_=>rfl
 | s::r,lo,h,aO=>by
  have h1:=aO s (by simp);rw [qei];have hb:qlq s=false:=by simp [qlq];omega
  have hl:¬ s.fr≤lo:=by have:=h.1;omega
  rw [hb,if_neg (by simp),if_neg hl];exact qvi h.2.2 fun t ht=>aO t (by simp [ht])
theorem qvj:∀ {l:List Span} {lo:Int},Canon lo l→-1≤lo→(∀ s∈l,s.to≤32)→SpansOk l
 | [],_,_,_,_=>by intro s h;simp at h
 | s::r,lo,h,hlo,ht=>by
  have h1:=h.1;have h2:=h.2.1;intro t hm;rcases List.mem_cons.1 hm with rfl | hm
  ·exact ⟨by omega,by omega,ht _ (by simp)⟩
  exact qvj h.2.2 (by omega) (fun u hu=>ht u (by simp [hu])) t hm
theorem qqv (p:Int→Bool):qav (qcb p 32)=0:=by
 obtain ⟨h1,h2,_⟩:=qla p 32;have aO:=qvj h1 (by omega) (by intro s hs;have:=h2 s hs;omega);have hl:=qrm h1 aO (by omega);rw [qav,if_neg (by omega)];exact qvi h1 aO
theorem qxk (p:Int→Bool) (n:Nat) (hn:n < 32):qai (qcb p 32) n=p n:=by
 rw [(qla p 32).2.2 n];have:decide ((0:Int)≤n∧(n:Int) < (32:Nat))=true:=by simp;omega
 rw [this,Bool.true_and]
theorem jc9 (T:Nat→Nat) (t:Nat) (ht:t < 16):qgl (qp8 T t):=by
 have g:=qk5 T t ht 4 (by omega);have hs:qav (qp8 T t).spans=0:=by unfold qp8;exact qqv (fun n=>(T t).testBit n.toNat)
 refine ⟨?_,hs⟩;have h1:qdm (((qd7 T t 4).1:Nat):Int)=true:=qdj.2 ⟨by omega,by have:=g.y;omega⟩;have h2:qdm (((qd7 T t 4).2:Nat):Int)=true:=qdj.2 ⟨by omega,by have:=g.n;omega⟩;rw [qp8,qaq,if_pos ⟨h1,h2⟩];simp only [Int.toNat_natCast];rw [if_pos g.dis]
theorem qqe (T:Nat→Nat) (t o:Nat):qd9 (qp8 T t) o=qce (qd7 T t 4).1 (qd7 T t 4).2 o:=by
 simp [qd9,qp8]
structure BoxesOk (T:Nat→Nat) (k:Nat) (s:(Nat→Bool)×List Box):Prop where
 len:s.2.length≤k
 ok:∀ b∈s.2,qgl b
 done:∀ o,o < 16→(s.1 o=true↔∃ b∈s.2,qd9 b o=true)
 val:∀ b∈s.2,∀ o,o < 16→qd9 b o=true→T o≠0∧∀ n,n < 32→qai b.spans (n:Nat)=(T o).testBit n
 all:∀ o,o < k→T o≠0→s.1 o=true
theorem ql1 (T:Nat→Nat):∀ k,k≤16→BoxesOk T k (boxK T k)
 | 0,_=>⟨by simp [boxK],by simp [boxK],by simp [boxK],by simp [boxK],by omega⟩
 | k+1,hk=>by
  have h:=ql1 T k (by omega);rw [boxK]
  by_cases hc:((boxK T k).1 k||T k==0)=true
  ·rw [if_pos hc]
   refine ⟨Nat.le_succ_of_le h.len,h.ok,h.done,h.val,fun o ho hT=>?_⟩
   by_cases aO:o < k
   ·exact h.all o aO hT
   obtain rfl:o=k:=by omega
   simp only [Bool.or_eq_true,beq_iff_eq] at hc;exact hc.resolve_right hT
  rw [if_neg hc];simp only [Bool.or_eq_true,beq_iff_eq,not_or] at hc;have g:=qk5 T k (by omega) 4 (by omega);refine ⟨by simp;exact h.len,?_,?_,?_,?_⟩
  ·intro b hb
   rcases List.mem_append.1 hb with hb | hb
   ·exact h.ok b hb
   rw [List.mem_singleton.1 hb];exact jc9 T k (by omega)
  ·intro o ho
   have:=h.done o ho;simp only [Bool.or_eq_true,this,List.mem_append,List.mem_singleton];constructor
   ·rintro (⟨b,hb,hi⟩ | hi)
    ·exact ⟨b,.inl hb,hi⟩
    exact ⟨_,.inr rfl,by rw [qqe];exact hi⟩
   rintro ⟨b,hb | rfl,hi⟩
   ·exact .inl ⟨b,hb,hi⟩
   exact .inr (by rw [qqe] at hi;exact hi)
  ·intro b hb o ho hi
   rcases List.mem_append.1 hb with hb | hb
   ·exact h.val b hb o ho hi
   obtain rfl:=List.mem_singleton.1 hb;rw [qqe] at hi;have e:=g.same o ho hi;rw [e];refine ⟨hc.2,fun n hn=>?_⟩;unfold qp8;simp only;rw [qxk _ n hn,Int.toNat_natCast]
  intro o ho hT
  by_cases aO:o < k
  ·simp [h.all o aO hT]
  obtain rfl:o=k:=by omega
  simp [g.self]
theorem qjh (T:Nat→Nat):(qfx T).length≤16:=(ql1 T 16 (by omega)).len
theorem qxj (T:Nat→Nat):∀ b∈qfx T,qgl b:=(ql1 T 16 (by omega)).ok
theorem qkg (T:Nat→Nat):qa0 (qfx T)=0:=qpd (by have:=qjh T;omega) (qxj T)
theorem qoc (T:Nat→Nat) (i:Nat) (hi:i < 512):pts (qfx T) i=(T (i / 32)).testBit (i % 32):=by
 have h:=ql1 T 16 (by omega);have ho:i / 32 < 16:=by omega
 have hn:i % 32 < 32:=by omega
 rw [Bool.eq_iff_iff];simp only [pts,List.any_eq_true,Bool.and_eq_true];constructor
 ·rintro ⟨b,hb,h1,h2⟩
  rw [← (h.val b hb _ ho h2).2 _ hn];exact h1
 intro ht;have hT:T (i / 32)≠0:=by
  intro e;rw [e] at ht;simp at ht
 obtain ⟨b,hb,h2⟩:=(h.done _ ho).1 (h.all _ ho hT);exact ⟨b,hb,by rw [(h.val b hb _ ho h2).2 _ hn];exact ht,h2⟩
theorem qum (T:Nat→Nat):qfx T=[]↔∀ o,o < 16→T o=0:=by
 have h:=ql1 T 16 (by omega);constructor
 ·intro e o ho
  apply Classical.byContradiction;intro hT;obtain ⟨b,hb,_⟩:=(h.done o ho).1 (h.all o ho hT);rw [show (boxK T 16).2=[] from e] at hb;simp at hb
 intro hz;apply List.eq_nil_iff_forall_not_mem.2;have:∀ k,k≤16→(boxK T k).2=[]:=by
  intro k
  induction k with
  | zero=>intro _;rfl
  | succ k ih=>
   intro hk;rw [boxK,if_pos (by simp [hz k (by omega)])];exact ih (by omega)
 intro b hb;rw [qfx,this 16 (by omega)] at hb;simp at hb
def qc1 (d:Nat→Nat→Nat) (f g:List Box):List Box:=if qb1 f g=0 then qfx (fun t=>d (tab f t) (tab g t)) else []
def qki (v:Nat) (n:Nat):Int:=qal (fun i=>v.testBit i) n
theorem jf0 (v:Nat) (hv:v≠0):∃ k,v.testBit k=true∧∀ i,(v&&& (v - 1)).testBit i=(v.testBit i&&!decide (i=k)):=by
 induction v using Nat.strongRecOn with
 | _ v ih=>
  by_cases ho:v % 2=1
  ·refine ⟨0,by simp [Nat.testBit_zero,ho],fun i=>?_⟩
   cases i with
   | zero=>simp [Nat.testBit_zero,ho];omega
   | succ i=>
    rw [Nat.testBit_and,Nat.testBit_succ,Nat.testBit_succ,show (v - 1) / 2=v / 2 by omega];simp
  obtain ⟨m,rfl⟩:∃ m,v=2*m:=⟨v / 2,by omega⟩
  obtain ⟨k,hk,h⟩:=ih m (by omega) (by omega);refine ⟨k+1,by rw [Nat.testBit_succ,show 2*m / 2=m by omega];exact hk,fun i=>?_⟩
  cases i with
  | zero=>simp [Nat.testBit_zero]
  | succ i=>
   rw [Nat.testBit_and,Nat.testBit_succ,Nat.testBit_succ,show (2*m - 1) / 2=m - 1 by omega,show 2*m / 2=m by omega,← Nat.testBit_and,h i];simp
theorem qnj (p:Nat→Bool) (k:Nat):∀ n,k < n→p k=true→qal (fun i=>p i&&!decide (i=k)) n+1=qal p n
 | 0,h,_=>by omega
 | n+1,h,hp=>by
  rw [qal,qal]
  by_cases hk:k=n
  ·subst hk
   have:=qbf (p:=fun i=>p i&&!decide (i=k)) (q:=p) (k:=k) (fun i hi=>by simp;omega);rw [this];simp [hp]
  have:=qnj p k n (by omega) hp;have:¬ n=k:=fun e=>hk e.symm;simp only [this,decide_false,Bool.not_false,Bool.and_true];omega
theorem jap (v:Nat) (hv:v≠0) (h:v < 4294967296):qki (v&&& (v - 1)) 32+1=qki v 32:=by
 obtain ⟨k,hk,h'⟩:=jf0 v hv;have hk32:k < 32:=by
  apply Classical.byContradiction;intro hn;rw [qzi h (by omega)] at hk
  cases hk
 unfold qki;rw [qbf (fun i _=>h' i)];exact qnj _ k 32 hk32 hk
theorem qqz (v n:Nat):0≤qki v n∧qki v n≤n:=ql5 _ _
theorem qxz (n:Nat):qki 0 n=0:=by unfold qki;rw [qbf (q:=fun _=>false) (by simp)];exact qhy n
theorem qni (p:Nat→Bool) (a:Nat):∀ b,qal p (a+b)=qal p a+qal (fun i=>p (a+i)) b
 | 0=>by simp [qal]
 | b+1=>by
  rw [← Nat.add_assoc,qal,qal,qni p a b];omega
def qgv (T:Nat→Nat):Nat→Int
 | 0=>0
 | k+1=>qgv T k+qki (T k) 32
theorem qsq (T:Nat→Nat):∀ k:Nat,0≤qgv T k∧qgv T k≤32*k
 | 0=>by simp [qgv]
 | k+1=>by
  have:=qsq T k;have:=qqz (T k) 32;rw [qgv];omega
theorem qpz (T:Nat→Nat) (p:Nat→Bool):∀ k,(∀ i,i < 32*k→p i=(T (i / 32)).testBit (i % 32))→qal p (32*k)=qgv T k
 | 0,_=>rfl
 | k+1,h=>by
  rw [show 32*(k+1)=32*k+32 by omega,qni,qgv,qpz T p k (fun i hi=>h i (by omega))];congr 1;unfold qki;apply qbf;intro i hi;rw [h _ (by omega),show (32*k+i) / 32=k by omega,show (32*k+i) % 32=i by omega]
def qc9 (f:List Box):Int:=if qa0 f=0 then qgv (tab f) 16 else 0
def qfw (a b:Nat):Nat:=a&&& (4294967295 - b)
theorem qxh (a b i:Nat) (hi:i < 32) (hb:b < 4294967296):(qfw a b).testBit i=(a.testBit i&&!b.testBit i):=by
 rw [qfw,Nat.testBit_and,ja6 b i hi hb]
theorem qrz {f g:List Box} (h:qb1 f g=0):qa0 f=0∧qa0 g=0:=by
 unfold qb1 at h
 by_cases hf:qa0 f=0
 ·rw [if_pos hf] at h;exact ⟨hf,h⟩
 rw [if_neg hf] at h;exact absurd h hf
structure Bits (d:Nat→Nat→Nat) (p:Bool→Bool→Bool):Prop where
 bit:∀ a b i,a < 4294967296→b < 4294967296→i < 32→(d a b).testBit i=p (a.testBit i) (b.testBit i)
 lt:∀ a b,a < 4294967296→b < 4294967296→d a b < 4294967296
theorem jc8:Bits (fun a b=>a&&& b) (fun a b=>a&&b):=⟨fun a b i _ _ _=>Nat.testBit_and a b i,fun _ _ ha _=>qmk ha⟩
theorem qym:Bits qfw (fun a b=>a&&!b):=⟨fun a b i _ hb hi=>qxh a b i hi hb,fun _ _ ha _=>qmk ha⟩
structure OpSays (d:Nat→Nat→Nat) (p:Bool→Bool→Bool) (f g:List Box):Prop where
 len:(qc1 d f g).length≤16
 ok:qa0 (qc1 d f g)=0
 pts:∀ i,i < 512→pts (qc1 d f g) i=p (pts f i) (pts g i)
 nil:qc1 d f g=[]↔∀ i,i < 512→p (Go.Proofs.YtngbfdogiciahaaGreat.pts f i) (Go.Proofs.YtngbfdogiciahaaGreat.pts g i)=false
theorem qk3 {d:Nat→Nat→Nat} {p:Bool→Bool→Bool} (hd:Bits d p) {f g:List Box} (h:qb1 f g=0):OpSays d p f g:=by
 obtain ⟨hf,hg⟩:=qrz h;have kf:=(qah hf).2;have kg:=(qah hg).2;have e:qc1 d f g=qfx fun t=>d (tab f t) (tab g t):=by rw [qc1,if_pos h]
 refine ⟨by rw [e];exact qjh _,by rw [e];exact qkg _,fun i hi=>?_,?_⟩
 ·rw [e,qoc _ i hi,hd.bit _ _ _ (qgz kf _) (qgz kg _) (by omega),qic kf,qic kg]
 rw [e,qum];constructor
 ·intro hz i hi
  rw [qic kf,qic kg,← hd.bit _ _ _ (qgz kf _) (qgz kg _) (show i % 32 < 32 by omega),hz (i / 32) (by omega)];simp
 intro hz o ho;refine eq32 (hd.lt _ _ (qgz kf _) (qgz kg _)) (by omega) fun n hn=>?_;have h1:=hz (32*o+n) (by omega);rw [qic kf,qic kg,show (32*o+n) / 32=o by omega,show (32*o+n) % 32=n by omega] at h1;rw [hd.bit _ _ _ (qgz kf _) (qgz kg _) hn,h1];simp
def qcp (d:Nat→Nat→Nat) (f g:List Box):Bool:=decide (qb1 f g=0)&&decide (qc1 d f g=[])
theorem qpe {d:Nat→Nat→Nat} {f g:List Box} (h:qb1 f g≠0):qcp d f g=false:=by simp [qcp,h]
theorem qnw {d:Nat→Nat→Nat} {p:Bool→Bool→Bool} (hd:Bits d p) {f g:List Box} (h:qb1 f g=0):qcp d f g=qds (fun i=>!p (pts f i) (pts g i)) 512:=by
 rw [qcp,h,decide_eq_true rfl,Bool.true_and,Bool.eq_iff_iff,decide_eq_true_iff,(qk3 hd h).nil,qcy];simp
theorem qyw {f:List Box} (h:qa0 f=0):qc9 f=qal (pts f) 512:=by
 rw [qc9,if_pos h];exact (qpz (tab f) (pts f) 16 fun i _=>qic (qah h).2 i).symm
def qnt:List Box:=[⟨⟨0,0⟩,[⟨0,32⟩]⟩]
theorem qz8 (i:Nat) (hi:i < 512):pts qnt i=true:=by
 have h1:qai [⟨0,32⟩] ((i % 32:Nat):Int)=true:=by simp [qai];omega
 have h2:∀ t,t < 16→qce 0 0 t=true:=by decide
 simp only [qnt,pts,List.any_cons,List.any_nil,Bool.or_false,h1,Bool.true_and];exact h2 (i / 32) (by omega)
def qaz (p:Point):Bool:=qdm p.tags&&(decide (0≤p.num)&&decide (p.num≤31))
theorem qfy {p:Point}:qaz p=true↔0≤p.tags∧p.tags≤15∧0≤p.num∧p.num≤31:=by
 rw [qaz,Bool.and_eq_true,Bool.and_eq_true,qdj,decide_eq_true_iff,decide_eq_true_iff];omega
def qbd (f:List Box) (p:Point):Bool:=f.any fun b=>qd9 b p.tags.toNat&&qai b.spans p.num
theorem qi3 (f:List Box) {p:Point} (h:qaz p=true):qbd f p=pts f (32*p.tags+p.num).toNat:=by
 obtain ⟨h1,h2,h3,h4⟩:=qfy.1 h;obtain ⟨t,ht⟩:=Int.eq_ofNat_of_zero_le h1;obtain ⟨n,hn⟩:=Int.eq_ofNat_of_zero_le h3;have e:(32*p.tags+p.num).toNat=32*t+n:=by omega
 rw [e,qbd,pts,show (32*t+n) / 32=t by omega,show (32*t+n) % 32=n by omega,ht,hn];congr 1;funext b;rw [Int.toNat_natCast,Bool.and_comm]
def qb8 (d:Dot):Bool:=decide (0≤d.site∧d.site≤4∧1≤d.count∧d.count≤1000)
theorem qar {d:Dot}:qb8 d=true↔0≤d.site∧d.site≤4∧1≤d.count∧d.count≤1000:=by simp [qb8]
def qab (v:List Int) (s:Int):Int:=v.getD s.toNat 0
def dlt (a b:Dot):Bool:=decide (a.site < b.site∨a.site=b.site∧a.count < b.count)
theorem qek {a b:Dot}:dlt a b=true↔a.site < b.site∨a.site=b.site∧a.count < b.count:=by simp [dlt]
theorem qhz {a b c:Dot} (h:dlt a b=true) (k:dlt b c=true):dlt a c=true:=by
 rw [qek] at *;omega
theorem Dot.ext' {a b:Dot} (h:a.site=b.site) (k:a.count=b.count):a=b:=by
 cases a;cases b;simp_all
theorem qyy {a b:Dot} (h:dlt a b=false) (k:a≠b):dlt b a=true:=by
 have h':¬ (a.site < b.site∨a.site=b.site∧a.count < b.count):=by simpa [dlt] using h
 rw [qek]
 by_cases e:a.site=b.site
 ·by_cases e2:a.count=b.count
  ·exact absurd (Dot.ext' e e2) k
  omega
 omega
theorem qgo (a:Dot):dlt a a=false:=by simp [dlt]
def qdw (v:List Int):Dot→List Dot→Int
 | _,[]=>0
 | last,d::r=>if qb8 d then (if d.count≤qab v d.site+1∨dlt last d=false then 3 else qdw v d r) else 1
def qf8:List Int→Int
 | []=>0
 | n::r=>if 0≤n∧n≤1000 then qf8 r else 1
def qa4 (k:Know):Int:=
 if 5 < k.vec.length∨60 < k.more.length then 2
 else if qf8 k.vec=0 then (if k.vec.getLast?=some 0 then 3 else qdw k.vec ⟨-1,0⟩ k.more) else 1
def qbx (l:List Dot) (k:Nat):Dot:=if k=0 then ⟨-1,0⟩ else (l[k - 1]?).getD ⟨-1,0⟩
theorem qq8 (l:List Int) (k:Nat) (hk:k < l.length):qf8 (l.drop k)=if 0≤l[k]∧l[k]≤1000 then qf8 (l.drop (k+1)) else 1:=by
 rw [List.drop_eq_getElem_cons hk,qf8]
theorem qey (l:List Dot) (k:Nat) (hk:k < l.length):qbx l (k+1)=l[k]:=by simp [qbx,hk]
theorem qoe (v:List Int) (l:List Dot) (k:Nat) (hk:k < l.length) :
  qdw v (qbx l k) (l.drop k)=if qb8 l[k]=true then (if l[k].count≤qab v l[k].site+1∨dlt (qbx l k) l[k]=false then 3 else qdw v (qbx l (k+1)) (l.drop (k+1))) else 1:=by
 rw [List.drop_eq_getElem_cons hk,qdw,qey l k hk]
def SortedD (lo:Dot) (l:List Dot):Prop:=List.Pairwise (fun a b=>dlt a b=true) (lo::l)
theorem SortedD.nil {lo:Dot}:SortedD lo []:=List.pairwise_cons.2 ⟨by simp,List.Pairwise.nil⟩
theorem SortedD.head {lo d:Dot} {r:List Dot} (h:SortedD lo (d::r)):dlt lo d=true:=(List.pairwise_cons.1 h).1 d (by simp)
theorem SortedD.tail {lo d:Dot} {r:List Dot} (h:SortedD lo (d::r)):SortedD d r:=(List.pairwise_cons.1 h).2
theorem SortedD.above {l:List Dot} {lo x:Dot} (h:SortedD lo l) (hx:x∈l):dlt lo x=true:=(List.pairwise_cons.1 h).1 x hx
theorem SortedD.low {l:List Dot} {lo lo':Dot} (h:SortedD lo l) (k:∀ x∈l,dlt lo' x=true):SortedD lo' l:=List.pairwise_cons.2 ⟨k,(List.pairwise_cons.1 h).2⟩
theorem SortedD.cons {lo d:Dot} {r:List Dot} (k:dlt lo d=true) (h:SortedD d r):SortedD lo (d::r):=by
 refine List.pairwise_cons.2 ⟨fun x hx=>?_,h⟩;rcases List.mem_cons.1 hx with rfl | hx
 ·exact k
 exact qhz k (h.above hx)
theorem SortedD.append:∀ {l m:List Dot} {lo:Dot},SortedD lo l→SortedD lo m→(∀ x∈l,∀ y∈m,dlt x y=true)→SortedD lo (l++m)
 | [],_,_,_,h,_=>h
 | e::r,m,_,h,k,g=>SortedD.cons h.head (SortedD.append h.tail (k.low fun y hy=>g e (by simp) y hy) fun x hx y hy=>g x (by simp [hx]) y hy)
theorem SortedD.concat {l:List Dot} {lo d:Dot} (h:SortedD lo l) (k:∀ x∈l,dlt x d=true) (g:dlt lo d=true):SortedD lo (l++[d]):=
 h.append (SortedD.cons g SortedD.nil) fun x hx y hy=>by rw [List.mem_singleton.1 hy];exact k x hx
theorem SortedD.unique:∀ {l m:List Dot} {lo:Dot},SortedD lo l→SortedD lo m→(∀ x,x∈l↔x∈m)→l=m
 | [],[],_,_,_,_=>rfl
 | [],d::r,_,_,_,h=>by have:=(h d).2 (by simp);simp at this
 | d::r,[],_,_,_,h=>by have:=(h d).1 (by simp);simp at this
 | d::r,e::s,lo,h,k,g=>by
  have hde:d=e:=by
   have h1:=(g d).1 (by simp);have h2:=(g e).2 (by simp);rcases List.mem_cons.1 h1 with h1 | h1
   ·exact h1
   rcases List.mem_cons.1 h2 with h2 | h2
   ·exact h2.symm
   have:=qhz (k.tail.above h1) (h.tail.above h2);rw [qgo] at this;cases this
  subst hde;congr 1;refine SortedD.unique h.tail k.tail fun x=>?_;have:=g x;simp only [List.mem_cons] at this;constructor
  ·intro hx
   rcases this.1 (.inr hx) with rfl | hx'
   ·have:=h.tail.above hx;rw [qgo] at this;cases this
   exact hx'
  intro hx;rcases this.2 (.inr hx) with rfl | hx'
  ·have:=k.tail.above hx;rw [qgo] at this;cases this
  exact hx'
theorem qsg (v:List Int):∀ (l:List Dot) (last:Dot),qdw v last l=0↔SortedD last l∧∀ d∈l,qb8 d=true∧qab v d.site+2≤d.count
 | [],_=>by simp [qdw,SortedD.nil]
 | d::r,last=>by
  rw [qdw]
  by_cases h1:qb8 d=true
  ·rw [if_pos h1]
   by_cases h2:d.count≤qab v d.site+1∨dlt last d=false
   ·rw [if_pos h2]
    constructor
    ·intro h;simp at h
    rintro ⟨hs,hd⟩;have:=hd d (by simp);rcases h2 with h2 | h2
    ·omega
    rw [hs.head] at h2;cases h2
   rw [if_neg h2,qsg v r d];have h3:dlt last d=true:=by
    cases h:dlt last d
    ·exact absurd (.inr h) h2
    rfl
   constructor
   ·rintro ⟨hs,hd⟩
    refine ⟨SortedD.cons h3 hs,fun x hx=>?_⟩;rcases List.mem_cons.1 hx with rfl | hx
    ·exact ⟨h1,by omega⟩
    exact hd x hx
   rintro ⟨hs,hd⟩;exact ⟨hs.tail,fun x hx=>hd x (by simp [hx])⟩
  rw [if_neg h1];constructor
  ·intro h;simp at h
  rintro ⟨_,hd⟩;exact absurd (hd d (by simp)).1 h1
theorem qku:∀ l:List Int,qf8 l=0↔∀ n∈l,0≤n∧n≤1000
 | []=>by simp [qf8]
 | n::r=>by
  rw [qf8]
  by_cases h:0≤n∧n≤1000
  ·rw [if_pos h,qku r];simp [h]
  rw [if_neg h];simp;intro h0 h1;exact absurd ⟨h0,h1⟩ h
structure KnowOk (k:Know):Prop where
 vlen:k.vec.length≤5
 mlen:k.more.length≤60
 vec:∀ n∈k.vec,0≤n∧n≤1000
 last:k.vec.getLast?≠some 0
 sorted:SortedD ⟨-1,0⟩ k.more
 more:∀ d∈k.more,qb8 d=true∧qab k.vec d.site+2≤d.count
theorem qb0 {k:Know}:qa4 k=0↔KnowOk k:=by
 unfold qa4
 by_cases h1:5 < k.vec.length∨60 < k.more.length
 ·rw [if_pos h1]
  exact ⟨fun h=>by simp at h,fun h=>by have:=h.vlen;have:=h.mlen;omega⟩
 rw [if_neg h1]
 by_cases h2:qf8 k.vec=0
 ·rw [if_pos h2]
  by_cases h3:k.vec.getLast?=some 0
  ·rw [if_pos h3]
   exact ⟨fun h=>by simp at h,fun h=>absurd h3 h.last⟩
  rw [if_neg h3,qsg];exact ⟨fun h=>⟨by omega,by omega,(qku _).1 h2,h3,h.1,h.2⟩,fun h=>⟨h.sorted,h.more⟩⟩
 rw [if_neg h2];exact ⟨fun h=>by simp at h,fun h=>absurd ((qku _).2 h.vec) h2⟩
abbrev DSet:=Nat→Nat→Bool
def hasK (k:Know):DSet:=fun s c=>decide (1≤c)&&(decide ((c:Int)≤qab k.vec s)||k.more.contains ⟨s,c⟩)
def qqa (S T:DSet):Prop:=∀ s,s < 5→∀ c,1≤c→c≤1000→S s c=T s c
def qdz (p:Nat→Bool):Nat→Nat→Nat
 | 0,n=>n
 | f+1,n=>if p (n+1) then qdz p f (n+1) else n
termination_by f=>f
def pre (S:DSet) (s:Nat):Nat:=qdz (S s) 1000 0
theorem qq1 (p:Nat→Bool):∀ (f n:Nat),(∀ c,1≤c→c≤n→p c=true)→(∀ c,1≤c→c≤qdz p f n→p c=true)∧n≤qdz p f n∧qdz p f n≤n+f∧(qdz p f n < n+f→p (qdz p f n+1)=false)
 | 0,n,h=>by rw [qdz];exact ⟨h,Nat.le_refl _,Nat.le_refl _,fun h=>absurd h (by omega)⟩
 | f+1,n,h=>by
  rw [qdz]
  by_cases hp:p (n+1)=true
  ·rw [if_pos hp]
   obtain ⟨h1,h2,h3,h4⟩:=qq1 p f (n+1) (fun c c1 c2=>by
    by_cases e:c=n+1
    ·rw [e];exact hp
    exact h c c1 (by omega))
   exact ⟨h1,by omega,by omega,fun aD=>h4 (by omega)⟩
  rw [if_neg hp];exact ⟨h,Nat.le_refl _,by omega,fun _=>by simpa using hp⟩
theorem jej (S:DSet) (s:Nat):(∀ c,1≤c→c≤pre S s→S s c=true)∧pre S s≤1000∧(pre S s < 1000→S s (pre S s+1)=false):=by
 obtain ⟨h1,_,h3,h4⟩:=qq1 (S s) 1000 0 (fun c c1 c2=>by omega);exact ⟨h1,by unfold pre;omega,fun h=>h4 (by unfold pre at h;omega)⟩
theorem qfl (S:DSet) (s n:Nat) (h1:∀ c,1≤c→c≤n→S s c=true) (h2:n≤1000) (h3:n < 1000→S s (n+1)=false):pre S s=n:=by
 obtain ⟨k1,k2,k3⟩:=jej S s
 by_cases e:pre S s < n
 ·have:=h1 (pre S s+1) (by omega) (by omega)
  rw [k3 (by omega)] at this;cases this
 by_cases e2:n < pre S s
 ·have:=k1 (n+1) (by omega) (by omega)
  rw [h3 (by omega)] at this;cases this
 omega
def qm9 (S:DSet) (s:Nat):List Dot:=((List.range 1001).filter fun c=>decide (pre S s+2≤c)&&S s c).map fun (c:Nat)=>⟨(s:Int),(c:Int)⟩
def trim (v:List Int):List Int:=(v.reverse.dropWhile (·==0)).reverse
def qel (S:DSet):List Int:=(List.range 5).map fun s=>(pre S s:Int)
def qfb (S:DSet):List Dot:=(List.range 5).flatMap fun s=>qm9 S s
def qb2 (S:DSet):Know:=⟨trim (qel S),qfb S⟩
theorem qpr {S:DSet} {s:Nat} {d:Dot}:d∈qm9 S s↔∃ c:Nat,d=⟨(s:Int),(c:Int)⟩∧c≤1000∧pre S s+2≤c∧S s c=true:=by
 simp only [qm9,List.mem_map,List.mem_filter,List.mem_range,Bool.and_eq_true,decide_eq_true_eq];constructor
 ·rintro ⟨c,⟨h1,h2,h3⟩,rfl⟩;exact ⟨c,rfl,by omega,h2,h3⟩
 rintro ⟨c,rfl,h1,h2,h3⟩;exact ⟨c,⟨by omega,h2,h3⟩,rfl⟩
theorem qe4 {S:DSet} {d:Dot}:d∈qfb S↔∃ s c:Nat,s < 5∧d=⟨(s:Int),(c:Int)⟩∧c≤1000∧pre S s+2≤c∧S s c=true:=by
 simp only [qfb,List.mem_flatMap,List.mem_range,qpr];constructor
 ·rintro ⟨s,hs,c,h⟩;exact ⟨s,c,hs,h⟩
 rintro ⟨s,c,hs,h⟩;exact ⟨s,hs,c,h⟩
theorem qmd (s:Nat) (q:Nat→Bool):∀ (n:Nat),SortedD ⟨-1,0⟩ (((List.range n).filter q).map fun (c:Nat)=>(⟨(s:Int),(c:Int)⟩:Dot))
 | 0=>SortedD.nil
 | n+1=>by
  rw [List.range_succ,List.filter_append,List.map_append];have ih:=qmd s q n
  by_cases h:q n=true
  ·simp only [List.filter_cons,h,if_true,List.filter_nil,List.map_cons,List.map_nil]
   refine ih.concat ?_ (by rw [qek];left;show (-1:Int) < s;omega);intro x hx;simp only [List.mem_map,List.mem_filter,List.mem_range] at hx;obtain ⟨c,⟨hc,_⟩,rfl⟩:=hx;rw [qek];right;exact ⟨rfl,by show (c:Int) < n;omega⟩
  simp [h];exact ih
theorem qed (S:DSet):SortedD ⟨-1,0⟩ (qfb S):=by
 have:∀ n:Nat,SortedD ⟨-1,0⟩ ((List.range n).flatMap fun s=>qm9 S s):=by
  intro n
  induction n with
  | zero=>exact SortedD.nil
  | succ n ih=>
   rw [List.range_succ,List.flatMap_append];refine ih.append (by rw [List.flatMap_cons,List.flatMap_nil,List.append_nil];exact qmd n _ 1001) ?_;intro x hx y hy;simp only [List.mem_flatMap,List.mem_range,qpr,List.mem_singleton] at hx hy;obtain ⟨s,hs,c,rfl,_⟩:=hx;obtain ⟨t,rfl,c',rfl,_⟩:=hy;rw [qek];left;show (s:Int) < t;omega
 exact this 5
theorem qkj {p q:Nat→Bool}:∀ (f n:Nat),(∀ c,1≤c→c≤n+f→p c=q c)→qdz p f n=qdz q f n
 | 0,_,_=>by rw [qdz,qdz]
 | f+1,n,h=>by
  rw [qdz,qdz,h (n+1) (by omega) (by omega),qkj f (n+1) (fun c c1 c2=>h c c1 (by omega))]
theorem qg7 {S T:DSet} (h:qqa S T):qb2 S=qb2 T:=by
 have hp:∀ s,s < 5→pre S s=pre T s:=fun s hs=>qkj 1000 0 fun c c1 c2=>h s hs c c1 (by omega);have hv:qel S=qel T:=by
  unfold qel;apply List.map_congr_left;intro s hs;rw [hp s (List.mem_range.1 hs)]
 have hm:qfb S=qfb T:=by
  refine (qed S).unique (qed T) fun x=>?_;rw [qe4,qe4];constructor
  ·rintro ⟨s,c,hs,rfl,hc,h1,h2⟩
   exact ⟨s,c,hs,rfl,hc,by rw [← hp s hs];exact h1,by rw [← h s hs c (by omega) hc];exact h2⟩
  rintro ⟨s,c,hs,rfl,hc,h1,h2⟩;exact ⟨s,c,hs,rfl,hc,by rw [hp s hs];exact h1,by rw [h s hs c (by omega) hc];exact h2⟩
 unfold qb2;rw [hv,hm]
theorem qtf (v:List Int) (i:Nat):(trim v).getD i 0=v.getD i 0:=by
 unfold trim;have key:∀ (r:List Int) (i:Nat),(r.dropWhile (·==0)).reverse.getD i 0=r.reverse.getD i 0:=by
  intro r
  induction r with
  | nil=>intro i;rfl
  | cons x r ih=>
   intro i
   by_cases hx:x=0
   ·subst hx
    rw [List.dropWhile_cons,if_pos (by rfl),ih i,List.reverse_cons];simp only [List.getD_eq_getElem?_getD]
    by_cases hi:i < r.reverse.length
    ·rw [List.getElem?_append_left hi]
    rw [List.getElem?_append_right (by omega),List.getElem?_eq_none (by omega)]
    cases i - r.reverse.length <;> rfl
   rw [List.dropWhile_cons,if_neg (by simpa using hx)]
 rw [key,List.reverse_reverse]
theorem jbp (v:List Int):(trim v).getLast?≠some 0:=by
 unfold trim;rw [List.getLast?_reverse];intro h;have:=List.head?_dropWhile_not (·==(0:Int)) v.reverse;rw [h] at this;simp at this
theorem qx8 {a b:List Int} (ha:a.getLast?≠some 0) (hb:b.getLast?≠some 0) (h:∀ i,a.getD i 0=b.getD i 0):a=b:=by
 have key:∀ {a b:List Int},b.getLast?≠some 0→(∀ i,a.getD i 0=b.getD i 0)→b.length≤a.length:=by
  intro a b hb h;apply Classical.byContradiction;intro hn;have fT:0 < b.length:=by omega
  apply hb;rw [List.getLast?_eq_getElem?,List.getElem?_eq_getElem (by omega)];have:=h (b.length - 1);simp only [List.getD_eq_getElem?_getD] at this;rw [List.getElem?_eq_none (by omega),List.getElem?_eq_getElem (by omega)] at this;simp at this;rw [← this]
 have hl:a.length=b.length:=by
  have:=key hb h;have:=key ha fun i=>(h i).symm;omega
 apply List.ext_getElem hl;intro i h1 h2;have:=h i;simp only [List.getD_eq_getElem?_getD,List.getElem?_eq_getElem h1,List.getElem?_eq_getElem h2,Option.getD_some] at this;exact this
theorem qi4 (S:DSet) (s:Nat) (hs:s < 5):(qel S).getD s 0=(pre S s:Int):=by
 simp [qel,hs]
theorem qua (S:DSet) (s:Nat) (hs:5≤s):(qel S).getD s 0=0:=by
 simp [qel,hs]
theorem qqn {k:Know} (h:KnowOk k):qb2 (hasK k)=k:=by
 have hvec:∀ s:Nat,s < 5→0≤qab k.vec s∧qab k.vec s≤1000:=by
  intro s hs;unfold qab;rw [List.getD_eq_getElem?_getD,Int.toNat_natCast]
  cases e:k.vec[s]? with
  | none=>simp
  | some n=>simpa using h.vec n (List.mem_of_getElem? e)
 have hp:∀ s:Nat,s < 5→(pre (hasK k) s:Int)=qab k.vec s:=by
  intro s hs;obtain ⟨h0,h1⟩:=hvec s hs;obtain ⟨n,hn⟩:=Int.eq_ofNat_of_zero_le h0;rw [hn];congr 1;refine qfl _ _ _ ?_ (by omega) ?_
  ·intro c c1 c2
   have:((c:Int)≤qab k.vec s):=by omega
   simp [hasK,c1,this]
  intro _;have h2:¬ (((n+1:Nat):Int)≤qab k.vec s):=by omega
  have h3:k.more.contains ⟨s,((n+1:Nat):Int)⟩=false:=by
   rw [← Bool.not_eq_true,List.contains_iff_mem];intro hm;have:=(h.more _ hm).2;simp only at this;omega
  simp only [hasK,h2,h3];simp
 have hv:trim (qel (hasK k))=k.vec:=by
  refine qx8 (jbp _) h.last fun i=>?_;rw [qtf]
  by_cases hi:i < 5
  ·rw [qi4 _ _ hi,hp i hi]
   simp [qab]
  rw [qua _ _ (by omega)];have:=h.vlen;rw [List.getD_eq_getElem?_getD,List.getElem?_eq_none (by omega)];rfl
 have hm:qfb (hasK k)=k.more:=by
  refine (qed _).unique h.sorted fun d=>?_;rw [qe4];constructor
  ·rintro ⟨s,c,hs,rfl,hc,h1,h2⟩
   have:=hp s hs;have hn:¬ ((c:Int)≤qab k.vec s):=by omega
   simp only [hasK,hn,decide_false,Bool.false_or,Bool.and_eq_true] at h2;exact List.contains_iff_mem.1 h2.2
  intro hd;obtain ⟨h1,h2⟩:=h.more d hd;rw [qar] at h1;obtain ⟨s,hs⟩:=Int.eq_ofNat_of_zero_le h1.1;obtain ⟨c,hc⟩:=Int.eq_ofNat_of_zero_le (show 0≤d.count by omega);have hd':d=⟨(s:Int),(c:Int)⟩:=Dot.ext' hs hc;have bP:s < 5:=by omega
  have:=hp s bP;rw [hs] at h2;refine ⟨s,c,bP,hd',by omega,by omega,?_⟩;have hm:k.more.contains (⟨(s:Int),(c:Int)⟩:Dot)=true:=List.contains_iff_mem.2 (hd' ▸ hd);have dH:1≤c:=by omega
  simp only [hasK,hm,dH];simp
 unfold qb2;rw [hv,hm]
theorem qu9 (S:DSet):(qb2 S).more=qfb S:=by simp only [qb2]
theorem qxb (S:DSet):(qb2 S).vec=trim (qel S):=by simp only [qb2]
theorem qpp (S:DSet):qqa (hasK (qb2 S)) S:=by
 intro s hs c c1 c2;obtain ⟨h1,h2,h3⟩:=jej S s;have hv:qab (qb2 S).vec s=(pre S s:Int):=by
  unfold qab;rw [qxb,qtf,Int.toNat_natCast,qi4 _ _ hs]
 have e0:=qu9 S;rw [Bool.eq_iff_iff];simp only [hasK,hv,e0,Bool.and_eq_true,Bool.or_eq_true,decide_eq_true_eq,List.contains_iff_mem];constructor
 ·rintro ⟨_,cZ | hm⟩
  ·exact h1 c c1 (by omega)
  obtain ⟨s',c',_,e,_,_,h⟩:=qe4.1 hm;have e1:(s:Int)=s':=congrArg Dot.site e;have e2:(c:Int)=c':=congrArg Dot.count e;rw [show s=s' by omega,show c=c' by omega];exact h
 intro h;refine ⟨c1,?_⟩
 by_cases cZ:c≤pre S s
 ·left;omega
 right;have aV:c≠pre S s+1:=by
  intro e;rw [e] at h;rw [h3 (by omega)] at h;cases h
 exact qe4.2 ⟨s,c,hs,rfl,c2,by omega,h⟩
theorem qt3 {S T:DSet} (h:qb2 S=qb2 T):qqa S T:=by
 intro s hs c c1 c2;rw [← qpp S s hs c c1 c2,← qpp T s hs c c1 c2,h]
def qbn (st:List Int×List Dot) (d:Dot):List Int×List Dot:=
 if d.count≤qab st.1 d.site then st
 else if d.count=qab st.1 d.site+1 then (st.1.set d.site.toNat (qab st.1 d.site+1),st.2)
 else if st.2.getLast?=some d then st else (st.1,st.2++[d])
def qbq (v:List Int) (ds:List Dot):List Int×List Dot:=ds.foldl qbn (v,[])
def dle (a b:Dot):Bool:=!dlt b a
def OrdD (l:List Dot):Prop:=l.Pairwise fun a b=>dle a b=true
structure MadeOk (v0:List Int) (P:List Dot) (st:List Int×List Dot):Prop where
 len:st.1.length=5
 ge:∀ s:Nat,s < 5→qab v0 s≤qab st.1 s
 le:∀ s:Nat,s < 5→0≤qab st.1 s∧qab st.1 s≤1000
 all:∀ s:Nat,s < 5→∀ c:Nat,1≤c→(c:Int)≤qab st.1 s→(c:Int)≤qab v0 s∨(⟨s,c⟩:Dot)∈P
 sorted:SortedD ⟨-1,0⟩ st.2
 sub:∀ d∈st.2,d∈P∧qab st.1 d.site+2≤d.count
 cover:∀ d∈P,d.count≤qab st.1 d.site∨d∈st.2
 pok:∀ d∈P,qb8 d=true
theorem qks (v:List Int) (i s:Int) (n:Int) (h0:0≤i) (h1:0≤s) (hi:i.toNat < v.length):qab (v.set i.toNat n) s=if i=s then n else qab v s:=by
 unfold qab;simp only [List.getD_eq_getElem?_getD,List.getElem?_set]
 by_cases h:i=s
 ·subst h;simp [hi]
 rw [if_neg h,if_neg (by omega)]
theorem qgg:∀ {l:List Dot} {lo x y:Dot},SortedD lo l→l.getLast?=some y→x∈l→x=y∨dlt x y=true
 | [d],_,x,y,_,h,hx=>by simp at h hx;left;rw [hx,h]
 | d::e::r,lo,x,y,hs,h,hx=>by
  have h':(e::r).getLast?=some y:=by simpa using h
  rcases List.mem_cons.1 hx with rfl | hx
  ·right
   rcases qgg hs.tail h' (x:=e) (by simp) with rfl | h2
   ·exact hs.tail.head
   exact qhz hs.tail.head h2
  exact qgg hs.tail h' hx
theorem qul (v0:List Int):∀ (ds P:List Dot) (st:List Int×List Dot),MadeOk v0 P st→(∀ d∈ds,qb8 d=true)→OrdD ds→(∀ p∈P,∀ d∈ds,dle p d=true)→MadeOk v0 (P++ds) (ds.foldl qbn st)
 | [],P,st,h,_,_,_=>by simpa using h
 | d::ds,P,st,h,hd,ho,hP=>by
  have hdo:=qar.1 (hd d (by simp));obtain ⟨s,hs⟩:=Int.eq_ofNat_of_zero_le hdo.1;obtain ⟨c,hc⟩:=Int.eq_ofNat_of_zero_le (show 0≤d.count by omega);have bP:s < 5:=by omega
  have hd':d=⟨(s:Int),(c:Int)⟩:=Dot.ext' hs hc;have hPd:∀ p∈P,dle p d=true:=fun p hp=>hP p hp d (by simp);have hpok:∀ e∈P++[d],qb8 e=true:=by
   intro e he;rcases List.mem_append.1 he with he | he
   ·exact h.pok e he
   rw [List.mem_singleton.1 he];exact hd d (by simp)
  have step:MadeOk v0 (P++[d]) (qbn st d):=by
   unfold qbn
   by_cases h1:d.count≤qab st.1 d.site
   ·rw [if_pos h1]
    refine ⟨h.len,h.ge,h.le,fun s hs c c1 c2=>(h.all s hs c c1 c2).imp id (by simp;exact .inl),h.sorted,fun e he=>⟨by simp [(h.sub e he).1],(h.sub e he).2⟩,fun e he=>?_,hpok⟩;rcases List.mem_append.1 he with he | he
    ·exact h.cover e he
    obtain rfl:=List.mem_singleton.1 he;exact .inl h1
   rw [if_neg h1]
   by_cases h2:d.count=qab st.1 d.site+1
   ·rw [if_pos h2]
    have eB:∀ t:Int,0≤t→qab (st.1.set d.site.toNat (qab st.1 d.site+1)) t=if d.site=t then qab st.1 d.site+1 else qab st.1 t:=
     fun t ht=>qks _ _ _ _ hdo.1 ht (by rw [h.len];omega)
    have hmono:∀ t:Int,0≤t→qab st.1 t≤qab (st.1.set d.site.toNat (qab st.1 d.site+1)) t:=by
     intro t ht;rw [eB t ht];split
     ·rename_i e;rw [← e];omega
     exact Int.le_refl _
    refine ⟨by simp [h.len],fun t ht=>?_,fun t ht=>?_,fun t ht c' c1 c2=>?_,h.sorted,fun e he=>?_,fun e he=>?_,hpok⟩
    ·exact Int.le_trans (h.ge t ht) (hmono t (by omega))
    ·have:=h.le t ht
     show 0≤qab (st.1.set d.site.toNat (qab st.1 d.site+1)) t∧qab (st.1.set d.site.toNat (qab st.1 d.site+1)) t≤1000;rw [eB t (by omega)];split
     ·rename_i e;rw [← e] at this;omega
     exact this
    ·have c2':(c':Int)≤qab (st.1.set d.site.toNat (qab st.1 d.site+1)) t:=c2
     rw [eB t (by omega)] at c2';split at c2'
     ·rename_i e
      by_cases cZ:(c':Int)≤qab st.1 t
      ·exact (h.all t ht c' c1 cZ).imp id (by simp;exact .inl)
      right;rw [← e] at cZ;have:d=⟨(t:Int),(c':Int)⟩:=Dot.ext' e (by show d.count=(c':Int);omega);simp [this]
     exact (h.all t ht c' c1 c2').imp id (by simp;exact .inl)
    ·obtain ⟨g1,g2⟩:=h.sub e he
     have heo:=qar.1 (h.pok e g1);refine ⟨by simp [g1],?_⟩;have cZ:=hPd e g1;have hle':¬ dlt d e=true:=by simpa [dle] using cZ
     rw [qek] at hle';show qab (st.1.set d.site.toNat (qab st.1 d.site+1)) e.site+2≤e.count;rw [eB e.site heo.1];split
     ·rename_i e'
      rw [← e'] at g2 hle';omega
     exact g2
    rcases List.mem_append.1 he with he | he
    ·have heo:=qar.1 (h.pok e he)
     exact (h.cover e he).imp (fun hh=>Int.le_trans hh (hmono e.site heo.1)) id
    obtain rfl:=List.mem_singleton.1 he;left;show e.count≤qab (st.1.set e.site.toNat (qab st.1 e.site+1)) e.site;rw [eB _ hdo.1,if_pos rfl];omega
   rw [if_neg h2]
   by_cases h3:st.2.getLast?=some d
   ·rw [if_pos h3]
    refine ⟨h.len,h.ge,h.le,fun s hs c c1 c2=>(h.all s hs c c1 c2).imp id (by simp;exact .inl),h.sorted,fun e he=>⟨by simp [(h.sub e he).1],(h.sub e he).2⟩,fun e he=>?_,hpok⟩;rcases List.mem_append.1 he with he | he
    ·exact h.cover e he
    obtain rfl:=List.mem_singleton.1 he;exact .inr (List.mem_of_getLast? h3)
   rw [if_neg h3];refine ⟨h.len,h.ge,h.le,fun s hs c c1 c2=>(h.all s hs c c1 c2).imp id (by simp;exact .inl),?_,fun e he=>?_,fun e he=>?_,hpok⟩
   ·refine h.sorted.concat (fun x hx=>?_) (by rw [qek];left;show (-1:Int) < d.site;omega)
    have cZ:=hPd x (h.sub x hx).1
    by_cases hxd:x=d
    ·subst hxd
     cases hg:st.2.getLast? with
     | none=>rw [List.getLast?_eq_none_iff] at hg;rw [hg] at hx;simp at hx
     | some y=>
      rcases qgg h.sorted hg hx with rfl | aD
      ·exact absurd hg h3
      have:=hPd y (h.sub y (List.mem_of_getLast? hg)).1;simp [dle,aD] at this
    exact qyy (by simpa [dle] using cZ) fun e=>hxd e.symm
   ·rcases List.mem_append.1 he with he | he
    ·exact ⟨by simp [(h.sub e he).1],(h.sub e he).2⟩
    obtain rfl:=List.mem_singleton.1 he;exact ⟨by simp,by show qab st.1 _+2≤_;omega⟩
   rcases List.mem_append.1 he with he | he
   ·exact (h.cover e he).imp id (by simp;exact .inl)
   obtain rfl:=List.mem_singleton.1 he;exact .inr (by simp)
  have:=qul v0 ds (P++[d]) (qbn st d) step (fun e he=>hd e (by simp [he])) (List.pairwise_cons.1 ho).2 (fun p hp e he=>by
   rcases List.mem_append.1 hp with hp | hp
   ·exact hP p hp e (by simp [he])
   obtain rfl:=List.mem_singleton.1 hp;exact (List.pairwise_cons.1 ho).1 e he)
  simpa using this
def qf7 (v:List Int) (ds:List Dot):DSet:=fun s c=>decide (1≤c)&&(decide ((c:Int)≤qab v s)||ds.contains ⟨s,c⟩)
def made (v:List Int) (ds:List Dot):Know:=⟨trim (qbq v ds).1,(qbq v ds).2⟩
theorem qzv {v:List Int} {ds:List Dot} (hl:v.length=5) (hv:∀ n∈v,0≤n∧n≤1000) (hd:∀ d∈ds,qb8 d=true) (ho:OrdD ds):made v ds=qb2 (qf7 v ds):=by
 have hv':∀ s:Nat,s < 5→0≤qab v s∧qab v s≤1000:=by
  intro s hs;unfold qab;rw [List.getD_eq_getElem?_getD,Int.toNat_natCast,List.getElem?_eq_getElem (by omega)];exact hv _ (List.getElem_mem _)
 have h:=qul v ds [] (v,[]) ⟨hl,fun _ _=>Int.le_refl _,hv',fun s hs c c1 c2=>.inl c2,SortedD.nil,by simp,by simp,by simp⟩ hd ho (by simp);rw [List.nil_append] at h;have hp:∀ s:Nat,s < 5→(pre (qf7 v ds) s:Int)=qab (qbq v ds).1 s:=by
  intro s hs;obtain ⟨h0,h1⟩:=h.le s hs;obtain ⟨n,hn⟩:=Int.eq_ofNat_of_zero_le h0;show _=qab (ds.foldl qbn (v,[])).1 s;rw [hn];congr 1;refine qfl _ _ _ ?_ (by omega) ?_
  ·intro c c1 c2
   rcases h.all s hs c c1 (by omega) with hh | hh
   ·simp [qf7,c1,hh]
   have:=List.contains_iff_mem.2 hh;simp only [qf7,c1,this];simp
  intro _;rw [← Bool.not_eq_true];simp only [qf7,Bool.and_eq_true,Bool.or_eq_true,decide_eq_true_eq];rintro ⟨_,hh | hh⟩
  ·have:=h.ge s hs;omega
  rcases h.cover _ (List.contains_iff_mem.1 hh) with g | g
  ·have g':((n+1:Nat):Int)≤qab (ds.foldl qbn (v,[])).1 s:=g
   omega
  have g':qab (ds.foldl qbn (v,[])).1 s+2≤((n+1:Nat):Int):=(h.sub _ g).2;omega
 have e1:trim (qbq v ds).1=trim (qel (qf7 v ds)):=by
  congr 1;apply List.ext_getElem
  ·show (ds.foldl qbn (v,[])).1.length=_
   rw [h.len];simp [qel]
  intro i h1 h2;have h5:i < 5:=by simp [qel] at h2;exact h2
  have:=hp i h5;rw [← qi4 _ _ h5] at this;rw [List.getD_eq_getElem?_getD,List.getElem?_eq_getElem h2,Option.getD_some] at this;rw [this];unfold qab;rw [List.getD_eq_getElem?_getD,Int.toNat_natCast,List.getElem?_eq_getElem h1,Option.getD_some]
 have e2:(qbq v ds).2=qfb (qf7 v ds):=by
  refine h.sorted.unique (qed _) fun d=>?_;rw [qe4];constructor
  ·intro hm
   obtain ⟨g1,g2⟩:=h.sub d hm;have hdo:=qar.1 (hd d g1);obtain ⟨s,hs⟩:=Int.eq_ofNat_of_zero_le hdo.1;obtain ⟨c,hc⟩:=Int.eq_ofNat_of_zero_le (show 0≤d.count by omega);have hd':d=⟨(s:Int),(c:Int)⟩:=Dot.ext' hs hc;have bP:s < 5:=by omega
   have hps:=hp s bP;rw [hs] at g2;have g2':qab (qbq v ds).1 s+2≤d.count:=g2;refine ⟨s,c,bP,hd',by omega,by omega,?_⟩;have dH:1≤c:=by omega
   have:=List.contains_iff_mem.2 (hd' ▸ g1);simp only [qf7,this,dH];simp
  rintro ⟨s,c,hs,rfl,hc,h1,h2⟩;have hps:=hp s hs;simp only [qf7,Bool.and_eq_true,Bool.or_eq_true,decide_eq_true_eq] at h2;rcases h2.2 with g | g
  ·have g0:=h.ge s hs
   have hps':(pre (qf7 v ds) s:Int)=qab (ds.foldl qbn (v,[])).1 s:=hps;omega
  rcases h.cover _ (List.contains_iff_mem.1 g) with g' | g'
  ·have g'':(c:Int)≤qab (ds.foldl qbn (v,[])).1 s:=g'
   have hps':(pre (qf7 v ds) s:Int)=qab (ds.foldl qbn (v,[])).1 s:=hps;omega
  exact g'
 unfold made qb2;rw [e1,e2]
end Go.Proofs.YtngbfdogiciahaaGreat
namespace Go.Proofs.YtngbfdogiciahaaGreat
open Go Go.RowKit Go.ChangeShapes Go.WideShapes Go.Deep
section
variable {H:Type} {enc:TypeId×Value→H} {P:Program} {w:World} {spare:Nat→Bool} {held:Bool}
theorem qix {α:Type} {R:World→List Value→α→Prop} {sz:Nat} {Q:α→Prop} {t e:TypeId} {fuel:Nat} {A:Option Addr} {len cap:Nat} {x:DataW H×List MemPlace} (ht:P.underlying t=some (.slice e)) (hC:P.cellsOf e=sz) (aW:0 < sz)
  (helem:∀ (n:Nat) (cs:List Value) (y:DataW H×List MemPlace),cs.length=sz→DataW.trod enc P w 0 spare held n e cs=some y→∃ z:α,R w cs z∧Q z)
  (h:DataW.trod enc P w 0 spare held fuel t [.slice A len cap]=some x) :
  ∃ l:List α,l.length=len∧len≤cap∧cap≤maxLen∧Sl w.heap.size e R sz w A l∧∀ z∈l,Q z:=by
 rcases open_slice ht h with ⟨h0,_⟩ | ⟨a,len',cap',m,n,D,Pl,bK,hb,hl,hm,hmm,hx,hi⟩
 ·simp only [List.cons.injEq,Value.slice.injEq,and_true] at h0
  obtain ⟨rfl,rfl,rfl⟩:=h0;exact ⟨[],rfl,Nat.le_refl _,Nat.zero_le _,Sl.nil,by simp⟩
 simp only [List.cons.injEq,Value.slice.injEq,and_true] at bK;obtain ⟨rfl,rfl,rfl⟩:=bK;have hlm:len≤m:=by rw [hmm];split <;> omega
 have key:∀ i,i < len→∃ z:α,(∃ cs,cs.length=sz∧(∀ j,j < sz→w.cell? ((a.add (i*sz)).add j)=cs[j]?)∧R w cs z)∧Q z:=by
  intro i hil;obtain ⟨cs',hc,ht'⟩:=hi i (by omega);rw [hC] at hc;obtain ⟨_,bD,hat⟩:=World.cells?_some hc;obtain ⟨z,hz,hq⟩:=helem n cs' _ bD ht';exact ⟨z,⟨cs',bD,hat,hz⟩,hq⟩
 obtain ⟨l,hll,hlz⟩:=qjb (p:=fun i z=>(∃ cs,cs.length=sz∧(∀ j,j < sz→w.cell? ((a.add (i*sz)).add j)=cs[j]?)∧R w cs z)∧Q z) len key;refine ⟨l,hll,hl,hm,?_,?_⟩
 ·intro i z hz
  obtain ⟨⟨cs,h1,h2,h3⟩,_⟩:=hlz i z hz;have hil:i < len:=by have:=(List.getElem?_eq_some_iff.1 hz).1;omega
  -- the address has no spot: its first cell is there
  obtain ⟨⟨cs0,g1,g2,_⟩,_⟩:=hlz 0 _ (List.getElem?_eq_getElem (show 0 < l.length by omega));obtain ⟨b,off,spot⟩:=a;have e0:=g2 0 aW;have hsome:∃ u,cs0[0]?=some u:=⟨cs0[0]'(by omega),List.getElem?_eq_getElem (by omega)⟩
  obtain ⟨u,hu⟩:=hsome;rw [hu] at e0;have ea:((⟨b,off,spot⟩:Addr).add (0*sz)).add 0=⟨b,off,spot⟩:=by simp [Addr.add]
  rw [ea] at e0;have hspot:spot=none:=by
   unfold World.cell? at e0;split at e0
   ·cases spot with
    | none=>rfl
    | some s=>simp at e0
   cases e0
  subst hspot;have aw:b < w.heap.size:=World.block_lt_of_cell? _ _ e0;refine ⟨b,off,cs,rfl,aw,.inl aw,h1,?_,h3⟩;intro j v hj;have hjs:j < sz:=by have:=(List.getElem?_eq_some_iff.1 hj).1;omega
  have:=h2 j hjs;rw [hj] at this;have ea2:(((⟨b,off,none⟩:Addr).add (i*sz)).add j)=⟨b,off+i*sz+j,none⟩:=by
   unfold Addr.add
   by_cases h1:i*sz=0 <;> by_cases h2:j=0 <;> simp [h1,h2]
  rwa [ea2] at this
 intro z hz;obtain ⟨i,hi,rfl⟩:=List.getElem_of_mem hz;exact (hlz i _ (List.getElem?_eq_getElem hi)).2
def qn7 (n:Int):Prop:=-9223372036854775808≤n∧n≤9223372036854775807
theorem quc {n:Int} (h:(Lit.int .i64 n).wf=true):qn7 n:=by
 simp [Lit.wf] at h;unfold qn7
 first
  | exact h
  | (simp [IntKind.min,IntKind.max] at h;omega)
  | skip
theorem qk8 {i:TypeId} {n:Nat} {cs:List Value} {y:DataW H×List MemPlace} (hi:P.underlying i=some (.int .i64)) (h:DataW.trod enc P w 0 spare held n i cs=some y):∃ a,cs=[.int .i64 a]∧qn7 a:=by
 obtain ⟨n0,e0,_,w0⟩:=DataW.trod_int hi h;exact ⟨n0,e0,quc w0⟩
theorem qia {t i:TypeId} {f0 f1:Field} (ht:P.underlying t=some (.struct #[f0,f1])) (hi:P.underlying i=some (.int .i64)) (hf0:f0.type=i∧f0.offset=0) (hf1:f1.type=i∧f1.offset=1) (hc:P.cellsOf i=1)
  {n:Nat} {cs:List Value} {y:DataW H×List MemPlace} (hl:cs.length=2) (h:DataW.trod enc P w 0 spare held n t cs=some y):∃ a b,cs=[.int .i64 a,.int .i64 b]∧qn7 a∧qn7 b:=by
 obtain ⟨xs,m,_,_,_,hx,hg⟩:=DataW.trod_struct ht h
 match cs,hl with
 | [c0,c1],_=>
  match xs,hx with
  | [y0,y1],_=>
   have g0:=hg 0 f0 rfl;have g1:=hg 1 f1 rfl;rw [hf0.1,hf0.2,hc] at g0;rw [hf1.1,hf1.2,hc] at g1;obtain ⟨n0,e0,w0⟩:=qk8 hi g0;obtain ⟨n1,e1,w1⟩:=qk8 hi g1;simp at e0 e1;exact ⟨n0,n1,by rw [e0,e1],w0,w1⟩
theorem qko {α:Type} {R:World→List Value→α→Prop} {sz:Nat} {Q:α→Prop} {t e:TypeId} (ht:P.underlying t=some (.slice e)) (hC:P.cellsOf e=sz) (aW:0 < sz)
  (helem:∀ (n:Nat) (cs:List Value) (y:DataW H×List MemPlace),cs.length=sz→DataW.trod enc P w 0 spare held n e cs=some y→∃ z:α,R w cs z∧Q z)
  {A:Option Addr} {len cap:Nat} {d:DataW H} {p:List MemPlace} (h:DataW.Trod enc P w 0 spare held t (.slice A len cap) d p) :
  ∃ l:List α,l.length=len∧len≤maxLen∧Sl w.heap.size e R sz w A l∧∀ z∈l,Q z:=by
 obtain ⟨fuel,hf⟩:=h;obtain ⟨l,hl,h1,h2,h3,h4⟩:=qix (R:=R) ht hC aW helem hf;exact ⟨l,hl,by omega,h3,h4⟩
end
theorem own:ownKnob Tryz.prog.godebug=none:=by kernel_rfl
theorem ql9:laidOutB Tryz.prog=true:=by kernel_rfl
theorem qd0:Tryz.prog.cellsOf 3=1:=by kernel_rfl
section
variable {H:Type} {enc:TypeId×Value→H} {w:World} {spare:Nat→Bool} {held:Bool}
theorem qwz:Tryz.prog.cellsOf 137=2:=by kernel_rfl
theorem jbd (n:Nat) (cs:List Value) (y:DataW H×List MemPlace) (hl:cs.length=2) (h:DataW.trod enc Tryz.prog w 0 spare held n 137 cs=some y):∃ z:Span,jc3 w cs z∧(qn7 z.fr∧qn7 z.to):=by
 obtain ⟨a,b,h1,h2,h3⟩:=qia (P:=Tryz.prog) Tryz.underlying137 Tryz.underlying3 (And.intro rfl rfl) (And.intro rfl rfl) qd0 hl h;exact ⟨Span.mk a b,h1,h2,h3⟩
end
end Go.Proofs.YtngbfdogiciahaaGreat
namespace Go.Proofs.YtngbfdogiciahaaGreat
open Go Go.RowKit
def rowF (n:Nat) (f:Nat→Value):Array Value:=Array.ofFn (fun i:Fin n=>f i)
theorem qii (n:Nat) (f:Nat→Value):(rowF n f).size=n:=by simp [rowF]
theorem qgd {n:Nat} (f:Nat→Value) {i:Nat} (h:i < n):(rowF n f)[i]?=some (f i):=by simp [rowF,h]
theorem qr6 (n:Nat) (f:Nat→Value) (i:Nat) (u:Value):(rowF n f).setIfInBounds i u=rowF n (fun j=>if j=i then u else f j):=by
 apply Array.ext
 ·simp [rowF]
 intro j h1 h2;simp only [rowF,Array.size_setIfInBounds,Array.size_ofFn] at h1
 by_cases de:i=j
 ·subst de;simp [rowF]
 rw [Array.getElem_setIfInBounds_ne (by simpa [rowF] using h1) de];simp [rowF,show ¬ j=i from fun e=>de e.symm]
theorem qgw {n:Nat} {f g:Nat→Value} (h:∀ i,i < n→f i=g i):rowF n f=rowF n g:=by
 unfold rowF;congr 1;funext i;exact h i i.isLt
theorem qr5 {n:Nat} {f:Nat→Value} (h:∀ i,(f i).oneCell'=true):(rowF n f).all (·.oneCell')=true:=by
 rw [Array.all_eq_true];intro i hi;simp [rowF,h]
def rowB (n:Nat) (p:Nat→Bool):Array Value:=rowF n fun i=>.bool (p i)
theorem qa6 (n:Nat) (p:Nat→Bool):(rowB n p).size=n:=qii _ _
theorem qeb {n:Nat} (p:Nat→Bool) {i:Nat} (h:i < n):(rowB n p)[i]?=some (.bool (p i)):=qgd _ h
theorem jdi (n:Nat) (p:Nat→Bool) (i:Nat) (b:Bool):(rowB n p).setIfInBounds i (.bool b)=rowB n (fun j=>if j=i then b else p j):=by
 unfold rowB;rw [qr6];congr 1;funext j
 by_cases h:j=i <;> simp [h]
theorem qbv {n:Nat} {p q:Nat→Bool} (h:∀ i,i < n→p i=q i):rowB n p=rowB n q:=qgw fun i hi=>by rw [h i hi]
theorem qfg (n:Nat) (p:Nat→Bool):(rowB n p).all (·.oneCell')=true:=qr5 fun _=>rfl
def Blk (w:World) (b:Nat) (e:TypeId) (cs:Array Value):Prop:=w.heap[b]?=some (.cells cs e (0,0))
section
variable {w w':World} {b:Nat} {e:TypeId} {cs:Array Value}
theorem Blk.lt (h:Blk w b e cs):b < w.heap.size:=(Array.getElem?_eq_some_iff.1 h).1
theorem Blk.ty (h:Blk w b e cs):tyAt w b=some e:=by unfold tyAt;rw [h]
theorem Blk.cell (h:Blk w b e cs) {i:Nat} {u:Value} (hu:cs[i]?=some u):w.cell? ⟨b,i,none⟩=some u:=(cell_of_row w b i cs e (0,0) h).trans hu
theorem Blk.ce (h:Blk w b e cs) (i:Nat) (u:Value) (hu:cs[i]?=some u):w.cell? ⟨b,i,none⟩=some u:=h.cell hu
theorem Blk.frozen (h:Blk w b e cs) (i:Nat):w.frozen? ⟨b,i,none⟩=false:=by
 unfold Blk at h;simp [World.frozen?,h]
theorem Blk.new (w:World) (e:TypeId) (cs:Array Value):Blk (w.alloc (.cells cs e)) w.heap.size e cs:=heap_alloc_new w _
theorem Blk.ext (h:Blk w b e cs) (x:Ext w w'):Blk w' b e cs:=(x.blockAt h.lt).trans h
theorem Blk.below {k:Nat} (h:Blk w b e cs) (x:Below k w w') (hb:b < k):Blk w' b e cs:=(x.block b hb).trans h
theorem Blk.chg {B:Nat} {ts:List TypeId} (h:Blk w b e cs) (x:Chg B ts w w') (he:e∉ts):Blk w' b e cs:=by
 refine (x.block b h.lt (.inr fun t ht h2=>?_)).trans h;rw [h.ty] at h2;injection h2 with h2;exact he (h2 ▸ ht)
theorem Blk.set (h:Blk w b e cs) (i:Nat) (u:Value):Blk (w.setCell ⟨b,i,none⟩ u) b e (cs.setIfInBounds i u):=by
 unfold Blk at h ⊢;simp [World.setCell,Array.getElem?_modify,h]
theorem Blk.far (h:Blk w b e cs) {p:Addr} (hp:b≠p.block) (u:Value):Blk (w.setCell p u) b e cs:=(Below.heap_setCell w p u b hp).trans h
theorem Blk.alloc (h:Blk w b e cs) (o:Obj):Blk (w.alloc o) b e cs:=h.ext ((Ext.refl w).alloc o)
theorem Blk.other (h:Blk w b e cs) {k:Nat} (ho:∀ j,j≠k→w'.heap[j]?=w.heap[j]?) (hb:b≠k):Blk w' b e cs:=(ho b hb).trans h
theorem Blk.setB {n:Nat} {p:Nat→Bool} (h:Blk w b e (rowB n p)) (i:Nat) (v:Bool):Blk (w.setCell ⟨b,i,none⟩ (.bool v)) b e (rowB n fun j=>if j=i then v else p j):=by
 rw [← jdi];exact h.set i _
end
def qht (P:Program) (t:TypeId) (n:Nat):Prop:=(∃ m e,P.underlying t=some (.array m e))∧(P.info? t).map (·.size)=some n
def qcm (P:Program) (t:TypeId) (cs:Array Value):Prop:=∀ w,(zeroValue t).run P w=.ok (.agg cs) w
section
variable {P:Program} {ops:Array Oper} {rest:List Oper} {o:Oper} {a:Act} {w:World} {Q:Exit→Act→World→Prop} {K:Act→World→Prop} {t:TypeId} {n:Nat}
theorem qdt {ty:TypeId} {pos:String} {after:Array Edge} {g:Option (Nat×Bool)} (dst:Option Tmp) (op:Op) (h:wpList P ops Q (⟨dst,op,ty,pos,after,g⟩::rest) a w):wpList P ops Q (⟨dst,op,ty,pos,after,g⟩::rest) a w:=h
theorem qj1 (ai:qht P t n) (x:Operand) (ho:o.op=.load t x) {b:Nat} (hx:a.eval x=.pointer (some ⟨b,0,none⟩)) {e:TypeId} {cs:Array Value} (hb:Blk w b e cs) (hn:cs.size=n)
  (h:K (a.put o.dst (.agg cs)) w):o.wp P a w K Q:=by
 obtain ⟨⟨m,e',hu⟩,hi⟩:=ai;exact wp_load_row t x ho b hx e cs (0,0) _ hb hu rfl (by rw [hn];exact hi) h
theorem qap (ai:qht P t n) (x:Operand) (ho:o.op=.load t x) (hg:Region.wanted o (yielded ops a.tmps)=true) {b:Nat} (hx:a.eval x=.pointer (some ⟨b,0,none⟩)) {e:TypeId} {cs:Array Value} (hb:Blk w b e cs) (hn:cs.size=n)
  (h:wpList P ops Q rest (a.put o.dst (.agg cs)) w):wpList P ops Q (o::rest) a w:=
 wpList_step fun K hK=>by rw [if_pos hg];exact qj1 ai x ho hx hb hn (hK _ _ h)
theorem qbr (x:Operand) (ho:o.op=.box t x) (hg:o.guard=none) {cs:Array Value} (hx:a.eval x=.agg cs)
  (h:∀ w',Ext w w'→Blk w' w.heap.size t cs→w'.heap.size=w.heap.size+1→wpList P ops Q rest (a.put o.dst (.pointer (some ⟨w.heap.size,0,none⟩))) w'):wpList P ops Q (o::rest) a w:=by
 refine wpList_plain hg fun K hK=>?_;unfold Oper.wp execOp;simp only [ho,Sem.run_bind,Instr.box,newVar,newRow,run_newObj_alloc,Sem.run_pure,Result.andThen_ok,hx,Value.cells];exact hK _ _ (h _ ((Ext.refl w).alloc _) (Blk.new w t cs) (by simp))
theorem qa2 {cs:Array Value} (zi:qcm P t cs) (ho:o.op=.alloc t) (hg:o.guard=none)
  (h:∀ w',Ext w w'→Blk w' w.heap.size t cs→w'.heap.size=w.heap.size+1→wpList P ops Q rest (a.put o.dst (.pointer (some ⟨w.heap.size,0,none⟩))) w'):wpList P ops Q (o::rest) a w:=by
 refine wpList_plain hg fun K hK=>?_;unfold Oper.wp execOp;simp only [ho,Sem.run_bind,Instr.alloc,newVar,newRow,run_newObj_alloc,Sem.run_pure,Result.andThen_ok,zi w,Value.cells];exact hK _ _ (h _ ((Ext.refl w).alloc _) (Blk.new w t cs) (by simp))
theorem qau (ai:qht P t n) (x y:Operand) (ho:o.op=.store t x y) (hg:o.guard=none) {b:Nat} (hx:a.eval x=.pointer (some ⟨b,0,none⟩)) {cs old:Array Value} (hy:a.eval y=.agg cs)
  (hb:Blk w b t old) (hn:cs.size=n) (hold:old.size=n) (h1:cs.all (·.oneCell')=true)
  (h:∀ w',Below b w w'→Blk w' b t cs→w'.heap.size=w.heap.size→(∀ k,k≠b→w'.heap[k]?=w.heap[k]?)→wpList P ops Q rest (a.put o.dst undef) w'):wpList P ops Q (o::rest) a w:=by
 obtain ⟨_,hi⟩:=ai;have cw:∀ k,k≠b→(w.setRow b cs).heap[k]?=w.heap[k]?:=fun k hk=>setRow_other w b k cs (by omega);exact wpList_store_row hg t x y ho b cs hx hy t old hb (by rw [hn];exact hi) (by omega) h1
  (h _ ⟨rfl,rfl,rfl,by simp,fun k hk=>cw k (by omega)⟩ (setRow_heap w b old _ t _ hb) (by simp) cw)
theorem qr8 {t e:TypeId} {n:Nat} {f:Nat→Value} (hu:P.underlying t=some (.array n e)) (hag:∀ w,(isAgg e).run P w=.ok false w) (hs:∀ w,(sizeOf e).run P w=.ok 1 w) {k:Nat} (hk:k < n) (w:World) :
  (Instr.index t (.agg (rowF n f)) (.int .i64 k)).run P w=.ok (f k) w:=by
 have h2:=qgd f hk;simp [Instr.index,asIntOf,run_underlying hu,hk,hs,part,hag,h2]
theorem qif {fn:Func} {R:Ending→World→Prop} {q:Tmp} (hr:fn.results=#[.cell q t]) (ai:qht P t n) {b:Nat} (hq:a.tmps.getD q undef=.pointer (some ⟨b,0,none⟩)) {e:TypeId} {cs:Array Value} (hb:Blk w b e cs) (hn:cs.size=n)
  (hd:a.defers=[]) (h:R (.returned (.agg cs)) w):bodyPost P fn R .ret a w:=by
 obtain ⟨⟨m,e',hu⟩,hi⟩:=ai;exact bodyPost_ret (results_cell_row hr _ _ b e cs (0,0) _ hq hb hu rfl (by rw [hn];exact hi)) hd h
end
end Go.Proofs.YtngbfdogiciahaaGreat
namespace Go.Proofs.YtngbfdogiciahaaGreat
open Go Go.RowKit Go.ChangeShapes Go.WideShapes Go.Deep Go.Joins
def RBox (B:Nat) (w:World) (cs:List Value) (b:Box):Prop:=∃ v,cs=[.int .i64 b.cube.yes,.int .i64 b.cube.no,v]∧qn8 B w v b.spans
theorem RBox.mono {B:Nat} {ts:List TypeId} (h:137∉ts):Mono B ts (RBox B):=by
 rintro w w' cs b x ⟨v,rfl,hv⟩;exact ⟨v,rfl,hv.chg RPair.mono h x⟩
theorem RBox.monoE {B:Nat}:Mono B [] (RBox B):=RBox.mono (by simp)
theorem RBox.oneC {B:Nat}:OneC (RBox B):=by
 rintro w cs b ⟨v,rfl,A,c,rfl,_⟩ u hu;simp at hu;rcases hu with rfl | rfl | rfl <;> rfl
abbrev qaw (B:Nat):=Sl B 142 (RBox B) 3
abbrev qdo (B:Nat):=IsSl B 142 (RBox B) 3
theorem Sl.box {B:Nat} {w:World} {A:Option Addr} {l:List Box} (h:qaw B w A l) {i:Nat} (hi:i < l.length) :
  ∃ b off A' c',A=some ⟨b,off,none⟩∧b < w.heap.size∧w.cell? ⟨b,off+i*3,none⟩=some (.int .i64 l[i].cube.yes)∧w.cell? ⟨b,off+i*3+1,none⟩=some (.int .i64 l[i].cube.no)∧
   w.cell? ⟨b,off+i*3+2,none⟩=some (.slice A' l[i].spans.length c')∧l[i].spans.length≤maxLen∧qh5 B w A' l[i].spans:=by
 obtain ⟨b,off,cs,hA,hb,_,hc,v,rfl,A',c',rfl,h1,h2,h3⟩:=h.at_ hi;have g0:=hc 0 _ rfl;have g1:=hc 1 _ rfl;have g2:=hc 2 _ rfl;simp only [Nat.add_zero] at g0;exact ⟨b,off,A',c',hA,hb,g0,g1,g2,by omega,h3⟩
section
variable {H:Type} {enc:TypeId×Value→H} {w:World} {spare:Nat→Bool} {held:Bool}
theorem qc6 {P:Program} {α:Type} {R:World→List Value→α→Prop} {sz:Nat} {Q:α→Prop} {t e:TypeId} {fuel:Nat} {cs:List Value} {x:DataW H×List MemPlace} (ht:P.underlying t=some (.slice e)) (hC:P.cellsOf e=sz) (aW:0 < sz)
  (helem:∀ (n:Nat) (cs:List Value) (y:DataW H×List MemPlace),cs.length=sz→DataW.trod enc P w 0 spare held n e cs=some y→∃ z:α,R w cs z∧Q z)
  (h:DataW.trod enc P w 0 spare held fuel t cs=some x) :
  ∃ v l,cs=[v]∧IsSl w.heap.size e R sz w v l∧∀ z∈l,Q z:=by
 have key:∃ A n c,cs=[.slice A n c]:=by
  rcases open_slice ht h with ⟨h0,_⟩ | ⟨a,len',cap',m,n,D,Pl,bK,_⟩
  ·exact ⟨_,_,_,h0⟩
  exact ⟨_,_,_,bK⟩
 obtain ⟨A,n,c,rfl⟩:=key;obtain ⟨l,rfl,h1,h2,h3,h4⟩:=qix (R:=R) ht hC aW helem h;exact ⟨_,l,rfl,⟨A,c,rfl,h1,h2,h3⟩,h4⟩
theorem qwu:Tryz.prog.cellsOf 140=2:=by kernel_rfl
theorem qjw:Tryz.prog.cellsOf 142=3:=by kernel_rfl
theorem qty:Tryz.prog.cellsOf 138=1:=by kernel_rfl
theorem jen {P:Program} {t c s:TypeId} {f0 f1:Field} {R:World→List Value→List Span→Prop} (ht:P.underlying t=some (.struct #[f0,f1])) (h0:f0.type=c∧f0.offset=0) (h1:f1.type=s∧f1.offset=2) (hc:P.cellsOf c=2) (hs:P.cellsOf s=1)
  (e0:∀ (n:Nat) (cs:List Value) (y:DataW H×List MemPlace),cs.length=2→DataW.trod enc P w 0 spare held n c cs=some y→∃ a b,cs=[.int .i64 a,.int .i64 b]∧qn7 a∧qn7 b)
  (e1:∀ (n:Nat) (cs:List Value) (y:DataW H×List MemPlace),DataW.trod enc P w 0 spare held n s cs=some y→∃ v l,cs=[v]∧R w [v] l)
  (n:Nat) (cs:List Value) (y:DataW H×List MemPlace) (hl:cs.length=3) (h:DataW.trod enc P w 0 spare held n t cs=some y):∃ a b v l,cs=[.int .i64 a,.int .i64 b,v]∧R w [v] l:=by
 obtain ⟨xs,m,_,_,_,hx,hg⟩:=DataW.trod_struct ht h
 match cs,hl with
 | [c0,c1,c2],_=>
  match xs,hx with
  | [y0,y1],_=>
   have g0:=hg 0 f0 rfl;have g1:=hg 1 f1 rfl;rw [h0.1,h0.2,hc] at g0;rw [h1.1,h1.2,hs] at g1;obtain ⟨a,b,q0,_,_⟩:=e0 _ _ _ rfl g0;obtain ⟨v,l,q1,hs⟩:=e1 _ _ _ g1;simp at q0 q1;obtain ⟨rfl,rfl⟩:=q0;subst q1;exact ⟨a,b,_,l,rfl,hs⟩
theorem qyx (n:Nat) (cs:List Value) (y:DataW H×List MemPlace) (hl:cs.length=2) (h:DataW.trod enc Tryz.prog w 0 spare held n 140 cs=some y):∃ a b,cs=[.int .i64 a,.int .i64 b]∧qn7 a∧qn7 b:=
 qia (P:=Tryz.prog) Tryz.underlying140 Tryz.underlying3 (And.intro rfl rfl) (And.intro rfl rfl) qd0 hl h
theorem qyc (n:Nat) (cs:List Value) (y:DataW H×List MemPlace) (h:DataW.trod enc Tryz.prog w 0 spare held n 138 cs=some y):∃ v l,cs=[v]∧(fun w (cs:List Value) l=>∀ v∈cs,qn8 w.heap.size w v l) w [v] l:=by
 obtain ⟨v,l,h1,h2,_⟩:=qc6 (P:=Tryz.prog) Tryz.underlying138 qwz Nat.two_pos jbd h;exact ⟨v,l,h1,by simpa using h2⟩
theorem qmm (n:Nat) (cs:List Value) (y:DataW H×List MemPlace) (hl:cs.length=3) (h:DataW.trod enc Tryz.prog w 0 spare held n 142 cs=some y):∃ z:Box,RBox w.heap.size w cs z∧True:=by
 obtain ⟨a,b,v,l,h1,h2⟩:=jen (P:=Tryz.prog) (R:=fun w cs l=>∀ v∈cs,qn8 w.heap.size w v l) Tryz.underlying142 (And.intro rfl rfl) (And.intro rfl rfl) qwu qty qyx qyc n cs y hl h;exact ⟨⟨⟨a,b⟩,l⟩,⟨v,h1,by simpa using h2⟩,trivial⟩
theorem qxr {A:Option Addr} {len cap:Nat} {d:DataW H} {p:List MemPlace} (h:DataW.Trod enc Tryz.prog w 0 spare held 30 (.slice A len cap) d p) :
  ∃ l:List Box,l.length=len∧len≤maxLen∧qaw w.heap.size w A l∧∀ z∈l,True:=
 qko Tryz.underlying30 qjw (by omega) qmm h
theorem qtx:Tryz.prog.cellsOf 40=2:=by kernel_rfl
theorem qrp:Tryz.prog.cellsOf 35=2:=by kernel_rfl
end
end Go.Proofs.YtngbfdogiciahaaGreat
namespace Go.Proofs.YtngbfdogiciahaaGreat
open Go Go.RowKit
abbrev qg4 (B:Nat):=Sl B 3 RInt 1
abbrev qgm (B:Nat):=Sl B 35 RDot 2
structure InK (B:Nat) (w:World) (Av Am:Option Addr) (k:Know):Prop where
 lv:k.vec.length≤maxLen
 lm:k.more.length≤maxLen
 sv:qg4 B w Av k.vec
 sm:qgm B w Am k.more
theorem InK.chg {B:Nat} {ts:List TypeId} {w w':World} {Av Am:Option Addr} {k:Know} (h:InK B w Av Am k) (x:Chg B ts w w') (hi:3∉ts) (hd:35∉ts):InK B w' Av Am k:=
 ⟨h.lv,h.lm,h.sv.chg RInt.mono hi x,h.sm.chg RPair.mono hd x⟩
theorem InK.ext {B:Nat} {w w':World} {Av Am:Option Addr} {k:Know} (h:InK B w Av Am k) (x:Ext w w'):InK B w' Av Am k:=h.chg (ts:=[]) (.of_ext x) (by simp) (by simp)
def IsK (B:Nat) (w:World) (v:Value) (k:Know):Prop:=∃ Av cv Am cm,v=.agg #[.slice Av k.vec.length cv, .slice Am k.more.length cm]∧k.vec.length≤cv∧cv≤maxLen∧k.more.length≤cm∧cm≤maxLen∧InK B w Av Am k
theorem IsK.ext {B:Nat} {w w':World} {v:Value} {k:Know} (h:IsK B w v k) (x:Ext w w'):IsK B w' v k:=by
 obtain ⟨Av,cv,Am,cm,h1,h2,h3,h4,h5,h6⟩:=h;exact ⟨Av,cv,Am,cm,h1,h2,h3,h4,h5,h6.ext x⟩
theorem IsK.of {B:Nat} {w:World} {a b:Value} {k:Know} (ha:qhu B w a k.vec) (hb:IsDots B w b k.more):IsK B w (.agg #[a,b]) k:=by
 obtain ⟨Av,cv,rfl,h1,h2,h3⟩:=ha;obtain ⟨Am,cm,rfl,h4,h5,h6⟩:=hb;exact ⟨Av,cv,Am,cm,rfl,h1,h2,h4,h5,⟨by omega,by omega,h3,h6⟩⟩
theorem IsK.empty {B:Nat} {w:World}:IsK B w (.agg #[.slice none 0 0,.slice none 0 0]) ⟨[],[]⟩:=IsK.of IsSl.nil IsSl.nil
def cmpD (a b:Dot):Int:=if a.site=b.site then a.count - b.count else a.site - b.site
theorem qqg {a b:Dot}:cmpD a b < 0↔dlt a b=true:=by
 rw [qek,cmpD];split <;> omega
theorem qys {a b:Dot}:0≤cmpD a b↔dlt a b=false:=by
 rw [← Bool.not_eq_true,← qqg];omega
theorem qnh {a b:Dot}:cmpD a b=0↔a=b:=by
 obtain ⟨x,y⟩:=a;obtain ⟨u,v⟩:=b;simp only [cmpD,Dot.mk.injEq];split <;> omega
theorem qkr {v:List Int} {s:Nat} (h:v.length≤s):qab v s=0:=by simp [qab,h]
theorem qj0 {v:List Int} {s:Nat} (h:s < v.length):qab v s=v[s]:=by simp [qab,h]
theorem qkq {v:List Int} (h:∀ n∈v,0≤n∧n≤1000) (s:Nat):0≤qab v s∧qab v s≤1000:=by
 by_cases hs:s < v.length
 ·rw [qj0 hs];exact h _ (List.getElem_mem hs)
 rw [qkr (by omega)];omega
theorem qfe {k:Know} (h:5 < k.vec.length∨60 < k.more.length):qa4 k=2:=by rw [qa4,if_pos h]
theorem qm6 {k:Know} (h:¬ (5 < k.vec.length∨60 < k.more.length)):qa4 k=if qf8 k.vec=0 then (if k.vec.getLast?=some 0 then 3 else qdw k.vec ⟨-1,0⟩ k.more) else 1:=by rw [qa4,if_neg h]
theorem qgq {α:Type} {l:List α} (h:0 < l.length):l.getLast?=some (l[l.length - 1]):=by rw [List.getLast?_eq_getElem?,List.getElem?_eq_getElem (by omega)]
theorem qu1 {d:Dot} (h:qb8 d=true):dlt ⟨-1,0⟩ d=true:=by
 have:=qar.1 h;rw [qek];left;show (-1:Int) < d.site;omega
theorem qo9 {l:List Dot} {k:Nat} (h:0 < k) (hk:k≤l.length):qbx l k=l[k - 1]:=by
 rw [qbx,if_neg (by omega),List.getElem?_eq_getElem (by omega)];rfl
section
variable {P:Program} {ops:Array Oper} {C:World→Prop} {Q:Act→Prop} {rest:List Oper} {a:Act} {dst:Option Tmp} {ty:TypeId} {pos:String} {after:Array Edge} {g:Option (Nat×Bool)}
theorem qp7 (C:World→Prop) {id:Nat} {Q:Exit→Act→World→Prop} {a:Act} {w:World} {l:List Oper} (hm:P.follows .mixedOrders=true) (hB:Region.lexB .any l.toArray=true) (hC:C w.drew)
  (h:wpQuiet P l.toArray C (fun a'=>∀ w',C w'→Q .normal a' w') l a):(Code.region id l.toArray true).wp P Q a w:=
 wp_region_quiet (C:=C) hm hB hC (by simpa using h)
theorem qmh {o:Oper} {v:Value} (hw:Region.wanted o (yielded ops a.tmps)=true) (hy:∀ w,C w→(execOp a.eval o).run P w=.ok (.value v) w) (h:wpQuiet P ops C Q rest (a.put o.dst v)):wpQuiet P ops C Q (o::rest) a:=by
 unfold wpQuiet;rw [if_pos hw];refine ⟨v,fun w hw'=>?_,h⟩;unfold Oper.quietAt;rw [hy w hw'];exact ⟨rfl,rfl⟩
theorem qp4 {o:Oper} (hw:Region.wanted o (yielded ops a.tmps)=false) (h:wpQuiet P ops C Q rest (a.put o.dst undef)):wpQuiet P ops C Q (o::rest) a:=by
 unfold wpQuiet;rw [if_neg (by rw [hw];simp)];exact h
theorem qeg {t:TypeId} {x:Operand} {b o:Nat} {cs:List Value} {d:TypeDesc} (hu:P.underlying t=some d) (hd:d.isRow=true) (hi:(P.info? t).map (·.size)=some cs.length)
  (hw:Region.wanted (⟨dst,.load t x,ty,pos,after,g⟩:Oper) (yielded ops a.tmps)=true) (hx:a.eval x=.pointer (some ⟨b,o,none⟩)) (hC:∀ w,C w→w.rangeAt b o cs)
  (h:wpQuiet P ops C Q rest (a.put dst (.agg cs.toArray))):wpQuiet P ops C Q (⟨dst,.load t x,ty,pos,after,g⟩::rest) a:=by
 rcases yieldsIf_load_mid (P:=P) (ops:=ops) (S:=C) (op:=⟨dst,.load t x,ty,pos,after,g⟩) (a:=a) hw t x rfl b o hx cs d hC hu hd hi with ⟨_,h1⟩ | ⟨h1,_⟩
 ·unfold wpQuiet
  rw [if_pos hw];refine ⟨_,fun w hw'=>?_,h⟩;unfold Oper.quietAt;rw [h1 w hw'];exact ⟨rfl,rfl⟩
 rw [hw] at h1
 cases h1
theorem qmg {f:FuncId} {xs:Array Operand} {ts:Array TypeId} {args:Array Value} {v:Value} (ax:∀ (av:Array Value) (w:World),(callFunc f av).run P w=.ok (.enter f av) w)
  (hw:Region.wanted (⟨dst,.call { callee:=.value (.func f),args:=xs,argTypes:=ts },ty,pos,after,g⟩:Oper) (yielded ops a.tmps)=true) (ha:(xs.toList.map a.eval).toArray=args)
  (hc:∀ w,C w→Calls P f args w fun e w'=>e=.returned v∧C w')
  (h:wpQuiet P ops C Q rest (a.put dst v)):wpQuiet P ops C Q (⟨dst,.call { callee:=.value (.func f),args:=xs,argTypes:=ts },ty,pos,after,g⟩::rest) a:=by
 unfold wpQuiet;rw [if_pos hw];refine ⟨v,fun w hw'=>?_,h⟩;have hr:(execOp a.eval (⟨dst,.call { callee:=.value (.func f),args:=xs,argTypes:=ts },ty,pos,after,g⟩:Oper)).run P w=.ok (.enter f args) w:=by
  subst ha;unfold execOp;simp [resolve,invoke,Act.eval,ax,go_sem];rw [← Array.toList_map]
 unfold Oper.quietAt;rw [hr];exact ⟨rfl,hc w hw'⟩
theorem qa9 {l:List Oper} {ts:List Value} {j d:Nat} {o:Oper} {b:Bool} (h1:l[j]?=some o) (h2:o.dst=some d) (h3:ts[d]?=some (.bool b)):yielded l.toArray ts.toArray j=some b:=by
 unfold yielded;simp [h1,h2,h3]
theorem jbv {l:List Oper} {ts:List Value} {j d:Nat} {o:Oper} (h1:l[j]?=some o) (h2:o.dst=some d) (h3:ts[d]?=some undef):yielded l.toArray ts.toArray j=none:=by
 unfold yielded;simp [h1,h2,h3,undef]
structure WQ (P:Program) (ops:Array Oper) (C:World→Prop) (Q:Act→Prop) (l:List Oper) (a:Act):Prop where
 out:wpQuiet P ops C Q l a
theorem qaj (C:World→Prop) {id:Nat} {Q:Exit→Act→World→Prop} {a:Act} {w:World} {l:List Oper} (hm:P.follows .mixedOrders=true) (hB:Region.lexB .any l.toArray=true) (hC:C w.drew)
  (h:WQ P l.toArray C (fun a'=>∀ w',C w'→Q .normal a' w') l a):(Code.region id l.toArray true).wp P Q a w:=
 qp7 C hm hB hC h.out
theorem qcf (h:Q a):WQ P ops C Q [] a:=⟨wpQuiet_nil h⟩
theorem qio {op:Op} {v:Value} (hy:∀ w,C w→(execOp a.eval ⟨dst,op,ty,pos,after,none⟩).run P w=.ok (.value v) w) (h:WQ P ops C Q rest (a.put dst v)):WQ P ops C Q (⟨dst,op,ty,pos,after,none⟩::rest) a:=
 ⟨qmh rfl hy h.out⟩
theorem qkx {op:Op} {v:Value} {j:Nat} {b:Bool} (hg:yielded ops a.tmps j=some b) (hy:∀ w,C w→(execOp a.eval ⟨dst,op,ty,pos,after,some (j,b)⟩).run P w=.ok (.value v) w) (h:WQ P ops C Q rest (a.put dst v)):WQ P ops C Q (⟨dst,op,ty,pos,after,some (j,b)⟩::rest) a:=
 ⟨qmh (by simp [Region.wanted,hg]) hy h.out⟩
theorem wqg {op:Op} {D:World→Prop} (hA:∀ w',C w'→D w') (v:Value) (h:WQ P ops C Q rest (a.put dst v)) (hy:∀ w,D w→(execOp a.eval ⟨dst,op,ty,pos,after,none⟩).run P w=.ok (.value v) w:=by (intro w' hA;(try dsimp only at hA);go_split_ands;go_simp <;> with_reducible rfl)):WQ P ops C Q (⟨dst,op,ty,pos,after,none⟩::rest) a:=
 qio (fun w hw=>hy w (hA w hw)) h
theorem wqo {op:Op} {j:Nat} {b:Bool} {D:World→Prop} (hA:∀ w',C w'→D w') (v:Value) (hg:yielded ops a.tmps j=some b) (h:WQ P ops C Q rest (a.put dst v)) (hy:∀ w,D w→(execOp a.eval ⟨dst,op,ty,pos,after,some (j,b)⟩).run P w=.ok (.value v) w:=by (intro w' hA;(try dsimp only at hA);go_split_ands;go_simp <;> with_reducible rfl)):WQ P ops C Q (⟨dst,op,ty,pos,after,some (j,b)⟩::rest) a:=
 qkx hg (fun w hw=>hy w (hA w hw)) h
theorem qhq {op:Op} {j:Nat} {b:Bool} (hg:yielded ops a.tmps j=some (!b)) (h:WQ P ops C Q rest (a.put dst undef)):WQ P ops C Q (⟨dst,op,ty,pos,after,some (j,b)⟩::rest) a:=
 ⟨qp4 (by cases b <;> simp [Region.wanted,hg]) h.out⟩
theorem qyh {op:Op} {j:Nat} {b:Bool} (hg:yielded ops a.tmps j=none) (h:WQ P ops C Q rest (a.put dst undef)):WQ P ops C Q (⟨dst,op,ty,pos,after,some (j,b)⟩::rest) a:=
 ⟨qp4 (by simp [Region.wanted,hg]) h.out⟩
theorem qgk {f:FuncId} {xs:Array Operand} {ts:Array TypeId} {args:Array Value} {v:Value} (ax:∀ (av:Array Value) (w:World),(callFunc f av).run P w=.ok (.enter f av) w)
  (ha:(xs.toList.map a.eval).toArray=args) (hc:∀ w,C w→Calls P f args w fun e w'=>e=.returned v∧C w')
  (h:WQ P ops C Q rest (a.put dst v)):WQ P ops C Q (⟨dst,.call { callee:=.value (.func f),args:=xs,argTypes:=ts },ty,pos,after,none⟩::rest) a:=
 ⟨qmg ax rfl ha hc h.out⟩
theorem qg2 {f:FuncId} {xs:Array Operand} {ts:Array TypeId} {args:Array Value} {v:Value} {j:Nat} {b:Bool} (ax:∀ (av:Array Value) (w:World),(callFunc f av).run P w=.ok (.enter f av) w)
  (hg:yielded ops a.tmps j=some b) (ha:(xs.toList.map a.eval).toArray=args) (hc:∀ w,C w→Calls P f args w fun e w'=>e=.returned v∧C w')
  (h:WQ P ops C Q rest (a.put dst v)):WQ P ops C Q (⟨dst,.call { callee:=.value (.func f),args:=xs,argTypes:=ts },ty,pos,after,some (j,b)⟩::rest) a:=
 ⟨qmg ax (by simp [Region.wanted,hg]) ha hc h.out⟩
end
section
variable {P:Program} {ops:Array Oper} {C:World→Prop} {Q:Act→Prop} {rest:List Oper} {a:Act} {dst:Option Tmp} {ty:TypeId} {pos:String} {after:Array Edge}
theorem qtp {x:Operand} {f:FuncId} {xs:Array Operand} {ts:Array TypeId} {args:Array Value} {v:Value} {g:Option (Nat×Bool)} (hx:a.eval x=.func (.func f) #[] #[]) (ax:∀ (av:Array Value) (w:World),(callFunc f av).run P w=.ok (.enter f av) w)
  (hw:Region.wanted (⟨dst,.call { callee:=.value x,args:=xs,argTypes:=ts },ty,pos,after,g⟩:Oper) (yielded ops a.tmps)=true) (ha:(xs.toList.map a.eval).toArray=args)
  (hc:∀ w,C w→Calls P f args w fun e w'=>e=.returned v∧C w')
  (h:WQ P ops C Q rest (a.put dst v)):WQ P ops C Q (⟨dst,.call { callee:=.value x,args:=xs,argTypes:=ts },ty,pos,after,g⟩::rest) a:=by
 refine ⟨?_⟩;unfold wpQuiet;rw [if_pos hw];refine ⟨v,fun w hw'=>?_,h.out⟩;have hr:(execOp a.eval (⟨dst,.call { callee:=.value x,args:=xs,argTypes:=ts },ty,pos,after,g⟩:Oper)).run P w=.ok (.enter f args) w:=by
  subst ha;unfold execOp;simp only [resolve,hx];simp [invoke,ax,go_sem];rw [← Array.toList_map]
 unfold Oper.quietAt;rw [hr];exact ⟨rfl,hc w hw'⟩
theorem qn4 {x:Operand} {f:FuncId} {xs:Array Operand} {ts:Array TypeId} {args:Array Value} {v:Value} (hx:a.eval x=.func (.func f) #[] #[]) (ax:∀ (av:Array Value) (w:World),(callFunc f av).run P w=.ok (.enter f av) w)
  (ha:(xs.toList.map a.eval).toArray=args) (hc:∀ w,C w→Calls P f args w fun e w'=>e=.returned v∧C w')
  (h:WQ P ops C Q rest (a.put dst v)):WQ P ops C Q (⟨dst,.call { callee:=.value x,args:=xs,argTypes:=ts },ty,pos,after,none⟩::rest) a:=qtp hx ax rfl ha hc h
theorem qj2 {x:Operand} {f:FuncId} {xs:Array Operand} {ts:Array TypeId} {args:Array Value} {v:Value} {j:Nat} {b:Bool} (hx:a.eval x=.func (.func f) #[] #[]) (ax:∀ (av:Array Value) (w:World),(callFunc f av).run P w=.ok (.enter f av) w)
  (hg:yielded ops a.tmps j=some b) (ha:(xs.toList.map a.eval).toArray=args) (hc:∀ w,C w→Calls P f args w fun e w'=>e=.returned v∧C w')
  (h:WQ P ops C Q rest (a.put dst v)):WQ P ops C Q (⟨dst,.call { callee:=.value x,args:=xs,argTypes:=ts },ty,pos,after,some (j,b)⟩::rest) a:=qtp hx ax (by simp [Region.wanted,hg]) ha hc h
end
end Go.Proofs.YtngbfdogiciahaaGreat
namespace Go.Proofs.YtngbfdogiciahaaGreat
open Go
def qkf (vs:List (List Int)) (s:Int):Int:=vs.foldl (fun m l=>max m (qab l s)) 0
theorem ja0 (s:Int):qkf [] s=0:=rfl
theorem qsd (vs:List (List Int)) (l:List Int) (s:Int):qkf (vs++[l]) s=max (qkf vs s) (qab l s):=by simp [qkf,List.foldl_append]
theorem qxi (vs:List (List Int)) (j:Nat) (hj:j < vs.length) (s:Int):qkf (vs.take (j+1)) s=max (qkf (vs.take j) s) (qab vs[j] s):=by
 rw [← List.take_append_getElem hj,qsd]
theorem qi7 (vs:List (List Int)) (s:Int):0≤qkf vs s:=by
 have:∀ (vs:List (List Int)) (m:Int),0≤m→0≤vs.foldl (fun m l=>max m (qab l s)) m:=by
  intro vs
  induction vs with
  | nil=>intro m h;exact h
  | cons l r ih=>intro m h;exact ih (max m (qab l s)) (by omega)
 exact this vs 0 (by omega)
theorem jd1 (vs:List (List Int)) (s:Nat) (h:∀ l∈vs,qab l s≤1000):qkf vs s≤1000:=by
 have:∀ (vs:List (List Int)) (m:Int),m≤1000→(∀ l∈vs,qab l s≤1000)→vs.foldl (fun m l=>max m (qab l s)) m≤1000:=by
  intro vs
  induction vs with
  | nil=>intro m h _;exact h
  | cons l r ih=>intro m h g;exact ih (max m (qab l s)) (by have:=g l (by simp);omega) (fun l hl=>g l (by simp [hl]))
 exact this vs 0 (by omega) h
theorem qh0 (l:List Int) (k s:Nat):qab (l.take k) s=if s < k then qab l s else 0:=by
 unfold qab;simp only [Int.toNat_natCast,List.getD_eq_getElem?_getD,List.getElem?_take];split <;> simp
theorem qth (s:Int):qab [] s=0:=by simp [qab]
def VOk (vs:List (List Int)) (j:Nat) (u:List Int):Prop:=u.length=5∧∀ s:Nat,s < 5→qab u s=qkf (vs.take j) s
def VOk2 (vs:List (List Int)) (j:Nat) (l:List Int) (k:Nat) (u:List Int):Prop:=u.length=5∧∀ s:Nat,s < 5→qab u s=max (qkf (vs.take j) s) (qab (l.take k) s)
theorem VOk.start (vs:List (List Int)):VOk vs 0 [0,0,0,0,0]:=by
 refine ⟨rfl,fun s hs=>?_⟩;rw [List.take_zero,ja0]
 match s,hs with
 | 0,_=>rfl
 | 1,_=>rfl
 | 2,_=>rfl
 | 3,_=>rfl
 | 4,_=>rfl
theorem VOk.enter {vs:List (List Int)} {j:Nat} {u:List Int} (h:VOk vs j u) (l:List Int):VOk2 vs j l 0 u:=
 ⟨h.1,fun s hs=>by rw [h.2 s hs,List.take_zero,qth];have:=qi7 (vs.take j) s;omega⟩
theorem VOk2.leave {vs:List (List Int)} {j:Nat} {u:List Int} (hj:j < vs.length) (h:VOk2 vs j vs[j] vs[j].length u):VOk vs (j+1) u:=
 ⟨h.1,fun s hs=>by rw [h.2 s hs,List.take_length,qxi vs j hj]⟩
theorem VOk2.step {vs:List (List Int)} {j k:Nat} {l u:List Int} (h:VOk2 vs j l k u) (hk:k < l.length) (h5:k < 5) (hu:k < u.length):VOk2 vs j l (k+1) (u.set k (max u[k] l[k])):=by
 refine ⟨by simp [h.1],fun s hs=>?_⟩;have e1:qab (u.set k (max u[k] l[k])) s=if s=k then max u[k] l[k] else qab u s:=by
  have:=qks u k s (max u[k] l[k]) (by omega) (by omega) (by simpa using hu);rw [Int.toNat_natCast] at this;rw [this]
  by_cases e:s=k
  ·subst e;simp
  rw [if_neg (by omega),if_neg e]
 rw [e1,qh0]
 by_cases e:s=k
 ·subst e
  rw [if_pos rfl,if_pos (by omega)];have h1:=h.2 s hs;have h2:qab u s=u[s]:=by simp [qab,hu]
  have h3:qab l s=l[s]:=by simp [qab,hk]
  rw [h2,qh0,if_neg (by omega)] at h1;have:=qi7 (vs.take j) s;rw [h3];omega
 rw [if_neg e,h.2 s hs,qh0]
 by_cases g:s < k
 ·rw [if_pos g,if_pos (by omega)]
 rw [if_neg g,if_neg (by omega)]
def qjl (vs:List (List Int)) (ds:List Dot):DSet:=fun s c=>decide (1≤c)&&(decide ((c:Int)≤qkf vs s)||ds.contains ⟨s,c⟩)
theorem qsb (st:List Int×List Dot) (d:Dot):(qbn st d).1.length=st.1.length∧(qbn st d).2.length≤st.2.length+1:=by
 unfold qbn;split
 ·simp
 split
 ·simp
 split <;> simp
theorem qkd (v:List Int) (l:List Dot) (j:Nat) (hj:j < l.length):qbq v (l.take (j+1))=qbn (qbq v (l.take j)) l[j]:=by
 unfold qbq;rw [← List.take_append_getElem hj,List.foldl_append];rfl
theorem qm8 (v:List Int) (l:List Dot):∀ j,j≤l.length→(qbq v (l.take j)).1.length=v.length∧(qbq v (l.take j)).2.length≤j
 | 0,_=>by simp [qbq]
 | j+1,h=>by
  obtain ⟨h1,h2⟩:=qm8 v l j (by omega);obtain ⟨g1,g2⟩:=qsb (qbq v (l.take j)) l[j];rw [qkd v l j (by omega)];omega
theorem quk {v:List Int} {l:List Dot} (hl:v.length=5) (hv:∀ s:Nat,s < 5→0≤qab v s∧qab v s≤1000) (hd:∀ d∈l,qb8 d=true) (ho:OrdD l) (j:Nat) :
  MadeOk v (l.take j) (qbq v (l.take j)):=by
 have h:=qul v (l.take j) [] (v,[]) ⟨hl,fun _ _=>Int.le_refl _,hv,fun s hs c c1 c2=>.inl c2,SortedD.nil,by simp,by simp,by simp⟩ (fun d h=>hd d (List.mem_of_mem_take h)) (ho.sublist (List.take_sublist j l)) (by simp);rwa [List.nil_append] at h
theorem qkc (v:List Int) (l:List Dot):qbq v (l.take l.length)=qbq v l:=by rw [List.take_length]
theorem jd0 {vs:List (List Int)} {ds l:List Dot} {v:List Int} (hv:VOk vs vs.length v) (hb:∀ s:Nat,s < 5→0≤qab v s∧qab v s≤1000) (hp:l.Perm ds) (ho:OrdD l) (hd:∀ d∈l,qb8 d=true) :
  made v l=qb2 (qjl vs ds):=by
 have hmem:∀ n∈v,0≤n∧n≤1000:=by
  intro n hn;obtain ⟨i,hi,rfl⟩:=List.getElem_of_mem hn;have:=hb i (by have:=hv.1;omega);rwa [show qab v i=v[i] by simp [qab,hi]] at this
 rw [qzv hv.1 hmem hd ho];apply qg7;intro s hs c c1 c2;have h1:=hv.2 s hs;rw [List.take_length] at h1;have h2:l.contains (⟨s,c⟩:Dot)=ds.contains ⟨s,c⟩:=by
  rw [Bool.eq_iff_iff,List.contains_iff_mem,List.contains_iff_mem];exact hp.mem_iff
 simp only [qf7,qjl,h1,h2]
theorem jbt {vs:List (List Int)} {v:List Int} (hv:VOk vs vs.length v) (cZ:∀ l∈vs,∀ n∈l,0≤n∧n≤1000):∀ s:Nat,s < 5→0≤qab v s∧qab v s≤1000:=by
 intro s hs;have h1:=hv.2 s hs;rw [List.take_length] at h1;rw [h1];refine ⟨qi7 _ _,jd1 _ _ fun l hl=>?_⟩
 by_cases h:s < l.length
 ·rw [show qab l s=l[s] by simp [qab,h]]
  exact (cZ l hl _ (List.getElem_mem h)).2
 rw [show qab l s=0 by simp [qab,h]];omega
theorem qtg {v:List Int} {n:Nat} (hn:n < v.length) (h:v[n]=0):trim (v.take (n+1))=trim (v.take n):=by
 rw [← List.take_append_getElem hn,h];unfold trim;rw [List.reverse_append];simp
theorem qte {v:List Int} {n:Nat} (hn:n < v.length) (h:v[n]≠0):trim (v.take (n+1))=v.take (n+1):=by
 rw [← List.take_append_getElem hn];unfold trim;rw [List.reverse_append];simp [h]
def qdc (p:Nat→Bool):Nat→Nat
 | 0=>0
 | n+1=>2 ^ n*(p n).toNat+qdc p n
theorem qof (p:Nat→Bool):∀ n,qdc p n < 2 ^ n
 | 0=>by simp [qdc]
 | n+1=>by
  have:=qof p n;rw [qdc,Nat.pow_succ]
  cases p n <;> simp <;> omega
theorem qay (p:Nat→Bool) (i:Nat):∀ n,(qdc p n).testBit i=(decide (i < n)&&p i)
 | 0=>by simp [qdc]
 | n+1=>by
  rw [qdc,Nat.testBit_two_pow_mul_add _ (qof p n),qay p i n]
  by_cases h:i < n
  ·have:i < n+1:=by omega
   simp [h,this]
  by_cases h2:i=n
  ·subst h2;cases p i <;> simp
  have h3:¬ i < n+1:=by omega
  obtain ⟨j,hj⟩:∃ j,i - n=j+1:=⟨i - n - 1,by omega⟩
  rw [if_neg h,hj,Nat.testBit_succ]
  cases p n <;> simp [h3]
theorem qi9 {p q:Nat→Bool}:∀ {n},(∀ i,i < n→p i=q i)→qdc p n=qdc q n
 | 0,_=>rfl
 | n+1,h=>by rw [qdc,qdc,h n (by omega),qi9 (fun i hi=>h i (by omega))]
theorem qxp {p q:Nat→Bool} {n:Nat} (h:qdc p n=qdc q n) (i:Nat) (hi:i < n):p i=q i:=by
 have h1:=qay p i n;have h2:=qay q i n;rw [h,h2] at h1;simpa [hi] using h1.symm
theorem ja7 (p q:Nat→Bool) (n:Nat):qdc p n||| qdc q n=qdc (fun i=>p i||q i) n:=by
 apply Nat.eq_of_testBit_eq;intro i;rw [Nat.testBit_or,qay,qay,qay]
 cases decide (i < n) <;> simp
theorem qxn (p q:Nat→Bool) (n:Nat):qdc p n&&& qdc q n=qdc (fun i=>p i&&q i) n:=by
 apply Nat.eq_of_testBit_eq;intro i;rw [Nat.testBit_and,qay,qay,qay]
 cases decide (i < n) <;> simp
theorem qxq (p:Nat→Bool) (n k:Nat) (hk:k < n):qdc p n||| 2 ^ k=qdc (fun i=>p i||decide (i=k)) n:=by
 apply Nat.eq_of_testBit_eq;intro i;rw [Nat.testBit_or,qay,qay,Nat.testBit_two_pow]
 by_cases h:k=i
 ·subst h;simp [hk]
 have h':¬ i=k:=fun e=>h e.symm;simp [h,h']
theorem qxo (p:Nat→Bool) (n k:Nat) (hk:k < n):qdc p n / 2 ^ k % 2=if p k then 1 else 0:=by
 have h:=qay p k n;rw [Nat.testBit_eq_decide_div_mod_eq] at h;simp only [hk,decide_true,Bool.true_and] at h
 cases hp:p k
 ·rw [hp] at h;simp at h;simp;omega
 rw [hp] at h;simp at h;simp [h]
def qb3 (S:DSet) (s k:Nat):Nat:=qdc (fun b=>S s (64*k+b)) 64
theorem qf2 (S:DSet) (s k:Nat):qb3 S s k < 18446744073709551616:=qof _ 64
theorem qct {S T:DSet} {s k:Nat} (h:∀ b,b < 64→S s (64*k+b)=T s (64*k+b)):qb3 S s k=qb3 T s k:=qi9 h
theorem je4 (S:DSet) (s c:Nat):qb3 S s (c / 64) / 2 ^ (c % 64) % 2=if S s c then 1 else 0:=by
 unfold qb3;rw [qxo _ 64 _ (Nat.mod_lt _ (by omega))];rw [show 64*(c / 64)+c % 64=c from Nat.div_add_mod c 64]
def qh1 (S:DSet) (s c:Nat):DSet:=fun t d=>S t d||(decide (t=s)&&decide (d=c))
theorem je5 (S:DSet) (s c:Nat):qb3 S s (c / 64)||| 2 ^ (c % 64)=qb3 (qh1 S s c) s (c / 64):=by
 unfold qb3;rw [qxq _ 64 _ (Nat.mod_lt _ (by omega))];apply qi9;intro i hi;simp only [qh1,decide_true,Bool.true_and];congr 1;rw [decide_eq_decide];constructor
 ·intro e;subst e;exact Nat.div_add_mod c 64
 intro e;omega
theorem qp2 (S:DSet) (s c t k:Nat) (h:¬ (t=s∧k=c / 64)):qb3 (qh1 S s c) t k=qb3 S t k:=by
 apply qct;intro b hb;have:(decide (t=s)&&decide (64*k+b=c))=false:=by
  rw [← Bool.not_eq_true];simp only [Bool.and_eq_true,decide_eq_true_eq];rintro ⟨e1,e2⟩;exact h ⟨e1,by omega⟩
 simp [qh1,this]
def orD (S T:DSet):DSet:=fun s c=>S s c||T s c
def andD (S T:DSet):DSet:=fun s c=>S s c&&T s c
theorem jfr (S T:DSet) (s k:Nat):qb3 S s k||| qb3 T s k=qb3 (orD S T) s k:=ja7 _ _ _
theorem je3 (S T:DSet) (s k:Nat):qb3 S s k&&& qb3 T s k=qb3 (andD S T) s k:=qxn _ _ _
def qn6 (S T:DSet):Prop:=∀ s,s < 5→∀ k,k < 16→qb3 S s k=qb3 T s k
theorem qfs (S T:DSet):qn6 S T↔∀ s,s < 5→∀ c,c < 1024→S s c=T s c:=by
 constructor
 ·intro h s hs c hc
  have:=qxp (h s hs (c / 64) (by omega)) (c % 64) (Nat.mod_lt _ (by omega));simpa [Nat.div_add_mod] using this
 intro h s hs k hk;exact qct fun b hb=>h s hs _ (by omega)
def jc2 (S:DSet):Prop:=∀ s c,S s c=true→s < 5∧1≤c∧c≤1000
theorem qrx {S T:DSet} (hS:jc2 S) (hT:jc2 T):qn6 S T↔qqa S T:=by
 rw [qfs];constructor
 ·intro h s hs c c1 c2;exact h s hs c (by omega)
 intro h s hs c hc
 by_cases hv:1≤c∧c≤1000
 ·exact h s hs c hv.1 hv.2
 have a:S s c=false:=by
  rw [← Bool.not_eq_true];intro e;exact hv (hS s c e).2
 have b:T s c=false:=by
  rw [← Bool.not_eq_true];intro e;exact hv (hT s c e).2
 rw [a,b]
def ones:Nat→Nat→Int
 | 0,_=>0
 | f+1,v=>if v=0 then 0 else ones f (v / 2)+(v % 2:Nat)
theorem qpu:∀ (f v:Nat),v < 2 ^ f→ones f v=qal (fun i=>v.testBit i) f
 | 0,v,h=>rfl
 | f+1,v,h=>by
  have e:qal (fun i=>v.testBit i) (f+1)=(v % 2:Nat)+qal (fun i=>(v / 2).testBit i) f:=by
   have:∀ n,qal (fun i=>v.testBit i) (n+1)=(v % 2:Nat)+qal (fun i=>(v / 2).testBit i) n:=by
    intro n
    induction n with
    | zero=>
     simp only [qal,Nat.testBit_zero];have:v % 2=0∨v % 2=1:=by omega
     rcases this with h | h <;> simp [h]
    | succ n ih=>
     rw [qal,ih,qal,Nat.testBit_succ];omega
   exact this f
  rw [ones,e];split
  ·rename_i h0;subst h0
   rw [qbf (q:=fun _=>false) (by simp),qhy];simp
  rw [qpu f (v / 2) (by rw [Nat.pow_succ] at h;omega)];omega
end Go.Proofs.YtngbfdogiciahaaGreat
namespace Go.Proofs.YtngbfdogiciahaaGreat
open Go Go.RowKit
theorem qn9 (q:Nat→Bool):∀ n,qds q n=(List.range n).all q
 | 0=>rfl
 | n+1=>by rw [qds,qn9 q n,List.range_succ,List.all_append];simp
section
variable {P:Program} {t e:TypeId} {n:Nat} {f g:Nat→Value} {q:Nat→Bool}
theorem qik (hag:∀ w,(isAgg e).run P w=.ok false w) (d:Nat) (he:∀ i,i < n→∀ w,(Op.equalIn d e (f i) (g i)).run P w=.ok (q i) w) :
  ∀ (is:List Nat),(∀ i∈is,i < n)→∀ w,(Op.eqItems d e 1 (rowF n f) (rowF n g) is).run P w=.ok (is.all q) w
 | [],_,w=>by simp [Op.eqItems]
 | i::r,h,w=>by
  have hi:=h i (by simp);have p1:(part e (rowF n f) (i*1)).run P w=.ok (f i) w:=by simp [part,hag,qgd f hi]
  have p2:(part e (rowF n g) (i*1)).run P w=.ok (g i) w:=by simp [part,hag,qgd g hi]
  have ih:=qik hag d he r (fun j hj=>h j (by simp [hj])) w;simp only [Op.eqItems,Sem.run_bind,p1,p2,Result.andThen_ok,he i hi,List.all_cons]
  cases q i <;> simp [ih]
theorem qil (hu:P.underlying t=some (.array n e)) {i:TypeInfo} (hi:P.info? e=some i) (hc:P.cellsOf e=1) (hag:∀ w,(isAgg e).run P w=.ok false w)
  (d:Nat) (he:∀ i,i < n→∀ w,(Op.equalIn d e (f i) (g i)).run P w=.ok (q i) w) (w:World) :
  (Op.equalIn (d+1) t (.agg (rowF n f)) (.agg (rowF n g))).run P w=.ok (qds q n) w:=by
 rw [run_equalIn_array w d _ _ hu hi,hc,qik hag d he _ (fun i hi=>List.mem_range.1 hi),qn9]
end
theorem Own.empty {α:Type} {R:World→List Value→α→Prop} {sz:Nat} {e:TypeId} {w:World} {base:Nat} (hb:base≤w.heap.size) :
  Own R sz e (w.alloc (.cells #[] e)) base (.slice (some ⟨w.heap.size,0,none⟩) 0 0) ([]:List α):=by
 refine ⟨[],rfl,by intro i cs x h;simp at h,by simp,.inr ⟨w.heap.size,0,#[],rfl,hb,heap_alloc_new w _,Nat.le_refl _,Nat.zero_le _,by simp,by simp⟩⟩
theorem Sl.none_nil {α:Type} {R:World→List Value→α→Prop} {sz B:Nat} {e:TypeId} {w:World} {l:List α} (h:Sl B e R sz w none l):l=[]:=by
 rcases l with _ | ⟨x,l⟩
 ·rfl
 obtain ⟨b,off,cs,hA,_⟩:=h.at_ (i:=0) (by simp)
 cases hA
theorem Chg.setNew {B:Nat} {ts:List TypeId} {a w:World} (h:Chg B ts a w) {p:Addr} (hp:a.heap.size≤p.block) (u:Value):Chg B ts a (w.setCell p u):=
 ⟨h.os,h.tape,h.output,by simpa [World.setCell] using h.size,fun k hk hc=>(Below.heap_setCell w p u k (by omega)).trans (h.block k hk hc)⟩
theorem Chg.under {B k:Nat} {ts:List TypeId} {a w b:World} (h:Chg B ts a w) (x:Below k w b) (hk:a.heap.size≤k):Chg B ts a b:=
 ⟨(Below.os x).trans h.os,(Below.tape x).trans h.tape,(Below.output x).trans h.output,Nat.le_trans h.size (Below.size x),fun i hi hc=>(Below.block x i (by omega)).trans (h.block i hi hc)⟩
theorem Chg.alloc {B:Nat} {ts:List TypeId} {a w:World} (h:Chg B ts a w) (o:Obj):Chg B ts a (w.alloc o):=h.trans (.of_ext ((Ext.refl w).alloc o))
theorem Chg.drewN {B:Nat} {ts:List TypeId} {a w:World} (h:Chg B ts a w) (n:Nat):Chg B ts a (w.drewN n):=h.trans (.of_ext ((Ext.refl w).drewN n))
theorem Chg.ext' {B:Nat} {ts:List TypeId} {a w b:World} (h:Chg B ts a w) (x:Ext w b):Chg B ts a b:=h.trans (.of_ext x)
theorem qag {w:World} {g k r o:Nat} {u v:Value} (hb:r≠g) (q:w.cell? ⟨r,o,none⟩=some u):(w.setCell ⟨g,k,none⟩ v).cell? ⟨r,o,none⟩=some u:=
 (World.cell?_setCell_other _ _ _ _ (by intro e;injection e with e;omega)).trans q
theorem qh8 {w:World} {g k r o:Nat} {u v:Value} (hb:o≠k) (q:w.cell? ⟨r,o,none⟩=some u):(w.setCell ⟨g,k,none⟩ v).cell? ⟨r,o,none⟩=some u:=
 (World.cell?_setCell_other _ _ _ _ (by intro e;injection e with _ e;omega)).trans q
theorem Own.far {α:Type} {R:World→List Value→α→Prop} {sz:Nat} {e:TypeId} {w:World} {base:Nat} {v:Value} {l:List α} (h:Own R sz e w base v l) (hRw:∀ w w' cs x,R w cs x→R w' cs x) {p:Addr} (hp:p.block < base) (u:Value):Own R sz e (w.setCell p u) base v l:=by
 obtain ⟨xs,hx,hR,ho⟩:=h;refine ⟨xs,hx,fun i cs x h1 h2=>⟨(hR i cs x h1 h2).1,hRw _ _ _ _ (hR i cs x h1 h2).2⟩,ho.1,?_⟩;rcases ho.2 with hn | ⟨b,cap,cur,rfl,hb,hgg,rest⟩
 ·exact .inl hn
 exact .inr ⟨b,cap,cur,rfl,hb,(Below.heap_setCell w p u b (by omega)).trans hgg,rest⟩
theorem Own.farPair {α:Type} {f g:α→Int} {e:TypeId} {w:World} {base:Nat} {v:Value} {l:List α} (h:Own (RPair f g) 2 e w base v l) {p:Addr} (hp:p.block < base) (u:Value):Own (RPair f g) 2 e (w.setCell p u) base v l:=
 h.far (fun _ _ _ _ h=>h) hp u
def rowI (l:List Int):Array Value:=(l.map (Value.int .i64)).toArray
theorem qr7 {l:List Int} {i:Nat} (h:i < l.length):(rowI l)[i]?=some (.int .i64 l[i]):=by simp [rowI,h]
theorem qwd (l:List Int) (i:Nat) (x:Int):(rowI l).setIfInBounds i (.int .i64 x)=rowI (l.set i x):=by simp [rowI,List.map_set]
theorem qgp (off:Nat):∀ (cs:List Value) (k:Nat) (z:Array Value),
  ((cs.zipIdx k).foldl (fun z (x:Value×Nat)=>z.setIfInBounds (off+x.2) x.1) z).size=z.size∧
  ∀ i,((cs.zipIdx k).foldl (fun z (x:Value×Nat)=>z.setIfInBounds (off+x.2) x.1) z)[i]?=if off+k≤i∧i < off+k+cs.length∧i < z.size then cs[i - (off+k)]? else z[i]?
 | [],k,z=>by
  refine ⟨rfl,fun i=>?_⟩;rw [if_neg (by simp;omega)];rfl
 | c::r,k,z=>by
  obtain ⟨h1,h2⟩:=qgp off r (k+1) (z.setIfInBounds (off+k) c);rw [List.zipIdx_cons,List.foldl_cons];refine ⟨by rw [h1];simp,fun i=>?_⟩;rw [h2 i,Array.size_setIfInBounds]
  by_cases hi:i=off+k
  ·subst hi
   rw [if_neg (by omega)]
   by_cases hz:off+k < z.size
   ·rw [if_pos ⟨by omega,by simp,hz⟩]
    simp [hz]
   rw [if_neg (by omega),Array.getElem?_eq_none (by simp;omega),Array.getElem?_eq_none (by omega)]
  by_cases hc:off+k≤i∧i < off+k+(c::r).length∧i < z.size
  ·rw [if_pos hc,if_pos (by simp at hc;omega)]
   obtain ⟨j,hj⟩:∃ j,i=off+k+1+j:=⟨i - (off+k+1),by omega⟩
   rw [show i - (off+(k+1))=j by omega,show i - (off+k)=j+1 by omega,List.getElem?_cons_succ]
  rw [if_neg hc,if_neg (by simp at hc ⊢;omega),Array.getElem?_setIfInBounds_ne (by omega)]
theorem qk4 (off:Nat) (cs z:Array Value):(cs.zipIdx.foldl (fun cs (x:Value×Nat)=>cs.setIfInBounds (off+x.2) x.1) z)=((cs.toList.zipIdx 0).foldl (fun z (x:Value×Nat)=>z.setIfInBounds (off+x.2) x.1) z):=by
 rw [← Array.foldl_toList];simp
theorem jcl (place:Nat→Option (Nat×Nat)) (C z:Array Value) (v:Value) (hv:v.cells=C) (hp:place 0=some (0,C.size)) (hz:z.size=C.size):Instr.fill place z [(0,v)]=some C:=by
 subst hv;simp only [Instr.fill,hp];rw [if_neg (by simp;omega)];congr 1;have h:=qk4 0 v.cells z;simp only [Nat.zero_add] at h ⊢;rw [h];obtain ⟨h1,h2⟩:=qgp 0 v.cells.toList 0 z;simp only [Nat.zero_add] at h1 h2;apply Array.ext_getElem?;intro i;rw [h2 i];split
 ·simp
 rename_i hn
 simp only [Array.length_toList,Nat.zero_le,true_and] at hn;rw [Array.getElem?_eq_none (by omega),Array.getElem?_eq_none (by omega)]
theorem jcm (place:Nat→Option (Nat×Nat)) (A B z:Array Value) (u v:Value) (hu:u.cells=A) (hv:v.cells=B) (h0:place 0=some (0,A.size)) (h1:place 1=some (A.size,B.size)) (hz:z.size=A.size+B.size) :
  Instr.fill place z [(0,u),(1,v)]=some (A++B):=by
 subst hu hv;have e0:=qk4 0 u.cells z;obtain ⟨a1,a2⟩:=qgp 0 u.cells.toList 0 z;obtain ⟨b1,b2⟩:=qgp u.cells.size v.cells.toList 0 ((u.cells.toList.zipIdx 0).foldl (fun z (x:Value×Nat)=>z.setIfInBounds (0+x.2) x.1) z);have e1:=qk4 u.cells.size v.cells ((u.cells.toList.zipIdx 0).foldl (fun z (x:Value×Nat)=>z.setIfInBounds (0+x.2) x.1) z);simp only [Instr.fill,h0,h1];rw [if_neg (by simp;omega)];rw [if_neg (by rw [e0,a1];simp;omega)];congr 1;rw [e0,e1];apply Array.ext_getElem?;intro i;rw [b2 i,a2 i,a1];simp only [Nat.zero_add,Nat.add_zero,Array.length_toList,Nat.zero_le,true_and,Nat.sub_zero]
 by_cases h:i < u.cells.size
 ·rw [if_neg (by omega),if_pos (by omega),Array.getElem?_append_left h]
  simp
 by_cases h':i < u.cells.size+v.cells.size
 ·rw [if_pos (by omega),Array.getElem?_append_right (by omega)]
  simp
 rw [if_neg (by omega),if_neg (by omega),Array.getElem?_eq_none (by omega),Array.getElem?_eq_none (by simp;omega)]
section
variable {P:Program} {w:World} {t e:TypeId}
structure Pair2 (P:Program) (t a b:TypeId) (n m:Nat):Prop where
 f:∃ f0 f1,P.underlying t=some (.struct #[f0,f1])∧f0.type=a∧f0.offset=0∧f1.type=b∧f1.offset=n
 ia:(P.info? a).map (·.size)=some n
 ib:(P.info? b).map (·.size)=some m
 it:∃ i z,P.info? t=some i∧i.zero=some z∧z.cells.size=n+m∧i.size=n+m
theorem jfv {a b:TypeId} {n m:Nat} (h:Pair2 P t a b n m) {A B:Array Value} (hA:A.size=n) (hB:B.size=m):P.built t [(0,.agg A),(1,.agg B)]=some (A++B):=by
 obtain ⟨⟨f0,f1,hu,t0,o0,t1,o1⟩,ia,ib,⟨i,z,hi,hz,hzs,_⟩⟩:=h;unfold Program.built
 cases ha:P.info? a with
 | none=>rw [ha] at ia;cases ia
 | some xa=>
  cases hb:P.info? b with
  | none=>rw [hb] at ib;cases ib
  | some xb=>
   rw [ha] at ia;rw [hb] at ib;simp only [Option.map_some,Option.some.injEq] at ia ib;simp only [hi,hu,hz,List.mapM_cons,List.mapM_nil,t0,t1,ha,hb,Option.map_some,Option.bind_eq_bind,Option.pure_def,Option.bind_some,ia,ib,o0,o1];exact jcm _ A B z.cells (.agg A) (.agg B) rfl rfl (by rw [hA];rfl) (by rw [hA,hB];rfl) (by rw [hzs,hA,hB])
theorem qp5 {o:Oper} {a:Act} {K:Act→World→Prop} {Q:Exit→Act→World→Prop} {ta tb:TypeId} {n m:Nat} (h2:Pair2 P t ta tb n m) (x y:Operand) (ho:o.op=.build t #[(0,x),(1,y)]) {A B:Array Value} (hx:a.eval x=.agg A) (hy:a.eval y=.agg B) (hA:A.size=n) (hB:B.size=m)
  (h:K (a.put o.dst (.agg (A++B))) w):o.wp P a w K Q:=by
 unfold Oper.wp execOp;have hr:=run_build (P:=P) w t #[(0,.agg A),(1,.agg B)] (A++B) (by rw [← jfv h2 hA hB]);simp only [ho,List.map_toArray,List.map_cons,List.map_nil,hx,hy,Sem.run_bind,hr,Result.andThen_ok];exact h
theorem qt0 {A:Array Value} {n:Nat} (hu:P.underlying t=some (.slice e)) (hi:∃ i z,P.info? e=some i∧i.zero=some z∧z.cells.size=n∧i.size=n) (hn:0 < n∧n≤1000000) (hA:A.size=n):(Instr.buildSlice t 1 #[(0,.agg A)]).run P w=.ok (.slice (some ⟨w.heap.size,0,none⟩) 1 1) (w.alloc (.cells A e)):=by
 obtain ⟨i,z,hi,hz,hzs,his⟩:=hi;refine run_buildSlice (P:=P) w t e 1 #[(0,.agg A)] A i z hu hi hz (by rw [his];omega) (by rw [his];omega) ?_;exact jcl _ A _ (.agg A) rfl (by simp [his,hA]) (by simp [his,hA])
theorem qhp {o:Oper} {a:Act} {K:Act→World→Prop} {Q:Exit→Act→World→Prop} {A:Array Value} {n:Nat} (hu:P.underlying t=some (.slice e)) (hi:∃ i z,P.info? e=some i∧i.zero=some z∧z.cells.size=n∧i.size=n) (hn:0 < n∧n≤1000000) (x:Operand) (ho:o.op=.buildSlice t 1 #[(0,x)]) (hx:a.eval x=.agg A) (hA:A.size=n)
  (h:K (a.put o.dst (.slice (some ⟨w.heap.size,0,none⟩) 1 1)) (w.alloc (.cells A e))):o.wp P a w K Q:=by
 unfold Oper.wp execOp;have hr:=qt0 (P:=P) (w:=w) (t:=t) (e:=e) hu hi hn hA;simp only [ho,List.map_toArray,List.map_cons,List.map_nil,hx,Sem.run_bind,hr,Result.andThen_ok];exact h
end
def qc0 (P:Program) (t:TypeId) (n:Nat):Prop:=(∃ d,P.underlying t=some d∧d.isRow=true)∧(P.info? t).map (·.size)=some n
section
variable {P:Program} {ops:Array Oper} {rest:List Oper} {o:Oper} {a:Act} {w:World} {Q:Exit→Act→World→Prop} {K:Act→World→Prop} {t:TypeId} {n:Nat}
theorem qa1 (ri:qc0 P t n) (x:Operand) (ho:o.op=.load t x) (hg:o.guard=none) {b i:Nat} (hx:a.eval x=.pointer (some ⟨b,i,none⟩)) {cs:Array Value} (hr:w.rangeAt b i cs.toList) (hn:cs.size=n)
  (h:wpList P ops Q rest (a.put o.dst (.agg cs)) w):wpList P ops Q (o::rest) a w:=by
 obtain ⟨⟨d,hu,hd⟩,hi⟩:=ri;exact wpList_load_mid hg t x ho b i hx cs.toList d hr hu hd (by rw [hi,Array.length_toList,hn]) (by rw [Array.toArray_toList];exact h)
theorem qd4 (ri:qc0 P t n) (x:Operand) (ho:o.op=.load t x) {b i:Nat} (hx:a.eval x=.pointer (some ⟨b,i,none⟩)) {cs:Array Value} (hr:w.rangeAt b i cs.toList) (hn:cs.size=n)
  (h:K (a.put o.dst (.agg cs)) w):o.wp P a w K Q:=by
 obtain ⟨⟨d,hu,hd⟩,hi⟩:=ri;exact wp_load_mid t x ho b i hx cs.toList d hr hu hd (by rw [hi,Array.length_toList,hn]) (by rw [Array.toArray_toList];exact h)
theorem qa3 (ri:qc0 P t n) (x y:Operand) (ho:o.op=.store t x y) (hg:o.guard=none) {b:Nat} (hx:a.eval x=.pointer (some ⟨b,0,none⟩)) {cs old:Array Value} (hy:a.eval y=.agg cs)
  (hb:Blk w b t old) (hn:cs.size=n) (hold:old.size=n) (h1:cs.all (·.oneCell')=true)
  (h:∀ w',Below b w w'→Blk w' b t cs→w'.heap.size=w.heap.size→(∀ k,k≠b→w'.heap[k]?=w.heap[k]?)→wpList P ops Q rest (a.put o.dst undef) w'):wpList P ops Q (o::rest) a w:=by
 obtain ⟨_,hi⟩:=ri;have cw:∀ k,k≠b→(w.setRow b cs).heap[k]?=w.heap[k]?:=fun k hk=>setRow_other w b k cs (by omega);exact wpList_store_row hg t x y ho b cs hx hy t old hb (by rw [hn];exact hi) (by omega) h1
  (h _ ⟨rfl,rfl,rfl,by simp,fun k hk=>cw k (by omega)⟩ (setRow_heap w b old _ t _ hb) (by simp) cw)
end
theorem Blk.whole {w:World} {b:Nat} {e:TypeId} {cs:Array Value} (h:Blk w b e cs):w.rangeAt b 0 cs.toList:=fun j v hv=>by
 rw [Nat.zero_add];exact h.cell (by rwa [Array.getElem?_toList] at hv)
theorem qkw {P:Program} {ops:Array Oper} {rest:List Oper} {o:Oper} {a:Act} {w:World} {Q:Exit→Act→World→Prop} {t:TypeId} {v:Value} (hz:∀ w,(Instr.build t #[]).run P w=.ok v w) (ho:o.op=.build t #[]) (hg:o.guard=none)
  (h:wpList P ops Q rest (a.put o.dst v) w):wpList P ops Q (o::rest) a w:=by
 refine wpList_plain hg fun K hK=>?_;unfold Oper.wp execOp;simp only [ho,List.map_toArray,List.map_nil,Sem.run_bind,hz,Result.andThen_ok];exact hK _ _ h
def At {α:Type} (R:World→List Value→α→Prop) (sz:Nat) (w:World) (g q:Nat) (x:α):Prop:=∃ cs:List Value,cs.length=sz∧w.rangeAt g (q*sz) cs∧R w cs x
structure RowOwn (w:World) (g:Nat) (e:TypeId) (N:Nat):Prop where
 blk:∃ cur,Blk w g e cur∧cur.size=N
theorem RowOwn.ty {w:World} {g:Nat} {e:TypeId} {N:Nat} (h:RowOwn w g e N):tyAt w g=some e:=by obtain ⟨cur,hb,_⟩:=h.blk;exact hb.ty
theorem RowOwn.fz {w:World} {g:Nat} {e:TypeId} {N:Nat} (h:RowOwn w g e N) (o:Nat):w.frozen? ⟨g,o,none⟩=false:=by obtain ⟨cur,hb,_⟩:=h.blk;exact hb.frozen o
theorem RowOwn.lt {w:World} {g:Nat} {e:TypeId} {N:Nat} (h:RowOwn w g e N):g < w.heap.size:=by obtain ⟨cur,hb,_⟩:=h.blk;exact hb.lt
theorem qe8 (b:Nat):∀ (vs:List Value) (o:Nat) (w:World) (k:Nat),k≠b→(w.setCells b o vs).heap[k]?=w.heap[k]?
 | [],_,_,_,_=>rfl
 | v::r,o,w,k,h=>by
  rw [World.setCells,qe8 b r (o+1) _ k h];exact Below.heap_setCell w ⟨b,o,none⟩ v k h
theorem qec (b:Nat):∀ (vs:List Value) (o:Nat) (w:World),(w.setCells b o vs).os=w.os∧(w.setCells b o vs).tape=w.tape∧(w.setCells b o vs).output=w.output∧(w.setCells b o vs).heap.size=w.heap.size
 | [],_,_=>⟨rfl,rfl,rfl,rfl⟩
 | v::r,o,w=>by
  obtain ⟨h1,h2,h3,h4⟩:=qec b r (o+1) (w.setCell ⟨b,o,none⟩ v);rw [World.setCells];exact ⟨h1,h2,h3,h4.trans (by simp [World.setCell])⟩
theorem qhm (b:Nat) (t:TypeId):∀ (vs:List Value) (o:Nat) (w:World),tyAt w b=some t→tyAt (w.setCells b o vs) b=some t
 | [],_,_,h=>h
 | v::r,o,w,h=>by
  rw [World.setCells];refine qhm b t r (o+1) _ ?_;unfold tyAt at h ⊢
  cases hb:w.heap[b]? with
  | none=>rw [hb] at h;cases h
  | some ob=>
   rw [hb] at h
   cases ob <;> simp at h
   simp [World.setCell,Array.getElem?_modify,hb,h]
theorem qhv (g:Nat) (e:TypeId) (N:Nat):∀ (vs:List Value) (o:Nat) (w:World),(∃ cur,Blk w g e cur∧cur.size=N)→∃ cur,Blk (w.setCells g o vs) g e cur∧cur.size=N
 | [],_,_,h=>h
 | v::r,o,w,h=>by
  obtain ⟨cur,h1,h2⟩:=h;rw [World.setCells];exact qhv g e N r (o+1) _ ⟨_,h1.set o v,by simpa using h2⟩
section
variable {α:Type} {R:World→List Value→α→Prop} {sz B base g n q i N:Nat} {e:TypeId} {w w':World} {x y:α} {l:List α}
theorem qj5 (h:Below base w w') (hg:base≤g) (o:Nat) (vs:List Value):Below base w (w'.setCells g o vs):=by
 obtain ⟨h1,h2,h3,h4⟩:=qec g vs o w';exact ⟨h1.trans (Below.os h),h2.trans (Below.tape h),h3.trans (Below.output h),by rw [h4];exact Below.size h,fun k hk=>(qe8 g vs o w' k (by omega)).trans (Below.block h k hk)⟩
theorem Chg.setCells (h:Chg B [e] w w') (ht:tyAt w' g=some e) (hg:B≤g) (o:Nat) (vs:List Value):Chg B [e] w (w'.setCells g o vs):=by
 obtain ⟨h1,h2,h3,h4⟩:=qec g vs o w';refine h.trans ⟨h1,h2,h3,by rw [h4];exact Nat.le_refl _,fun k hk hc=>qe8 g vs o w' k ?_⟩;rintro rfl;rcases hc with hc | hc
 ·omega
 exact hc e (by simp) ht
theorem RowOwn.setCells (h:RowOwn w g e N) (o:Nat) (vs:List Value):RowOwn (w.setCells g o vs) g e N:=⟨qhv g e N vs o w h.blk⟩
theorem RowOwn.ext (h:RowOwn w g e N) (x:Ext w w'):RowOwn w' g e N:=by
 obtain ⟨cur,h1,h2⟩:=h.blk;exact ⟨cur,h1.ext x,h2⟩
theorem At.ext (m:Mono B [] R) (h:At R sz w g q x) (z:Ext w w'):At R sz w' g q x:=by
 obtain ⟨cs,h1,h2,h3⟩:=h;exact ⟨cs,h1,fun j v hv=>z.cell (h2 j v hv),m _ _ _ _ (.of_ext z) h3⟩
theorem At.setCells (m:Mono B [e] R) (h:At R sz w g q x) (ht:tyAt w g=some e) (hB:B≤g) (o:Nat) (vs:List Value) (hap:q*sz+sz≤o∨o+vs.length≤q*sz):At R sz (w.setCells g o vs) g q x:=by
 obtain ⟨cs,h1,h2,h3⟩:=h;exact ⟨cs,h1,World.rangeAt_setCells_apart h2 g o vs (by rcases hap with h | h <;> omega),m _ _ _ _ ((Chg.refl w).setCells ht hB o vs) h3⟩
theorem At.there (h:At R sz w g q x) (ho:RowOwn w g e N):w.there g (q*sz) sz:=by
 obtain ⟨cs,h1,h2,h3⟩:=h;intro j hj;exact ⟨h2.isSome j (by omega),ho.fz _⟩
theorem At.put (m:Mono B [e] R) {cs:List Value} (hl:cs.length=sz) (hR:R w cs x) (ht:w.there g (q*sz) sz) (hy:tyAt w g=some e) (hB:B≤g):At R sz (w.setCells g (q*sz) cs) g q x:=
 ⟨cs,hl,World.rangeAt_setCells_same w g (q*sz) cs (by rw [hl];exact ht),m _ _ _ _ ((Chg.refl w).setCells hy hB _ _) hR⟩
theorem Sl.ofAt (B':Nat) {A:Option Addr} (hA:A=some ⟨g,0,none⟩) (ho:RowOwn w g e N) (h:∀ q x,l[q]?=some x→At R sz w g q x):Sl B' e R sz w A l:=by
 intro q x hq;obtain ⟨cs,h1,h2,h3⟩:=h q x hq;exact ⟨g,0,cs,hA,ho.lt,.inr ho.ty,h1,fun j v hv=>by rw [Nat.zero_add];exact h2 j v hv,h3⟩
end
theorem qgr {w w':World} {ob:Option Nat} (x:Ext w w'):w.grownBy w' ob:=⟨Below.os x,Below.tape x,Below.output x,x.size,fun _ hk _=>x.blockAt hk⟩
theorem qhd {w w1 w2:World} {ob:Option Nat} (h:w.grownBy w1 ob) (x:Ext w1 w2):w.grownBy w2 ob:=
 ⟨(Below.os x).trans h.os,(Below.tape x).trans h.tape,(Below.output x).trans h.output,Nat.le_trans h.size x.size,fun k hk aV=>(x.blockAt (Nat.lt_of_lt_of_le hk h.size)).trans (h.block k hk aV)⟩
theorem qd3 {w w1:World} {g:Nat} (h:w.grownBy w1 (some g)) (o:Nat) (vs:List Value):w.grownBy (w1.setCells g o vs) (some g):=by
 obtain ⟨h1,h2,h3,h4⟩:=qec g vs o w1;exact ⟨h1.trans h.os,h2.trans h.tape,h3.trans h.output,by rw [h4];exact h.size,fun k hk aV=>(qe8 g vs o w1 k (fun e=>aV (by rw [e]))).trans (h.block k hk aV)⟩
theorem qat {w w':World} {ob:Option Nat} {r o:Nat} {u:Value} (h:w.grownBy w' ob) (hc:w.cell? ⟨r,o,none⟩=some u) (aV:some r≠ob):w'.cell? ⟨r,o,none⟩=some u:=h.cell hc aV
theorem Own.ofAt {base c:Nat} {w:World} {g:Nat} {e:TypeId} {α:Type} {R:World→List Value→α→Prop} {sz:Nat} {l:List α} (aW:0 < sz) (ho:RowOwn w g e (c*sz)) (hg:base≤g) (hl:l.length≤c) (hc:c≤maxLen) (h:∀ q x,l[q]?=some x→At R sz w g q x) :
  Own R sz e w base (.slice (some ⟨g,0,none⟩) l.length c) l:=by
 obtain ⟨cur,hb,hs⟩:=ho.blk;obtain ⟨xs,hx,hxs⟩:=qjb (p:=fun q cs=>∀ x,l[q]?=some x→cs.length=sz∧w.rangeAt g (q*sz) cs∧R w cs x) l.length (by
  intro q hq;obtain ⟨cs,h1,h2,h3⟩:=h q _ (List.getElem?_eq_getElem hq);refine ⟨cs,fun x hx=>?_⟩;rw [List.getElem?_eq_getElem hq] at hx;injection hx with hx;subst hx;exact ⟨h1,h2,h3⟩)
 have bL:∀ cs∈xs,cs.length=sz:=by
  intro cs bK;obtain ⟨q,hq,rfl⟩:=List.getElem_of_mem bK;exact (hxs q _ (List.getElem?_eq_getElem hq) _ (List.getElem?_eq_getElem (by omega))).1
 have ag:xs.flatten.length=l.length*sz:=by
  rw [← hx];clear hxs hx
  induction xs with
  | nil=>simp
  | cons y ys ih=>simp [bL y (by simp),ih (fun c hc=>bL c (by simp [hc])),Nat.succ_mul,Nat.add_comm]
 refine ⟨xs,hx,fun q cs x h1 h2=>⟨(hxs q cs h1 x h2).1,(hxs q cs h1 x h2).2.2⟩,ag,.inr ⟨g,c,cur,rfl,hg,hb,hl,hc,hs,?_⟩⟩;apply List.ext_getElem?;intro j
 by_cases hj:j < l.length*sz
 ·rw [List.getElem?_take,if_pos hj]
  have hq:j / sz < l.length:=Nat.div_lt_of_lt_mul (by rw [Nat.mul_comm];exact hj);have hqx:xs[j / sz]?=some (xs[j / sz]'(by omega)):=List.getElem?_eq_getElem _;obtain ⟨g1,g2,_⟩:=hxs _ _ hqx _ (List.getElem?_eq_getElem hq);have hm:=Nat.mod_lt j aW;have e1:j / sz*sz+j % sz=j:=by rw [Nat.mul_comm];exact Nat.div_add_mod j sz
  have e2:=qhb sz xs bL (j / sz) (j % sz) _ hqx hm;rw [e1] at e2;rw [e2];have hv:(xs[j / sz]'(by omega))[j % sz]?=some ((xs[j / sz]'(by omega))[j % sz]'(by omega)):=List.getElem?_eq_getElem _;rw [hv];have g3:=g2 _ _ hv;rw [e1,cell_of_row w g j cur e (0,0) hb] at g3;rw [← g3];simp
 rw [List.getElem?_eq_none (by rw [List.length_take];omega),List.getElem?_eq_none (by omega)]
theorem Own.rowAt {base c n:Nat} {w:World} {g:Nat} {e:TypeId} {α:Type} {R:World→List Value→α→Prop} {sz:Nat} {l:List α} (h:Own R sz e w base (.slice (some ⟨g,0,none⟩) n c) l) :
  base≤g∧RowOwn w g e (c*sz)∧∀ q x,l[q]?=some x→At R sz w g q x:=by
 rcases h.at_ with ⟨hv,_⟩ | ⟨g',c',hv,hb,_,_,_,hat⟩
 ·cases hv
 injection hv with hA _ hc;injection hA with hA;injection hA with hA _;subst hA hc;refine ⟨hb,?_,fun q x hq=>hat q x hq⟩;obtain ⟨xs,_,_,ho⟩:=h;rcases ho.2 with ⟨hv,_⟩ | ⟨g',cap,cur,hv,_,hg,_,_,hs,_⟩
 ·cases hv
 injection hv with hA _ hc;injection hA with hA;injection hA with hA _;subst hA hc;exact ⟨cur,hg,hs⟩
def qo5 {α:Type} (p:α→Bool) (l:List α):Int:=match l.findIdx? p with | some k=>(k:Int) | none=>-1
section
variable {P:Program} {ops:Array Oper} {rest:List Oper} {o:Oper} {a:Act} {w:World} {Q:Exit→Act→World→Prop} {K:Act→World→Prop} {t:TypeId} {n:Nat}
theorem qaa (ri:qc0 P t n) (x:Operand) (ho:o.op=.load t x) (hg:o.guard=none) {b i:Nat} (hx:a.eval x=.pointer (some ⟨b,i,none⟩)) {cs:List Value} (hr:w.rangeAt b i cs) (hn:cs.length=n)
  (h:wpList P ops Q rest (a.put o.dst (.agg cs.toArray)) w):wpList P ops Q (o::rest) a w:=by
 obtain ⟨⟨d,hu,hd⟩,hi⟩:=ri;exact wpList_load_mid hg t x ho b i hx cs d hr hu hd (by rw [hi,hn]) h
theorem qho (ri:qc0 P t n) (x y:Operand) (ho:o.op=.store t x y) (hg:o.guard=none) {b i:Nat} (hx:a.eval x=.pointer (some ⟨b,i,none⟩)) {cs:List Value} (hy:a.eval y=.agg cs.toArray) (ht:w.there b i n) (hn:cs.length=n) (h1:∀ u∈cs,u.oneCell'=true)
  (h:wpList P ops Q rest (a.put o.dst undef) (w.setCells b i cs)):wpList P ops Q (o::rest) a w:=by
 obtain ⟨_,hi⟩:=ri;refine wpList_store_mid hg t x y ho b i cs.toArray hx hy (by simpa [hn] using ht) (by rw [hi];simp [hn]) (all_oneCell_toArray h1) ?_;simpa using h
theorem qri {z:Array Value} (h:z.all (·.oneCell')=true) (m:Nat):∀ u∈(Builtin.zeroCells z m).toList,u.oneCell'=true:=by
 intro u hu;unfold Builtin.zeroCells at hu;simp at hu;obtain ⟨j,hj,rfl⟩:=hu;have hz:0 < z.size:=by
  apply Nat.pos_of_ne_zero;intro h0;rw [h0] at hj;simp at hj
 have aD:j % z.size < z.size:=Nat.mod_lt _ hz;have:=Array.all_eq_true.1 h (j % z.size) aD;simpa [aD] using this
theorem qdk (z:Array Value) (m:Nat):(Builtin.zeroCells z m).toList.length=m*z.size:=by
 unfold Builtin.zeroCells;simp
theorem qgf {e:TypeId} {z:Array Value} (ht:P.underlying t=some (.slice e)) (zi:qcm P e z) (hz1:z.all (·.oneCell')=true) (x:Operand) (ho:o.op=.call { callee:=.builtin .clear,args:=#[x],argTypes:=#[t] }) (hg:o.guard=none)
  {b i m c:Nat} (hx:a.eval x=.slice (some ⟨b,i,none⟩) m c) (f9:w.there b i (m*z.size))
  (h:∀ zs:List Value,zs.length=m*z.size→wpList P ops Q rest (a.put o.dst (.tuple #[])) (w.setCells b i zs)):wpList P ops Q (o::rest) a w:=by
 refine wpList_plain hg fun K hK=>?_;have hr:∃ zs:List Value,zs.length=m*z.size∧(Builtin.clear_ #[t] o.type #[.slice (some ⟨b,i,none⟩) m c]).run P w=.ok (.tuple #[]) (w.setCells b i zs):=by
  refine ⟨(Builtin.zeroCells z m).toList,qdk z m,?_⟩
  cases m with
  | zero=>
   have hn:(Builtin.zeroCells z 0).toList=[]:=List.eq_nil_of_length_eq_zero (by rw [qdk];simp);rw [hn];simp [Builtin.clear_,run_underlying ht,World.setCells]
  | succ m=>
   have hs:=run_storeCells_cells (P:=P) b i (Builtin.zeroCells z (m+1)).toList 0 w (fun j hj=>by rw [qdk] at hj;exact (f9 j hj).1) (fun j hj=>by rw [qdk] at hj;exact (f9 j hj).2) (qri hz1 _);rw [Nat.add_zero] at hs;simp [Builtin.clear_,run_underlying ht,zi w,Value.cells,hs]
 obtain ⟨zs,hl,hr⟩:=hr;unfold Oper.wp execOp;simp only [ho,resolve,invoke,builtin,Sem.run_bind,Sem.run_pure,Result.andThen_ok,List.map_toArray,List.map_cons,List.map_nil,hx,hr];exact hK _ _ (h zs hl)
end
theorem qda {α:Type} (p:α→Bool) (l:List α) (k:Nat) (hk:k < l.length):(l.take (k+1)).filter p=(l.take k).filter p++(if p l[k] then [l[k]] else []):=by
 rw [List.take_succ_eq_append_getElem hk,List.filter_append];congr 1
 by_cases h:p l[k]=true <;> simp [h]
theorem qpn {α:Type} (p:α→Bool) (l:List α) (k:Nat):((l.take k).filter p).length≤k:=by
 have h1:=List.length_filter_le p (l.take k);have h2:(l.take k).length≤k:=by rw [List.length_take];omega
 omega
theorem qm4 {α:Type} {p:α→Bool} {l:List α} {k:Nat} (h:∀ q x,q < k→l[q]?=some x→p x=false):(l.take k).filter (fun x=>!p x)=l.take k:=by
 rw [List.filter_eq_self];intro x hx;obtain ⟨q,hq⟩:=List.mem_iff_getElem?.1 hx;rw [List.getElem?_take] at hq;split at hq
 ·rename_i hqk
  rw [h q x hqk hq];rfl
 cases hq
theorem qvr {α:Type} {p:α→Bool} {l:List α} (h:∀ x∈l,p x=false):qo5 p l=-1:=by
 unfold qo5;rw [List.findIdx?_eq_none_iff.2 (fun x hx=>by rw [h x hx])]
theorem qvs {α:Type} {p:α→Bool} {l:List α} {k:Nat} (hk:k < l.length) (h:p l[k]=true) (hn:∀ q x,q < k→l[q]?=some x→p x=false):qo5 p l=(k:Int):=by
 unfold qo5;have:l.findIdx? p=some k:=by
  rw [List.findIdx?_eq_some_iff_getElem];exact ⟨hk,h,fun j hj=>by rw [hn j _ hj (List.getElem?_eq_getElem _)];simp⟩
 rw [this]
theorem qzk {α:Type} {p:α→Bool} {l:List α}:decide (0≤qo5 p l)=l.any p:=by
 unfold qo5
 cases h:l.findIdx? p with
 | none=>
  rw [List.findIdx?_eq_none_iff] at h;have:l.any p=false:=by rw [List.any_eq_false];intro x hx;rw [h x hx];simp
  rw [this];rfl
 | some k=>
  obtain ⟨hk,h1,_⟩:=List.findIdx?_eq_some_iff_getElem.1 h;rw [List.any_eq_true.2 ⟨_,List.getElem_mem hk,h1⟩];simp
theorem qs6 {α:Type} (p:α→Bool) (l:List α):(qo5 p l=-1∧∀ x∈l,p x=false)∨∃ k,∃ hk:k < l.length,qo5 p l=(k:Int)∧p l[k]=true∧∀ q x,q < k→l[q]?=some x→p x=false:=by
 unfold qo5
 cases h:l.findIdx? p with
 | none=>
  rw [List.findIdx?_eq_none_iff] at h;exact .inl ⟨rfl,h⟩
 | some k=>
  obtain ⟨hk,h1,h2⟩:=List.findIdx?_eq_some_iff_getElem.1 h;refine .inr ⟨k,hk,rfl,h1,fun q x hq hx=>?_⟩;obtain ⟨hq',rfl⟩:=List.getElem?_eq_some_iff.1 hx;simpa using h2 q hq
def RL {α:Type} (B:Nat) (e:TypeId) (R:World→List Value→α→Prop) (sz:Nat) (w:World) (cs:List Value) (l:List α):Prop:=∃ A c,cs=[.slice A l.length c]∧Sl B e R sz w A l
theorem RL.monoE {α:Type} {B:Nat} {e:TypeId} {R:World→List Value→α→Prop} {sz:Nat} (m:Mono B [] R):Mono B [] (RL B e R sz):=by
 rintro w w' cs l x ⟨A,c,rfl,h⟩;exact ⟨A,c,rfl,h.chg m (by simp) x⟩
theorem Sl.rl {α:Type} {B:Nat} {e t:TypeId} {R:World→List Value→α→Prop} {sz:Nat} {w:World} {A:Option Addr} {l:List (List α)} (h:Sl B t (RL B e R sz) 1 w A l) {i:Nat} (hi:i < l.length) :
  ∃ b off A' c,A=some ⟨b,off,none⟩∧b < w.heap.size∧w.cell? ⟨b,off+i,none⟩=some (.slice A' l[i].length c)∧Sl B e R sz w A' l[i]:=by
 obtain ⟨b,off,cs,hA,hb,_,hc,A',c,rfl,hs⟩:=h.at_ hi;have:=hc 0 _ rfl;simp only [Nat.mul_one,Nat.add_zero] at this;exact ⟨b,off,A',c,hA,hb,this,hs⟩
theorem qir {α:Type} (ls:List (List α)) (j:Nat) (hj:j < ls.length):(ls.take (j+1)).flatten=(ls.take j).flatten++ls[j]:=by
 rw [← List.take_append_getElem hj,List.flatten_append,List.flatten_cons,List.flatten_nil,List.append_nil]
theorem qtq {n:Nat} (h:n≤1000000):IntKind.i64.wrap (n:Int)=(n:Int):=by rw [IntKind.wrap_i64];omega
theorem qmo {α:Type} (ls:List (List α)) (j:Nat):(ls.take j).flatten.length≤ls.flatten.length:=by
 have h:ls.flatten=(ls.take j).flatten++(ls.drop j).flatten:=by rw [← List.flatten_append,List.take_append_drop]
 rw [h,List.length_append];omega
theorem Own.roomG {α:Type} {R:World→List Value→α→Prop} {sz:Nat} {e:TypeId} {w:World} {cs:Array Value} {base cap:Nat} (hb:base≤w.heap.size) (hm:cap≤maxLen) (hs:cs.size=cap*sz) :
  Own R sz e (w.alloc (.cells cs e)) base (.slice (some ⟨w.heap.size,0,none⟩) 0 cap) ([]:List α):=by
 refine ⟨[],rfl,by intro i cs x h;simp at h,by simp,.inr ⟨w.heap.size,cap,cs,rfl,hb,heap_alloc_new w _,Nat.zero_le _,hm,hs,by simp⟩⟩
theorem Sl.lit2 {α:Type} {R:World→List Value→α→Prop} {B:Nat} {e:TypeId} {o w:World} {u v:Value} {x y:α} (ho:o=w.alloc (.cells #[u,v] e)) (h1:R o [u] x) (h2:R o [v] y):Sl B e R 1 o (some ⟨w.heap.size,0,none⟩) [x,y]:=by
 have hb:=Blk.new w e #[u,v];rw [← ho] at hb;intro i z hz
 match i,hz with
 | 0,hz=>
  simp at hz;subst hz;exact ⟨w.heap.size,0,[u],rfl,hb.lt,.inr hb.ty,rfl,fun j c hj=>by
   match j,hj with
   | 0,hj=>simp at hj;subst hj;exact hb.cell rfl,h1⟩
 | 1,hz=>
  simp at hz;subst hz;exact ⟨w.heap.size,0,[v],rfl,hb.lt,.inr hb.ty,rfl,fun j c hj=>by
   match j,hj with
   | 0,hj=>simp at hj;subst hj;exact hb.cell rfl,h2⟩
section
variable {P:Program} {ops:Array Oper} {rest:List Oper} {o:Oper} {a:Act} {w:World} {Q:Exit→Act→World→Prop} {t e:TypeId}
theorem qqt (z:Value) (n:Nat):madeCells #[z] n=rowF n fun _=>z:=by
 apply Array.ext
 ·simp [madeCells,rowF]
 intro i h1 h2;have hm:i % 1=0:=Nat.mod_one i;simp only [madeCells,rowF,Array.getElem_map,Array.getElem_ofFn];simp [hm]
theorem qj8 {z:Value} {bytes:Nat} (ei:ElemInfo P t e 1 bytes) (hz0:(P.info? e).bind (·.zero)=some z) (hzc:z.cells=#[z]) (x y:Operand) (ho:o.op=.makeSlice t x y) (hg:o.guard=none) (n:Nat) (hx:a.eval x=.int .i64 (n:Int)) (hy:a.eval y=.int .i64 (n:Int)) (hn:n*bytes≤281474976710656) (cO:n≤maxLen)
  (h:∀ b w',w.heap.size=b→Ext w w'→Blk w' b e (rowF n fun _=>z)→w'.heap.size=b+1→wpList P ops Q rest (a.put o.dst (.slice (some ⟨b,0,none⟩) n n)) w'):wpList P ops Q (o::rest) a w:=by
 obtain ⟨i,z',ht,hi,hz,hs,hb,hzs,h0⟩:=ei;obtain rfl:z'=z:=by rw [hi] at hz0;simp [hz] at hz0;exact hz0
 refine wpList_plain hg fun K hK=>?_;have hr:=run_make (P:=P) w t e i z' ht hi hz .i64 .i64 n n (by omega) (by omega) (by rw [hb,Int.mul_comm];omega) (by unfold maxLen at cO;omega);rw [Int.toNat_natCast,hs,Nat.mul_one,hzc,qqt] at hr;unfold Oper.wp execOp;simp only [ho,hx,hy,Sem.run_bind,hr,Sem.run_pure,Result.andThen_ok];exact hK _ _ (h _ _ rfl ((Ext.refl w).alloc _) (Blk.new w e _) (by simp))
end
section
variable {α:Type} {P:Program} {R:World→List Value→α→Prop} {sz bytes:Nat} {t ty e:TypeId} {w:World} {B B':Nat} {ys:List α} {A A0:Option Addr} {c:Nat}
def OwnZ {α:Type} (R:World→List Value→α→Prop) (sz:Nat) (e:TypeId) (w:World) (base:Nat) (v:Value) (l:List α):Prop:=
 Own R sz e w base v l∨(l=[]∧∃ A,v=.slice A 0 0)
theorem OwnZ.isSl (B:Nat) {base:Nat} {v:Value} {l:List α} (h:OwnZ R sz e w base v l):IsSl B e R sz w v l:=by
 rcases h with h | ⟨rfl,A,rfl⟩
 ·exact h.isSl B
 exact ⟨A,0,rfl,Nat.le_refl _,Nat.zero_le _,Sl.nil⟩
theorem OwnZ.ext {base:Nat} {v:Value} {l:List α} {w':World} (m:Mono B [] R) (h:OwnZ R sz e w base v l) (x:Ext w w'):OwnZ R sz e w' base v l:=h.imp (fun h=>h.ext m x) id
end
section
variable {α:Type} {P:Program} {R:World→List Value→α→Prop} {sz bytes:Nat} {t e:TypeId} {w:World} {base B B':Nat} {v:Value} {l ys:List α} {A:Option Addr} {c:Nat}
theorem jdu {ops:Array Oper} {dst:Option Tmp} {ty:TypeId} {pos:String} {after:Array Edge} {s x:Operand} {a:Act} {K:Act→World→Prop} {Q:Exit→Act→World→Prop} {E:Prop} (ei:ElemInfo P t e sz bytes)
  (hs:a.eval s=v) (ay:Own R sz e w base v l) (hB:B≤base) (hb:base≤w.heap.size) {e':TypeId} (hx:a.eval x=.slice A ys.length c) (bW:Sl B' e' R sz w A ys) (h1:OneC R) (m:Mono B [e] R)
  (cO:l.length+ys.length≤maxLen) (cI:(l.length+ys.length)*bytes≤140737488355328)
  (h:∀ v' w',Own R sz e w' base v' (l++ys)→Chg B [e] w w'→Below base w w'→w.grownBy w' v.ownBlock→K (a.put dst v') w') :
  if Region.wanted (⟨dst,.call { callee:=.builtin .append,args:=#[s,x],argTypes:=#[t,t] },ty,pos,after,none⟩:Oper) (yielded ops a.tmps)=true then Oper.wp P ⟨dst,.call { callee:=.builtin .append,args:=#[s,x],argTypes:=#[t,t] },ty,pos,after,none⟩ a w K Q else E:=by
 have hw:Region.wanted (⟨dst,.call { callee:=.builtin .append,args:=#[s,x],argTypes:=#[t,t] },ty,pos,after,none⟩:Oper) (yielded ops a.tmps)=true:=by simp [Region.wanted]
 rw [if_pos hw];obtain ⟨v',w',hr,h2,h3,h4,h5⟩:=quy (P:=P) (t:=t) (ty:=ty) (c:=c) ei ay hB hb bW h1 m cO cI;unfold Oper.wp execOp;simp only [resolve,invoke,builtin,Sem.run_bind,Sem.run_pure,Result.andThen_ok,List.map_toArray,List.map_cons,List.map_nil,hs,hx,hr];exact h v' w' h2 h4 h5 h3
theorem jbh {ops:Array Oper} {dst:Option Tmp} {ty:TypeId} {pos:String} {after:Array Edge} {a:Act} {K:Act→World→Prop} {Q:Exit→Act→World→Prop} {E:Prop} {w:World} {f:FuncId} {xs:Array Operand} {ts:Array TypeId} {args:Array Value}
  (ax:∀ (av:Array Value) (w:World),(callFunc f av).run P w=.ok (.enter f av) w) (ha:(xs.toList.map a.eval).toArray=args)
  {S:Ending→World→Prop} (hc:Calls P f args w S) (h:∀ e w',S e w'→∃ v,e=.returned v∧K (a.put dst v) w') :
  if Region.wanted (⟨dst,.call { callee:=.value (.func f),args:=xs,argTypes:=ts },ty,pos,after,none⟩:Oper) (yielded ops a.tmps)=true then Oper.wp P ⟨dst,.call { callee:=.value (.func f),args:=xs,argTypes:=ts },ty,pos,after,none⟩ a w K Q else E:=by
 have hw:Region.wanted (⟨dst,.call { callee:=.value (.func f),args:=xs,argTypes:=ts },ty,pos,after,none⟩:Oper) (yielded ops a.tmps)=true:=by simp [Region.wanted]
 rw [if_pos hw];have hr:(execOp a.eval (⟨dst,.call { callee:=.value (.func f),args:=xs,argTypes:=ts },ty,pos,after,none⟩:Oper)).run P w=.ok (.enter f args) w:=by
  subst ha;unfold execOp;simp [resolve,invoke,Act.eval,ax,go_sem];rw [← Array.toList_map]
 unfold Oper.wp;rw [hr,Oper.upon_enter];refine hc.mono fun e w'' hh=>?_;obtain ⟨v,rfl,hk⟩:=h e w'' hh;exact hk
end
theorem qmb (m s:Nat) (f:Nat→Value) {i:Nat} (hi:i < m):(rowF (m*s) f).extract (i*s) (i*s+s)=rowF s (fun k=>f (i*s+k)):=by
 have cZ:i*s+s≤m*s:=by rw [← Nat.succ_mul];exact Nat.mul_le_mul_right s hi
 apply Array.ext
 ·simp [qii];omega
 intro j h1 h2;rw [qii] at h2;simp [rowF]
section
variable {P:Program} {t e:TypeId} {m s:Nat} {f g:Nat→Value} {q:Nat→Bool}
theorem qij (hag:∀ w,(isAgg e).run P w=.ok true w) (aW:∀ w,(sizeOf e).run P w=.ok s w) (d:Nat) (he:∀ i,i < m→∀ w,(Op.equalIn d e (.agg (rowF s fun k=>f (i*s+k))) (.agg (rowF s fun k=>g (i*s+k)))).run P w=.ok (q i) w) :
  ∀ (is:List Nat),(∀ i∈is,i < m)→∀ w,(Op.eqItems d e s (rowF (m*s) f) (rowF (m*s) g) is).run P w=.ok (is.all q) w
 | [],_,w=>by simp [Op.eqItems]
 | i::r,h,w=>by
  have hi:=h i (by simp);have p1:(part e (rowF (m*s) f) (i*s)).run P w=.ok (.agg (rowF s fun k=>f (i*s+k))) w:=by simp [part,hag,aW,qmb m s f hi]
  have p2:(part e (rowF (m*s) g) (i*s)).run P w=.ok (.agg (rowF s fun k=>g (i*s+k))) w:=by simp [part,hag,aW,qmb m s g hi]
  have ih:=qij hag aW d he r (fun j hj=>h j (by simp [hj])) w;simp only [Op.eqItems,Sem.run_bind,p1,p2,Result.andThen_ok,he i hi,List.all_cons]
  cases q i <;> simp [ih]
theorem qor (hu:P.underlying t=some (.array m e)) {i:TypeInfo} (hi:P.info? e=some i) (hc:P.cellsOf e=s) (hag:∀ w,(isAgg e).run P w=.ok true w) (aW:∀ w,(sizeOf e).run P w=.ok s w)
  (d:Nat) (he:∀ i,i < m→∀ w,(Op.equalIn d e (.agg (rowF s fun k=>f (i*s+k))) (.agg (rowF s fun k=>g (i*s+k)))).run P w=.ok (q i) w) (w:World) :
  (Op.equalIn (d+1) t (.agg (rowF (m*s) f)) (.agg (rowF (m*s) g))).run P w=.ok (qds q m) w:=by
 rw [run_equalIn_array w d _ _ hu hi,hc,qij hag aW d he _ (fun i hi=>List.mem_range.1 hi),qn9]
end
end Go.Proofs.YtngbfdogiciahaaGreat
