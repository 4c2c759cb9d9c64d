/- Texts joined. -/
import Derived.Test.YtngbfdogiciahaaGreatKnU
import Derived.Shelf.SlLaysF0
import Derived.Shelf.SlSortCmp.NoneTotal
set_option maxRecDepth 100000
set_option maxHeartbeats 40000000
namespace Go.Proofs.YtngbfdogiciahaaGreat
open Go Go.RowKit Go.ChangeShapes Go.WideShapes Go.Deep Go.Joins
def RPart (B:Nat) (w:World) (cs:List Value) (p:Part):Prop:=∃ f v m,cs=[f,v,m]∧qdo B w f p.filter∧qhu B w v p.know.vec∧IsDots B w m p.know.more
theorem RPart.mono {B:Nat} {ts:List TypeId} (h1:137∉ts) (h2:142∉ts) (h3:3∉ts) (h4:35∉ts):Mono B ts (RPart B):=by
 rintro w w' cs p x ⟨f,v,m,rfl,hf,hv,hm⟩;exact ⟨f,v,m,rfl,hf.chg (RBox.mono h1) h2 x,hv.chg RInt.mono h3 x,hm.chg RPair.mono h4 x⟩
theorem RPart.monoE {B:Nat}:Mono B [] (RPart B):=RPart.mono (by simp) (by simp) (by simp) (by simp)
theorem RPart.oneC {B:Nat}:OneC (RPart B):=by
 rintro w cs p ⟨f,v,m,rfl,⟨_,_,rfl,_⟩,⟨_,_,rfl,_⟩,⟨_,_,rfl,_⟩⟩ u hu;simp at hu;rcases hu with rfl | rfl | rfl <;> rfl
abbrev qcg (B:Nat):=Sl B 181 (RPart B) 3
abbrev qja (B:Nat):=IsSl B 181 (RPart B) 3
structure InP (B:Nat) (w:World) (Af:Option Addr) (cf:Nat) (Av:Option Addr) (cv:Nat) (Am:Option Addr) (cm:Nat) (p:Part):Prop where
 lf:p.filter.length≤maxLen
 lcf:p.filter.length≤cf∧cf≤maxLen
 sf:qaw B w Af p.filter
 lcv:p.know.vec.length≤cv∧cv≤maxLen
 lcm:p.know.more.length≤cm∧cm≤maxLen
 k:InK B w Av Am p.know
theorem InP.ext {B:Nat} {w w':World} {Af:Option Addr} {cf:Nat} {Av:Option Addr} {cv:Nat} {Am:Option Addr} {cm:Nat} {p:Part} (h:InP B w Af cf Av cv Am cm p) (x:Ext w w'):InP B w' Af cf Av cv Am cm p:=
 ⟨h.lf,h.lcf,h.sf.ext RBox.monoE x,h.lcv,h.lcm,h.k.ext x⟩
theorem InP.isK {B:Nat} {w:World} {Af:Option Addr} {cf:Nat} {Av:Option Addr} {cv:Nat} {Am:Option Addr} {cm:Nat} {p:Part} (h:InP B w Af cf Av cv Am cm p):IsK B w (.agg #[.slice Av p.know.vec.length cv,.slice Am p.know.more.length cm]) p.know:=
 ⟨Av,cv,Am,cm,rfl,h.lcv.1,h.lcv.2,h.lcm.1,h.lcm.2,h.k⟩
theorem InP.rpart {B:Nat} {w:World} {Af:Option Addr} {cf:Nat} {Av:Option Addr} {cv:Nat} {Am:Option Addr} {cm:Nat} {p:Part} (h:InP B w Af cf Av cv Am cm p):RPart B w [.slice Af p.filter.length cf,.slice Av p.know.vec.length cv,.slice Am p.know.more.length cm] p:=
 ⟨_,_,_,rfl,⟨Af,cf,rfl,h.lcf.1,h.lcf.2,h.sf⟩,⟨Av,cv,rfl,h.lcv.1,h.lcv.2,h.k.sv⟩,⟨Am,cm,rfl,h.lcm.1,h.lcm.2,h.k.sm⟩⟩
theorem RPart.inP {B:Nat} {w:World} {cs:List Value} {p:Part} (h:RPart B w cs p):∃ Af cf Av cv Am cm,cs=[.slice Af p.filter.length cf,.slice Av p.know.vec.length cv,.slice Am p.know.more.length cm]∧InP B w Af cf Av cv Am cm p:=by
 obtain ⟨f,v,m,rfl,⟨Af,cf,rfl,f1,f2,f3⟩,⟨Av,cv,rfl,v1,v2,v3⟩,⟨Am,cm,rfl,m1,m2,m3⟩⟩:=h;exact ⟨Af,cf,Av,cv,Am,cm,rfl,⟨by omega,⟨f1,f2⟩,f3,⟨v1,v2⟩,⟨m1,m2⟩,⟨by omega,by omega,v3,m3⟩⟩⟩
theorem Sl.part {B:Nat} {w:World} {A:Option Addr} {l:List Part} (h:qcg B w A l) {i:Nat} (hi:i < l.length) :
  ∃ b off Af cf Av cv Am cm,A=some ⟨b,off,none⟩∧b < w.heap.size∧w.cell? ⟨b,off+i*3,none⟩=some (.slice Af l[i].filter.length cf)∧w.cell? ⟨b,off+i*3+1,none⟩=some (.slice Av l[i].know.vec.length cv)∧
   w.cell? ⟨b,off+i*3+2,none⟩=some (.slice Am l[i].know.more.length cm)∧InP B w Af cf Av cv Am cm l[i]:=by
 obtain ⟨b,off,cs,hA,hb,_,hc,hR⟩:=h.at_ hi;obtain ⟨Af,cf,Av,cv,Am,cm,rfl,hP⟩:=hR.inP;have g0:=hc 0 _ rfl;have g1:=hc 1 _ rfl;have g2:=hc 2 _ rfl;simp only [Nat.add_zero] at g0;exact ⟨b,off,Af,cf,Av,cv,Am,cm,hA,hb,g0,g1,g2,hP⟩
section
variable {H:Type} {enc:TypeId×Value→H} {w:World} {spare:Nat→Bool} {held:Bool}
theorem qwy:Tryz.prog.cellsOf 181=3:=by kernel_rfl
theorem qwx:Tryz.prog.cellsOf 32=1:=by kernel_rfl
theorem qwv:Tryz.prog.cellsOf 99=1:=by kernel_rfl
theorem qtv:Tryz.prog.cellsOf 30=1:=by kernel_rfl
theorem jfo {P:Program} {t a b:TypeId} {f0 f1:Field} {R0 R1:Value→Prop} (ht:P.underlying t=some (.struct #[f0,f1])) (h0:f0.type=a∧f0.offset=0) (h1:f1.type=b∧f1.offset=1) (ha:P.cellsOf a=1) (hb:P.cellsOf b=1)
  (e0:∀ (n:Nat) (cs:List Value) (y:DataW H×List MemPlace),DataW.trod enc P w 0 spare held n a cs=some y→∃ v,cs=[v]∧R0 v)
  (e1:∀ (n:Nat) (cs:List Value) (y:DataW H×List MemPlace),DataW.trod enc P w 0 spare held n b cs=some y→∃ v,cs=[v]∧R1 v)
  (n:Nat) (cs:List Value) (y:DataW H×List MemPlace) (hl:cs.length=2) (h:DataW.trod enc P w 0 spare held n t cs=some y):∃ u v,cs=[u,v]∧R0 u∧R1 v:=by
 obtain ⟨xs,m,_,_,_,hx,hg⟩:=DataW.trod_struct ht h
 match cs,hl with
 | [c0,c1],_=>
  match xs,hx with
  | [y0,y1],_=>
   have g0:=hg 0 f0 rfl;have g1:=hg 1 f1 rfl;rw [h0.1,h0.2,ha] at g0;rw [h1.1,h1.2,hb] at g1;obtain ⟨u,q0,r0⟩:=e0 _ _ _ g0;obtain ⟨v,q1,r1⟩:=e1 _ _ _ g1;simp at q0 q1;subst q0 q1;exact ⟨_,_,rfl,r0,r1⟩
theorem qpv {P:Program} {t a b:TypeId} {f0 f1:Field} {R0:Value→Prop} {R1:Value→Value→Prop} (ht:P.underlying t=some (.struct #[f0,f1])) (h0:f0.type=a∧f0.offset=0) (h1:f1.type=b∧f1.offset=1) (ha:P.cellsOf a=1) (hb:P.cellsOf b=2)
  (e0:∀ (n:Nat) (cs:List Value) (y:DataW H×List MemPlace),DataW.trod enc P w 0 spare held n a cs=some y→∃ v,cs=[v]∧R0 v)
  (e1:∀ (n:Nat) (cs:List Value) (y:DataW H×List MemPlace),cs.length=2→DataW.trod enc P w 0 spare held n b cs=some y→∃ u v,cs=[u,v]∧R1 u v)
  (n:Nat) (cs:List Value) (y:DataW H×List MemPlace) (hl:cs.length=3) (h:DataW.trod enc P w 0 spare held n t cs=some y):∃ x u v,cs=[x,u,v]∧R0 x∧R1 u v:=by
 obtain ⟨xs,m,_,_,_,hx,hg⟩:=DataW.trod_struct ht h
 match cs,hl with
 | [c0,c1,c2],_=>
  match xs,hx with
  | [y0,y1],_=>
   have g0:=hg 0 f0 rfl;have g1:=hg 1 f1 rfl;rw [h0.1,h0.2,ha] at g0;rw [h1.1,h1.2,hb] at g1;obtain ⟨x,q0,r0⟩:=e0 _ _ _ g0;obtain ⟨u,v,q1,r1⟩:=e1 _ _ _ rfl g1;simp at q0 q1;obtain ⟨rfl,rfl⟩:=q1;subst q0;exact ⟨_,_,_,rfl,r0,r1⟩
theorem qzo (n:Nat) (cs:List Value) (y:DataW H×List MemPlace) (h:DataW.trod enc Tryz.prog w 0 spare held n 32 cs=some y):∃ v,cs=[v]∧∃ l,qhu w.heap.size w v l:=by
 obtain ⟨v,l,h1,h2,_⟩:=qc6 (P:=Tryz.prog) (R:=RInt) (Q:=fun _=>True) Tryz.underlying32 qd0 Nat.one_pos (fun _ _ _ _ h=>by obtain ⟨z,hz,_⟩:=qk8 Tryz.underlying3 h;exact ⟨z,hz,trivial⟩) h;exact ⟨v,h1,l,h2⟩
theorem qz1 (n:Nat) (cs:List Value) (y:DataW H×List MemPlace) (h:DataW.trod enc Tryz.prog w 0 spare held n 99 cs=some y):∃ v,cs=[v]∧∃ l,IsDots w.heap.size w v l:=by
 obtain ⟨v,l,h1,h2,_⟩:=qc6 (P:=Tryz.prog) (R:=RDot) (Q:=fun _=>True) Tryz.underlying99 qrp Nat.two_pos jch h;exact ⟨v,h1,l,h2⟩
theorem qwr (n:Nat) (cs:List Value) (y:DataW H×List MemPlace) (h:DataW.trod enc Tryz.prog w 0 spare held n 30 cs=some y):∃ v,cs=[v]∧∃ l,qdo w.heap.size w v l:=by
 obtain ⟨v,l,h1,h2,_⟩:=qc6 (P:=Tryz.prog) (R:=RBox w.heap.size) (Q:=fun _=>True) Tryz.underlying30 qjw (by omega) qmm h;exact ⟨v,h1,l,h2⟩
theorem ql8 (n:Nat) (cs:List Value) (y:DataW H×List MemPlace) (hl:cs.length=2) (h:DataW.trod enc Tryz.prog w 0 spare held n 101 cs=some y):∃ u v,cs=[u,v]∧∃ k:Know,qhu w.heap.size w u k.vec∧IsDots w.heap.size w v k.more:=by
 obtain ⟨u,v,h1,⟨l,h2⟩,⟨m,h3⟩⟩:=jfo (P:=Tryz.prog) (R0:=fun v=>∃ l,qhu w.heap.size w v l) (R1:=fun v=>∃ l,IsDots w.heap.size w v l) Tryz.underlying101 (And.intro rfl rfl) (And.intro rfl rfl) qwx qwv qzo qz1 n cs y hl h;exact ⟨u,v,h1,⟨l,m⟩,h2,h3⟩
theorem jak (n:Nat) (cs:List Value) (y:DataW H×List MemPlace) (hl:cs.length=3) (h:DataW.trod enc Tryz.prog w 0 spare held n 181 cs=some y):∃ z:Part,RPart w.heap.size w cs z∧True:=by
 obtain ⟨x,u,v,h1,⟨f,h2⟩,k,h3,h4⟩:=qpv (P:=Tryz.prog) (R0:=fun v=>∃ l,qdo w.heap.size w v l) (R1:=fun u v=>∃ k:Know,qhu w.heap.size w u k.vec∧IsDots w.heap.size w v k.more) Tryz.underlying181 (And.intro rfl rfl) (And.intro rfl rfl) qtv ql2 qwr ql8 n cs y hl h;exact ⟨⟨f,k⟩,⟨x,u,v,h1,h2,h3,h4⟩,trivial⟩
end
def RRef (_:World) (cs:List Value) (x:RP):Prop:=cs=(rowB 512 x.P++rowD x.K).toList
theorem RRef.mono {B:Nat} {ts:List TypeId}:Mono B ts RRef:=fun _ _ _ _ _ h=>h
theorem qa5 (x:RP):(rowB 512 x.P++rowD x.K).size=592:=by rw [Array.size_append,qa6,qad]
theorem qcq (x:RP):(rowB 512 x.P++rowD x.K).all (·.oneCell')=true:=by
 rw [Array.all_append,qfg,qgc];rfl
theorem RRef.oneC:OneC RRef:=by
 intro w cs x h u hu;unfold RRef at h;rw [h] at hu;exact Array.all_eq_true_iff_forall_mem.1 (qcq x) u (Array.mem_toList_iff.1 hu)
abbrev qe3 (B:Nat):=Sl B 186 RRef 592
theorem Sl.ref {B:Nat} {w:World} {A:Option Addr} {l:List RP} (h:qe3 B w A l) {i:Nat} (hi:i < l.length) :
  ∃ b off,A=some ⟨b,off,none⟩∧b < w.heap.size∧w.rangeAt b (off+i*592) (rowB 512 l[i].P++rowD l[i].K).toList:=by
 obtain ⟨b,off,cs,hA,hb,_,hc,hR⟩:=h.at_ hi;unfold RRef at hR;rw [hR] at hc;exact ⟨b,off,hA,hb,hc⟩
theorem qsw {w:World} {b:Nat} {e:TypeId} {x:RP} (h:Blk w b e (rowB 512 x.P++rowD x.K)):w.rangeAt b 0 (rowB 512 x.P).toList:=fun j v hv=>by
 rw [Nat.zero_add];refine h.cell ?_;have hj:j < 512:=by have:=(List.getElem?_eq_some_iff.1 hv).1;rwa [Array.length_toList,qa6] at this
 rw [Array.getElem?_append_left (by rw [qa6];exact hj)];rwa [Array.getElem?_toList] at hv
theorem qr4 {w:World} {b:Nat} {e:TypeId} {x:RP} (h:Blk w b e (rowB 512 x.P++rowD x.K)):w.rangeAt b 512 (rowD x.K).toList:=fun j v hv=>by
 refine h.cell ?_;rw [Array.getElem?_append_right (by rw [qa6];omega),qa6,show 512+j - 512=j by omega];rwa [Array.getElem?_toList] at hv
theorem qc7:qc0 Tryz.prog 186 592:=⟨⟨_,Tryz.underlying186,rfl⟩,by kernel_rfl⟩
theorem qbb:qc0 Tryz.prog 73 512:=⟨⟨_,Tryz.underlying73,rfl⟩,by kernel_rfl⟩
theorem qe9:qc0 Tryz.prog 184 80:=⟨⟨_,Tryz.underlying184,rfl⟩,by kernel_rfl⟩
theorem qj9:qcm Tryz.prog 186 (rowB 512 (fun _=>false)++rowD fun _ _=>false):=fun w=>by kernel_rfl
theorem qi5:∃ i z,Tryz.prog.info? 186=some i∧i.zero=some z∧z.cells.size=592∧i.size=592:=by
 have h:((Tryz.prog.info? 186).bind fun i=>i.zero.map fun z=>(z.cells.size,i.size))=some (592,592):=by kernel_rfl
 cases hi:Tryz.prog.info? 186 with
 | none=>rw [hi] at h;cases h
 | some i=>
  rw [hi] at h
  cases hz:i.zero with
  | none=>simp [hz] at h
  | some z=>
   simp [hz] at h;exact ⟨i,z,rfl,hz,h.1,h.2⟩
theorem qz4:ElemInfo Tryz.prog 75 186 592 1152:=ElemInfo.mk_ (z:=.agg (rowB 512 (fun _=>false)++rowD fun _ _=>false)) Tryz.underlying75 (by kernel_rfl) (by kernel_rfl) (by omega)
theorem jai:Pair2 Tryz.prog 186 73 184 512 80:=⟨⟨_,_,Tryz.underlying186,rfl,rfl,rfl,rfl⟩,by kernel_rfl,by kernel_rfl,qi5⟩
end Go.Proofs.YtngbfdogiciahaaGreat
namespace Go.Proofs.YtngbfdogiciahaaGreat
open Go Go.Shelf
def jba:Go.Shelf.Ren:=⟨fun | 6=>191 | 15=>210 | 14=>209 | 28=>235 | 29=>236 | 20=>227 | 21=>228 | 22=>229 | 23=>230 | 24=>231 | 25=>232 | 26=>233 | 27=>234 | 46=>243 | 47=>244 | 48=>245 | 49=>246 | 50=>247 | 57=>250 | n=>n,fun | 22=>99 | 24=>35 | 25=>268 | 3=>3 | 39=>172 | 0=>0 | 53=>206 | 55=>143 | 4=>4 | 46=>301 | 45=>300 | 50=>237 | 5=>5 | 9=>9 | 66=>311 | 70=>315 | 76=>319 | 77=>111 | n=>n,fun | n=>n⟩
theorem jgf:SlLaysF0.n6 Tryz.prog jba where
 mixed:=by kernel_rfl
 f6 := ⟨ "slices.SortFunc[[]reedmace/api.Dot,reedmace/api.Dot]", by decide, Tryz.func191.trans (congrArg some (by kernel_rfl))⟩
 f14 := ⟨ "slices.pdqsortCmpFunc[reedmace/api.Dot]", by decide, Tryz.func209.trans (congrArg some (by kernel_rfl))⟩
 f15:=Tryz.func210.trans (congrArg some (by kernel_rfl))
 f20 := ⟨ "slices.insertionSortCmpFunc[reedmace/api.Dot]", by decide, Tryz.func227.trans (congrArg some (by kernel_rfl))⟩
 f21 := ⟨ "slices.heapSortCmpFunc[reedmace/api.Dot]", by decide, Tryz.func228.trans (congrArg some (by kernel_rfl))⟩
 f22 := ⟨ "slices.breakPatternsCmpFunc[reedmace/api.Dot]", by decide, Tryz.func229.trans (congrArg some (by kernel_rfl))⟩
 f23 := ⟨ "slices.choosePivotCmpFunc[reedmace/api.Dot]", by decide, Tryz.func230.trans (congrArg some (by kernel_rfl))⟩
 f24 := ⟨ "slices.reverseRangeCmpFunc[reedmace/api.Dot]", by decide, Tryz.func231.trans (congrArg some (by kernel_rfl))⟩
 f25 := ⟨ "slices.partialInsertionSortCmpFunc[reedmace/api.Dot]", by decide, Tryz.func232.trans (congrArg some (by kernel_rfl))⟩
 f26 := ⟨ "slices.partitionEqualCmpFunc[reedmace/api.Dot]", by decide, Tryz.func233.trans (congrArg some (by kernel_rfl))⟩
 f27 := ⟨ "slices.partitionCmpFunc[reedmace/api.Dot]", by decide, Tryz.func234.trans (congrArg some (by kernel_rfl))⟩
 f28:=Tryz.func235.trans (congrArg some (by kernel_rfl))
 f29:=Tryz.func236.trans (congrArg some (by kernel_rfl))
 f46 := ⟨ "slices.siftDownCmpFunc[reedmace/api.Dot]", by decide, Tryz.func243.trans (congrArg some (by kernel_rfl))⟩
 f47:=Tryz.func244.trans (congrArg some (by kernel_rfl))
 f48:=Tryz.func245.trans (congrArg some (by kernel_rfl))
 f49 := ⟨ "slices.medianAdjacentCmpFunc[reedmace/api.Dot]", by decide, Tryz.func246.trans (congrArg some (by kernel_rfl))⟩
 f50 := ⟨ "slices.medianCmpFunc[reedmace/api.Dot]", by decide, Tryz.func247.trans (congrArg some (by kernel_rfl))⟩
 f57 := ⟨ "slices.order2CmpFunc[reedmace/api.Dot]", by decide, Tryz.func250.trans (congrArg some (by kernel_rfl))⟩
 t0:=Tryz.underlying0
 a0:=Tryz.isAgg0
 z0:=Tryz.sizeOf0
 v0:=Tryz.zeroValue0
 t3:=Tryz.underlying3
 a3:=Tryz.isAgg3
 z3:=Tryz.sizeOf3
 v3:=Tryz.zeroValue3
 t4:=Tryz.underlying4
 a4:=Tryz.isAgg4
 z4:=Tryz.sizeOf4
 v4:=Tryz.zeroValue4
 t5:=Tryz.underlying5
 a5:=Tryz.isAgg5
 z5:=Tryz.sizeOf5
 v5:=Tryz.zeroValue5
 t9:=Tryz.underlying9
 a9:=Tryz.isAgg9
 z9:=Tryz.sizeOf9
 v9:=Tryz.zeroValue9
 t22:=Tryz.underlying99
 a22:=Tryz.isAgg99
 z22:=Tryz.sizeOf99
 v22:=Tryz.zeroValue99
 t25:=Tryz.underlying268
 a25:=Tryz.isAgg268
 z25:=Tryz.sizeOf268
 v25:=Tryz.zeroValue268
 t39:=Tryz.underlying172
 a39:=Tryz.isAgg172
 z39:=Tryz.sizeOf172
 v39:=Tryz.zeroValue172
 t45:=Tryz.underlying300
 a45:=Tryz.isAgg300
 z45:=Tryz.sizeOf300
 v45:=Tryz.zeroValue300
 t46:=Tryz.underlying301
 a46:=Tryz.isAgg301
 z46:=Tryz.sizeOf301
 v46:=Tryz.zeroValue301
 t50:=Tryz.underlying237
 a50:=Tryz.isAgg237
 z50:=Tryz.sizeOf237
 v50:=Tryz.zeroValue237
 t53:=Tryz.underlying206
 a53:=Tryz.isAgg206
 z53:=Tryz.sizeOf206
 v53:=Tryz.zeroValue206
 t55:=Tryz.underlying143
 a55:=Tryz.isAgg143
 z55:=Tryz.sizeOf143
 v55:=Tryz.zeroValue143
 t66:=Tryz.underlying311
 a66:=Tryz.isAgg311
 z66:=Tryz.sizeOf311
 v66:=Tryz.zeroValue311
 t70:=Tryz.underlying315
 a70:=Tryz.isAgg315
 z70:=Tryz.sizeOf315
 v70:=Tryz.zeroValue315
 t76:=Tryz.underlying319
 a76:=Tryz.isAgg319
 z76:=Tryz.sizeOf319
 v76:=Tryz.zeroValue319
 t77:=Tryz.underlying111
 a77:=Tryz.isAgg111
 z77:=Tryz.sizeOf111
 v77:=Tryz.zeroValue111
end Go.Proofs.YtngbfdogiciahaaGreat
namespace Go.Proofs.YtngbfdogiciahaaGreat
open Go Go.RowKit Go.Sort Go.Lib
theorem qzu (a b:Dot) (w:World) (ha:qb8 a=true) (hb:qb8 b=true) :
  Calls Tryz.prog 192 #[.agg #[.int .i64 a.site,.int .i64 a.count],.agg #[.int .i64 b.site,.int .i64 b.count]] w fun e w'=>e=.returned (.int .i64 (cmpD a b))∧∃ q os,w'=grow (w.drewN q) os:=by
 have ha':=qar.1 ha;have hb':=qar.1 hb
 by_cases hs:a.site=b.site
 ·have HV:=hid (show cmpD a b=a.count - b.count by rw [cmpD,if_pos hs])
  have e1:wrap64 (a.count - b.count)=a.count - b.count:=by unfold wrap64;omega
  have e2:(a.site !=b.site)=false:=by simp [hs]
  clear hs ha hb ha' hb';go_enter Tryz.func192, Tryz.ntmps192;go_wp2_with fail;go_ret;exact ⟨qa8 (e1.trans HV.out.symm),0,_,by rw [alloc_eq_grow,alloc_eq_grow,grow_grow];rfl⟩
 have HV:=hid (show cmpD a b=a.site - b.site by rw [cmpD,if_neg hs]);have e1:wrap64 (a.site - b.site)=a.site - b.site:=by unfold wrap64;omega
 have e2:(a.site !=b.site)=true:=by simp [hs]
 clear hs ha hb ha' hb';go_enter Tryz.func192, Tryz.ntmps192;go_wp2_with fail;go_ret;exact ⟨qa8 (e1.trans HV.out.symm),0,_,by rw [alloc_eq_grow,alloc_eq_grow,grow_grow];rfl⟩
abbrev ODot:={d:Dot // qb8 d=true}
instance:Inhabited ODot:=⟨⟨⟨0,1⟩,rfl⟩⟩
def encD (x:ODot):List Value:=[.int .i64 x.1.site,.int .i64 x.1.count]
def cfD (x y:ODot):Int:=cmpD x.1 y.1
theorem ltD (x y:ODot):ltOf cfD x y=dlt x.1 y.1:=by
 unfold ltOf cfD;rw [Bool.eq_iff_iff,decide_eq_true_iff,qqg]
theorem swoD:SWO (ltOf cfD) where
 irrefl x:=by rw [ltD];exact qgo _
 trans x y z h1 h2:=by rw [ltD] at *;exact qhz h1 h2
 ntrans x y z h1 h2:=by rw [ltD] at *;simp [dlt] at *;omega
theorem jg2 {w:World} {g:Nat} (ds:List ODot) (az:∀ o,w.frozen? ⟨g,o,none⟩=false)
  (hc:∀ (i:Nat) (x:Dot),(ds.map (·.1))[i]?=some x→∃ cs,cs.length=2∧CellsAt w g (i*2) cs∧RDot w cs x):HoldsK encD 2 w g 0 ds.toArray:=by
 intro j hj;rw [size_flatK] at hj;have hj':j < ds.length*2:=by simpa using hj
 refine ⟨?_,az _⟩;rw [get_flatK _ _ _ _ hj];have hi:j / 2 < ds.length:=by omega
 obtain ⟨cs,_,h2,rfl⟩:=hc (j / 2) ds[j / 2].1 (by rw [List.getElem?_map,List.getElem?_eq_getElem hi];rfl);have hg:ds.toArray[j / 2]! = ds[j / 2]:=by simp [hi]
 have e:0+j=j / 2*2+j % 2:=by omega
 have hm:j % 2=0∨j % 2=1:=by omega
 rw [hg,e];rcases hm with hm | hm
 ·rw [hm];exact h2 0 _ rfl
 rw [hm];exact h2 1 _ rfl
theorem qoz {α:Type} [Inhabited α] (enc:α→List Value) (k:Nat) (w:World) (g n:Nat) (d:Array α) (os:Array Obj) {e:TypeId} (hg:g < w.heap.size) (ht:tyAt w g=some e):tyAt (sortWorldK enc k w g 0 n d os) g=some e:=by
 unfold tyAt at ht ⊢;have:(sortWorldK enc k w g 0 n d os).heap[g]?=(w.heap[g]?).map (onCells (putCells id 0 (flatK enc k d))):=by
  simp [sortWorldK,grow,putRowK,putRow,mapBlock,Sort.ahead,Array.getElem?_append,hg,Array.getElem_modify]
 rw [this]
 cases h:w.heap[g]? with
 | none=>rw [h] at ht;cases ht
 | some o=>
  rw [h] at ht
  cases o <;> first | exact ht | cases ht
theorem qp9 {α:Type} [Inhabited α] (enc:α→List Value) (k:Nat) (w:World) (g n B:Nat) (d:Array α) (os:Array Obj) {e:TypeId} (ht:tyAt w g=some e) (hB:B≤g):Chg B [e] w (sortWorldK enc k w g 0 n d os):=by
 refine ⟨rfl,rfl,rfl,size_sortWorldK_c enc k w g 0 n d os,fun i hi hc=>?_⟩;have aV:g≠i:=by
  rintro rfl;rcases hc with hc | hc
  ·omega
  exact hc e (by simp) ht
 simp [sortWorldK,grow,putRowK,putRow,mapBlock,Sort.ahead,Array.getElem?_append,hi,Array.getElem_modify,aV]
theorem jbb (B base:Nat) (w:World) (v:Value) (l:List Dot) (ay:Own RDot 2 35 w base v l) (hB:B≤base) (hd:∀ d∈l,qb8 d=true) (hl:l.length≤10000) :
  Calls Tryz.prog 191 #[v,.func (.func 192) #[] #[]] w fun e w'=>e=.returned (.tuple #[])∧∃ l':List Dot,l'.Perm l∧OrdD l'∧IsDots B w' v l'∧Chg B [35] w w':=by
 have ag:=ay.len;rcases ay.at_ with ⟨rfl,rfl⟩ | ⟨g,c,rfl,an,hgl,fa,az,hcells⟩
 ·have h:=AnyF.slices_SortFunc_none jgf none 0 (.func (.func 192) #[] #[]) w
  change Calls _ 191 _ _ _ at h;refine h.mono ?_;rintro e w' ⟨rfl,rfl⟩;exact ⟨rfl,[],List.Perm.refl _,List.Pairwise.nil,IsSl.nil,Chg.refl _⟩
 obtain ⟨ds,rfl⟩:∃ ds:List ODot,l=ds.map (·.1):=⟨l.attachWith _ hd,by simp⟩
 have hH:=jg2 ds az hcells;rw [List.length_map] at hl;have eg:∀ args w,(callFunc 192 args).run Tryz.prog w=.ok (.enter 192 args) w:=enters_of Tryz.func192 (by kernel_rfl) rfl;have hcon:=AnyQ.slices_SortFunc jgf 2 Tryz.isAgg35 Tryz.sizeOf35 encD (fun _=>rfl) (fun x v hv=>by simp [encD] at hv;rcases hv with rfl | rfl <;> rfl) cfD swoD 192 #[] g 0 c ds.toArray w eg (fun _ _ _ _ x y=>qzu x.1 y.1 _ x.2 y.2) hH hgl (by simp;omega);change Calls _ 191 _ _ _ at hcon;rw [List.size_toArray] at hcon;rw [List.length_map];refine hcon.mono ?_;rintro e w' ⟨rfl,d',n,os,hp,hs,rfl⟩;obtain ⟨p1,_,p3⟩:=hp;replace p1:d'.size=ds.length:=by simpa using p1
 have e1:d'.extract 0 ds.length=d':=by rw [← p1];simp
 have e2:ds.toArray.extract 0 ds.length=ds.toArray:=by simp
 rw [e1,e2] at p3;have hlen':(d'.toList.map (·.1)).length=ds.length:=by simp [p1]
 refine ⟨rfl,d'.toList.map (·.1),p3.map _,?_,?_,qp9 _ _ _ _ _ _ _ _ fa (by omega)⟩
 ·unfold OrdD
  rw [List.pairwise_map,List.pairwise_iff_getElem];intro i j hi hj de;have h:=hs i j (Nat.zero_le _) de (by simp at hj;omega);rw [ltD] at h;simp at hi hj;rw [getElem!_pos d' i hi,getElem!_pos d' j hj] at h;simp [dle,h]
 obtain ⟨A,c',hv,h1,h2⟩:=ag;injection hv with hA hn eW;subst eW;rw [List.length_map] at h1;refine ⟨some ⟨g,0,none⟩,c,by rw [hlen'],by rw [hlen'];exact h1,h2,?_⟩;intro i x hx;have hi:i < d'.size:=by
  have:=(List.getElem?_eq_some_iff.1 hx).1;simpa using this
 have hx':d'[i].1=x:=by
  rw [List.getElem?_map,List.getElem?_eq_getElem (by simpa using hi)] at hx;simpa using hx
 have hK:=holdsK_sortWorldK encD 2 w g 0 n ds.toArray d' os hgl hH (by simp [p1]);refine ⟨g,0,[.int .i64 x.site,.int .i64 x.count],rfl,Nat.lt_of_lt_of_le hgl (size_sortWorldK_c _ _ _ _ _ _ _ _),.inr (qoz _ _ _ _ _ _ _ hgl fa),rfl,?_,rfl⟩;intro j u hj;have hg:d'[i]! = d'[i]:=getElem!_pos d' i hi
 match j,hj with
 | 0,hj=>have:=(hK.cell hi (c:=0) (by omega)).1;rw [hg] at this;rw [this];simp at hj;rw [← hj,← hx'];rfl
 | 1,hj=>have:=(hK.cell hi (c:=1) (by omega)).1;rw [hg] at this;rw [this];simp at hj;rw [← hj,← hx'];rfl
end Go.Proofs.YtngbfdogiciahaaGreat
