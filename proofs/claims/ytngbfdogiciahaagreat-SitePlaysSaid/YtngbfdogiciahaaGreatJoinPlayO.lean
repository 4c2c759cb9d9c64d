/- Texts joined. -/
import Derived.Test.YtngbfdogiciahaaGreatJoinTopE
import Derived.Deep.CutBlock
import Derived.Deep.LoopGhost
set_option maxRecDepth 100000
set_option maxHeartbeats 40000000
namespace Go.Proofs.YtngbfdogiciahaaGreat
open Go Go.RowKit Go.ChangeShapes Go.WideShapes Go.Deep Go.Joins
section
variable {H:Type} {enc:TypeId×Value→H} {w:World} {spare:Nat→Bool} {held:Bool}
theorem jco {P:Program} {t a b c d:TypeId} {f0 f1 f2 f3:Field} {R0 R1 R2 R3:Value→Prop} (ht:P.underlying t=some (.struct #[f0,f1,f2,f3])) (h0:f0.type=a∧f0.offset=0) (h1:f1.type=b∧f1.offset=1) (h2:f2.type=c∧f2.offset=2) (h3:f3.type=d∧f3.offset=3)
  (ha:P.cellsOf a=1) (hb:P.cellsOf b=1) (hc:P.cellsOf c=1) (hd:P.cellsOf d=1)
  (e0:∀ (n:Nat) (cs:List Value) (y:DataW H×List MemPlace),DataW.trod enc P w 0 spare held n a cs=some y→∃ v,cs=[v]∧R0 v)
  (e1:∀ (n:Nat) (cs:List Value) (y:DataW H×List MemPlace),DataW.trod enc P w 0 spare held n b cs=some y→∃ v,cs=[v]∧R1 v)
  (e2:∀ (n:Nat) (cs:List Value) (y:DataW H×List MemPlace),DataW.trod enc P w 0 spare held n c cs=some y→∃ v,cs=[v]∧R2 v)
  (e3:∀ (n:Nat) (cs:List Value) (y:DataW H×List MemPlace),DataW.trod enc P w 0 spare held n d cs=some y→∃ v,cs=[v]∧R3 v)
  (n:Nat) (cs:List Value) (y:DataW H×List MemPlace) (hl:cs.length=4) (h:DataW.trod enc P w 0 spare held n t cs=some y):∃ x0 x1 x2 x3,cs=[x0,x1,x2,x3]∧R0 x0∧R1 x1∧R2 x2∧R3 x3:=by
 obtain ⟨xs,m,_,_,_,hx,hg⟩:=DataW.trod_struct ht h
 match cs,hl with
 | [c0,c1,c2,c3],_=>
  match xs,hx with
  | [y0,y1,y2,y3],_=>
   have g0:=hg 0 f0 rfl;have g1:=hg 1 f1 rfl;have g2:=hg 2 f2 rfl;have g3:=hg 3 f3 rfl;rw [h0.1,h0.2,ha] at g0;rw [h1.1,h1.2,hb] at g1;rw [h2.1,h2.2,hc] at g2;rw [h3.1,h3.2,hd] at g3;obtain ⟨x0,q0,r0⟩:=e0 _ _ _ g0;obtain ⟨x1,q1,r1⟩:=e1 _ _ _ g1;obtain ⟨x2,q2,r2⟩:=e2 _ _ _ g2;obtain ⟨x3,q3,r3⟩:=e3 _ _ _ g3;simp at q0 q1 q2 q3;subst q0 q1 q2 q3;exact ⟨_,_,_,_,rfl,r0,r1,r2,r3⟩
theorem qro:Tryz.prog.cellsOf 30=1:=by kernel_rfl
theorem qwt:Tryz.prog.cellsOf 68=4:=by kernel_rfl
theorem qx0:Tryz.prog.cellsOf 9=1:=by kernel_rfl
theorem qtt (n:Nat) (cs:List Value) (y:DataW H×List MemPlace) (h:DataW.trod enc Tryz.prog w 0 spare held n 30 cs=some y):∃ v,cs=[v]∧∃ l,qdo w.heap.size w v l:=by
 obtain ⟨v,l,h1,h2,_⟩:=qc6 (P:=Tryz.prog) (R:=RBox w.heap.size) (Q:=fun _=>True) Tryz.underlying30 qjw (by omega) qmm h;exact ⟨v,h1,l,h2⟩
theorem jc6 (n:Nat) (cs:List Value) (y:DataW H×List MemPlace) (hl:cs.length=4) (h:DataW.trod enc Tryz.prog w 0 spare held n 68 cs=some y):∃ z:AskS,RAsk w.heap.size w cs z∧True:=by
 obtain ⟨x0,x1,x2,x3,rfl,⟨s,rfl⟩,⟨t,rfl⟩,⟨lf,Af,cf,rfl,a1,a2,a3⟩,⟨lp,Ap,cp,rfl,b1,b2,b3⟩⟩:=jco (P:=Tryz.prog) (R0:=fun v=>∃ s:Int,v=.int .i64 s) (R1:=fun v=>∃ s:Int,v=.int .i64 s) (R2:=fun v=>∃ l,qdo w.heap.size w v l) (R3:=fun v=>∃ l,qja w.heap.size w v l)
  Tryz.underlying68 (And.intro rfl rfl) (And.intro rfl rfl) (And.intro rfl rfl) (And.intro rfl rfl) qd0 qd0 qro qlw qi6 qi6 qtt qpy n cs y hl h
 exact ⟨⟨s,t,lf,lp⟩,⟨Af,cf,Ap,cp,rfl,⟨Nat.le_trans a1 a2,Nat.le_trans b1 b2,a3,b3⟩⟩,trivial⟩
theorem jaa {A:Option Addr} {len cap:Nat} {d:DataW H} {p:List MemPlace} (h:DataW.Trod enc Tryz.prog w 0 spare held 62 (.slice A len cap) d p) :
  ∃ l:List AskS,l.length=len∧len≤maxLen∧qvc w.heap.size w A l∧∀ z∈l,True:=
 qko Tryz.underlying62 qwt (by omega) jc6 h
theorem jab {A:Option Addr} {len cap:Nat} {d:DataW H} {p:List MemPlace} (h:DataW.Trod enc Tryz.prog w 0 spare held 63 (.slice A len cap) d p) :
  ∃ l:List Batch,l.length=len∧len≤maxLen∧qvd w.heap.size w A l∧∀ z∈l,True:=
 qko Tryz.underlying63 qtu (by omega) qwq h
theorem jbi (n:Nat) (cs:List Value) (y:DataW H×List MemPlace) (_hl:cs.length=1) (h:DataW.trod enc Tryz.prog w 0 spare held n 9 cs=some y):∃ z:ByteArray,RStr w cs z∧z.size≤maxLen:=by
 obtain ⟨v,h1,s,rfl,hz⟩:=qrf n cs y h;exact ⟨s,h1,hz⟩
theorem jac {A:Option Addr} {len cap:Nat} {d:DataW H} {p:List MemPlace} (h:DataW.Trod enc Tryz.prog w 0 spare held 38 (.slice A len cap) d p) :
  ∃ l:List ByteArray,l.length=len∧len≤maxLen∧qrj w.heap.size w A l∧∀ z∈l,z.size≤maxLen:=
 qko Tryz.underlying38 qx0 (by omega) jbi h
end
end Go.Proofs.YtngbfdogiciahaaGreat
namespace Go.Proofs.YtngbfdogiciahaaGreat
open Go Go.RowKit
theorem jg4 (B1 B2:Nat) (v u:Gone) (Aa:Option Addr) (ca:Nat) (Ma:Option Addr) (da:Nat) (Ab:Option Addr) (cb:Nat) (Mb:Option Addr) (db:Nat) (w:World) (ha:InG B1 w Aa ca Ma da v) (hb:InG B2 w Ab cb Mb db u) :
  Calls Tryz.prog 48 #[.agg #[.string v.id, .slice Aa v.past.vec.length ca, .slice Ma v.past.more.length da],.agg #[.string u.id, .slice Ab u.past.vec.length cb, .slice Mb u.past.more.length db]] w fun e w'=>e=.returned (.bool (qc4 v u))∧Ext w w':=by
 have aY:=((Ext.refl w).alloc (.cells #[.string v.id, .slice Aa v.past.vec.length ca, .slice Ma v.past.more.length da] 103)).alloc (.cells #[.string u.id, .slice Ab u.past.vec.length cb, .slice Mb u.past.more.length db] 103);have HA:=hid ha;have HB:=hid hb;clear ha hb
 cases h1:sEq v.id u.id
 ·have h1':(v.id.toList==u.id.toList)=false:=h1
  have HF:=hid (show qc4 v u=false by rw [qc4,h1];rfl);clear h1;go_enter Tryz.func48, Tryz.ntmps48;go_wp2_with fail;go_ret;exact ⟨qa7 HF.out.symm,aY⟩
 have h1':(v.id.toList==u.id.toList)=true:=h1;have HF:=hid (show qc4 v u=decide (v.past=u.past) by rw [qc4,h1];rfl);clear h1;go_enter Tryz.func48, Tryz.ntmps48;go_wp2_with fail;refine (qid B1 B2 v.past u.past Aa ca Ma da Ab cb Mb db _ (HA.out.k.ext aY) (HB.out.k.ext aY)).mono ?_;rintro e w1 ⟨rfl,aE⟩;rw [← HF.out];go_wp2_with fail;go_ret;exact ⟨rfl,aY.trans aE⟩
theorem qry (B1 B2:Nat) (A1:Option Addr) (c1:Nat) (A2:Option Addr) (c2:Nat) (l m:List Gone) (w:World) (hl:l.length≤maxLen) (h:qh4 B1 w A1 l) (g:qh4 B2 w A2 m) :
  Calls Tryz.prog 47 #[.slice A1 l.length c1,.slice A2 m.length c2,.func (.func 48) #[] #[]] w fun e w'=>e=.returned (.bool (qgx qc4 l m))∧Ext w w':=by
 unfold maxLen at hl;have hll:(l.length:Int)≤9223372036854775807:=by omega
 by_cases hlm:l.length=m.length
 ·have HLM:=hid hlm
  rw [← hlm];clear hlm;go_enter Tryz.func47, Tryz.ntmps47;go_wp2_with fail;go_loopw [17] (fun i wr=>∃ k:Nat,k≤l.length∧i=.int .i64 k∧qgx qc4 (l.drop k) (m.drop k)=qgx qc4 l m∧Ext w wr) (fun i _=>l.length - (intOf i).toNat)
  case atStart=>exact ⟨0,Nat.zero_le _,rfl,rfl,Ext.refl _⟩
  obtain ⟨k,hk,rfl,hG,hx⟩:=hrel;have HG:=hid hG;clear hG
  by_cases aD:k < l.length
  ·have HLT:=hid (show k < m.length by rw [← HLM.out];exact aD)
   obtain ⟨b,off,Av,cv,Am,cm,rfl,hb,hr,hI⟩:=(h.ext RGone.monoE hx).gone aD;obtain ⟨b',off',Bv,dv,Bm,dm,rfl,hb',hr',hJ⟩:=(g.ext RGone.monoE hx).gone HLT.out;obtain ⟨u,hu⟩:=ex1 (m[k]'HLT.out);rw [← hu] at hr' hJ;have HU:=hid (show qgx qc4 l m=(qc4 l[k] u&&qgx qc4 (l.drop (k+1)) (m.drop (k+1))) by rw [← HG.out,qy2 _ _ _ _ aD HLT.out,hu]);have HI:=hid hI;have HJ:=hid hJ;have aK:=(Ext.refl wr).alloc (.cells #[.string l[k].id, .slice Av l[k].past.vec.length cv, .slice Am l[k].past.more.length cm] 103);have hr2:=qb9 aK hr';have hxm:=aK.alloc (.cells #[.string u.id, .slice Bv u.past.vec.length dv, .slice Bm u.past.more.length dm] 103);have aW:([.string l[k].id, .slice Av l[k].past.vec.length cv, .slice Am l[k].past.more.length cm]:List Value).length=3:=rfl;have hsz2:([.string u.id, .slice Bv u.past.vec.length dv, .slice Bm u.past.more.length dm]:List Value).length=3:=rfl;clear hI hJ hr' hu;go_wp2_with (first | (with_reducible refine qaa (o:=⟨some 21,_,_,_,_,_⟩) qih _ rfl rfl rfl hr aW ?_) | (with_reducible refine qaa (o:=⟨some 25,_,_,_,_,_⟩) qih _ rfl rfl rfl hr2 hsz2 ?_));clear hr hr2 aW hsz2;refine (jg4 B1 B2 l[k] u Av cv Am cm Bv dv Bm dm _ (HI.out.ext hxm) (HJ.out.ext hxm)).mono ?_
   rintro e w1 ⟨rfl,aE⟩;have eZ:=hx.trans (hxm.trans aE);clear hx hxm aK aE
   cases hs:qc4 l[k] u
   ·have HF:=hid (show qgx qc4 l m=false by rw [HU.out,hs];rfl)
    clear hs;go_wp2_with fail;go_ret;exact ⟨qa7 HF.out.symm,eZ⟩
   have HF:=hid (show qgx qc4 (l.drop (k+1)) (m.drop (k+1))=qgx qc4 l m by rw [HU.out,hs];rfl);clear hs;go_wp2_with fail;go_roundw
   case rel=>exact ⟨k+1,aD,by go_num,HF.out,eZ⟩
   case measure=>simp [intOf];omega
  obtain rfl:k=l.length:=by omega
  have HF:=hid (show qgx qc4 l m=true by rw [← HG.out];exact jb0 _ _ _ HLM.out);go_wp2_with fail;go_ret;exact ⟨qa7 HF.out.symm,hx⟩
 have aV:((l.length:Int) !=(m.length:Int))=true:=by simp;omega
 have HF:=hid (jdm qc4 l m hlm);clear hlm;go_enter Tryz.func47, Tryz.ntmps47;go_wp2_with fail;go_ret;exact ⟨qa7 HF.out.symm,Ext.refl _⟩
def zSite:Array Value:=#[.int .i64 0,.int .i64 0,.int .i64 0]++rowB 512 (fun _=>false)++#[.slice none 0 0,.slice none 0 0]
theorem qq9:zSite.size=517:=by unfold zSite;simp [qa6]
theorem jdn:StructInfo Tryz.prog 77 [(0,1),(1,1),(2,1),(3,512),(515,1),(516,1)] zSite:=StructInfo.mk_ Tryz.underlying77 (by kernel_rfl) (by kernel_rfl)
def qln:Nat→Nat | 0=>0 | _=>3
theorem qv2 (x:Int) (F:Nat→Bool):∀ p∈([(0,.int .i64 x),(3,.agg (rowB 512 F))]:List (Nat×Value)),([(0,1),(1,1),(2,1),(3,512),(515,1),(516,1)]:List (Nat×Nat)).toArray[p.1]?=some (qln p.1,p.2.cells.size)∧qln p.1+p.2.cells.size≤zSite.size:=by
 intro p hp;rw [qq9];simp only [List.mem_cons,List.not_mem_nil,or_false] at hp;rcases hp with rfl | rfl
 ·exact ⟨rfl,by simp [qln,Value.cells]⟩
 exact ⟨by simp [qln,Value.cells,qa6],by simp [qln,Value.cells,qa6]⟩
theorem qkz {i:Nat} (h:i < 3∨515≤i) (hi:i < 517):zSite[i]?=some (if i < 3 then .int .i64 0 else .slice none 0 0):=by
 unfold zSite;rcases h with h | h
 ·rw [Array.getElem?_append_left (by simp [qa6];omega),Array.getElem?_append_left (by simp;omega),if_pos h]
  obtain rfl | rfl | rfl:i=0∨i=1∨i=2:=by omega
  all_goals rfl
 rw [Array.getElem?_append_right (by simp [qa6];omega),if_neg (by omega)];obtain rfl | rfl:i=515∨i=516:=by omega
 ·simp [qa6]
 simp [qa6]
theorem jeq {B:Nat} {w:World} {r:Nat} {me:Int} {f:List Box} (hB:B≤r) (hb:Blk w r 77 (qde zSite [(0,.int .i64 me),(3,.agg (rowB 512 (pts f)))])):IsDoc B w r (qe0 me f) (pts f) []:=by
 have hl:(rowB 512 (pts f)).toList.length=512:=by rw [Array.length_toList,qa6]
 have hz:=qq9;have hg:∀ i,(qde zSite [(0,.int .i64 me),(3,.agg (rowB 512 (pts f)))])[i]?=if 3≤i∧i < 3+512∧i < 517 then (rowB 512 (pts f)).toList[i - 3]? else if 0≤i∧i < 0+1∧i < 517 then [Value.int .i64 me][i - 0]? else zSite[i]?:=by
  intro i;simp only [qde,qfk,qfj,qit,qfz,hz,hl,List.length_cons,List.length_nil]
 refine ⟨none,0,none,0,hB,⟨_,hb,by rw [qji];exact hz⟩,hb.cell ?_,hb.cell ?_,hb.cell ?_,fun j v hv=>hb.cell ?_,hb.cell ?_,hb.cell ?_,Sl.nil,Sl.nil⟩
 ·rw [hg,if_neg (by omega),if_pos (by omega)];rfl
 ·rw [hg,if_neg (by omega),if_neg (by omega),qkz (by omega) (by omega)];rfl
 ·rw [hg,if_neg (by omega),if_neg (by omega),qkz (by omega) (by omega)];rfl
 ·have hj:j < 512:=by have:=(List.getElem?_eq_some_iff.1 hv).1;rwa [hl] at this
  rw [hg,if_pos (by omega),show 3+j - 3=j by omega];exact hv
 ·rw [hg,if_neg (by omega),if_neg (by omega),qkz (by omega) (by omega)];rfl
 rw [hg,if_neg (by omega),if_neg (by omega),qkz (by omega) (by omega)];rfl
theorem qx5 {me:Int} {f:List Box} (hf:qa0 f=0):DocRel (qe0 me f) (pts f) []:=
 ⟨fun j hj=>(qcu hf).2.2 j hj,Rel.nil⟩
section
variable {s:SiteS} {F:Nat→Bool} {J:List RP}
theorem DocRel.make (h:DocRel s F J) (id:ByteArray) (p:Point) (body:Int):DocRel (qke s id p body) F J:=by
 unfold qke;split
 ·exact ⟨h.F,h.K⟩
 exact h
theorem DocRel.want (h:DocRel s F J) (aO:SiteOk s) (f:List Box):DocRel (qjo s f) (qnq f F) (qnr f J):=by
 unfold qjo qnq qnr
 by_cases hf:qa0 f=0
 ·rw [if_pos hf,if_pos hf,if_pos hf]
  refine ⟨(qcu hf).2.2,?_⟩;show Rel (qbg s.parts f) _;rw [(qis aO.parts (Nat.le_trans aO.lp (by decide)) hf).2.1];exact (h.K.narrow hf (fun _ _=>rfl)).few
 rw [if_neg hf,if_neg hf,if_neg hf];exact h
theorem DocRel.take (h:DocRel s F J) {b:Batch} {Q:List RP} (hq:Rel b.parts Q):DocRel (qg3 s b) F (qk1 s b J Q):=by
 unfold qg3 qk1
 by_cases he:qba s b=0
 ·rw [if_pos he,if_pos he]
  refine ⟨h.F,?_⟩;have hj:qdl s.parts b.parts=0:=by
   unfold qba at he
   by_cases h1:qan b=0
   ·rw [if_pos h1] at he
    by_cases h2:b.site=s.me
    ·rw [if_pos h2] at he
     by_cases h3:b.stamp=s.stamp
     ·rw [if_pos h3] at he
      exact (qoy he).2.2.1
     rw [if_neg h3] at he;cases he
    rw [if_neg h2] at he;cases he
   rw [if_neg h1] at he;exact absurd he h1
  show Rel (qfu s.parts b.parts) _;rw [(qvu hj).2.2.1];exact (h.K.app hq).few
 rw [if_neg he,if_neg he];exact h
theorem jcq (h:DocRel s F J) (aO:SiteOk s) {f:List Box} {F':Nat→Bool} (hf:qa0 f=0) (hF:∀ j,j < 512→pts f j=F' j):SayOk (qbg (qch s) f) (fewR ((qd5 s J).map (qck F'))):=by
 have hk:=qka aO;rw [(qis hk.2 hk.1 hf).2.1];exact ((h.known aO).2.narrow hf hF).say
end
section
open Go.ChangeShapes Go.WideShapes Go.Deep Go.Joins
variable {H:Type} {enc:TypeId×Value→H} {w:World} {spare:Nat→Bool} {held:Bool}
theorem qyo:Tryz.prog.cellsOf 30=1:=by kernel_rfl
theorem qyp:Tryz.prog.cellsOf 32=1:=by kernel_rfl
theorem jck (n:Nat) (cs:List Value) (y:DataW H×List MemPlace) (_hl:cs.length=1) (h:DataW.trod enc Tryz.prog w 0 spare held n 30 cs=some y):∃ z:List Box,RBoxes w.heap.size w cs z∧True:=by
 obtain ⟨v,l,h1,h2,_⟩:=qc6 (P:=Tryz.prog) (R:=RBox w.heap.size) (Q:=fun _=>True) Tryz.underlying30 qjw (by omega) qmm h;exact ⟨l,⟨v,h1,h2⟩,trivial⟩
theorem je0 (n:Nat) (cs:List Value) (y:DataW H×List MemPlace) (_hl:cs.length=1) (h:DataW.trod enc Tryz.prog w 0 spare held n 32 cs=some y):∃ z:List Int,RVec w.heap.size w cs z∧True:=by
 obtain ⟨v,l,h1,h2,_⟩:=qc6 (P:=Tryz.prog) (R:=RInt) (Q:=fun _=>True) Tryz.underlying32 qd0 Nat.one_pos (fun _ _ _ _ h=>by obtain ⟨z,hz,_⟩:=qk8 Tryz.underlying3 h;exact ⟨z,hz,trivial⟩) h;exact ⟨l,⟨v,h1,h2⟩,trivial⟩
end
section
variable {Fok:Nat→List Box→Prop} {b:Int} {M:Int→Int} {H:List Version} {L:List SiteS}
end
section
open Go.ChangeShapes Go.WideShapes Go.Deep Go.Joins
variable {H:Type} {enc:TypeId×Value→H} {w:World} {spare:Nat→Bool} {held:Bool}
theorem qxs {A:Option Addr} {len cap:Nat} {d:DataW H} {p:List MemPlace} (h:DataW.Trod enc Tryz.prog w 0 spare held 22 (.slice A len cap) d p) :
  ∃ l:List (List Box),l.length=len∧len≤maxLen∧qph w.heap.size w A l∧True:=by
 obtain ⟨fuel,hf⟩:=h;obtain ⟨l,hl,h1,h2,h3,_⟩:=qix (R:=RBoxes w.heap.size) (Q:=fun _=>True) Tryz.underlying22 qyo Nat.one_pos jck hf;exact ⟨l,hl,by omega,h3,trivial⟩
theorem qxt {A:Option Addr} {len cap:Nat} {d:DataW H} {p:List MemPlace} (h:DataW.Trod enc Tryz.prog w 0 spare held 23 (.slice A len cap) d p) :
  ∃ l:List (List Int),l.length=len∧len≤maxLen∧qjq w.heap.size w A l∧True:=by
 obtain ⟨fuel,hf⟩:=h;obtain ⟨l,hl,h1,h2,h3,_⟩:=qix (R:=RVec w.heap.size) (Q:=fun _=>True) Tryz.underlying23 qyp Nat.one_pos je0 hf;exact ⟨l,hl,by omega,h3,trivial⟩
end
theorem qqw:qdr 0 []=0:=by decide +kernel
theorem ja5:qch (qe0 0 [])=[]:=by
 have h:(qch (qe0 0 [])).length=0:=by decide +kernel
 exact List.eq_nil_of_length_eq_zero h
theorem qxm:qa0 []=0:=by decide +kernel
theorem Fr.extOf {r:Nat} {a b c:World} {t:TypeId} (h:Ext a b) (f:Fr r b c) (ht:tyAt b r=some t) (hB:a.heap.size≤r):Ext a c:=
 ((Chg.of_ext (B:=a.heap.size) (ts:=[t]) h).trans (f.chg ht hB)).ext (Nat.le_refl _)
theorem IsDoc.ty {B:Nat} {w:World} {r:Nat} {s:SiteS} {F:Nat→Bool} {K:List RP} (h:IsDoc B w r s F K):tyAt w r=some 77:=let ⟨_,_,_,_,h⟩:=h;h.ty
theorem IsDoc.lt {B:Nat} {w:World} {r:Nat} {s:SiteS} {F:Nat→Bool} {K:List RP} (h:IsDoc B w r s F K):r < w.heap.size:=let ⟨_,_,_,_,h⟩:=h;h.lt
theorem IsDoc.ge {B:Nat} {w:World} {r:Nat} {s:SiteS} {F:Nat→Bool} {K:List RP} (h:IsDoc B w r s F K):B≤r:=let ⟨_,_,_,_,h⟩:=h;h.hB
theorem IsSite.chgO {B:Nat} {w w':World} {r:Nat} {s:SiteS} {ts:List TypeId} (h:IsSite B w r s) (x:Chg B ts w w') (hn:∀ t∈[159,137,142,181,3,35,151],t∉ts):IsSite B w' r s:=by
 have n0:=hn 159 (by decide);have n1:=hn 137 (by decide);have n2:=hn 142 (by decide);have n3:=hn 181 (by decide);have n4:=hn 3 (by decide);have n5:=hn 35 (by decide);have n6:=hn 151 (by decide);obtain ⟨Af,cf,Ax,cx,Ap,cp,h⟩:=h;exact ⟨Af,cf,Ax,cx,Ap,cp,h.blk.chg x n0,h.sf.chg (RBox.mono n1) n2 x,h.sx.chg (RVer.mono (by assumption) (by assumption)) n6 x,h.sp.chg (RPart.mono (by assumption) (by assumption) (by assumption) (by assumption)) n3 x⟩
theorem IsDoc.chgO {B:Nat} {w w':World} {r:Nat} {s:SiteS} {F:Nat→Bool} {J:List RP} {ts:List TypeId} (h:IsDoc B w r s F J) (x:Chg B ts w w') (hn:∀ t∈[77,186,3,35,151],t∉ts):IsDoc B w' r s F J:=by
 have n0:=hn 77 (by decide);have n3:=hn 186 (by decide);have n4:=hn 3 (by decide);have n5:=hn 35 (by decide);have n6:=hn 151 (by decide);obtain ⟨AL,cL,AP,cP,h⟩:=h;obtain ⟨cs,hb,hz⟩:=h.blk;have hc:∀ (o:Nat) (u:Value),w.cell? ⟨r,o,none⟩=some u→w'.cell? ⟨r,o,none⟩=some u:=fun o u hu=>x.cell (.inr fun t ht h2=>by rw [hb.ty] at h2;injection h2 with h2;exact n0 (h2 ▸ ht)) hu;exact ⟨AL,cL,AP,cP,h.hB,⟨cs,hb.chg x n0,hz⟩,hc _ _ h.c0,hc _ _ h.c1,hc _ _ h.c2,fun j v hv=>hc _ _ (h.cF j v hv),hc _ _ h.cL,hc _ _ h.cP,h.sL.chg (RVer.mono (by assumption) (by assumption)) n6 x,h.sP.chg RRef.mono n3 x⟩
theorem IsDoc.z8 {B:Nat} {w w':World} {r b8:Nat} {s:SiteS} {F:Nat→Bool} {J:List RP} (h:IsDoc B w r s F J) (aO:SiteOk s) (z:Z8 B w w' b8) (aV:r≠b8):IsDoc B w' r s F J:=by
 obtain ⟨AL,cL,AP,cP,h⟩:=h;exact ⟨AL,cL,AP,cP,h.z8 aO z aV⟩
theorem jb6 {B:Nat} (r:Nat) (s:SiteS) (w:World) (h:IsSite B w r s) :
  Calls Tryz.prog 56 #[.pointer (some ⟨r,0,none⟩)] w fun e w'=>e=.returned (.tuple #[.int .i64 s.made,.int .i64 s.stamp])∧Ext w w':=by
 obtain ⟨Af,cf,Ax,cx,Ap,cp,h⟩:=h;have y1:=h.blk.ce 1 (.int .i64 s.made) rfl;have y2:=h.blk.ce 2 (.int .i64 s.stamp) rfl;have hl:=h.blk.lt;clear h;go_enter Tryz.func56, Tryz.ntmps56;go_wp2_with fail;go_region;go_wp2_with fail;go_ret2;exact ⟨rfl,(Ext.refl _).drew⟩
structure PlayI (k:Int) (s:SiteS) (F:Nat→Bool) (J:List RP):Prop where
 ok:SiteOk s
 rel:DocRel s F J
 st:s.stamp≤k
 pl:s.filter.length≤16
section
variable {k:Int} {s:SiteS} {F:Nat→Bool} {J:List RP}
theorem PlayI.new {me:Int} {f:List Box} (h:qdr me f=0) (hf:qa0 f=0):PlayI 0 (qe0 me f) (pts f) []:=
 ⟨qlm h,qx5 hf,Int.le_refl _,(qcu hf).1⟩
theorem PlayI.mono {k':Int} (h:PlayI k s F J) (hk:k≤k'):PlayI k' s F J:=⟨h.ok,h.rel,Int.le_trans h.st hk,h.pl⟩
theorem PlayI.make (h:PlayI k s F J) (id:ByteArray) (p:Point) (body:Int):PlayI k (qke s id p body) F J:=by
 refine ⟨qqu h.ok _ _ _,h.rel.make _ _ _,?_,?_⟩
 ·unfold qke
  split
  ·exact h.st
  exact h.st
 unfold qke;split
 ·exact h.pl
 exact h.pl
theorem PlayI.want (h:PlayI k s F J) (f:List Box):PlayI (k+1) (qjo s f) (qnq f F) (qnr f J):=by
 refine ⟨je2 h.ok _,h.rel.want h.ok _,?_,?_⟩
 ·have:=h.st
  unfold qjo;split
  ·show s.stamp+1≤k+1
   omega
  omega
 unfold qjo
 by_cases hf:qa0 f=0
 ·rw [if_pos hf];exact (qcu hf).1
 rw [if_neg hf];exact h.pl
theorem PlayI.take (h:PlayI k s F J) {b:Batch} {Q:List RP} (hq:Rel b.parts Q):PlayI k (qg3 s b) F (qk1 s b J Q):=by
 refine ⟨jdy h.ok _,h.rel.take hq,?_,?_⟩
 ·unfold qg3
  split
  ·exact h.st
  exact h.st
 unfold qg3;split
 ·exact h.pl
 exact h.pl
end
theorem qlu (B:Nat) (A:Option Addr) (c:Nat) (l:List Int) (i:Nat) (w:World) (h:qg4 B w A l) :
  Calls Tryz.prog 34 #[.slice A l.length c,.int .i64 (i:Int)] w fun e w'=>e=.returned (.int .i64 (atI l i))∧w=w':=
 (jeg B A c l i w h).mono fun _ _ ⟨a,b⟩=>⟨a,b.symm⟩
theorem jao (B:Nat) (A:Option Addr) (c:Nat) (l:List ByteArray) (i:Int) (w:World) (hl:l.length≤maxLen) (h:qrj B w A l) :
  Calls Tryz.prog 33 #[.slice A l.length c,.int .i64 i] w fun e w'=>e=.returned (.string (qso l i))∧w=w':=
 (jd9 B A c l i w hl h).mono fun _ _ ⟨a,b⟩=>⟨a,b.symm⟩
theorem qsp (B:Nat) (A:Option Addr) (c:Nat) (l:List (List Box)) (i:Int) (w:World) (hl:l.length≤maxLen) (h:qph B w A l) :
  Calls Tryz.prog 37 #[.slice A l.length c,.int .i64 i] w fun e w'=>(∃ Af cf,e=.returned (.slice Af (qpf l i).length cf)∧(qpf l i).length≤maxLen∧qaw B w Af (qpf l i))∧w=w':=
 (jd8 B A c l i w hl h).mono fun _ _ ⟨⟨Af,cf,a,b,c,d⟩,e⟩=>⟨⟨Af,cf,a,Nat.le_trans b c,d⟩,e.symm⟩
theorem qxy {l:List ByteArray} (h:∀ z∈l,z.size≤maxLen) (i:Int):(qso l i).size≤maxLen:=by
 unfold qso
 by_cases hi:qhs i l.length < l.length
 ·rw [List.getD_eq_getElem?_getD,List.getElem?_eq_getElem hi]
  exact h _ (List.getElem_mem hi)
 rw [List.getD_eq_getElem?_getD,List.getElem?_eq_none (by omega)];exact Nat.zero_le _
theorem jgr:qcm Tryz.prog 40 #[.int .i64 0,.int .i64 0]:=fun w=>by kernel_rfl
theorem jc0:qcm Tryz.prog 35 #[.int .i64 0,.int .i64 0]:=fun w=>by kernel_rfl
theorem jbx:qcm Tryz.prog 68 #[.int .i64 0,.int .i64 0,.slice none 0 0,.slice none 0 0]:=fun w=>by kernel_rfl
theorem jby:qcm Tryz.prog 90 #[.int .i64 0,.int .i64 0,.slice none 0 0,.slice none 0 0,.slice none 0 0]:=fun w=>by kernel_rfl
theorem qls:qcm Tryz.prog 95 #[.int .i64 0,.int .i64 0,.slice none 0 0,.slice none 0 0,.slice none 0 0]:=fun w=>by kernel_rfl
theorem jga:qc0 Tryz.prog 40 2:=⟨⟨_,Tryz.underlying40,rfl⟩,by kernel_rfl⟩
theorem Z8.blkO {B b b2:Nat} {w w':World} {e:TypeId} {cs:Array Value} (z:Z8 B w w' b) (h:Blk w b2 e cs) (aV:b2≠b):Blk w' b2 e cs:=(z.other b2 aV).trans h
theorem RAsk.monoE {B:Nat}:Mono B [] (RAsk B):=by
 rintro w w' cs a x ⟨Af,cf,Ap,cp,rfl,h⟩;exact ⟨Af,cf,Ap,cp,rfl,h.lf,h.lp,h.sf.chg (RBox.mono (by simp)) (by simp) x,h.sp.chg (RPart.mono (by simp) (by simp) (by simp) (by simp)) (by simp) x⟩
theorem InB.chgO {B:Nat} {w w':World} {Ax:Option Addr} {cx:Nat} {Ag:Option Addr} {cg:Nat} {Ap:Option Addr} {cp:Nat} {b:Batch} {ts:List TypeId} (h:InB B w Ax cx Ag cg Ap cp b) (x:Chg B ts w w') (hn:∀ t∈[137,142,181,3,35,151,103],t∉ts):InB B w' Ax cx Ag cg Ap cp b:=by
 have n1:=hn 137 (by decide);have n2:=hn 142 (by decide);have n3:=hn 181 (by decide);have n4:=hn 3 (by decide);have n5:=hn 35 (by decide);have n6:=hn 151 (by decide);have n7:=hn 103 (by decide);exact ⟨h.lx,h.lg,h.lp,h.sx.chg (RVer.mono (by assumption) (by assumption)) n6 x,h.sg.chg (RGone.mono (by assumption) (by assumption)) n7 x,h.sp.chg (RPart.mono (by assumption) (by assumption) (by assumption) (by assumption)) n3 x⟩
theorem RBat.monoE {B:Nat}:Mono B [] (RBat B):=by
 rintro w w' cs b x ⟨Ax,cx,Ag,cg,Ap,cp,rfl,h⟩;exact ⟨Ax,cx,Ag,cg,Ap,cp,rfl,h.chgO x (by simp)⟩
theorem InB.head {B:Nat} {w:World} {Ax:Option Addr} {cx:Nat} {Ag:Option Addr} {cg:Nat} {Ap:Option Addr} {cp:Nat} {b:Batch} (h:InB B w Ax cx Ag cg Ap cp b) (x y:Int):InB B w Ax cx Ag cg Ap cp { b with site:=x,stamp:=y }:=⟨h.lx,h.lg,h.lp,h.sx,h.sg,h.sp⟩
theorem qt1 (l:List Gone):qgx qc4 l l=true:=by
 induction l with
 | nil=>rfl
 | cons x r ih=>
  rw [qgx,ih,Bool.and_true,qc4];simp [sEq]
theorem qos:SayOk [] []:=Rel.nil.say
def qhw (n:Nat):Code→Option Code
 | .seq a b=>match qhw n a with
  | some x=>some x
  | none=>qhw n b
 | .block i c=>if i=n then some (.block i c) else qhw n c
 | .loop c=>qhw n c
 | .scope c=>qhw n c
 | .cond _ a b=>match qhw n a with
  | some x=>some x
  | none=>qhw n b
 | _=>none
def qzp (n:Nat):Code→Bool
 | .block i _=>i==n
 | .seq _ b=>qzp n b
 | _=>false
def qd8 (n:Nat):Code→Option Code
 | .seq a b=>if qzp n a then some b else match qd8 n a with
  | some x=>some x
  | none=>qd8 n b
 | .block _ c=>qd8 n c
 | .loop c=>qd8 n c
 | .scope c=>qd8 n c
 | .cond _ a b=>match qd8 n a with
  | some x=>some x
  | none=>qd8 n b
 | _=>none
def qga (n:Nat):Code→Option Code
 | .region i o d=>if i=n then some (.region i o d) else none
 | .seq a b=>match qga n a with
  | some x=>some x
  | none=>qga n b
 | .block _ c=>qga n c
 | .loop c=>qga n c
 | .scope c=>qga n c
 | .cond _ a b=>match qga n a with
  | some x=>some x
  | none=>qga n b
 | _=>none
noncomputable def spReg (n:Nat):Code:=(Tryz.f5.body.bind (qga n)).getD .skip
noncomputable def spBlock:Code:=(Tryz.f5.body.bind (qhw 2)).getD .skip
noncomputable def spTail:Code:=(Tryz.f5.body.bind (qd8 2)).getD .skip
def jgu (B rs rm:Nat) (k:Int) (w:World) (s24 s25:Value) (wx:World):Prop:=∃ (s:SiteS) (F:Nat→Bool) (J:List RP) (E:Int),s24=.int .i64 E∧s25=.int .i64 E∧IsSite B wx rs s∧IsDoc B wx rm s F J∧Hid (PlayI k s F J)∧Ext w wx
structure SpCtx (B:Nat) (w wr:World) (rs rm k:Nat) (s:SiteS) (F:Nat→Bool) (J:List RP) (cc:List Int) (Ac:Option Addr) (ccp:Nat) (id:ByteArray) (x1:Int) (Ai:Option Addr) (ci:Nat) (ids:List ByteArray) (As:Option Addr) (cs:Nat) (fs:List (List Box)) (Aa:Option Addr) (ca:Nat) (asks:List AskS) (Ab:Option Addr) (cb:Nat) (bats:List Batch):Prop where
 HB:Hid (B≤w.heap.size)
 eD:Hid (w.heap.size=B)
 cT:Hid (B≤rs)
 HFS:Hid (fs.length≤maxLen∧qph B w As fs)
 HAS:Hid (asks.length≤maxLen∧qvc B w Aa asks)
 eM:Hid (bats.length≤maxLen∧qvd B w Ab bats)
 HS:Hid (IsSite B wr rs s)
 HD:Hid (IsDoc B wr rm s F J)
 HI:Hid (PlayI (k:Int) s F J)
 HX:Hid (Ext w wr)
 e8:Hid (s.stamp < 9223372036854775807)
 HC:Hid (∀ w',Ext w w'→qg4 B w' Ac cc)
 bq:Hid (x1=atI cc 1)
 HZ:Hid (id.size≤maxLen)
section
variable (v0 v1 v2 v3 v4 v5 v6 v7 v8 v9 v10 v11 v12 v13 v14 v15 v16 v17 v18 v19 v20 v21 v22 v23 v24 v25 v26 v27 v28 v29 v30 v31 v32 v33 v34 v35 v36 v37 v38 v39 v40 v41 v42 v43 v44 v45 v46 v47 v48 v49 v50 v51 v52 v53 v54 v55 v56 v57 v58 v59 v60 v61 v62 v63 v64 v65 v66 v67 v68 v69 v70 v71 v72 v73 v74 v75 v76 v77 v78 v79 v80 v81 v82 v83 v84 v85 v86 v87 v88 v89 v90 v91 v92 v93 v94 v95 v96 v97 v98 v99 v100 v101 v102 v103 v104 v105 v106 v107 v108 v109 v110 v111 v112 v113 v114 v115 v116 v117 v118 v119 v120 v121 v122 v123 v124 v125 v126 v127 v128 v129 v130 v131 v132 v133 v134 v135 v136 v137 v138 v139 v140 v141 v142 v143 v144 v145 v146 v147 v148 v149 v150 v151 v152 v153 v154 v155 v156 v157 v158 v159 v160 v161 v162 v163 v164 v165 v166 v167 v168 v169 v170 v171 v172 v173 v174 v175 v176 v177 v178 v179 v180 v181 v182 v183 v184 v185 v186 v187 v188 v189 v190 v191 v192 v193 v194 v195 v196 v197 v198 v199 v200 v201 v202 v203 v204 v205 v206 v207 v208 v209 v210 v211 v212 v213 v214 v215 v216 v217 v218 v219 v220 v221 v222 v223 v224 v225 v226 v227 v228 v229 v230 v231 v232 v233 v234 v235 v236 v237 v238 v239 v240 v241 v242 v243 v244 v245 v246 v247 v248 v249 v250 v251 v252 v253 v254 v255 v256 v257 v258 v259 v260 v261 v262 v263 v264 v265 v266 v267 v268 v269 v270 v271 v272 v273 v274 v275 v276 v277 v278 v279 v280 v281 v282 v283 v284 v285 v286 v287 v288 v289 v290 v291 v292 v293 v294 v295 v296 v297 v298 v299 v300 v301 v302 v303 v304 v305 v306 v307 v308 v309 v310 v311 v312 v313 v314 v315 v316 v317 v318 v319 v320 v321 v322 v323 v324 v325 v326 v327 v328 v329 v330 v331 v332 v333 v334 v335 v336 v337 v338 v339 v340 v341 v342 v343 v344 v345 v346 v347 v348 v349 v350 v351 v352 v353 v354 v355 v356 v357 v358 v359 v360 v361 v362 v363 v364 v365 v366 v367 v368 v369 v370 v371 v372 v373 v374 v375 v376 v377 v378:Value)
def qh6 (B rs rm:Nat) (k:Int) (w:World) (cc:List Int) (Ac:Option Addr) (ccp:Nat) (id:ByteArray) (Ai:Option Addr) (ci:Nat) (ids:List ByteArray) (As:Option Addr) (cs:Nat) (fs:List (List Box)) (Aa:Option Addr) (ca:Nat) (asks:List AskS) (Ab:Option Addr) (cb:Nat) (bats:List Batch) (a':Act) (w':World):Prop:=
 ∃ (u14 u24 u25 u26 u27 u28 u29 u30 u31 u32 u33 u34 u35 u36:Value) (zs:List Value),a'=⟨List.toArray (v0::v1::v2::.slice Ai ids.length ci::.slice As fs.length cs::.slice Aa asks.length ca::.slice Ab bats.length cb::v7::v8::v9::v10::v11::v12::v13::u14::v15::v16::.pointer (some ⟨rs,0,none⟩)::v18::v19::.pointer (some ⟨rm,0,none⟩)::v21::.slice Ac cc.length ccp::.string id::u24::u25::u26::u27::u28::u29::u30::u31::u32::u33::u34::u35::u36::v37::v38::v39::v40::v41::v42::v43::v44::v45::v46::v47::v48::v49::v50::v51::v52::v53::v54::v55::v56::v57::v58::v59::v60::v61::v62::v63::v64::v65::v66::v67::v68::v69::v70::v71::v72::v73::v74::v75::v76::v77::v78::v79::v80::v81::v82::v83::v84::v85::v86::v87::v88::v89::v90::v91::v92::v93::v94::zs),[]⟩∧zs.length=284∧jgu B rs rm k w u24 u25 w'
end
theorem qzy {α:Type} (z:α) (l:List α) (n:Nat) (h:l.length=n):l=(List.range n).map fun i=>l.getD i z:=by
 subst h;apply List.ext_getElem
 ·simp
 intro i h1 h2;simp [List.getD,h1]
theorem qz9 (l:List Value) (h:l.length=284):∃ ρ:Nat→Value,l=ρ 0::ρ 1::ρ 2::ρ 3::ρ 4::ρ 5::ρ 6::ρ 7::ρ 8::ρ 9::ρ 10::ρ 11::ρ 12::ρ 13::ρ 14::ρ 15::ρ 16::ρ 17::ρ 18::ρ 19::ρ 20::ρ 21::ρ 22::ρ 23::ρ 24::ρ 25::ρ 26::ρ 27::ρ 28::ρ 29::ρ 30::ρ 31::ρ 32::ρ 33::ρ 34::ρ 35::ρ 36::ρ 37::ρ 38::ρ 39::ρ 40::ρ 41::ρ 42::ρ 43::ρ 44::ρ 45::ρ 46::ρ 47::ρ 48::ρ 49::ρ 50::ρ 51::ρ 52::ρ 53::ρ 54::ρ 55::ρ 56::ρ 57::ρ 58::ρ 59::ρ 60::ρ 61::ρ 62::ρ 63::ρ 64::ρ 65::ρ 66::ρ 67::ρ 68::ρ 69::ρ 70::ρ 71::ρ 72::ρ 73::ρ 74::ρ 75::ρ 76::ρ 77::ρ 78::ρ 79::ρ 80::ρ 81::ρ 82::ρ 83::ρ 84::ρ 85::ρ 86::ρ 87::ρ 88::ρ 89::ρ 90::ρ 91::ρ 92::ρ 93::ρ 94::ρ 95::ρ 96::ρ 97::ρ 98::ρ 99::ρ 100::ρ 101::ρ 102::ρ 103::ρ 104::ρ 105::ρ 106::ρ 107::ρ 108::ρ 109::ρ 110::ρ 111::ρ 112::ρ 113::ρ 114::ρ 115::ρ 116::ρ 117::ρ 118::ρ 119::ρ 120::ρ 121::ρ 122::ρ 123::ρ 124::ρ 125::ρ 126::ρ 127::ρ 128::ρ 129::ρ 130::ρ 131::ρ 132::ρ 133::ρ 134::ρ 135::ρ 136::ρ 137::ρ 138::ρ 139::ρ 140::ρ 141::ρ 142::ρ 143::ρ 144::ρ 145::ρ 146::ρ 147::ρ 148::ρ 149::ρ 150::ρ 151::ρ 152::ρ 153::ρ 154::ρ 155::ρ 156::ρ 157::ρ 158::ρ 159::ρ 160::ρ 161::ρ 162::ρ 163::ρ 164::ρ 165::ρ 166::ρ 167::ρ 168::ρ 169::ρ 170::ρ 171::ρ 172::ρ 173::ρ 174::ρ 175::ρ 176::ρ 177::ρ 178::ρ 179::ρ 180::ρ 181::ρ 182::ρ 183::ρ 184::ρ 185::ρ 186::ρ 187::ρ 188::ρ 189::ρ 190::ρ 191::ρ 192::ρ 193::ρ 194::ρ 195::ρ 196::ρ 197::ρ 198::ρ 199::ρ 200::ρ 201::ρ 202::ρ 203::ρ 204::ρ 205::ρ 206::ρ 207::ρ 208::ρ 209::ρ 210::ρ 211::ρ 212::ρ 213::ρ 214::ρ 215::ρ 216::ρ 217::ρ 218::ρ 219::ρ 220::ρ 221::ρ 222::ρ 223::ρ 224::ρ 225::ρ 226::ρ 227::ρ 228::ρ 229::ρ 230::ρ 231::ρ 232::ρ 233::ρ 234::ρ 235::ρ 236::ρ 237::ρ 238::ρ 239::ρ 240::ρ 241::ρ 242::ρ 243::ρ 244::ρ 245::ρ 246::ρ 247::ρ 248::ρ 249::ρ 250::ρ 251::ρ 252::ρ 253::ρ 254::ρ 255::ρ 256::ρ 257::ρ 258::ρ 259::ρ 260::ρ 261::ρ 262::ρ 263::ρ 264::ρ 265::ρ 266::ρ 267::ρ 268::ρ 269::ρ 270::ρ 271::ρ 272::ρ 273::ρ 274::ρ 275::ρ 276::ρ 277::ρ 278::ρ 279::ρ 280::ρ 281::ρ 282::ρ 283::List.nil:=⟨fun i=>l.getD i undef,(qzy undef l 284 h).trans rfl⟩
section
variable (v0 v1 v2 v3 v4 v5 v6 v7 v8 v9 v10 v11 v12 v13 v14 v15 v16 v17 v18 v19 v20 v21 v22 v23 v24 v25 v26 v27 v28 v29 v30 v31 v32 v33 v34 v35 v36 v37 v38 v39 v40 v41 v42 v43 v44 v45 v46 v47 v48 v49 v50 v51 v52 v53 v54 v55 v56 v57 v58 v59 v60 v61 v62 v63 v64 v65 v66 v67 v68 v69 v70 v71 v72 v73 v74 v75 v76 v77 v78 v79 v80 v81 v82 v83 v84 v85 v86 v87 v88 v89 v90 v91 v92 v93 v94 v95 v96 v97 v98 v99 v100 v101 v102 v103 v104 v105 v106 v107 v108 v109 v110 v111 v112 v113 v114 v115 v116 v117 v118 v119 v120 v121 v122 v123 v124 v125 v126 v127 v128 v129 v130 v131 v132 v133 v134 v135 v136 v137 v138 v139 v140 v141 v142 v143 v144 v145 v146 v147 v148 v149 v150 v151 v152 v153 v154 v155 v156 v157 v158 v159 v160 v161 v162 v163 v164 v165 v166 v167 v168 v169 v170 v171 v172 v173 v174 v175 v176 v177 v178 v179 v180 v181 v182 v183 v184 v185 v186 v187 v188 v189 v190 v191 v192 v193 v194 v195 v196 v197 v198 v199 v200 v201 v202 v203 v204 v205 v206 v207 v208 v209 v210 v211 v212 v213 v214 v215 v216 v217 v218 v219 v220 v221 v222 v223 v224 v225 v226 v227 v228 v229 v230 v231 v232 v233 v234 v235 v236 v237 v238 v239 v240 v241 v242 v243 v244 v245 v246 v247 v248 v249 v250 v251 v252 v253 v254 v255 v256 v257 v258 v259 v260 v261 v262 v263 v264 v265 v266 v267 v268 v269 v270 v271 v272 v273 v274 v275 v276 v277 v278 v279 v280 v281 v282 v283 v284 v285 v286 v287 v288 v289 v290 v291 v292 v293 v294 v295 v296 v297 v298 v299 v300 v301 v302 v303 v304 v305 v306 v307 v308 v309 v310 v311 v312 v313 v314 v315 v316 v317 v318 v319 v320 v321 v322 v323 v324 v325 v326 v327 v328 v329 v330 v331 v332 v333 v334 v335 v336 v337 v338 v339 v340 v341 v342 v343 v344 v345 v346 v347 v348 v349 v350 v351 v352 v353 v354 v355 v356 v357 v358 v359 v360 v361 v362 v363 v364 v365 v366 v367 v368 v369 v370 v371 v372 v373 v374 v375 v376 v377 v378:Value)
theorem jfe (B:Nat) (w wr:World) (rs rm k:Nat) (s:SiteS) (F:Nat→Bool) (J:List RP) (cc:List Int) (Ac:Option Addr) (ccp:Nat) (id:ByteArray) (x1:Int) (Ai:Option Addr) (ci:Nat) (ids:List ByteArray) (As:Option Addr) (cs:Nat) (fs:List (List Box)) (Aa:Option Addr) (ca:Nat) (asks:List AskS) (Ab:Option Addr) (cb:Nat) (bats:List Batch) (Q:Exit→Act→World→Prop) (hQ:∀ a' w',qh6 v0 v1 v2 v7 v8 v9 v10 v11 v12 v13 v15 v16 v18 v19 v21 v37 v38 v39 v40 v41 v42 v43 v44 v45 v46 v47 v48 v49 v50 v51 v52 v53 v54 v55 v56 v57 v58 v59 v60 v61 v62 v63 v64 v65 v66 v67 v68 v69 v70 v71 v72 v73 v74 v75 v76 v77 v78 v79 v80 v81 v82 v83 v84 v85 v86 v87 v88 v89 v90 v91 v92 v93 v94 B rs rm ((k:Int)+1) w cc Ac ccp id Ai ci ids As cs fs Aa ca asks Ab cb bats a' w'→Q .normal a' w') (HP:Hid (∀ c a d v w,Q (.panic c) (Act.put a (some d) v) w→Q (.panic c) a w))
  (H:SpCtx B w wr rs rm k s F J cc Ac ccp id x1 Ai ci ids As cs fs Aa ca asks Ab cb bats) :
  spBlock.wp Tryz.prog Q ⟨List.toArray (v0::v1::v2::.slice Ai ids.length ci::.slice As fs.length cs::.slice Aa asks.length ca::.slice Ab bats.length cb::v7::v8::v9::v10::v11::v12::v13::v14::v15::v16::.pointer (some ⟨rs,0,none⟩)::v18::v19::.pointer (some ⟨rm,0,none⟩)::v21::.slice Ac cc.length ccp::.string id::.int .i64 0::.int .i64 0::v26::v27::v28::v29::v30::v31::v32::v33::v34::v35::v36::v37::v38::v39::v40::v41::v42::v43::v44::v45::v46::v47::v48::v49::v50::v51::v52::v53::v54::v55::v56::v57::v58::v59::v60::v61::v62::v63::v64::v65::v66::v67::v68::v69::v70::v71::v72::v73::v74::v75::v76::v77::v78::v79::v80::v81::v82::v83::v84::v85::v86::v87::v88::v89::v90::v91::v92::v93::v94::v95::v96::v97::v98::v99::v100::v101::v102::.int .i64 1::v104::v105::v106::v107::v108::v109::v110::v111::v112::v113::v114::v115::v116::v117::v118::v119::v120::v121::v122::v123::v124::v125::v126::v127::v128::v129::v130::v131::v132::v133::v134::v135::v136::v137::v138::v139::v140::v141::v142::v143::v144::v145::v146::v147::v148::v149::v150::v151::v152::v153::v154::v155::v156::v157::v158::v159::v160::v161::v162::v163::v164::v165::v166::v167::v168::v169::v170::v171::v172::v173::v174::v175::v176::v177::v178::v179::v180::v181::v182::v183::v184::v185::v186::v187::v188::v189::v190::v191::v192::v193::v194::v195::v196::v197::v198::v199::v200::v201::v202::v203::v204::v205::v206::v207::v208::v209::v210::v211::v212::v213::v214::v215::v216::v217::v218::v219::v220::v221::v222::v223::v224::v225::v226::v227::v228::v229::v230::v231::v232::v233::v234::v235::v236::v237::v238::v239::v240::v241::v242::v243::v244::v245::v246::v247::v248::v249::v250::v251::v252::v253::v254::v255::v256::v257::v258::v259::v260::v261::v262::v263::v264::v265::v266::v267::v268::v269::v270::v271::v272::v273::v274::v275::v276::v277::v278::v279::v280::v281::v282::v283::v284::v285::v286::v287::v288::v289::v290::v291::v292::v293::v294::v295::v296::v297::v298::v299::v300::v301::v302::v303::v304::v305::v306::v307::v308::v309::v310::v311::v312::v313::v314::v315::v316::v317::v318::v319::v320::v321::v322::v323::v324::v325::v326::v327::v328::v329::v330::v331::v332::v333::v334::v335::v336::v337::v338::v339::v340::v341::v342::v343::v344::v345::v346::v347::v348::v349::v350::v351::v352::v353::v354::v355::v356::v357::v358::v359::v360::v361::v362::v363::v364::v365::v366::v367::v368::v369::v370::v371::v372::v373::v374::v375::v376::v377::v378::List.nil),[]⟩ wr:=by
 obtain ⟨HB,eD,cT,HFS,HAS,eM,HS,HD,HI,HX,e8,HC,bq,HZ⟩:=H;have cN:=hid (Nat.le_trans HB.out HX.out.size);have AT:=hid (fun (i:Nat) w' (x:Ext w w')=>qlu B Ac ccp cc i w' (HC.out w' x))
 conv=>arg 2;whnf
 go_wp2_with fail;refine (AT.out 2 wr HX.out).mono ?_;rintro e w9 ⟨rfl,rfl⟩;obtain ⟨xt,hxt⟩:=ex1 (atI cc 2);rw [← hxt];clear hxt;go_wp2_with fail;refine (AT.out 3 wr HX.out).mono ?_;rintro e w9 ⟨rfl,rfl⟩;obtain ⟨xn,dQ⟩:=ex1 (atI cc 3);rw [← dQ];clear dQ;go_wp2_with (first
  | ((with_reducible refine qdt (some 26) (.alloc _) ?_);refine qa2 jgr rfl rfl ?_;intro w2 aH aI bC)
  | ((with_reducible refine qdt none (.store _ (.tmp 26) _) ?_);refine qa3 jga _ _ rfl rfl rfl rfl aI rfl rfl (by simp [Value.oneCell']) ?_;intro w3 hl3 aL bv cE)
  | ((with_reducible refine qdt (some 27) (.alloc _) ?_);refine qa2 jc0 rfl rfl ?_;intro w4 aj bo hs4)
  | ((with_reducible refine qdt (some 28) (.alloc _) ?_);refine qa2 jc0 rfl rfl ?_;intro w5 bN au bP))
 have hx13:=aH.below hl3 (Nat.le_refl _);have fF:=hid (HX.out.trans ((hx13.trans aj).trans bN));have H6:=hid ((aL.ext aj).ext bN);have H7:=hid (bo.ext bN);have H8:=hid au;have HS5:=hid (HS.out.ext ((hx13.trans aj).trans bN));have HD5:=hid (HD.out.ext ((hx13.trans aj).trans bN));have cR:=HS.out.lt;have f8:=HD.out.lt;have hwl:=HX.out.size;have hbm:=HD.out.ge;obtain ⟨b6,h6d⟩:=ex1 wr.heap.size;obtain ⟨b7,h7d⟩:=ex1 w3.heap.size;obtain ⟨b8,h8d⟩:=ex1 w4.heap.size;rw [← h6d] at H6 cR f8 hwl bC ⊢;rw [← h7d] at H7 bv hs4 ⊢;rw [← h8d] at H8 hs4 bP ⊢;have hB:=HB.out;have HN:=hid (show b6≠rs∧b7≠rs∧b8≠rs∧B≤b6∧B≤b7∧B≤b8 by omega);have HNM:=hid (show rm≠b7∧rm≠b8∧b6≠rm∧b7≠rm∧b8≠rm by omega);have HNB:=hid (show b6≠b7∧b8≠b7∧b6≠b8∧b7≠b8 by omega);have HN5:=hid (show b6≤b7∧w.heap.size≤b7∧w.heap.size≤b8 by omega);have HBM:=hid hbm;have HB5:=hid (Nat.le_trans HB.out fF.out.size);clear aH aI bC hl3 aL bv cE aj bo hs4 bN au bP hx13 cR f8 hwl hbm h6d h7d h8d hB
 have HA4:=hid (fun w' (x:Ext w w')=>jeg B Ac ccp cc 4 w' (HC.out w' x));obtain ⟨xb,aa⟩:=ex1 (atI cc 4);rw [← aa] at HA4;have A4:=hid (fun w' (x:Ext w w')=>HA4.out w' x);have fh:=hid (fun w' (hb:B≤w'.heap.size) (h:IsSite B w' rs s)=>jb7 B rs s id ⟨xt,xn⟩ xb w' hb cT.out HI.out.ok HZ.out h);have HDK:=hid (fun w' (hb:B≤w'.heap.size) (h:IsDoc B w' rm s F J)=>jce B rm s F J id ⟨xt,xn⟩ xb w' hb HI.out.ok HZ.out h);have hT:=HI.out.make id ⟨xt,xn⟩ xb;obtain ⟨D,hD⟩:=ex1 (qhe s id ⟨xt,xn⟩ xb);obtain ⟨T,hTd⟩:=ex1 (qke s id ⟨xt,xn⟩ xb);obtain ⟨E,hE⟩:=ex1 (qdb s id ⟨xt,xn⟩ xb);rw [← hD,← hE,← hTd] at fh HDK;rw [← hTd] at hT;have HT:=hid (And.intro hT True.intro);clear aa HA4 hD hTd hE hT;have HFX:=hid (fun w' (x:Fr rs w5 w')=>show Ext w w' from Fr.extOf fF.out x HS5.out.ty (by rw [eD.out];exact cT.out));have aB:=hid (fun w' (x:Ext w w') (y:Blk w' b6 40 #[.int .i64 xt,.int .i64 xn])=>show Ext w w'∧w'.cell? ⟨b6,0,none⟩=some (.int .i64 xt)∧w'.cell? ⟨b6,1,none⟩=some (.int .i64 xn) from ⟨x,y.cell rfl,y.cell rfl⟩)
 have aA:=(Ext.refl w5).drew;refine wp_region_held_drew (S:=fun w'=>Ext w w'∧w'.cell? ⟨b6,0,none⟩=some (.int .i64 xt)∧w'.cell? ⟨b6,1,none⟩=some (.int .i64 xn)) (by kernel_rfl) (aB.out _ (fF.out.trans aA) (H6.out.ext aA)) (fun hHeld=>?_);obtain ⟨wc,aS⟩:=ex1 w5.drew;rw [← aS] at hHeld aA ⊢;clear aS;refine tkA 0 _ rfl ?_ (fun _ _ _ h=>HP.out _ _ _ _ _ h);(try simp only [gq,pq]);refine tkA 1 _ rfl ?_ (fun _ _ _ h=>HP.out _ _ _ _ _ h);(try simp only [gq,pq]);refine tkA 2 _ rfl ?_ (fun _ _ _ h=>HP.out _ _ _ _ _ h);(try simp only [gq,pq]);refine tkA 3 _ rfl ?_ (fun _ _ _ h=>HP.out _ _ _ _ _ h);(try simp only [gq,pq]);refine qp3 (i:=4) Tryz.call34 rfl (by kernel_rfl) (by kernel_rfl) (by kernel_rfl) (fun _ _ _ h=>HP.out _ _ _ _ _ h) (by rfl) (fun w' hS=>A4.out w' hS.1) (by assumption) ?_;(try simp only [pq]);refine rd1 5 rfl fun K hK=>?_;simp only [gq];go_simp;refine (fh.out wc (Nat.le_trans HB5.out aA.size) (HS5.out.ext aA)).mono ?_
 rintro e wn ⟨rfl,hsn,hfm⟩;dsimp only;have az:=(Fr.of_ext aA).trans hfm;have h6:=hfm.blkO (H6.out.ext aA) HN.out.1;have h7:=hfm.blkO (H7.out.ext aA) HN.out.2.1;have h8:=hfm.blkO (H8.out.ext aA) HN.out.2.2.1;have hdn:=(HD5.out.ext aA).chgO (hfm.chg (HS5.out.ext aA).ty cT.out) (by decide);clear aA hfm;obtain ⟨wc,rfl⟩:=ex1 wn;have dQ:=HFX.out _ az;refine hK.out _ _ (aB.out _ dQ h6) (fun hHeld=>?_);clear az;clear hK K;(try simp only [pq]);refine tkA 6 _ rfl ?_ (fun _ _ _ h=>HP.out _ _ _ _ _ h);(try simp only [gq,pq]);refine tkA 7 _ rfl ?_ (fun _ _ _ h=>HP.out _ _ _ _ _ h);(try simp only [gq,pq]);refine tkA 8 _ rfl ?_ (fun _ _ _ h=>HP.out _ _ _ _ _ h);(try simp only [gq,pq]);refine rd1 9 rfl fun K hK=>?_;simp only [gq];have y0:=h7.ce 0 (.int .i64 0) rfl;have y1:=h7.ce 1 (.int .i64 0) rfl;have z0:=h7.frozen 0;have z1:=h7.frozen 1;go_simp;have z:=qf4 h7 HN.out.2.2.2.2.1 (.int .i64 D.site) (.int .i64 D.count)
 have aH:=(dQ.setCell (p:=⟨b7,0,none⟩) HN5.out.2.1 (.int .i64 D.site)).setCell (p:=⟨b7,1,none⟩) HN5.out.2.1 (.int .i64 D.count);have bC:=qsa hsn HT.out.1.ok z HN.out.2.1.symm;have hd2:=hdn.z8 HI.out.ok z HNM.out.1;have h62:=z.blkO h6 HNB.out.1;have h82:=z.blkO h8 HNB.out.2.1;have h72:=(h7.set 0 (.int .i64 D.site)).set 1 (.int .i64 D.count);clear y0 y1 z0 z1 z;obtain ⟨wn,aP⟩:=ex1 ((wc.setCell ⟨b7,0,none⟩ (.int .i64 D.site)).setCell ⟨b7,1,none⟩ (.int .i64 D.count));rw [← aP] at aH bC hd2 h62 h82 h72 ⊢;clear aP dQ hsn hdn h6 h7 h8;refine hK.out _ _ (aB.out _ aH h62) (fun hHeld=>?_);clear hK K;(try simp only [pq]);refine tkA 10 _ rfl ?_ (fun _ _ _ h=>HP.out _ _ _ _ _ h);(try simp only [gq,pq]);refine wpAnyH_done (by kernel_rfl) ?_ _;clear hHeld aB;have eb:=hid aH;have HS6:=hid bC;have HD6:=hid hd2;have H66:=hid h62;have H76:=hid (show Blk wn b7 35 #[.int .i64 D.site,.int .i64 D.count] by simpa using h72)
 have H86:=hid h82;have fJ:=hid (Nat.le_trans HB.out eb.out.size);clear aH bC hd2 h62 h72 h82;go_wp2_with fail;have aB:=hid (fun w' (x:Ext w w') (y:Blk w' b6 40 #[.int .i64 xt,.int .i64 xn])=>show Ext w w'∧w'.cell? ⟨b6,0,none⟩=some (.int .i64 xt)∧w'.cell? ⟨b6,1,none⟩=some (.int .i64 xn) from ⟨x,y.cell rfl,y.cell rfl⟩);have aA:=(Ext.refl wn).drew;refine wp_region_held_drew (S:=fun w'=>Ext w w'∧w'.cell? ⟨b6,0,none⟩=some (.int .i64 xt)∧w'.cell? ⟨b6,1,none⟩=some (.int .i64 xn)) (by kernel_rfl) (aB.out _ (eb.out.trans aA) (H66.out.ext aA)) (fun hHeld=>?_);obtain ⟨wc,aS⟩:=ex1 wn.drew;rw [← aS] at hHeld aA ⊢;clear aS;refine tkA 0 _ rfl ?_ (fun _ _ _ h=>HP.out _ _ _ _ _ h);(try simp only [gq,pq]);refine tkA 1 _ rfl ?_ (fun _ _ _ h=>HP.out _ _ _ _ _ h);(try simp only [gq,pq]);refine tkA 2 _ rfl ?_ (fun _ _ _ h=>HP.out _ _ _ _ _ h);(try simp only [gq,pq]);refine tkA 3 _ rfl ?_ (fun _ _ _ h=>HP.out _ _ _ _ _ h)
 (try simp only [gq,pq]);refine qp3 (i:=4) Tryz.call34 rfl (by kernel_rfl) (by kernel_rfl) (by kernel_rfl) (fun _ _ _ h=>HP.out _ _ _ _ _ h) (by rfl) (fun w' hS=>A4.out w' hS.1) (by assumption) ?_;(try simp only [pq]);refine rd1 5 rfl fun K hK=>?_;simp only [gq];go_simp;refine (HDK.out wc (Nat.le_trans fJ.out aA.size) (HD6.out.ext aA)).mono ?_;rintro e wn ⟨rfl,hdn,hfm⟩;dsimp only;have dQ:=Fr.extOf (eb.out.trans aA) hfm (HD6.out.ext aA).ty (by rw [eD.out];exact HBM.out);have h6:=hfm.blkO (H66.out.ext aA) HNM.out.2.2.1;have h7:=hfm.blkO (H76.out.ext aA) HNM.out.2.2.2.1;have h8:=hfm.blkO (H86.out.ext aA) HNM.out.2.2.2.2;have hsn:=(HS6.out.ext aA).chgO (hfm.chg (HD6.out.ext aA).ty HBM.out) (by decide);clear aA hfm;obtain ⟨wc,rfl⟩:=ex1 wn;refine hK.out _ _ (aB.out _ dQ h6) (fun hHeld=>?_);clear hK K;(try simp only [pq]);refine tkA 6 _ rfl ?_ (fun _ _ _ h=>HP.out _ _ _ _ _ h);try simp only [gq,pq]
 refine tkA 7 _ rfl ?_ (fun _ _ _ h=>HP.out _ _ _ _ _ h);(try simp only [gq,pq]);refine tkA 8 _ rfl ?_ (fun _ _ _ h=>HP.out _ _ _ _ _ h);(try simp only [gq,pq]);refine rd1 9 rfl fun K hK=>?_;simp only [gq];have y0:=h8.ce 0 (.int .i64 0) rfl;have y1:=h8.ce 1 (.int .i64 0) rfl;have z0:=h8.frozen 0;have z1:=h8.frozen 1;go_simp;have z:=qf4 h8 HN.out.2.2.2.2.2 (.int .i64 D.site) (.int .i64 D.count);have aH:=(dQ.setCell (p:=⟨b8,0,none⟩) HN5.out.2.2 (.int .i64 D.site)).setCell (p:=⟨b8,1,none⟩) HN5.out.2.2 (.int .i64 D.count);have bC:=qsa hsn HT.out.1.ok z HN.out.2.2.1.symm;have hd2:=hdn.z8 HT.out.1.ok z HNM.out.2.1;have h62:=z.blkO h6 HNB.out.2.2.1;have h72:=z.blkO h7 HNB.out.2.2.2;have h82:=(h8.set 0 (.int .i64 D.site)).set 1 (.int .i64 D.count);clear y0 y1 z0 z1 z;obtain ⟨wn,aP⟩:=ex1 ((wc.setCell ⟨b8,0,none⟩ (.int .i64 D.site)).setCell ⟨b8,1,none⟩ (.int .i64 D.count));rw [← aP] at aH bC hd2 h62 h82 h72 ⊢
 clear aP dQ hsn hdn h6 h7 h8;refine hK.out _ _ (aB.out _ aH h62) (fun hHeld=>?_);clear hK K;(try simp only [pq]);refine tkA 10 _ rfl ?_ (fun _ _ _ h=>HP.out _ _ _ _ _ h);(try simp only [gq,pq]);refine wpAnyH_done (by kernel_rfl) ?_ _;clear hHeld aB;have y0:=h72.ce 0 (.int .i64 D.site) rfl;have y1:=h72.ce 1 (.int .i64 D.count) rfl;have h83:Blk wn b8 35 #[.int .i64 D.site,.int .i64 D.count]:=by simpa using h82
 have y2:=h83.ce 0 (.int .i64 D.site) rfl;have y3:=h83.ce 1 (.int .i64 D.count) rfl;have HX7:=hid aH;have HS7:=hid bC;have HD7:=hid hd2;clear aH bC hd2 h62 h72 h82 h83;go_wp2_with fail;unfold qh6
 (repeat apply Exists.intro)
 exact ⟨rfl,rfl,⟨_,_,_,_,rfl,rfl,HS7.out,HD7.out,hid (HT.out.1.mono (by omega)),HX7.out⟩⟩
end
end Go.Proofs.YtngbfdogiciahaaGreat
