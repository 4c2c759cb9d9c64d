/- Texts joined. -/
import Derived.Lib.ConvBytes
import Derived.Test.YtngbfdogiciahaaGreatJoinFewB
set_option maxRecDepth 100000
set_option maxHeartbeats 40000000
namespace Go.Proofs.YtngbfdogiciahaaGreat
open Go Go.RowKit Go.ChangeShapes Go.WideShapes Go.Deep Go.Joins
def RVer (B:Nat) (w:World) (cs:List Value) (v:Version):Prop:=∃ a m,cs=[.string v.id,.int .i64 v.dot.site,.int .i64 v.dot.count,.int .i64 v.pt.tags,.int .i64 v.pt.num,.int .i64 v.body,a,m]∧qhu B w a v.past.vec∧IsDots B w m v.past.more∧v.id.size≤maxLen
theorem RVer.mono {B:Nat} {ts:List TypeId} (h3:3∉ts) (h4:35∉ts):Mono B ts (RVer B):=by
 rintro w w' cs v x ⟨a,m,rfl,ha,hm,hz⟩;exact ⟨a,m,rfl,ha.chg RInt.mono h3 x,hm.chg RPair.mono h4 x,hz⟩
theorem RVer.monoE {B:Nat}:Mono B [] (RVer B):=RVer.mono (by simp) (by simp)
theorem RVer.oneC {B:Nat}:OneC (RVer B):=by
 rintro w cs v ⟨a,m,rfl,⟨_,_,rfl,_⟩,⟨_,_,rfl,_⟩,_⟩ u hu;simp at hu;rcases hu with rfl | rfl | rfl | rfl | rfl | rfl | rfl | rfl <;> rfl
abbrev qb6 (B:Nat):=Sl B 151 (RVer B) 8
abbrev qlt (B:Nat):=IsSl B 151 (RVer B) 8
structure InV (B:Nat) (w:World) (Av:Option Addr) (cv:Nat) (Am:Option Addr) (cm:Nat) (v:Version):Prop where
 lcv:v.past.vec.length≤cv∧cv≤maxLen
 lcm:v.past.more.length≤cm∧cm≤maxLen
 lid:v.id.size≤maxLen
 k:InK B w Av Am v.past
theorem InV.ext {B:Nat} {w w':World} {Av:Option Addr} {cv:Nat} {Am:Option Addr} {cm:Nat} {v:Version} (h:InV B w Av cv Am cm v) (x:Ext w w'):InV B w' Av cv Am cm v:=⟨h.lcv,h.lcm,h.lid,h.k.ext x⟩
theorem InV.chg {B:Nat} {ts:List TypeId} {w w':World} {Av:Option Addr} {cv:Nat} {Am:Option Addr} {cm:Nat} {v:Version} (h:InV B w Av cv Am cm v) (x:Chg B ts w w') (h3:3∉ts) (h4:35∉ts):InV B w' Av cv Am cm v:=⟨h.lcv,h.lcm,h.lid,h.k.chg x h3 h4⟩
theorem InV.isK {B:Nat} {w:World} {Av:Option Addr} {cv:Nat} {Am:Option Addr} {cm:Nat} {v:Version} (h:InV B w Av cv Am cm v):IsK B w (.agg #[.slice Av v.past.vec.length cv,.slice Am v.past.more.length cm]) v.past:=
 ⟨Av,cv,Am,cm,rfl,h.lcv.1,h.lcv.2,h.lcm.1,h.lcm.2,h.k⟩
theorem InV.rver {B:Nat} {w:World} {Av:Option Addr} {cv:Nat} {Am:Option Addr} {cm:Nat} {v:Version} (h:InV B w Av cv Am cm v):RVer B w [.string v.id, .int .i64 v.dot.site, .int .i64 v.dot.count, .int .i64 v.pt.tags, .int .i64 v.pt.num, .int .i64 v.body, .slice Av v.past.vec.length cv, .slice Am v.past.more.length cm] v:=
 ⟨_,_,rfl,⟨Av,cv,rfl,h.lcv.1,h.lcv.2,h.k.sv⟩,⟨Am,cm,rfl,h.lcm.1,h.lcm.2,h.k.sm⟩,h.lid⟩
theorem RVer.inV {B:Nat} {w:World} {cs:List Value} {v:Version} (h:RVer B w cs v):∃ Av cv Am cm,cs=[.string v.id, .int .i64 v.dot.site, .int .i64 v.dot.count, .int .i64 v.pt.tags, .int .i64 v.pt.num, .int .i64 v.body, .slice Av v.past.vec.length cv, .slice Am v.past.more.length cm]∧InV B w Av cv Am cm v:=by
 obtain ⟨a,m,rfl,⟨Av,cv,rfl,v1,v2,v3⟩,⟨Am,cm,rfl,m1,m2,m3⟩,hz⟩:=h;exact ⟨Av,cv,Am,cm,rfl,⟨⟨v1,v2⟩,⟨m1,m2⟩,hz,⟨by omega,by omega,v3,m3⟩⟩⟩
structure CellsV (w:World) (b o:Nat) (Av:Option Addr) (cv:Nat) (Am:Option Addr) (cm:Nat) (v:Version):Prop where
 c0:w.cell? ⟨b,o,none⟩=some (.string v.id)
 c1:w.cell? ⟨b,o+1,none⟩=some (.int .i64 v.dot.site)
 c2:w.cell? ⟨b,o+2,none⟩=some (.int .i64 v.dot.count)
 c3:w.cell? ⟨b,o+3,none⟩=some (.int .i64 v.pt.tags)
 c4:w.cell? ⟨b,o+4,none⟩=some (.int .i64 v.pt.num)
 c5:w.cell? ⟨b,o+5,none⟩=some (.int .i64 v.body)
 c6:w.cell? ⟨b,o+6,none⟩=some (.slice Av v.past.vec.length cv)
 c7:w.cell? ⟨b,o+7,none⟩=some (.slice Am v.past.more.length cm)
theorem CellsV.ext {w w':World} {b o:Nat} {Av:Option Addr} {cv:Nat} {Am:Option Addr} {cm:Nat} {v:Version} (h:CellsV w b o Av cv Am cm v) (x:Ext w w'):CellsV w' b o Av cv Am cm v:=
 ⟨x.cell h.c0,x.cell h.c1,x.cell h.c2,x.cell h.c3,x.cell h.c4,x.cell h.c5,x.cell h.c6,x.cell h.c7⟩
theorem CellsV.grown {w w':World} {ob:Option Nat} {b o:Nat} {Av:Option Addr} {cv:Nat} {Am:Option Addr} {cm:Nat} {v:Version} (h:CellsV w b o Av cv Am cm v) (x:w.grownBy w' ob) (hn:some b≠ob):CellsV w' b o Av cv Am cm v:=
 ⟨qat x h.c0 hn,qat x h.c1 hn,qat x h.c2 hn,qat x h.c3 hn,qat x h.c4 hn,qat x h.c5 hn,qat x h.c6 hn,qat x h.c7 hn⟩
theorem CellsV.ofBlk {w:World} {b:Nat} {e:TypeId} {Av:Option Addr} {cv:Nat} {Am:Option Addr} {cm:Nat} {v:Version} (h:Blk w b e #[.string v.id, .int .i64 v.dot.site, .int .i64 v.dot.count, .int .i64 v.pt.tags, .int .i64 v.pt.num, .int .i64 v.body, .slice Av v.past.vec.length cv, .slice Am v.past.more.length cm]):CellsV w b 0 Av cv Am cm v:=
 ⟨h.cell rfl,h.cell rfl,h.cell rfl,h.cell rfl,h.cell rfl,h.cell rfl,h.cell rfl,h.cell rfl⟩
theorem Sl.ver {B:Nat} {w:World} {A:Option Addr} {l:List Version} (h:qb6 B w A l) {i:Nat} (hi:i < l.length) :
  ∃ b off Av cv Am cm,A=some ⟨b,off,none⟩∧b < w.heap.size∧w.rangeAt b (off+i*8) [.string l[i].id, .int .i64 l[i].dot.site, .int .i64 l[i].dot.count, .int .i64 l[i].pt.tags, .int .i64 l[i].pt.num, .int .i64 l[i].body, .slice Av l[i].past.vec.length cv, .slice Am l[i].past.more.length cm]∧InV B w Av cv Am cm l[i]:=by
 obtain ⟨b,off,cs,hA,hb,_,hc,hR⟩:=h.at_ hi;obtain ⟨Av,cv,Am,cm,rfl,hP⟩:=hR.inV;exact ⟨b,off,Av,cv,Am,cm,hA,hb,hc,hP⟩
section
variable {H:Type} {enc:TypeId×Value→H} {w:World} {spare:Nat→Bool} {held:Bool}
theorem qyq:Tryz.prog.cellsOf 151=8:=by kernel_rfl
theorem qrq:Tryz.prog.cellsOf 9=1:=by kernel_rfl
theorem jfp {P:Program} {t a b c d e:TypeId} {f0 f1 f2 f3 f4:Field} {R0 R3:Value→Prop} {R1 R2 R4:Value→Value→Prop} (ht:P.underlying t=some (.struct #[f0,f1,f2,f3,f4])) (h0:f0.type=a∧f0.offset=0) (h1:f1.type=b∧f1.offset=1) (h2:f2.type=c∧f2.offset=3) (h3:f3.type=d∧f3.offset=5) (h4:f4.type=e∧f4.offset=6)
  (ha:P.cellsOf a=1) (hb:P.cellsOf b=2) (hc:P.cellsOf c=2) (hd:P.cellsOf d=1) (he:P.cellsOf e=2)
  (e0:∀ (n:Nat) (cs:List Value) (y:DataW H×List MemPlace),DataW.trod enc P w 0 spare held n a cs=some y→∃ v,cs=[v]∧R0 v)
  (e1:∀ (n:Nat) (cs:List Value) (y:DataW H×List MemPlace),cs.length=2→DataW.trod enc P w 0 spare held n b cs=some y→∃ u v,cs=[u,v]∧R1 u v)
  (e2:∀ (n:Nat) (cs:List Value) (y:DataW H×List MemPlace),cs.length=2→DataW.trod enc P w 0 spare held n c cs=some y→∃ u v,cs=[u,v]∧R2 u v)
  (e3:∀ (n:Nat) (cs:List Value) (y:DataW H×List MemPlace),DataW.trod enc P w 0 spare held n d cs=some y→∃ v,cs=[v]∧R3 v)
  (e4:∀ (n:Nat) (cs:List Value) (y:DataW H×List MemPlace),cs.length=2→DataW.trod enc P w 0 spare held n e cs=some y→∃ u v,cs=[u,v]∧R4 u v)
  (n:Nat) (cs:List Value) (y:DataW H×List MemPlace) (hl:cs.length=8) (h:DataW.trod enc P w 0 spare held n t cs=some y):∃ x0 x1 x2 x3 x4 x5 x6 x7,cs=[x0,x1,x2,x3,x4,x5,x6,x7]∧R0 x0∧R1 x1 x2∧R2 x3 x4∧R3 x5∧R4 x6 x7:=by
 obtain ⟨xs,m,_,_,_,hx,hg⟩:=DataW.trod_struct ht h
 match cs,hl with
 | [c0,c1,c2,c3,c4,c5,c6,c7],_=>
  match xs,hx with
  | [y0,y1,y2,y3,y4],_=>
   have g0:=hg 0 f0 rfl;have g1:=hg 1 f1 rfl;have g2:=hg 2 f2 rfl;have g3:=hg 3 f3 rfl;have g4:=hg 4 f4 rfl;rw [h0.1,h0.2,ha] at g0;rw [h1.1,h1.2,hb] at g1;rw [h2.1,h2.2,hc] at g2;rw [h3.1,h3.2,hd] at g3;rw [h4.1,h4.2,he] at g4;obtain ⟨x0,q0,r0⟩:=e0 _ _ _ g0;obtain ⟨x1,x2,q1,r1⟩:=e1 _ _ _ rfl g1;obtain ⟨x3,x4,q2,r2⟩:=e2 _ _ _ rfl g2;obtain ⟨x5,q3,r3⟩:=e3 _ _ _ g3;obtain ⟨x6,x7,q4,r4⟩:=e4 _ _ _ rfl g4;simp at q0 q1 q2 q3 q4;obtain ⟨rfl,rfl⟩:=q1;obtain ⟨rfl,rfl⟩:=q2;obtain ⟨rfl,rfl⟩:=q4;subst q0 q3;exact ⟨_,_,_,_,_,_,_,_,rfl,r0,r1,r2,r3,r4⟩
theorem qrf (n:Nat) (cs:List Value) (y:DataW H×List MemPlace) (h:DataW.trod enc Tryz.prog w 0 spare held n 9 cs=some y):∃ v,cs=[v]∧∃ s:ByteArray,v=.string s∧s.size≤maxLen:=by
 obtain ⟨s,h1,_,h2⟩:=DataW.trod_string Tryz.underlying9 h;exact ⟨_,h1,s,rfl,h2⟩
theorem qi6 (n:Nat) (cs:List Value) (y:DataW H×List MemPlace) (h:DataW.trod enc Tryz.prog w 0 spare held n 3 cs=some y):∃ v,cs=[v]∧∃ s:Int,v=.int .i64 s:=by
 obtain ⟨s,h1,_⟩:=qk8 Tryz.underlying3 h;exact ⟨_,h1,s,rfl⟩
theorem qyz (n:Nat) (cs:List Value) (y:DataW H×List MemPlace) (hl:cs.length=2) (h:DataW.trod enc Tryz.prog w 0 spare held n 35 cs=some y):∃ u v,cs=[u,v]∧∃ a b:Int,u=.int .i64 a∧v=.int .i64 b:=by
 obtain ⟨a,b,h1,_,_⟩:=qia (P:=Tryz.prog) Tryz.underlying35 Tryz.underlying3 (And.intro rfl rfl) (And.intro rfl rfl) qd0 hl h;exact ⟨_,_,h1,a,b,rfl,rfl⟩
theorem qut (n:Nat) (cs:List Value) (y:DataW H×List MemPlace) (hl:cs.length=2) (h:DataW.trod enc Tryz.prog w 0 spare held n 40 cs=some y):∃ u v,cs=[u,v]∧∃ a b:Int,u=.int .i64 a∧v=.int .i64 b:=by
 obtain ⟨a,b,h1,_,_⟩:=qia (P:=Tryz.prog) Tryz.underlying40 Tryz.underlying3 (And.intro rfl rfl) (And.intro rfl rfl) qd0 hl h;exact ⟨_,_,h1,a,b,rfl,rfl⟩
theorem je1 (n:Nat) (cs:List Value) (y:DataW H×List MemPlace) (hl:cs.length=8) (h:DataW.trod enc Tryz.prog w 0 spare held n 151 cs=some y):∃ z:Version,RVer w.heap.size w cs z∧True:=by
 obtain ⟨x0,x1,x2,x3,x4,x5,x6,x7,rfl,⟨s,rfl,hz⟩,⟨a,b,rfl,rfl⟩,⟨c,d,rfl,rfl⟩,⟨bd,rfl⟩,k,h3,h4⟩:=jfp (P:=Tryz.prog) (R0:=fun v=>∃ s:ByteArray,v=.string s∧s.size≤maxLen) (R1:=fun u v=>∃ a b:Int,u=.int .i64 a∧v=.int .i64 b) (R2:=fun u v=>∃ a b:Int,u=.int .i64 a∧v=.int .i64 b) (R3:=fun v=>∃ s:Int,v=.int .i64 s) (R4:=fun u v=>∃ k:Know,qhu w.heap.size w u k.vec∧IsDots w.heap.size w v k.more)
  Tryz.underlying151 (And.intro rfl rfl) (And.intro rfl rfl) (And.intro rfl rfl) (And.intro rfl rfl) (And.intro rfl rfl) qrq qrp qtx qd0 ql2 qrf qyz qut qi6 ql8 n cs y hl h
 exact ⟨⟨s,⟨a,b⟩,⟨c,d⟩,bd,k⟩,⟨_,_,rfl,h3,h4,hz⟩,trivial⟩
end
theorem qam:qc0 Tryz.prog 151 8:=⟨⟨_,Tryz.underlying151,rfl⟩,by kernel_rfl⟩
theorem jc1:qcm Tryz.prog 151 #[.string ⟨#[]⟩,.int .i64 0,.int .i64 0,.int .i64 0,.int .i64 0,.int .i64 0,.slice none 0 0,.slice none 0 0]:=fun w=>by kernel_rfl
theorem jgt:(#[.string ⟨#[]⟩,.int .i64 0,.int .i64 0,.int .i64 0,.int .i64 0,.int .i64 0,.slice none 0 0,.slice none 0 0]:Array Value).size=8:=rfl
theorem jel:(#[.string ⟨#[]⟩,.int .i64 0,.int .i64 0,.int .i64 0,.int .i64 0,.int .i64 0,.slice none 0 0,.slice none 0 0]:Array Value).all (·.oneCell')=true:=by kernel_rfl
end Go.Proofs.YtngbfdogiciahaaGreat
namespace Go.Proofs.YtngbfdogiciahaaGreat
open Go Go.RowKit
theorem qrl (s:ByteArray) (k:Nat) (hk:k < s.size):(s.data.toList.take (k+1)).all byteOk=((s.data.toList.take k).all byteOk&&byteOk s[k]):=by
 have hk':k < s.data.toList.length:=by simpa using hk
 rw [List.take_succ_eq_append_getElem hk',List.all_append];simp only [List.all_cons,List.all_nil,Bool.and_true];rfl
theorem qzj {s:ByteArray} (h:¬ s.size≤8):idOk s=false:=by
 unfold idOk;rw [decide_eq_false h];simp
theorem qxf {s:ByteArray} (h:s.toList.isEmpty=true):idOk s=false:=by unfold idOk;rw [h];rfl
theorem jev {s:ByteArray} (h:s.toList.isEmpty=false) (h8:s.size≤8):idOk s=s.data.toList.all byteOk:=by
 unfold idOk;rw [h,decide_eq_true h8];rfl
theorem qve (s:ByteArray):(s.data.toList.take s.size).all byteOk=s.data.toList.all byteOk:=by
 rw [show s.size=s.data.toList.length by simp,List.take_length]
theorem qqd {s:ByteArray} {k:Nat} (hk:k < s.size) (h:byteOk s[k]=false):s.data.toList.all byteOk=false:=by
 rw [List.all_eq_false];refine ⟨s.data.toList[k]'(by simpa using hk),List.getElem_mem _,?_⟩;show ¬ byteOk s[k]=true;rw [h];simp
theorem qn0 (s:ByteArray) (w:World) :
  Calls Tryz.prog 92 #[.string s] w fun e w'=>e=.returned (.bool (idOk s))∧Ext w w':=by
 cases he:s.toList.isEmpty
 ·by_cases h8:s.size≤8
  ·have HI:=hid (jev he h8)
   have h8':decide ((8:Int) < s.size)=false:=decide_eq_false (by omega);have aW:(s.size:Int)≤8:=by omega
   go_enter Tryz.func92, Tryz.ntmps92;go_wp2_with fail;go_loopw [13] (fun i wr=>∃ k:Nat,k≤s.size∧i=.int .i64 k∧(s.data.toList.take k).all byteOk=true∧Ext w wr) (fun i _=>s.size - (intOf i).toNat)
   case atStart=>exact ⟨0,Nat.zero_le _,rfl,rfl,Ext.refl _⟩
   obtain ⟨k,hk,rfl,hG,hx⟩:=hrel;have HG:=hid hG;clear hG
   by_cases aD:k < s.size
   ·have HB:=hid (qrl s k aD)
    have HD:=hid (show byteOk s[k]=!(decide (((s[k]).toNat:Int) < 97)||decide ((122:Int) < ((s[k]).toNat:Int))) from rfl)
    cases h1:decide (((s[k]).toNat:Int) < 97)
    ·rw [h1] at HD
     cases h2:decide ((122:Int) < ((s[k]).toNat:Int))
     ·rw [h2] at HD
      go_wp2_with fail;go_roundw
      case rel=>exact ⟨k+1,aD,by go_num,by rw [HB.out,HG.out,HD.out];rfl,hx⟩
      case measure=>simp [intOf];omega
     rw [h2] at HD;have HF:=hid (qqd aD (HD.out.trans rfl));go_wp2_with fail;go_ret;exact ⟨qa7 (by rw [HI.out,HF.out]),hx⟩
    rw [h1] at HD;have HF:=hid (qqd aD (HD.out.trans rfl));go_wp2_with fail;go_ret;exact ⟨qa7 (by rw [HI.out,HF.out]),hx⟩
   obtain rfl:k=s.size:=by omega
   go_wp2_with fail;go_ret;exact ⟨qa7 (by rw [HI.out,← qve,HG.out]),hx⟩
  have HI:=hid (qzj h8);have h8':decide ((8:Int) < s.size)=true:=decide_eq_true (by omega);clear h8;go_enter Tryz.func92, Tryz.ntmps92;go_wp2_with fail;go_ret;exact ⟨qa7 HI.out.symm,Ext.refl _⟩
 have HI:=hid (qxf he);go_enter Tryz.func92, Tryz.ntmps92;go_wp2_with fail;go_ret;exact ⟨qa7 HI.out.symm,Ext.refl _⟩
theorem qza (w:World) (e:TypeId) (s:ByteArray):Ext w (Lib.bytesWorld w e s):=
 ⟨rfl,rfl,rfl,by rw [Lib.bytesWorld_size];omega,fun k hk=>Lib.bytesWorld_at_old w e s k hk⟩
theorem qws (w:World) (e:TypeId) (s:ByteArray) (k:Nat) (hk:k < s.size):(Lib.bytesWorld w e s).cell? ⟨w.heap.size,k,none⟩=some (.int .u8 (s[k]).toNat):=by
 rw [Lib.bytesWorld_cell w e s k hk];have:s.data.toList.getD k 0=s[k]:=by
  rw [List.getD_eq_getElem?_getD,List.getElem?_eq_getElem (by simpa using hk)];rfl
 rw [this]
theorem jct {s:ByteArray} (h:s.data.toList.all byteOk=true):idOk s=betw s.size 1 8:=by
 unfold idOk betw;rw [h];have e:s.toList.isEmpty=decide (s.size=0):=by
  rw [Bool.eq_iff_iff,List.isEmpty_iff,decide_eq_true_eq,Lib.toList_data,← List.length_eq_zero_iff];simp
 rw [e,Bool.eq_iff_iff];simp only [Bool.and_eq_true,Bool.not_eq_true',decide_eq_true_eq,decide_eq_false_iff_not,and_true];omega
theorem qvq {s:ByteArray} (h:s.data.toList.all byteOk=false):idOk s=false:=by
 unfold idOk;rw [h,Bool.and_false]
theorem qw6 (s:ByteArray) (hs:s.size≤maxLen) (w:World) :
  Calls Tryz.prog 96 #[.string s] w fun e w'=>e=.returned (.bool (idOk s))∧Ext w w':=by
 have aW:s.size≤9223372036854775807:=hs;have fQ:∀ w,(convert 9 211 (.string s)).run Tryz.prog w=.ok (.slice (some ⟨w.heap.size,0,none⟩) s.size (grownCap w s.size 0 5)) (Lib.bytesWorld w 5 s):=fun w=>
  Lib.run_convert_string_bytes (P:=Tryz.prog) w 9 211 5 s (u:=.string) Tryz.underlying9 Tryz.underlying211 Tryz.underlying5
 have HX:=hid (qza w 5 s);have HC:=hid (fun k hk=>qws w 5 s k hk);generalize hW:Lib.bytesWorld w 5 s=W1 at HX HC;have hcv1:=fQ w;rw [hW] at hcv1;clear fQ hW;generalize hcp:grownCap w s.size 0 5=cp at hcv1;clear hcp;go_enter Tryz.func96, Tryz.ntmps96;go_wp2_with fail;go_loopw [8] (fun i wr=>∃ k:Nat,k≤s.size∧i=.int .i64 k∧(s.data.toList.take k).all byteOk=true∧Ext W1 wr) (fun i _=>s.size - (intOf i).toNat)
 case atStart=>exact ⟨0,Nat.zero_le _,rfl,rfl,Ext.refl _⟩
 obtain ⟨k,hk,rfl,hG,hx⟩:=hrel;have HG:=hid hG;clear hG
 by_cases aD:k < s.size
 ·have hc:=hx.cell (HC.out k aD)
  have HB:=hid (qrl s k aD);have HD:=hid (show byteOk s[k]=!(decide (((s[k]).toNat:Int) < 97)||decide ((122:Int) < ((s[k]).toNat:Int))) from rfl)
  cases h1:decide (((s[k]).toNat:Int) < 97)
  ·rw [h1] at HD
   cases h2:decide ((122:Int) < ((s[k]).toNat:Int))
   ·rw [h2] at HD
    go_wp2_with fail;go_roundw
    case rel=>exact ⟨k+1,aD,by go_num,by rw [HB.out,HG.out,HD.out];rfl,hx⟩
    case measure=>simp [intOf];omega
   rw [h2] at HD;have HF:=hid (qqd aD (HD.out.trans rfl));go_wp2_with fail;go_ret;exact ⟨qa7 (qvq HF.out).symm,HX.out.trans hx⟩
  rw [h1] at HD;have HF:=hid (qqd aD (HD.out.trans rfl));go_wp2_with fail;go_ret;exact ⟨qa7 (qvq HF.out).symm,HX.out.trans hx⟩
 obtain rfl:k=s.size:=by omega
 have HA:=hid ((qve s).symm.trans HG.out);go_wp2_with fail;refine (qb5 _ _ _ _).mono ?_;rintro e w1 ⟨rfl,rfl⟩;go_wp2_with fail;go_ret;exact ⟨qa7 (jct HA.out).symm,HX.out.trans hx⟩
theorem qtk {v:Version} (h:idOk v.id=false):qas v=3:=by unfold qas;rw [h];rfl
theorem qe2 {v:Version} (h:idOk v.id=true) (h2:(qb8 v.dot&&(qaz v.pt&&qdu v.body))=false):qas v=1:=by unfold qas;rw [h,h2];rfl
theorem qp0 {v:Version} (h:idOk v.id=true) (h2:(qb8 v.dot&&(qaz v.pt&&qdu v.body))=true) (h3:qa4 v.past≠0):qas v=qa4 v.past:=by unfold qas;rw [if_pos h,if_pos h2,if_neg h3]
theorem qtl {v:Version} (h:idOk v.id=true) (h2:(qb8 v.dot&&(qaz v.pt&&qdu v.body))=true) (h3:qa4 v.past=0) (h4:inK v.past v.dot=true):qas v=3:=by unfold qas;rw [if_pos h,if_pos h2,if_pos h3,if_pos h4]
theorem qtm {v:Version} (h:idOk v.id=true) (h2:(qb8 v.dot&&(qaz v.pt&&qdu v.body))=true) (h3:qa4 v.past=0) (h4:inK v.past v.dot=false):qas v=0:=by unfold qas;rw [if_pos h,if_pos h2,if_pos h3,h4];rfl
theorem qyl (n:Int):betw n 0 1000000=qdu n:=by unfold betw qdu;rw [Bool.decide_and]
theorem qml (n:Int):qdu n=(!decide (n < 0)&&!decide (1000000 < n)):=by
 unfold qdu;rw [Bool.eq_iff_iff];simp
theorem qqh {d:Dot} (h:qb8 d=true) (k:Know):∃ s c:Nat,d.site=(s:Int)∧d.count=(c:Int)∧s < 5∧c < 1024∧hasK k s c=inK k d:=by
 obtain ⟨o1,o2,o3,o4⟩:=qar.1 h;refine ⟨d.site.toNat,d.count.toNat,by omega,by omega,by omega,by omega,?_⟩;rw [← qzl k _ _ (by omega)];congr 1;exact Dot.ext' (by show _=d.site;simp only;omega) (by show _=d.count;simp only;omega)
theorem qou (B:Nat) (v:Version) (Av:Option Addr) (cv:Nat) (Am:Option Addr) (cm:Nat) (w:World) (hi:InV B w Av cv Am cm v) :
  Calls Tryz.prog 149 #[.agg #[.string v.id, .int .i64 v.dot.site, .int .i64 v.dot.count, .int .i64 v.pt.tags, .int .i64 v.pt.num, .int .i64 v.body, .slice Av v.past.vec.length cv, .slice Am v.past.more.length cm]] w fun e w'=>e=.returned (.int .i64 (qas v))∧Ext w w':=by
 have HI:=hid hi;clear hi;have aY:=(Ext.refl w).alloc (.cells #[.string v.id, .int .i64 v.dot.site, .int .i64 v.dot.count, .int .i64 v.pt.tags, .int .i64 v.pt.num, .int .i64 v.body, .slice Av v.past.vec.length cv, .slice Am v.past.more.length cm] 151);go_enter Tryz.func149, Tryz.ntmps149;go_wp2_with fail;refine (qn0 v.id _).mono ?_;rintro e w1 ⟨rfl,aE⟩;have q1:w1.cell? ⟨w.heap.size,1,none⟩=some (.int .i64 v.dot.site):=aE.cell (by go_simp);have q2:w1.cell? ⟨w.heap.size,2,none⟩=some (.int .i64 v.dot.count):=aE.cell (by go_simp);have q3:w1.cell? ⟨w.heap.size,3,none⟩=some (.int .i64 v.pt.tags):=aE.cell (by go_simp);have q4:w1.cell? ⟨w.heap.size,4,none⟩=some (.int .i64 v.pt.num):=aE.cell (by go_simp);have q5:w1.cell? ⟨w.heap.size,5,none⟩=some (.int .i64 v.body):=aE.cell (by go_simp);have q6:w1.cell? ⟨w.heap.size,6,none⟩=some (.slice Av v.past.vec.length cv):=aE.cell (by go_simp);have q7:w1.cell? ⟨w.heap.size,7,none⟩=some (.slice Am v.past.more.length cm):=aE.cell (by go_simp);have hx:=aY.trans aE;clear aE
 cases h1:idOk v.id
 focus
  have HE:=hid (qtk h1);clear h1
 rotate_left
 focus
  have H1:=hid h1;clear h1;go_wp2_with fail;refine (qqp v.dot _).mono ?_;rintro e w2 ⟨rfl,aE⟩;replace q1:=aE.cell q1;replace q2:=aE.cell q2;replace q3:=aE.cell q3;replace q4:=aE.cell q4;replace q5:=aE.cell q5;replace q6:=aE.cell q6;replace q7:=aE.cell q7;replace hx:=hx.trans aE;clear aE
  cases h2:qb8 v.dot
  focus
   have HE:=hid (qe2 H1.out (by rw [h2];rfl));clear h2
  rotate_left
  focus
   have H2:=hid h2;clear h2;go_wp2_with fail;refine (qm2 v.pt _).mono ?_;rintro e w3 ⟨rfl,aE⟩;replace q1:=aE.cell q1;replace q2:=aE.cell q2;replace q3:=aE.cell q3;replace q4:=aE.cell q4;replace q5:=aE.cell q5;replace q6:=aE.cell q6;replace q7:=aE.cell q7;replace hx:=hx.trans aE;clear aE
   cases h3:qaz v.pt
   focus
    have HE:=hid (qe2 H1.out (by rw [h3,H2.out];rfl));clear h3
   rotate_left
   focus
    have H3:=hid h3;clear h3
    cases h4:decide (v.body < 0)
    focus
     cases h5:decide (1000000 < v.body)
     focus
      have H4:=hid (show qdu v.body=true by rw [qml,h4,h5];rfl);go_wp2_with fail;refine (qem B v.past Av cv Am cm _ (HI.out.k.ext hx)).mono ?_;rintro e w5 ⟨rfl,aE⟩;clear q3 q4 q5;replace q1:=aE.cell q1;replace q2:=aE.cell q2;replace q6:=aE.cell q6;replace q7:=aE.cell q7;replace hx:=hx.trans aE;clear aE
      by_cases h6:qa4 v.past=0
      focus
       rw [h6];have HK:=hid (qm7 h6);have H6:=hid h6;clear h6;go_wp2_with fail;refine (qqq B v.past Av cv Am cm v.dot _ (HI.out.k.ext hx) HK.out H2.out).mono ?_;rintro e w6 ⟨rfl,aE⟩;replace hx:=hx.trans aE;clear aE q1 q2 q6 q7
       cases h7:inK v.past v.dot
       focus
        have HE:=hid (qtm H1.out (by rw [H2.out,H3.out,H4.out];rfl) H6.out h7)
       rotate_left
       focus
        have HE:=hid (qtl H1.out (by rw [H2.out,H3.out,H4.out];rfl) H6.out h7)
      rotate_left 2
      focus
       have aV:(qa4 v.past !=0)=true:=by simpa using h6
       have HE:=hid (qp0 H1.out (by rw [H2.out,H3.out,H4.out];rfl) h6);clear h6
     rotate_left 3
     focus
      have HE:=hid (qe2 H1.out (by rw [qml,h4,h5,H3.out,H2.out];rfl))
    rotate_left 4
    focus
     have HE:=hid (qe2 H1.out (by rw [qml,h4,H3.out,H2.out];rfl))
 all_goals
  go_wp2_with fail;go_ret;exact ⟨qa8 HE.out.symm,hx⟩
theorem jau (B:Nat) (v:Version) (Av:Option Addr) (cv:Nat) (Am:Option Addr) (cm:Nat) (w:World) (hi:InV B w Av cv Am cm v) :
  Calls Tryz.prog 112 #[.agg #[.string v.id, .int .i64 v.dot.site, .int .i64 v.dot.count, .int .i64 v.pt.tags, .int .i64 v.pt.num, .int .i64 v.body, .slice Av v.past.vec.length cv, .slice Am v.past.more.length cm]] w fun e w'=>e=.returned (.int .i64 (qas v))∧Ext w w':=by
 have HI:=hid hi;clear hi;have aY:=(Ext.refl w).alloc (.cells #[.string v.id, .int .i64 v.dot.site, .int .i64 v.dot.count, .int .i64 v.pt.tags, .int .i64 v.pt.num, .int .i64 v.body, .slice Av v.past.vec.length cv, .slice Am v.past.more.length cm] 151);go_enter Tryz.func112, Tryz.ntmps112;go_wp2_with fail;refine (qw6 v.id HI.out.lid _).mono ?_;rintro e w1 ⟨rfl,aE⟩;have q1:w1.cell? ⟨w.heap.size,1,none⟩=some (.int .i64 v.dot.site):=aE.cell (by go_simp);have q2:w1.cell? ⟨w.heap.size,2,none⟩=some (.int .i64 v.dot.count):=aE.cell (by go_simp);have q3:w1.cell? ⟨w.heap.size,3,none⟩=some (.int .i64 v.pt.tags):=aE.cell (by go_simp);have q4:w1.cell? ⟨w.heap.size,4,none⟩=some (.int .i64 v.pt.num):=aE.cell (by go_simp);have q5:w1.cell? ⟨w.heap.size,5,none⟩=some (.int .i64 v.body):=aE.cell (by go_simp);have q6:w1.cell? ⟨w.heap.size,6,none⟩=some (.slice Av v.past.vec.length cv):=aE.cell (by go_simp);have q7:w1.cell? ⟨w.heap.size,7,none⟩=some (.slice Am v.past.more.length cm):=aE.cell (by go_simp);have hx:=aY.trans aE;clear aE
 cases h1:idOk v.id
 focus
  have HE:=hid (qtk h1);clear h1
 rotate_left
 focus
  have H1:=hid h1;clear h1;go_wp2_with fail;refine (quu v.dot _).mono ?_;rintro e w2 ⟨rfl,aE⟩;replace q1:=aE.cell q1;replace q2:=aE.cell q2;replace q3:=aE.cell q3;replace q4:=aE.cell q4;replace q5:=aE.cell q5;replace q6:=aE.cell q6;replace q7:=aE.cell q7;replace hx:=hx.trans aE;clear aE
  cases h2:qb8 v.dot
  focus
   have HE:=hid (qe2 H1.out (by rw [h2];rfl));clear h2
  rotate_left
  focus
   have H2:=hid h2;clear h2;go_wp2_with fail;refine (qsy v.pt _).mono ?_;rintro e w3 ⟨rfl,aE⟩;replace q1:=aE.cell q1;replace q2:=aE.cell q2;replace q3:=aE.cell q3;replace q4:=aE.cell q4;replace q5:=aE.cell q5;replace q6:=aE.cell q6;replace q7:=aE.cell q7;replace hx:=hx.trans aE;clear aE
   cases h3:qaz v.pt
   focus
    have HE:=hid (qe2 H1.out (by rw [h3,H2.out];rfl));clear h3
   rotate_left
   focus
    have H3:=hid h3;clear h3;go_wp2_with fail;refine (qb5 _ _ _ _).mono ?_;rintro e w4 ⟨rfl,rfl⟩;rw [qyl]
    cases h4:qdu v.body
    focus
     have HE:=hid (qe2 H1.out (by rw [h4,H3.out,H2.out];rfl));clear h4
    rotate_left
    focus
     have H4:=hid h4;clear h4;go_wp2_with fail;refine (qmw B v.past Av cv Am cm _ (HI.out.k.ext hx)).mono ?_;rintro e w5 ⟨rfl,aE⟩;clear q3 q4 q5;replace q1:=aE.cell q1;replace q2:=aE.cell q2;replace q6:=aE.cell q6;replace q7:=aE.cell q7;replace hx:=hx.trans aE;clear aE
     by_cases h6:qa4 v.past=0
     focus
      rw [h6];have HK:=hid (qm7 h6);have H6:=hid h6;clear h6;go_wp2_with fail;obtain ⟨s,c,hsd,hsc,eG,eY,hhas⟩:=qqh H2.out v.past;rw [hsd] at q1;rw [hsc] at q2;have HDS:=hid eG;have HDC:=hid eY;have HHas:=hid hhas;clear hsd hsc eG eY hhas;have HX:=hid hx;have aB:=hid (fun w' (x:Ext w5 w')=>show w'.cell? ⟨w.heap.size,1,none⟩=some (.int .i64 (s:Int))∧w'.cell? ⟨w.heap.size,2,none⟩=some (.int .i64 (c:Int))∧w'.cell? ⟨w.heap.size,6,none⟩=some (.slice Av v.past.vec.length cv)∧w'.cell? ⟨w.heap.size,7,none⟩=some (.slice Am v.past.more.length cm) from ⟨x.cell q1,x.cell q2,x.cell q6,x.cell q7⟩);clear q1 q2 q6 q7 hx;have aA:=(Ext.refl w5).drew;refine wp_region_held_drew (S:=fun w'=>w'.cell? ⟨w.heap.size,1,none⟩=some (.int .i64 (s:Int))∧w'.cell? ⟨w.heap.size,2,none⟩=some (.int .i64 (c:Int))∧w'.cell? ⟨w.heap.size,6,none⟩=some (.slice Av v.past.vec.length cv)∧w'.cell? ⟨w.heap.size,7,none⟩=some (.slice Am v.past.more.length cm)) (by kernel_rfl) (aB.out _ aA) (fun hHeld=>?_)
      obtain ⟨wc,aS⟩:=ex1 w5.drew;rw [← aS] at hHeld aA ⊢;clear aS;refine tkA 0 _ rfl ?_;(try simp only [gq,pq]);refine tkA 1 _ rfl ?_;(try simp only [gq,pq]);refine tkA 3 _ rfl ?_;(try simp only [gq,pq]);refine tkA 4 _ rfl ?_;(try simp only [gq,pq]);refine rd1 2 rfl fun K hK=>?_;simp only [gq];go_simp;refine (qlk B v.past Av cv Am cm wc (HI.out.k.ext (HX.out.trans aA)) HK.out).mono ?_;rintro e wn ⟨rfl,aC⟩;dsimp only;replace aA:=aA.trans aC;clear aC;obtain ⟨wc,rfl⟩:=ex1 wn;refine hK.out _ _ (aB.out _ aA) (fun hHeld=>?_);clear hK K;(try simp only [pq]);refine rd1 5 rfl fun K hK=>?_;simp only [gq];go_simp;refine (qg5 (hasK v.past) s c wc HDS.out HDC.out).mono ?_;rintro e wn ⟨rfl,aC⟩;dsimp only;replace aA:=aA.trans aC;clear aC;obtain ⟨wc,rfl⟩:=ex1 wn;refine hK.out _ _ (aB.out _ aA) (fun hHeld=>?_);clear hK K;(try simp only [pq]);refine wpAnyH_done (by kernel_rfl) ?_ _;rw [HHas.out];have hx:=HX.out.trans aA
      clear aA hHeld
      cases h7:inK v.past v.dot
      focus
       have HE:=hid (qtm H1.out (by rw [H2.out,H3.out,H4.out];rfl) H6.out h7)
      rotate_left
      focus
       have HE:=hid (qtl H1.out (by rw [H2.out,H3.out,H4.out];rfl) H6.out h7)
     rotate_left 2
     focus
      have aV:(qa4 v.past !=0)=true:=by simpa using h6
      have HE:=hid (qp0 H1.out (by rw [H2.out,H3.out,H4.out];rfl) h6);clear h6
 all_goals
  go_wp2_with fail;go_ret;exact ⟨qa8 HE.out.symm,hx⟩
end Go.Proofs.YtngbfdogiciahaaGreat
