/- Texts joined. -/
import Derived.Test.YtngbfdogiciahaaGreatWalks
import Derived.Deep.RegionWith
import Derived.Deep.DeepCutAuto
import Derived.Deep.RegionHeld3
set_option maxRecDepth 100000
set_option maxHeartbeats 40000000
namespace Go.Proofs.YtngbfdogiciahaaGreat
open Go
def inC (c:Cube) (t:Nat):Bool:=qce c.yes.toNat c.no.toNat t
theorem CubeOk.inC {c:Cube} {y n:Nat} (h:CubeOk c y n) (t:Nat):inC c t=qce y n t:=by simp [Proofs.YtngbfdogiciahaaGreat.inC,h.yes,h.no]
end Go.Proofs.YtngbfdogiciahaaGreat
namespace Go.Proofs.YtngbfdogiciahaaGreat
open Go Go.RowKit
def rowU (n:Nat) (T:Nat→Nat):Array Value:=rowF n fun i=>.int .u32 (T i)
theorem qdf (n:Nat) (T:Nat→Nat):(rowU n T).size=n:=qii _ _
theorem qhi {n:Nat} (T:Nat→Nat) {i:Nat} (h:i < n):(rowU n T)[i]?=some (.int .u32 (T i)):=qgd _ h
theorem qeo {n:Nat} {T U:Nat→Nat} (h:∀ i,i < n→T i=U i):rowU n T=rowU n U:=qgw fun i hi=>by rw [h i hi]
theorem qmz (n:Nat) (T:Nat→Nat):(rowU n T).all (·.oneCell')=true:=qr5 fun _=>rfl
theorem jdk (n:Nat) (T:Nat→Nat) (i v:Nat):(rowU n T).setIfInBounds i (.int .u32 (v:Int))=rowU n (fun j=>if j=i then v else T j):=by
 unfold rowU;rw [qr6];congr 1;funext j
 by_cases h:j=i <;> simp [h]
theorem Blk.setU {w:World} {b:Nat} {e:TypeId} {n:Nat} {T:Nat→Nat} (h:Blk w b e (rowU n T)) (i v:Nat):Blk (w.setCell ⟨b,i,none⟩ (.int .u32 (v:Int))) b e (rowU n fun j=>if j=i then v else T j):=by
 rw [← jdk];exact h.set i _
theorem qh7:qht Tryz.prog 208 16:=⟨⟨_,_,Tryz.underlying208⟩,by kernel_rfl⟩
theorem qn5:qcm Tryz.prog 208 (rowU 16 fun _=>0):=fun w=>by kernel_rfl
theorem jh0:∀ t,t≤32→∀ f,f < t→((2:Int) ^ t - 2 ^ f) % 4294967296=((2 ^ t - 2 ^ f:Nat):Int):=by decide +kernel
theorem jcc (c:Cube) (h:qaq c=0) (t:Nat) (ht:t < 16) (w:World):Calls Tryz.prog 144 #[.agg #[.int .i64 c.yes,.int .i64 c.no],.int .i64 t] w fun e w'=>e=.returned (.bool (inC c t))∧Ext w w':=by
 obtain ⟨y,n,hc⟩:=qnk h;rw [hc.inC];exact qnl c y n t hc ht w
theorem qfa (B:Nat) (A:Option Addr) (c:Nat) (f:List Box) (w:World) (hl:f.length≤maxLen) (aO:∀ b∈f,qgl b) (h:qaw B w A f) :
  Calls Tryz.prog 122 #[.slice A f.length c] w fun e w'=>e=.returned (.agg (rowU 16 (tab f)))∧Ext w w':=by
 unfold maxLen at hl;have aZ:=hid aO;clear aO;go_enter Tryz.func122, Tryz.ntmps122;go_wp2_with (first
  | ((with_reducible refine qa2 (o:=⟨some 2,_,_,_,_,_⟩) qn5 rfl rfl ?_);intro w1 aE aX bX)
  | ((with_reducible refine qa2 (o:=⟨some 3,_,_,_,_,_⟩) qn5 rfl rfl ?_);intro w2 aH aI bC))
 have hx2':=aE.trans aH;have aL:Blk w2 (w.heap.size+1) 208 (rowU 16 fun _=>0):=by rw [← bX];exact aI
 have hb1':=aX.ext aH;go_loopw [12] (fun i wr=>∃ k:Nat,k≤f.length∧i=.int .i64 k∧Blk wr (w.heap.size+1) 208 (rowU 16 (tab (f.take k)))∧Blk wr w.heap.size 208 (rowU 16 fun _=>0)∧Ext w wr) (fun i _=>f.length - (intOf i).toNat)
 case atStart=>exact ⟨0,Nat.zero_le _,rfl,aL,hb1',hx2'⟩
 obtain ⟨k,hk,rfl,hb,aq,hx⟩:=hrel
 by_cases aD:k < f.length
 ·obtain ⟨b,off,A',c',rfl,aw,g0,g1,g2,bW,hs⟩:=(h.ext RBox.monoE hx).box aD
  have hbok:=aZ.out _ (List.getElem_mem aD);obtain ⟨hso,hsn⟩:=qe6 hbok.2;have HBC:=hid hbok.1;have HSO:=hid hso;clear hbok hso;go_wp2_with fail;obtain ⟨wo,rfl⟩:=ex1 wr;go_loopw [6,19] (fun n i ws=>∃ j:Nat,j≤f[k].spans.length∧i=.int .i64 j∧n=.int .u32 (qcx (f[k].spans.take j):Nat)∧Ext (wo.alloc (.cells #[.int .i64 f[k].cube.yes,.int .i64 f[k].cube.no,.slice A' f[k].spans.length c'] 142)) ws) (fun _ i _=>f[k].spans.length - (intOf i).toNat)
  case atStart=>exact ⟨0,Nat.zero_le _,rfl,rfl,Ext.refl _⟩
  obtain ⟨j,hj,rfl,rfl,aM⟩:=hrel;have hxo:Ext wo wr:=((Ext.refl wo).alloc _).trans aM
  by_cases hjl:j < f[k].spans.length
  ·obtain ⟨b1,off1,rfl,hb1l,h1,h2⟩:=(hs.ext RPair.mono hxo).pair hjl
   obtain ⟨f0,f1,f2⟩:=HSO.out _ (List.getElem_mem hjl);have HT:=hid (qrc f[k].spans j hjl);have HL1:=hid (qjn (HSO.out.take j));obtain ⟨fr,hf⟩:=Int.eq_ofNat_of_zero_le f0;obtain ⟨tt,ht⟩:=Int.eq_ofNat_of_zero_le (show 0≤f[k].spans[j].to by omega);rw [hf] at h1 f1;rw [ht] at h2 f1 f2;have f1':fr < tt:=by omega
   have f2':tt≤32:=by omega
   have HT2:=hid (show qcx (f[k].spans.take (j+1))=qcx (f[k].spans.take j)||| (2 ^ tt - 2 ^ fr) by rw [HT.out,hf,ht,Int.toNat_natCast,Int.toNat_natCast]);clear hf ht f0 f1 f2 HT;generalize qcx (f[k].spans.take j)=acc at *;have e3:=jh0 tt f2' fr f1';have e4:=u32_or_nat acc (2 ^ tt - 2 ^ fr) HL1.out (qwe f1' f2');generalize 2 ^ tt - 2 ^ fr=mm at *;go_wp2_with fail;go_quiet (fail);go_wp2_with fail;go_roundw
   case rel=>exact ⟨j+1,by omega,by go_num,by rw [HT2.out],(aM.alloc _).drewN _⟩
   case measure=>simp [intOf];omega
  obtain rfl:j=f[k].spans.length:=by omega
  rw [List.take_length];have HNL:=hid (qjn HSO.out);have HTT:=hid (jdx f k aD);have HTL:=hid (fun t=>qgz (f:=f.take k) (fun b hb=>aZ.out b (List.mem_of_mem_take hb)) t);generalize qcx f[k].spans=acc at *;obtain ⟨T,hT⟩:=ex1 (tab (f.take k));rw [← hT] at hb HTT HTL;clear hT;have ft:w.heap.size+1 < wo.heap.size:=hb.lt;have hb:=hb.ext hxo;have aq:=aq.ext hxo;have hx:=hx.trans hxo;have p0:wr.cell? ⟨wo.heap.size,0,none⟩=some (.int .i64 f[k].cube.yes):=aM.cell (by go_simp);have p1:wr.cell? ⟨wo.heap.size,1,none⟩=some (.int .i64 f[k].cube.no):=aM.cell (by go_simp);have hwr:wo.heap.size < wr.heap.size:=by have:=aM.size;simp at this;omega
  clear aM hxo hj hjl;go_wp2_with fail;obtain ⟨wp,rfl⟩:=ex1 wr;go_loopw [33] (fun i ws=>∃ q:Nat,q≤16∧i=.int .i64 q∧Blk ws (w.heap.size+1) 208 (rowU 16 fun i=>if decide (i < q)&&qd9 f[k] i then T i||| acc else T i)∧Blk ws w.heap.size 208 (rowU 16 fun _=>0)∧
    ws.cell? ⟨wo.heap.size,0,none⟩=some (.int .i64 f[k].cube.yes)∧ws.cell? ⟨wo.heap.size,1,none⟩=some (.int .i64 f[k].cube.no)∧Ext w ws) (fun i _=>16 - (intOf i).toNat)
  case atStart=>
   refine ⟨0,by omega,rfl,?_,aq,p0,p1,hx⟩;rwa [qeo (U:=fun i=>if decide (i < 0)&&qd9 f[k] i then T i||| acc else T i) (fun i _=>by simp)] at hb
  obtain ⟨q,hq,rfl,hb,aq,p0,p1,hx⟩:=hrel
  by_cases eJ:q < 16
  ·have q0:(0:Int)≤q:=by omega
   have q4:(q:Int) < 16:=by omega
   go_wp2_with fail;refine (jcc f[k].cube HBC.out q eJ _).mono ?_;rintro e w2 ⟨rfl,aH⟩;replace hb:=hb.ext aH;replace aq:=aq.ext aH;replace p0:=aH.cell p0;replace p1:=aH.cell p1;replace hx:=hx.trans aH;have HB:=hid (show qd9 f[k] q=inC f[k].cube q from rfl)
   by_cases hp:inC f[k].cube q=true
   ·rw [hp]
    rw [hp] at HB;clear hp;have hc:=hb.cell (qhi _ eJ);have hz:=hb.frozen q;rw [if_neg (by simp)] at hc;have e4:=u32_or_nat (T q) acc (HTL.out q) HNL.out;go_wp2_with fail;have hs':=hb.setU q (T q||| acc);go_roundw
    case rel=>
     refine ⟨q+1,by omega,by go_num,?_,aq.far (by simp) _,?_,?_,hx.setCell (by simp) _⟩
     ·rwa [qeo (U:=fun i=>if decide (i < q+1)&&qd9 f[k] i then T i||| acc else T i) (fun i _=>by
       by_cases hi:i=q
       ·subst hi;simp [HB.out]
       rw [if_neg hi];have:(decide (i < q):Bool)=decide (i < q+1):=by rw [decide_eq_decide];omega
       rw [this])] at hs'
     ·exact (World.cell?_setCell_other _ _ _ _ (by intro e;injection e with e;omega)).trans p0
     exact (World.cell?_setCell_other _ _ _ _ (by intro e;injection e with e;omega)).trans p1
    case measure=>simp [intOf];omega
   rw [show inC f[k].cube q=false by simpa using hp];rw [show inC f[k].cube q=false by simpa using hp] at HB;clear hp;go_wp2_with fail;go_roundw
   case rel=>
    refine ⟨q+1,by omega,by go_num,?_,aq,p0,p1,hx⟩;rwa [qeo (U:=fun i=>if decide (i < q+1)&&qd9 f[k] i then T i||| acc else T i) (fun i _=>by
     by_cases hi:i=q
     ·subst hi;simp [HB.out]
     have:(decide (i < q):Bool)=decide (i < q+1):=by rw [decide_eq_decide];omega
     rw [this])] at hb
   case measure=>simp [intOf];omega
  obtain rfl:q=16:=by omega
  go_wp2_with fail;go_roundw
  case rel=>
   refine ⟨k+1,aD,by go_num,?_,aq,hx⟩;rwa [qeo (U:=tab (f.take (k+1))) (fun i hi=>by rw [HTT.out];simp [hi])] at hb
  case measure=>simp [intOf];omega
 obtain rfl:k=f.length:=by omega
 rw [List.take_length] at hb;go_wp2_with (first
  | ((with_reducible refine qap (o:=⟨some 48,_,_,_,_,_⟩) qh7 _ rfl rfl rfl hb (qdf _ _) ?_))
  | ((with_reducible refine qau (o:=⟨none,_,_,_,_,_⟩) qh7 _ _ rfl rfl rfl rfl aq (qdf _ _) (qdf _ _) (qmz _ _) ?_);intro w3 aM hb3' bv cE))
 exact qif rfl qh7 rfl hb3' (qdf _ _) rfl ⟨rfl,hx.below aM (Nat.le_refl _)⟩
theorem jgp:qcm Tryz.prog 260 (rowB 16 fun _=>false):=fun w=>by kernel_rfl
theorem jeb:ElemInfo Tryz.prog 30 142 3 40:=ElemInfo.mk_ (z:=.agg #[.int .i64 0,.int .i64 0,.slice none 0 0]) Tryz.underlying30 (by kernel_rfl) rfl (by decide)
theorem je8:∀ a,a < 16→∀ k,k < 4→bits .andNot .i64 ((a:Nat):Int) ((2:Int) ^ k)=((clr a k:Nat):Int):=by decide +kernel
theorem CubeOk.of {y n:Nat} (hy:y < 16) (hn:n < 16) (hd:y&&& n=0):CubeOk ⟨(y:Int),(n:Int)⟩ y n:=⟨rfl,rfl,hy,hn,hd⟩
theorem jgv (v n:Nat):(((v / 2 ^ n % 2:Nat):Int)==1)=v.testBit n:=by
 rw [Nat.testBit_eq_decide_div_mod_eq];have:v / 2 ^ n % 2=0∨v / 2 ^ n % 2=1:=by omega
 rcases this with h | h <;> simp [h]
theorem jgy (v:Nat) (h:v < 4294967296):bits .and .u32 (v:Int) 1=((v % 2:Nat):Int):=by
 have:=u32_and_nat v 1 h (by omega);rw [nat_mask1] at this;exact this
theorem qqm (tb tg:Nat) (T:Nat→Nat) (k n:Nat) (w:World) (hk:k < 16) (hn:n < 32) (hT:T k < 4294967296) (hb:Blk w tb 208 (rowU 16 T)) (ht:w.cell? ⟨tg,0,none⟩=some (.int .i64 k)) :
  Calls Tryz.prog 181 #[.int .i64 n,.pointer (some ⟨tb,0,none⟩),.pointer (some ⟨tg,0,none⟩)] w fun e w'=>e=.returned (.bool ((T k).testBit n))∧Ext w w':=by
 have hc:=hb.cell (qhi T hk);have e1:=jgy (T k / 2 ^ n) (Nat.lt_of_le_of_lt (Nat.div_le_self _ _) hT);have hm:((T k / 2 ^ n:Nat):Int)=(T k:Int) / 2 ^ n:=by rw [Int.natCast_ediv,Int.natCast_pow];rfl
 rw [hm] at e1;clear hm hT;have hB:=jgv (T k) n;generalize T k / 2 ^ n % 2=m at *;have HB:=hid hB;clear hB;go_enter Tryz.func181, Tryz.ntmps181;go_wp2_with fail;go_ret;exact ⟨qa7 HB.out,Ext.refl _⟩
def jb1 (T:Nat→Nat) (k dy dn o:Nat):Bool:=!qce dy dn o||T o==T k
theorem qm3 (B:Nat) (T:Nat→Nat) (hT:∀ i,T i < 4294967296) (w:World) (hB:B≤w.heap.size) :
  Calls Tryz.prog 135 #[.agg (rowU 16 T)] w fun e w'=>∃ v,e=.returned v∧qdo B w' v (qfx T)∧Ext w w':=by
 have HT:=hid hT;clear hT;go_enter Tryz.func135, Tryz.ntmps135;go_wp2_with (first
  | ((with_reducible refine qbr (o:=⟨some 1,_,_,_,_,_⟩) _ rfl rfl rfl ?_);intro w1 aE aX bX)
  | ((with_reducible refine qa2 (o:=⟨some 4,_,_,_,_,_⟩) jgp rfl rfl ?_);intro w2 aH aI bC))
 have hb1':=aX.ext aH;rw [bX] at aI;have aY:=aE.trans aH;have hz0:w.heap.size+2≤w2.heap.size:=by omega
 clear aE aH aX;go_loopw [3,12] (fun v i wr=>∃ k:Nat,k≤16∧i=.int .i64 k∧Own (RBox B) 3 142 wr (w.heap.size+2) v (boxK T k).2∧Blk wr w.heap.size 208 (rowU 16 T)∧Blk wr (w.heap.size+1) 260 (rowB 16 (boxK T k).1)∧Ext w wr) (fun _ i _=>16 - (intOf i).toNat)
 case atStart=>exact ⟨0,Nat.zero_le _,rfl,Own.nil,hb1',aI,aY⟩
 obtain ⟨k,hk,rfl,ho,hb,hd,hx⟩:=hrel
 by_cases aD:k < 16
 ·have k0:(0:Int)≤k:=by omega
  have k16:(k:Int) < 16:=by omega
  have hcd:=hd.cell (qeb _ aD);have hct:=hb.cell (qhi T aD);have hwt:w.heap.size < wr.heap.size:=hb.lt;have hwd:w.heap.size+1 < wr.heap.size:=hd.lt
  by_cases hskip:((boxK T k).1 k||T k==0)=true
  ·have HS:=hid (show boxK T (k+1)=boxK T k by rw [boxK,if_pos hskip])
   cases hD:(boxK T k).1 k
   ·have hT0:T k=0:=by simpa [hD] using hskip
    rw [hD] at hcd;rw [hT0] at hct;clear hskip hD hT0;go_wp2_with fail;go_roundw
    case rel=>exact ⟨k+1,aD,by go_num,by rw [HS.out];exact ho.ext RBox.monoE ((Ext.refl _).alloc _),hb.alloc _,by rw [HS.out];exact hd.alloc _,hx.alloc _⟩
    case measure=>simp [intOf];omega
   rw [hD] at hcd;clear hskip hD;go_wp2_with fail;go_roundw
   case rel=>exact ⟨k+1,aD,by go_num,by rw [HS.out];exact ho.ext RBox.monoE ((Ext.refl _).alloc _),hb.alloc _,by rw [HS.out];exact hd.alloc _,hx.alloc _⟩
   case measure=>simp [intOf];omega
  ·have HS:=hid (show boxK T (k+1)=_ by rw [boxK,if_neg hskip])
   have hD:(boxK T k).1 k=false:=by
    cases h:(boxK T k).1 k
    ·rfl
    simp [h] at hskip
   have hT0:((T k:Int)==0)=false:=by
    rw [qrn]
    cases h:(T k==0)
    ·rfl
    rw [hD,h] at hskip;simp at hskip
   rw [hD] at hcd;have e15:(15:Int) - k=((15 - k:Nat):Int):=by omega
   clear hskip hD;go_wp2_with fail;obtain ⟨wq,rfl⟩:=ex1 wr;go_loopw [28] (fun i ws=>∃ j:Nat,j≤4∧i=.int .i64 j∧Ext wq ws∧wq.heap.size+1 < ws.heap.size∧ws.cell? ⟨wq.heap.size,0,none⟩=some (.int .i64 k)∧
     ws.cell? ⟨wq.heap.size+1,0,none⟩=some (.int .i64 ((qd7 T k j).1:Nat))∧ws.cell? ⟨wq.heap.size+1,1,none⟩=some (.int .i64 ((qd7 T k j).2:Nat))∧ws.frozen? ⟨wq.heap.size+1,0,none⟩=false∧ws.frozen? ⟨wq.heap.size+1,1,none⟩=false) (fun i _=>4 - (intOf i).toNat)
   case atStart=>
    refine ⟨0,by omega,rfl,((Ext.refl _).alloc _).alloc _,?_,?_,?_,?_,?_,?_⟩
    ·simp
    ·go_simp
    ·go_simp;rfl
    ·go_simp;rfl
    ·go_simp
    go_simp
   obtain ⟨j,hj,rfl,aM,hz3,p0,p1,p2,z1,z2⟩:=hrel
   by_cases hj4:j < 4
   ·have g:=qk5 T k aD j (by omega)
    have hgy:=g.y;have hgn:=g.n;have hgd:=g.dis;have HG:=hid (show qd7 T k (j+1)=_ by rw [qd7]);have HY:=hid (show qd7 T k j=((qd7 T k j).1,(qd7 T k j).2) from rfl);clear g;generalize (qd7 T k j).1=y at *;generalize (qd7 T k j).2=n at *;have j0:(0:Int)≤j:=by omega
    have jl:(j:Int) < 4:=by omega
    have hsh:=jfc j hj4;have e1:=je8 y hgy j hj4;have e2:=je8 n hgn j hj4;have cC:=qvl j hj4 y hgy;have hcn:=qvl j hj4 n hgn;have hcd:=qyr j hj4 y hgy n hgn hgd;go_wp2_with fail;obtain ⟨wt,rfl⟩:=ex1 wr;go_cut [8] (fun s8 wx=>s8=.pointer (some ⟨wt.heap.size,0,none⟩)∧Ext wt wx∧wt.heap.size < wx.heap.size∧wx.cell? ⟨wt.heap.size,0,none⟩=some (.int .i64 (clr y j:Nat))∧wx.cell? ⟨wt.heap.size,1,none⟩=some (.int .i64 (clr n j:Nat)))
    case first=>
     go_region
     all_goals (go_wp2_with fail;go_meet;exact ⟨rfl,((Ext.refl _).alloc _).drew,by simp,by go_simp,by go_simp⟩)
    case rest=>
     obtain ⟨rfl,aj,hz4,d1,d2⟩:=hcut;have bN:=aM.trans aj;replace hz3:=Nat.lt_of_lt_of_le hz3 aj.size;replace z1:=(aj.frozenAt (World.block_lt_of_cell? _ _ p1)).trans z1;replace z2:=(aj.frozenAt (World.block_lt_of_cell? _ _ p1)).trans z2;have eK:wq.heap.size+1 < wt.heap.size:=World.block_lt_of_cell? _ _ p1
     replace p0 := aj.cell p0
     replace p1 := aj.cell p1
     replace p2 := aj.cell p2
     have hcx:CubeOk ⟨(clr y j:Nat),(clr n j:Nat)⟩ (clr y j) (clr n j):=CubeOk.of cC hcn hcd;generalize clr y j=dy at *;generalize clr n j=dn at *;have hbc:=hb.ext bN;have aS:wt.heap.size < wc.heap.size:=hz4;go_wp2_with fail;obtain ⟨wu,rfl⟩:=ex1 wc;go_loopw [9,42] (fun sm i ws=>∃ q:Nat,q≤16∧i=.int .i64 q∧sm=.bool (qds (jb1 T k dy dn) q)∧Ext wu ws) (fun _ i _=>16 - (intOf i).toNat)
     case atStart=>exact ⟨0,Nat.zero_le _,rfl,rfl,Ext.refl _⟩
     obtain ⟨q,hq,rfl,rfl,aT⟩:=hrel
     by_cases hq16:q < 16
     ·have q0:(0:Int)≤q:=by omega
      have q16:(q:Int) < 16:=by omega
      have HA:=hid (show qds (jb1 T k dy dn) (q+1)=(qds (jb1 T k dy dn) q&&(!qce dy dn q||T q==T k)) from rfl)
      replace p0 := aT.cell p0
      replace d1 := aT.cell d1
      replace d2 := aT.cell d2
      replace hbc := hbc.ext aT
      have fo:=hbc.cell (qhi T hq16);have cQ:=hbc.cell (qhi T aD);go_upto_region 16 with fail
      cases hA:qds (jb1 T k dy dn) q
      ·have HAq:=hid hA
       clear hA;go_quiet (fail);go_wp2_with fail;go_roundw
       case rel=>exact ⟨q+1,by omega,by go_num,by rw [HA.out,HAq.out];rfl,aT.trans ((Ext.refl _).drewN _)⟩
       case measure=>simp [intOf];omega
      ·have HAq:=hid hA
       clear hA
       cases hI:qce dy dn q
       ·have HI:=hid hI
        have HC:=hid (fun w=>qnl ⟨(dy:Nat),(dn:Nat)⟩ dy dn q hcx hq16 w);rw [hI] at HC;clear hI
        first | (go_region_with (go_at_call 144;refine (HC.out _).mono ?_;rintro e w7 ⟨rfl,ac⟩)) | fail
        all_goals
         go_wp2_with fail;go_roundw
         case rel=>exact ⟨q+1,by omega,by go_num,by rw [HA.out,HAq.out,HI.out];rfl,aT.trans ((Ext.refl _).drew.trans ac)⟩
         case measure=>simp [intOf];omega
       have HI:=hid hI;have HC:=hid (fun w=>qnl ⟨(dy:Nat),(dn:Nat)⟩ dy dn q hcx hq16 w);rw [hI] at HC;clear hI;go_region_held3 (fun w'=>w'.cell? ⟨wt.heap.size,0,none⟩=some (.int .i64 (dy:Nat))∧w'.cell? ⟨wt.heap.size,1,none⟩=some (.int .i64 (dn:Nat))∧w'.cell? ⟨w.heap.size,q,none⟩=some (.int .u32 (T q:Nat))∧w'.cell? ⟨w.heap.size,k,none⟩=some (.int .u32 (T k:Nat))∧w'.cell? ⟨wq.heap.size,0,none⟩=some (.int .i64 k)) (first | go_keep | (exact ⟨ac.cell (by assumption),ac.cell (by assumption),ac.cell (by assumption),ac.cell (by assumption),ac.cell (by assumption)⟩)) (first | (go_at_call 144;refine (HC.out _).mono ?_;rintro e w7 ⟨rfl,ac⟩));go_wp2_with fail;go_roundw
       case rel=>exact ⟨q+1,by omega,by go_num,by rw [HA.out,HAq.out,HI.out,qvk];rfl,aT.trans ((Ext.refl _).drew.trans ac)⟩
       case measure=>simp [intOf];omega
     obtain rfl:q=16:=by omega
     replace p0 := aT.cell p0
     replace p1 := aT.cell p1
     replace p2 := aT.cell p2
     replace d1 := aT.cell d1
     replace d2 := aT.cell d2
     replace z1:=(aT.frozenAt (by omega)).trans z1;replace z2:=(aT.frozenAt (by omega)).trans z2;have bY:=bN.trans aT;have hz9:wq.heap.size+1 < wr.heap.size:=World.block_lt_of_cell? _ _ p1
     cases hS:qds (jb1 T k dy dn) 16
     ·have HS':=hid (show qr9 T k (dy,dn)=false from hS)
      clear hS;go_wp2_with fail;go_roundw
      case rel=>
       have e:qd7 T k (j+1)=(y,n):=by rw [HG.out,HS'.out,HY.out];rfl
       exact ⟨j+1,by omega,by go_num,bY,hz9,p0,by rw [e];exact p1,by rw [e];exact p2,z1,z2⟩
      case measure=>simp [intOf];omega
     have HS':=hid (show qr9 T k (dy,dn)=true from hS);clear hS;go_wp2_with fail;go_roundw
     case rel=>
      have e:qd7 T k (j+1)=(dy,dn):=by rw [HG.out,HS'.out];rfl
      refine ⟨j+1,by omega,by go_num,(bY.setCell (by simp) _).setCell (by simp) _,by simpa using hz9,?_,?_,?_,?_,?_⟩
      ·go_simp
      ·rw [e];exact Blk2.first p1 p2
      ·rw [e];exact Blk2.second p1 p2
      ·go_simp
      go_simp
     case measure=>simp [intOf];omega
   ·obtain rfl:j=4:=by omega
    rw [show ((4:Nat):Int)=4 from rfl];have g:=qk5 T k aD 4 (by omega);have hcx:CubeOk ⟨((qd7 T k 4).1:Nat),((qd7 T k 4).2:Nat)⟩ (qd7 T k 4).1 (qd7 T k 4).2:=CubeOk.of g.y g.n g.dis;have HBX:=hid (show qp8 T k=⟨⟨((qd7 T k 4).1:Nat),((qd7 T k 4).2:Nat)⟩,qcb (fun n=>(T k).testBit n.toNat) 32⟩ from rfl);clear g;generalize (qd7 T k 4).1=y at *;generalize (qd7 T k 4).2=n at *;have hbc:=hb.ext aM;have eY:=hd.ext aM;have hoc:=ho.ext RBox.monoE aM;have hxc:=hx.trans aM;have am:=hid (show (boxK T k).2.length≤k from (ql1 T k (by omega)).len);generalize hD:(boxK T k).1=D at *;generalize hL:(boxK T k).2=L at *;clear hD hL;go_wp2_with fail;obtain ⟨wt,rfl⟩:=ex1 wr;have hwq2:w.heap.size+2≤wq.heap.size:=by omega
    go_loopw [65] (fun i ws=>∃ q:Nat,q≤16∧i=.int .i64 q∧Blk ws w.heap.size 208 (rowU 16 T)∧Blk ws (w.heap.size+1) 260 (rowB 16 fun o=>D o||(decide (o < q)&&qce y n o))∧Own (RBox B) 3 142 ws (w.heap.size+2) u3 L∧
      ws.cell? ⟨wq.heap.size,0,none⟩=some (.int .i64 k)∧ws.cell? ⟨wq.heap.size+1,0,none⟩=some (.int .i64 (y:Nat))∧ws.cell? ⟨wq.heap.size+1,1,none⟩=some (.int .i64 (n:Nat))∧Ext w ws) (fun i _=>16 - (intOf i).toNat)
    case atStart=>
     refine ⟨0,Nat.zero_le _,rfl,hbc,?_,hoc,p0,p1,p2,hxc⟩;rwa [qbv (q:=fun o=>D o||(decide (o < 0)&&qce y n o)) (fun i _=>by simp)] at eY
    clear hbc eY hoc hxc p0 p1 p2;obtain ⟨q,hq,rfl,hbc,eY,hoc,p0,p1,p2,hxc⟩:=hrel
    by_cases hq16:q < 16
    ·have q0:(0:Int)≤q:=by omega
     have q16:(q:Int) < 16:=by omega
     have fo:=eY.cell (qeb _ hq16);have hzq:=eY.frozen q;rw [show (D q||(decide (q < q)&&qce y n q))=D q by simp] at fo
     cases hDq:D q
     focus
      rw [hDq] at fo;have HDq:=hid hDq;clear hDq;go_wp2_with fail;refine (qnl ⟨(y:Nat),(n:Nat)⟩ y n q hcx hq16 _).mono ?_;rintro e w7 ⟨rfl,ac⟩;replace fo:=ac.cell fo;replace hzq:=(ac.frozenAt eY.lt).trans hzq
      replace p0 := ac.cell p0
      replace p1 := ac.cell p1
      replace p2 := ac.cell p2
      replace hbc := hbc.ext ac
      replace eY := eY.ext ac
      replace hoc := hoc.ext RBox.monoE ac
      replace hxc := hxc.trans ac
      go_wp2_with fail;have hs':=eY.setB q (qce y n q)
     rotate_left
     focus
      rw [hDq] at fo;have HDq:=hid hDq;clear hDq;go_wp2_with fail;have hs':=eY.setB q true
     all_goals
      go_roundw
      case rel=>
       refine ⟨q+1,by omega,by go_num,hbc.far (by simp) _,?_,hoc.setBelow (by show w.heap.size+1 < w.heap.size+2;omega) _ (fun cs x h=>?_),?_,?_,?_,hxc.setCell (by simp) _⟩
       ·rwa [qbv (q:=fun o=>D o||(decide (o < q+1)&&qce y n o)) (fun i _=>by
         by_cases hi:i=q
         ·subst hi;simp [HDq.out]
         rw [if_neg hi];have:(decide (i < q):Bool)=decide (i < q+1):=by rw [decide_eq_decide];omega
         rw [this])] at hs'
       ·obtain ⟨v,rfl,hv⟩:=h
        exact ⟨v,rfl,hv.chg RPair.mono (by decide) (Chg.setCell (ts:=[260]) (Chg.refl _) (by show tyAt _ (w.heap.size+1)=_;exact eY.ty) (by simp) _ (by show B≤w.heap.size+1;omega))⟩
       ·exact (World.cell?_setCell_other _ _ _ _ (by intro e;injection e with e;omega)).trans p0
       ·exact (World.cell?_setCell_other _ _ _ _ (by intro e;injection e with e;omega)).trans p1
       exact (World.cell?_setCell_other _ _ _ _ (by intro e;injection e with e;omega)).trans p2
      case measure=>simp [intOf];omega
    ·obtain rfl:q=16:=by omega
     clear hq hq16;have hdc':Blk wr (w.heap.size+1) 260 (rowB 16 fun o=>D o||qce y n o):=by
      rwa [qbv (q:=fun o=>D o||qce y n o) (fun i hi=>by simp [hi])] at eY
     clear eY;have aw:=hbc.lt;have hTk:=HT.out k;have hLl:L.length≤k:=am.out;have HBX':=HBX;have HM:=hid (jbc B 181 #[.pointer (some ⟨w.heap.size,0,none⟩),.pointer (some ⟨wq.heap.size,0,none⟩)] (fun i=>(T k).testBit i.toNat) wr.drew (by show B≤wr.heap.size;omega) Tryz.call181 (fun i wn hi dQ=>qqm _ _ T k i wn aD hi hTk ((hbc.ext (Ext.refl _).drew).ext dQ) (dQ.cell p0)));go_wp2_with fail;go_region_law (first
      | ((with_reducible refine jbh (dst:=some 82) Tryz.call180 ?_ HM.out ?_);(rfl);rintro e w8 ⟨v8,rfl,hv8,a7⟩;obtain ⟨A8,c8,rfl,hv8a,hv8b,hv8c⟩:=hv8;refine ⟨_,rfl,?_⟩;have p1':=a7.cell p1;have p2':=a7.cell p2)
      | ((with_reducible refine jdu (dst:=some 85) (l:=L) (ys:=[qp8 T k]) (B:=B) (c:=1) (A:=some ⟨w8.heap.size,0,none⟩) (B':=B) (e':=142) jeb ?_ (hoc.ext RBox.monoE (((Ext.refl wr).drew.trans a7).alloc _)) ?_ ?_ ?_ (Sl.one (w:=w8) (cs:=[.int .i64 (y:Nat),.int .i64 (n:Nat),.slice A8 (qcb (fun n=>(T k).testBit n.toNat) 32).length c8]) ?_ ?_ ?_) RBox.oneC (RBox.mono ?_) ?_ ?_ ?_);(rfl);(omega);(simp;have:=a7.size;simp at this;omega);(rfl);(rfl);(rfl);(rw [HBX'.out];exact ⟨_,rfl,A8,c8,rfl,hv8a,hv8b,hv8c.ext RPair.mono ((Ext.refl _).alloc _)⟩);(decide);(simp [maxLen];omega);(simp;omega);intro v9 w9 bk hc9 ao _))
     all_goals
      have bQ:=(((Ext.refl wr).drew.trans a7).alloc (.cells #[.int .i64 (y:Nat),.int .i64 (n:Nat),.slice A8 (qcb (fun i=>(T k).testBit i.toNat) 32).length c8] 142))
      have hbc':=(hbc.ext bQ).below ao (by omega);have hdc2:=(hdc'.ext bQ).below ao (by omega);have hxc':=(hxc.trans bQ).below ao (by omega);clear bQ ao hc9 hbc hdc' hxc p1' p2' p0 p1 p2;go_wp2_with fail;go_roundw
      case rel=>exact ⟨k+1,aD,by go_num,by rw [HS.out];exact bk,hbc',by rw [HS.out];exact hdc2,hxc'⟩
      case measure=>simp [intOf];omega
 obtain rfl:k=16:=by omega
 go_wp2_with fail;go_ret;exact ⟨_,rfl,ho.isSl B,hx⟩
end Go.Proofs.YtngbfdogiciahaaGreat
