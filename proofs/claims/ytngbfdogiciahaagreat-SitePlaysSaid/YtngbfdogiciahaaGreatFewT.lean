/- The walks of the reference's Narrowed, SayParts. -/
import Derived.Test.YtngbfdogiciahaaGreatJoinKnE
set_option maxRecDepth 100000
set_option maxHeartbeats 40000000
namespace Go.Proofs.YtngbfdogiciahaaGreat
open Go Go.RowKit
theorem qeu {P:Program} {ops:Array Oper} {S:World→Prop} {t:TypeId} {n:Nat} (ri:qc0 P t n) {o:Oper} {a:Act} (hw:Region.wanted o (yielded ops a.tmps)=true) (x:Operand) (ho:o.op=.load t x) {b i:Nat} (hx:a.eval x=.pointer (some ⟨b,i,none⟩)) {cs:Array Value} (hS:∀ w,S w→w.rangeAt b i cs.toList) (hn:cs.size=n):YieldsIf P ops S o (.agg cs) a:=by
 obtain ⟨⟨d,hu,hd⟩,hi⟩:=ri;have h:=yieldsIf_load_mid (P:=P) (ops:=ops) (S:=S) (op:=o) (a:=a) hw t x ho b i hx cs.toList d hS hu hd (by rw [hi,Array.length_toList,hn]);rwa [Array.toArray_toList] at h
theorem jf3 (a b:Bool) (w:World):Calls Tryz.prog 165 #[.bool a,.bool b] w fun e w'=>e=.returned (.bool (a&&b))∧w=w':=by
 cases a
 ·go_enter Tryz.func165, Tryz.ntmps165
  go_wp2_with fail;go_ret;exact ⟨rfl,rfl⟩
 go_enter Tryz.func165, Tryz.ntmps165;go_wp2_with fail;go_ret;exact ⟨rfl,rfl⟩
theorem qg9 (B:Nat) (A:Option Addr) (c:Nat) (l:List RP) (F:Nat→Bool) (w:World) (hl:l.length≤1000) (h:qe3 B w A l) :
  Calls Tryz.prog 100 #[.slice A l.length c,.agg (rowB 512 F)] w fun e w'=>∃ v,e=.returned v∧Own RRef 592 186 w' w.heap.size v (fewR (l.map (qck F)))∧Ext w w':=by
 go_enter Tryz.func100, Tryz.ntmps100;go_wp2_with ((with_reducible refine qbr (o:=⟨some 3,_,_,_,_,_⟩) _ rfl rfl rfl ?_);intro w1 aE aX bX);go_loopw [10,5] (fun i v wr=>∃ k:Nat,k≤l.length∧i=.int .i64 k∧Own RRef 592 186 wr (w.heap.size+1) v ((l.take k).map (qck F))∧Blk wr w.heap.size 73 (rowB 512 F)∧Ext w wr) (fun i _ _=>l.length - (intOf i).toNat)
 case atStart=>exact ⟨0,Nat.zero_le _,rfl,Own.nil,aX,aE⟩
 clear aX bX aE;obtain ⟨k,hk,rfl,aQ,hbF,hx⟩:=hrel
 by_cases aD:k < l.length
 ·obtain ⟨b,off,rfl,hb,hr⟩:=(h.ext RRef.mono hx).ref aD
  have am:=hid (show ((l.take k).map (qck F)).length+1≤1001 by rw [List.length_map,List.length_take];omega);have fX:=hid (show (l.take (k+1)).map (qck F)=(l.take k).map (qck F)++[qck F l[k]] by rw [List.take_succ_eq_append_getElem aD,List.map_append];rfl);obtain ⟨X,hX⟩:=ex1 (l[k]);rw [← hX] at hr fX;have HVR:=hid (fun g hg=>(aQ.lt (g:=g) hg).2);have HVF:=hid (fun g hg=>(aQ.lt (g:=g) hg).1);have hwr:=hx.size;have hwf:=hbF.lt;clear hX;go_wp2_with (first
   | ((with_reducible refine qa1 (o:=⟨some 13,_,_,_,_,_⟩) qc7 _ rfl rfl rfl hr (qa5 _) ?_))
   | ((with_reducible refine qa2 (o:=⟨some 7,_,_,_,_,_⟩) qj9 rfl rfl ?_);intro w1 aE aX bX)
   | ((with_reducible refine qa3 (o:=⟨none,_,_,_,_,_⟩) qc7 _ _ rfl rfl rfl rfl aX (qa5 _) (qa5 ⟨fun _=>false,fun _ _=>false⟩) (qcq _) ?_);intro wa aH aI bC aR;have aK:=aE.below aH (Nat.le_refl _);clear aE aH hr))
  obtain ⟨r,hr⟩:=ex1 wr.heap.size;rw [← hr] at HVR aI ⊢;have HWS:=hid (show w.heap.size+1≤wa.heap.size by have:=aK.size;omega);have dS:=hid (hx.trans aK);replace aQ:=aQ.ext (RRef.mono (B:=0)) aK;have hbF2:=hbF.ext aK;have aB:=hid (fun w' (x:Ext wa w')=>show Blk w' r 186 (rowB 512 X.P++rowD X.K)∧Blk w' w.heap.size 73 (rowB 512 F) from ⟨aI.ext x,hbF2.ext x⟩);clear aI hbF hbF2 aK hx bX bC aR aX hr hwr hwf;have aA:=(Ext.refl wa).drew;replace aQ:=aQ.ext (RRef.mono (B:=0)) aA;refine wp_region_held_drew (S:=fun w'=>Blk w' r 186 (rowB 512 X.P++rowD X.K)∧Blk w' w.heap.size 73 (rowB 512 F)) (by kernel_rfl) (aB.out _ aA) (fun hHeld=>?_);obtain ⟨wc,aS⟩:=ex1 wa.drew;rw [← aS] at hHeld aA aQ ⊢;clear aS;refine tkA 0 _ rfl ?_;(try simp only [gq,pq]);refine tkA 1 _ rfl ?_;(try simp only [gq,pq]);refine wpAnyH_take (i:=2) (oi:=_) (v:=_) rfl (by kernel_rfl) (by kernel_rfl) (by kernel_rfl) (fun _ _ _ h=>h) (qeu qbb (by rfl) (.tmp 15) rfl (by rfl) (fun w' hS=>qsw hS.1) (qa6 _ _)) (by assumption) ?_
  (try simp only [gq,pq]);refine wpAnyH_take (i:=3) (oi:=_) (v:=_) rfl (by kernel_rfl) (by kernel_rfl) (by kernel_rfl) (fun _ _ _ h=>h) (qeu qbb (by rfl) (.tmp 3) rfl (by rfl) (fun w' hS=>hS.2.whole) (qa6 _ _)) (by assumption) ?_;(try simp only [gq,pq]);refine tkA 5 _ rfl ?_;(try simp only [gq,pq]);refine wpAnyH_take (i:=6) (oi:=_) (v:=_) rfl (by kernel_rfl) (by kernel_rfl) (by kernel_rfl) (fun _ _ _ h=>h) (qeu qe9 (by rfl) (.tmp 19) rfl (by rfl) (fun w' hS=>qr4 hS.1) (qad _)) (by assumption) ?_;(try simp only [gq,pq]);refine rd1 4 rfl fun K hK=>?_;simp only [gq];go_simp;refine (qr3 165 (fun a b=>a&&b) X.P F wc Tryz.call165 jf3).mono ?_;rintro e wn ⟨rfl,aC⟩;dsimp only;replace aQ:=aQ.ext (RRef.mono (B:=0)) aC;replace aA:=aA.trans aC;clear aC;obtain ⟨wc,rfl⟩:=ex1 wn;refine hK.out _ _ (aB.out _ aA) (fun hHeld=>?_);clear hK K;(try simp only [pq]);refine rd1 7 rfl fun K hK=>?_
  simp only [gq];simp only [Region.wanted,if_true];refine qp5 jai (.tmp 18) (.tmp 20) rfl (by rfl) (by rfl) (qa6 _ _) (qad _) ?_;generalize bK:(rowB 512 fun i=>X.P i&&F i)++rowD X.K=cs;have HCS:=hid bK.symm;clear bK;refine hK.out _ _ (aB.out _ aA) (fun hHeld=>?_);clear hK K;(try simp only [pq]);refine rd1 8 rfl fun K hK=>?_;simp only [gq];simp only [Region.wanted,if_true];refine qhp Tryz.underlying75 qi5 ⟨by omega,by omega⟩ (.tmp 21) rfl (by rfl) (by rw [HCS.out];exact qa5 (qck F X)) ?_;have aC:=(Ext.refl wc).alloc (.cells cs 186);obtain ⟨wn,aP⟩:=ex1 (wc.alloc (.cells cs 186));have hL8:qe3 0 wn (some ⟨wc.heap.size,0,none⟩) [qck F X]:=Sl.one (cs:=cs.toList) (by rw [aP,Array.toArray_toList]) (by rw [HCS.out,Array.length_toList];exact qa5 (qck F X)) (by unfold RRef;rw [HCS.out];rfl);obtain ⟨a8,ha8⟩:=ex1 (some (⟨wc.heap.size,0,none⟩:Addr));rw [← aP] at aC;rw [← aP,← ha8]
  rw [← ha8] at hL8;replace aQ:=aQ.ext (RRef.mono (B:=0)) aC;replace aA:=aA.trans aC;clear aC aP ha8;obtain ⟨wc,rfl⟩:=ex1 wn;refine hK.out _ _ (aB.out _ aA) (fun hHeld=>?_);clear hK K;(try simp only [pq]);refine rd1 9 rfl fun K hK=>?_;simp only [gq];simp only [Region.wanted,if_true];refine qh2 (.tmp 14) (.tmp 22) rfl qz4 rfl aQ (B:=0) (Nat.zero_le _) (Nat.le_trans HWS.out aA.size) (ys:=[qck F X]) (c:=1) rfl hL8 RRef.oneC RRef.mono (by have:=am.out;simp [maxLen];omega) (by have:=am.out;simp;omega) ?_;intro v9 wn hL9 ah aw cJ;have aV:some r≠u5.ownBlock:=fun e=>by have:=HVR.out r e.symm;omega
  have fS:some w.heap.size≠u5.ownBlock:=fun e=>by have:=HVF.out _ e.symm;omega
  have hq:=aB.out wc aA;have al:=(dS.out.trans aA).below aw (by omega);have hqa:Blk wn r 186 (rowB 512 X.P++rowD X.K):=(cJ.block r hq.1.lt aV).trans hq.1;have hqb:Blk wn w.heap.size 73 (rowB 512 F):=(cJ.block _ hq.2.lt fS).trans hq.2;refine hK.out _ _ ⟨hqa,hqb⟩ (fun hHeld=>?_);clear ah aw cJ aV fS hq aQ hL8 aA hqa;clear hK K;(try simp only [pq]);refine tkA 10 _ rfl ?_;(try simp only [gq,pq]);refine wpAnyH_done (by kernel_rfl) ?_ _;go_wp2_with fail;go_roundw
  case rel=>
   refine ⟨k+1,aD,by go_num,?_,hqb,al⟩;rw [fX.out];exact hL9
  case measure=>simp [intOf];omega
 obtain rfl:k=l.length:=by omega
 rw [List.take_length] at aQ;obtain ⟨NL,hNL⟩:=ex1 (l.map (qck F));have HNL:=hid hNL;have HLn:=hid (show NL.length≤1000 by rw [hNL,List.length_map];exact hl);rw [← hNL] at aQ;obtain ⟨A5,c5,rfl,_,_⟩:=aQ.len;clear hNL;go_wp2_with fail;refine (quv 0 A5 c5 NL wr HLn.out (aQ.sl 0)).mono ?_;rintro e w2 ⟨v2,rfl,bx,aH⟩;rw [HNL.out] at bx;go_wp2_with fail;go_ret;exact ⟨_,rfl,bx.weaken hx.size,hx.trans aH⟩
theorem jg8 {w:World} {b o:Nat} {x:RP} (h:w.rangeAt b o (rowB 512 x.P++rowD x.K).toList):w.rangeAt b o (rowB 512 x.P).toList:=fun j v hv=>by
 refine h j v ?_;have hj:j < 512:=by have:=(List.getElem?_eq_some_iff.1 hv).1;rwa [Array.length_toList,qa6] at this
 rw [Array.getElem?_toList] at hv ⊢;rwa [Array.getElem?_append_left (by rw [qa6];exact hj)]
theorem jg7 {w:World} {b o:Nat} {x:RP} (h:w.rangeAt b o (rowB 512 x.P++rowD x.K).toList):w.rangeAt b (o+512) (rowD x.K).toList:=fun j v hv=>by
 rw [Nat.add_assoc];refine h (512+j) v ?_;rw [Array.getElem?_toList] at hv ⊢;rwa [Array.getElem?_append_right (by rw [qa6];omega),qa6,show 512+j - 512=j by omega]
theorem qie (B B':Nat) (A A':Option Addr) (c c':Nat) (l:List Part) (want:List RP) (w:World) (hl:l.length≤1000) (hs:SayOk l want) (h:qcg B w A l) (g:qe3 B' w A' want) :
  Calls Tryz.prog 41 #[.slice A l.length c,.slice A' want.length c'] w fun e w'=>e=.returned (.bool true)∧Ext w w':=by
 have HS:=hid hs;have HLL:=hid hs.len;rw [← HLL.out];clear hs;go_enter Tryz.func41, Tryz.ntmps41;go_wp2_with fail;go_loopw [16] (fun i wr=>∃ k:Nat,k≤l.length∧i=.int .i64 k∧Ext w wr) (fun i _=>l.length - (intOf i).toNat)
 case atStart=>exact ⟨0,Nat.zero_le _,rfl,Ext.refl _⟩
 obtain ⟨k,hk,rfl,hx⟩:=hrel
 by_cases aD:k < l.length
 ·obtain ⟨b,off,Af,cf,Av,cv,Am,cm,rfl,hb,g0,g1,g2,hp⟩:=(h.ext RPart.monoE hx).part aD
  have hlw:k < want.length:=by have:=HLL.out;omega
  obtain ⟨b',off',hA',hb',hr⟩:=(g.ext RRef.mono hx).ref hlw;subst hA';have aZ:=hid (HS.out.at_ k l[k] want[k] (List.getElem?_eq_getElem aD) (List.getElem?_eq_getElem hlw));obtain ⟨X,hX⟩:=ex1 (want[k]);rw [← hX] at hr aZ;have HP:=hid hp;have k0:(0:Int)≤k:=by omega
  have k1:(k:Int) < l.length:=by omega
  clear hX hp hlw;go_wp2_with fail;have q0:(wr.alloc (.cells #[.slice Af l[k].filter.length cf,.slice Av l[k].know.vec.length cv,.slice Am l[k].know.more.length cm] 181)).cell? ⟨wr.heap.size,0,none⟩=some (.slice Af l[k].filter.length cf):=by go_simp
  have q1:(wr.alloc (.cells #[.slice Af l[k].filter.length cf,.slice Av l[k].know.vec.length cv,.slice Am l[k].know.more.length cm] 181)).cell? ⟨wr.heap.size,1,none⟩=some (.slice Av l[k].know.vec.length cv):=by go_simp
  have q2:(wr.alloc (.cells #[.slice Af l[k].filter.length cf,.slice Av l[k].know.vec.length cv,.slice Am l[k].know.more.length cm] 181)).cell? ⟨wr.heap.size,2,none⟩=some (.slice Am l[k].know.more.length cm):=by go_simp
  have aK:=(Ext.refl wr).alloc (.cells #[.slice Af l[k].filter.length cf,.slice Av l[k].know.vec.length cv,.slice Am l[k].know.more.length cm] 181);obtain ⟨wa,cD⟩:=ex1 (wr.alloc (.cells #[.slice Af l[k].filter.length cf,.slice Av l[k].know.vec.length cv,.slice Am l[k].know.more.length cm] 181));obtain ⟨r,hr0⟩:=ex1 wr.heap.size;rw [← cD] at q0 q1 q2 aK ⊢;rw [← hr0] at q0 q1 q2 ⊢;clear cD hr0 g0 g1 g2;have HX:=hid (hx.trans aK);have aB:=hid (fun w' (x:Ext wa w')=>show w'.cell? ⟨r,0,none⟩=some (.slice Af l[k].filter.length cf)∧w'.cell? ⟨r,1,none⟩=some (.slice Av l[k].know.vec.length cv)∧w'.cell? ⟨r,2,none⟩=some (.slice Am l[k].know.more.length cm) from ⟨x.cell q0,x.cell q1,x.cell q2⟩);have HWR:=hid (fun w' (x:Ext wa w')=>qb9 (aK.trans x) hr);have HWP:=hid (fun w' (x:Ext wa w')=>jg8 (HWR.out w' x));have HMn:=hid (fun w' (x:Ext wa w')=>qon B Af cf l[k].filter X.P w' aZ.out.1 aZ.out.2.1 aZ.out.2.2.1 (HP.out.sf.ext RBox.monoE (aK.trans x)))
  have HPn:=hid (fun w' (x:Ext wa w')=>HP.out.ext (aK.trans x));clear q0 q1 q2 aK hx hr;refine qaj (fun w'=>Ext wa w') (by kernel_rfl) (by kernel_rfl) (Ext.refl _).drew ?_
  iterate 6
   refine wqg aB.out _ ?_;try simp only [pq]
  refine qet qbb (by rfl) (fun w' x=>HWP.out w' x) (qa6 _ _) ?_;(try simp only [pq]);refine qgk Tryz.call40 (by rfl) (fun w' x=>(HMn.out w' x).mono fun _ _ h=>⟨h.1,x.trans h.2⟩) ?_;(try simp only [pq]);refine wqg aB.out _ ?_;(try simp only [pq]);refine qcf ?_;intro w2 aA;have hrK:=jg7 (HWR.out _ aA);go_wp2_with ((with_reducible refine qa1 (o:=⟨some 35,_,_,_,_,_⟩) qe9 _ rfl rfl rfl hrK (qad _) ?_));refine (qw5 X.K _).mono ?_;rintro e w3 ⟨x,rfl,hk3,aM⟩;rw [aZ.out.2.2.2.1] at hk3 ⊢;have fN:decide (l[k].know.more.length≤60)=true:=decide_eq_true aZ.out.2.2.2.2;rw [fN];obtain ⟨Ax,cx,Ay,cy,rfl,_,_,_,_,hk3⟩:=hk3;obtain ⟨q0,q1,q2⟩:=aB.out _ (aA.trans aM);have cS:=aA.trans aM;have cR:r < w3.heap.size:=World.block_lt_of_cell? _ _ q0;clear hrK aA aM fN;go_wp2_with fail;have aC:=(Ext.refl w3).alloc (.cells #[.slice Ax l[k].know.vec.length cx,.slice Ay l[k].know.more.length cy] 101)
  refine (qid B 0 l[k].know l[k].know Av cv Am cm Ax cx Ay cy _ (HPn.out _ (cS.trans aC)).k (hk3.ext aC)).mono ?_;rintro e w4 ⟨rfl,aj⟩;rw [show decide (l[k].know=l[k].know)=true from by simp];go_wp2_with fail;go_roundw
  case rel=>exact ⟨k+1,aD,by go_num,((HX.out.trans cS).trans aC).trans aj⟩
  case measure=>simp [intOf];omega
 obtain rfl:k=l.length:=by omega
 go_wp2_with fail;go_ret;exact ⟨rfl,hx⟩
end Go.Proofs.YtngbfdogiciahaaGreat
