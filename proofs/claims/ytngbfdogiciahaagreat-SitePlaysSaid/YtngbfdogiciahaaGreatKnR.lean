/- The walk of the reference's Know. -/
import Derived.Test.YtngbfdogiciahaaGreatJoinFilC
import Derived.Test.YtngbfdogiciahaaGreatKnM
set_option maxRecDepth 100000
set_option maxHeartbeats 40000000
namespace Go.Proofs.YtngbfdogiciahaaGreat
open Go Go.RowKit
def Lead (v:List Int) (j:Nat) (u:List Int):Prop:=u.length=5∧∀ s:Nat,s < 5→qab u s=qab (v.take j) s
theorem Lead.start (v:List Int):Lead v 0 [0,0,0,0,0]:=by
 refine ⟨rfl,fun s hs=>?_⟩;rw [List.take_zero,qth]
 match s,hs with
 | 0,_=>rfl
 | 1,_=>rfl
 | 2,_=>rfl
 | 3,_=>rfl
 | 4,_=>rfl
theorem Lead.step {v u:List Int} {j:Nat} (h:Lead v j u) (hj:j < v.length) (h5:j < 5):Lead v (j+1) (u.set j v[j]):=by
 refine ⟨by simp [h.1],fun s hs=>?_⟩;have e1:=qks u j s v[j] (by omega) (by omega) (by simp [h.1];omega);rw [Int.toNat_natCast] at e1;rw [e1,qh0]
 by_cases e:s=j
 ·subst e
  rw [if_pos rfl,if_pos (by omega),qj0 hj]
 rw [if_neg (by omega),h.2 s hs,qh0]
 by_cases g:s < j
 ·rw [if_pos g,if_pos (by omega)]
 rw [if_neg g,if_neg (by omega)]
theorem Lead.full {v u:List Int} (h:Lead v v.length u):u.length=5∧∀ s:Nat,s < 5→qab u s=qab v s:=⟨h.1,fun s hs=>by rw [h.2 s hs,List.take_length]⟩
theorem qmw (B:Nat) (k:Know) (Av:Option Addr) (cv:Nat) (Am:Option Addr) (cm:Nat) (w:World) (h:InK B w Av Am k) :
  Calls Tryz.prog 105 #[.agg #[.slice Av k.vec.length cv, .slice Am k.more.length cm]] w fun e w'=>e=.returned (.int .i64 (qa4 k))∧Ext w w':=by
 have aY:=(Ext.refl w).alloc (.cells #[.slice Av k.vec.length cv,.slice Am k.more.length cm] 101)
 by_cases aX:5 < k.vec.length
 ·have HE:=hid (qfe (.inl aX))
  go_enter Tryz.func105, Tryz.ntmps105;go_wp2_with fail;go_ret;exact ⟨qa8 HE.out.symm,aY⟩
 by_cases aI:60 < k.more.length
 ·have HE:=hid (qfe (.inr aI))
  have hb1':decide ((5:Int) < k.vec.length)=false:=by simp;omega
  go_enter Tryz.func105, Tryz.ntmps105;go_wp2_with fail;go_ret;exact ⟨qa8 HE.out.symm,aY⟩
 have HE:=hid (qm6 (k:=k) (by omega));have hb1':decide ((5:Int) < k.vec.length)=false:=by simp;omega
 have hb2':decide ((60:Int) < k.more.length)=false:=by simp;omega
 have dh:k.vec.length≤5:=by omega
 have hm60:k.more.length≤60:=by omega
 clear aX aI;have eF:=Blk.new (w.alloc (.cells #[.slice Av k.vec.length cv,.slice Am k.more.length cm] 101)) 251 (rowI [0,0,0,0,0]);have hxz:=aY.alloc (.cells (rowI [0,0,0,0,0]) 251);simp only [World.size_alloc] at eF;go_enter Tryz.func105, Tryz.ntmps105;go_wp2_with fail;go_loopw [24] (fun i wr=>∃ j:Nat,j≤k.vec.length∧i=.int .i64 j∧qf8 (k.vec.drop j)=qf8 k.vec∧(∃ u,Lead k.vec j u∧Blk wr (w.heap.size+1) 251 (rowI u))∧Ext w wr∧wr.cell? ⟨w.heap.size,0,none⟩=some (.slice Av k.vec.length cv)∧wr.cell? ⟨w.heap.size,1,none⟩=some (.slice Am k.more.length cm)) (fun i _=>k.vec.length - (intOf i).toNat)
 case atStart=>exact ⟨0,Nat.zero_le _,rfl,rfl,⟨_,Lead.start _,eF⟩,hxz,by go_simp,by go_simp⟩
 clear aY eF hxz;obtain ⟨j,hj,rfl,hG,⟨u,hu,aL⟩,hx,q0,q1⟩:=hrel;have HG:=hid hG;have HU:=hid hu;clear hG hu
 by_cases aD:j < k.vec.length
 ·obtain ⟨b,off,rfl,hb,g0⟩:=(h.sv.ext RInt.mono hx).int aD
  have HS:=hid (qq8 k.vec j aD);have HB:=hid (show betw k.vec[j] 0 1000=decide (0≤k.vec[j]∧k.vec[j]≤1000) from rfl)
  by_cases bZ:0≤k.vec[j]∧k.vec[j]≤1000
  ·have HF:=hid (show qf8 (k.vec.drop (j+1))=qf8 k.vec by rw [← HG.out,HS.out,if_pos bZ])
   have HBt:=hid (show betw k.vec[j] 0 1000=true by rw [HB.out];exact decide_eq_true bZ);have j0:(0:Int)≤j:=by omega
   have j5:(j:Int) < 5:=by omega
   have cQ:=aL.cell (qr7 (show j < u.length by rw [HU.out.1];omega));have hz:=aL.frozen j;clear bZ;go_wp2_with fail;refine (qb5 _ _ _ _).mono ?_;rintro e w1 ⟨rfl,rfl⟩;rw [HBt.out];go_wp2_with fail;go_roundw
   case rel=>exact ⟨j+1,aD,by go_num,HF.out,⟨_,HU.out.step aD (by omega),by rw [← qwd];exact aL.set j _⟩,hx.setCell (by show _≤w.heap.size+1;omega) _,qag (by omega) q0,qag (by omega) q1⟩
   case measure=>simp [intOf];omega
  have HF:=hid (show qf8 k.vec=1 by rw [← HG.out,HS.out,if_neg bZ]);have HBt:=hid (show betw k.vec[j] 0 1000=false by rw [HB.out];exact decide_eq_false bZ);clear bZ;go_wp2_with fail;refine (qb5 _ _ _ _).mono ?_;rintro e w1 ⟨rfl,rfl⟩;rw [HBt.out];go_wp2_with fail;go_ret;exact ⟨qa8 (by rw [HE.out,HF.out];rfl),hx⟩
 ·obtain rfl:j=k.vec.length:=by omega
  have dU:=hid (show qf8 k.vec=0 by rw [← HG.out];simp [qf8]);replace HU:=hid HU.out.full;clear HG aD hj
  by_cases hlast:k.vec.getLast?=some 0
  ·have fT:0 < k.vec.length:=by
    rcases Nat.eq_zero_or_pos k.vec.length with h0 | h0
    ·rw [List.eq_nil_of_length_eq_zero h0] at hlast;cases hlast
    exact h0
   obtain ⟨b,off,rfl,hb,g0⟩:=(h.sv.ext RInt.mono hx).int (i:=k.vec.length - 1) (by omega);have hl0:k.vec[k.vec.length - 1]=0:=by rw [qgq fT] at hlast;exact Option.some.inj hlast
   rw [hl0] at g0;have HF:=hid (show qa4 k=3 by rw [HE.out,if_pos dU.out,if_pos hlast]);have en:((k.vec.length:Int) - 1)=((k.vec.length - 1:Nat):Int):=by omega
   have ez:(0:Int)≤(k.vec.length:Int) - 1:=by omega
   have ep:(0:Int) < k.vec.length:=by omega
   clear hlast hl0;go_wp2_with fail;go_ret;exact ⟨qa8 HF.out.symm,hx⟩
  ·have HF:=hid (show qa4 k=qdw k.vec ⟨-1,0⟩ k.more by rw [HE.out,if_pos dU.out,if_neg hlast])
   clear HE;have HVB:=hid (qkq ((qku _).1 dU.out));clear dU
   by_cases fT:0 < k.vec.length
   focus
    obtain ⟨b,off,rfl,hb,g0⟩:=(h.sv.ext RInt.mono hx).int (i:=k.vec.length - 1) (by omega);have hl0:(k.vec[k.vec.length - 1]==0)=false:=by
     rw [qgq fT] at hlast;exact beq_eq_false_iff_ne.2 fun e=>hlast (by rw [e])
    have en:((k.vec.length:Int) - 1)=((k.vec.length - 1:Nat):Int):=by omega
    have ez:(0:Int)≤(k.vec.length:Int) - 1:=by omega
    have ep:(0:Int) < k.vec.length:=by omega
    clear hlast;generalize k.vec[k.vec.length - 1]=lv at *;have hw0:w.heap.size < wr.heap.size:=by have:=aL.lt;omega
    go_wp2_with fail;clear g0 en ez ep hl0
   rotate_left
   focus
    have ep:decide ((0:Int) < k.vec.length)=false:=decide_eq_false (by omega);clear hlast;have hw0:w.heap.size < wr.heap.size:=by have:=aL.lt;omega
    go_wp2_with fail;clear ep
   all_goals
    have fY:w.heap.size+1 < wr.heap.size:=aL.lt;obtain ⟨b7,hb7e⟩:=ex1 wr.heap.size;have aC:=(Ext.refl wr).alloc (.cells #[.int .i64 (-1),.int .i64 0] 35);have l0:(wr.alloc (.cells #[.int .i64 (-1),.int .i64 0] 35)).cell? ⟨wr.heap.size,0,none⟩=some (.int .i64 (-1)):=by go_simp
    have l1:(wr.alloc (.cells #[.int .i64 (-1),.int .i64 0] 35)).cell? ⟨wr.heap.size,1,none⟩=some (.int .i64 0):=by go_simp
    have z0:(wr.alloc (.cells #[.int .i64 (-1),.int .i64 0] 35)).frozen? ⟨wr.heap.size,0,none⟩=false:=by go_simp
    have z1:(wr.alloc (.cells #[.int .i64 (-1),.int .i64 0] 35)).frozen? ⟨wr.heap.size,1,none⟩=false:=by go_simp
    rw [← hb7e] at fY l0 l1 z0 z1;rw [← hb7e];clear hb7e;go_loopw [54] (fun i wr=>∃ j:Nat,j≤k.more.length∧i=.int .i64 j∧qdw k.vec (qbx k.more j) (k.more.drop j)=qdw k.vec ⟨-1,0⟩ k.more∧Blk wr (w.heap.size+1) 251 (rowI u)∧wr.cell? ⟨b7,0,none⟩=some (.int .i64 (qbx k.more j).site)∧wr.cell? ⟨b7,1,none⟩=some (.int .i64 (qbx k.more j).count)∧wr.frozen? ⟨b7,0,none⟩=false∧wr.frozen? ⟨b7,1,none⟩=false∧Ext w wr) (fun i _=>k.more.length - (intOf i).toNat)
    case atStart=>exact ⟨0,Nat.zero_le _,rfl,rfl,aL.ext aC,l0,l1,z0,z1,hx.trans aC⟩
    clear hx aL l0 l1 z0 z1 aC;obtain ⟨j,hj,rfl,hG,aL,l0,l1,z0,z1,hx⟩:=hrel;have HG:=hid hG;clear hG
    by_cases aD:j < k.more.length
    ·obtain ⟨b,off,rfl,hb,g0,g1⟩:=(h.sm.ext RPair.mono hx).pair aD
     have HS:=hid (qoe k.vec k.more j aD)
     cases aO:qb8 k.more[j]
     ·have fd:=hid (show qdw k.vec ⟨-1,0⟩ k.more=1 by rw [← HG.out,HS.out,if_neg (by rw [aO];simp)])
      go_wp2_with fail;refine (quu k.more[j] _).mono ?_;rintro e w1 ⟨rfl,aE⟩;rw [aO];clear aO;go_wp2_with fail;go_ret;exact ⟨qa8 (by rw [HF.out,fd.out]),(hx.alloc _).trans aE⟩
     have HO:=hid aO;obtain ⟨o1,o2,o3,o4⟩:=qar.1 aO;obtain ⟨s,hs⟩:=Int.eq_ofNat_of_zero_le o1;have HSI:=hid hs;have bW:s < 5:=by omega
     have s0:(0:Int)≤s:=by omega
     have s5:(s:Int) < 5:=by omega
     have hD:=quu k.more[j];rw [hs] at hD g0;have HVS:=hid (show qab k.vec k.more[j].site=qab k.vec s by rw [hs]);have fD:=HVB.out s;have HLast:=hid (rfl:qbx k.more j=qbx k.more j);go_wp2_with fail;refine (hD _).mono ?_;rintro e w1 ⟨rfl,aE⟩;rw [aO];clear aO hD;have aA:=((Ext.refl wr).alloc (.cells #[.int .i64 (s:Int),.int .i64 k.more[j].count] 35)).trans aE;have d0:w1.cell? ⟨wr.heap.size,0,none⟩=some (.int .i64 (s:Int)):=aE.cell (by go_simp);have d1:w1.cell? ⟨wr.heap.size,1,none⟩=some (.int .i64 k.more[j].count):=aE.cell (by go_simp);replace z0:=(aA.frozenAt (World.block_lt_of_cell? _ _ l0)).trans z0;replace z1:=(aA.frozenAt (World.block_lt_of_cell? _ _ l0)).trans z1;replace l0:=aA.cell l0;replace l1:=aA.cell l1;have l0':=l0;replace aL:=aL.ext aA;have q:=aL.cell (qr7 (show s < u.length by rw [HU.out.1];exact bW));have HUV:=hid (show u[s]'(by rw [HU.out.1];exact bW)=qab k.vec s by
      have h1:=HU.out.2 s bW;rwa [qj0 (by rw [HU.out.1];exact bW)] at h1)
     rw [HUV.out] at q;obtain ⟨V,hV⟩:=ex1 (qab k.vec s);have HVV:=hid hV;rw [← hV] at fD q;clear hV aE;obtain ⟨v0,v1⟩:=fD;have eV:IntKind.i64.wrap (V+2)=V+2:=by rw [IntKind.wrap_i64];omega
     obtain ⟨ls,hls⟩:=ex1 ((qbx k.more j).site);obtain ⟨lc,hlc⟩:=ex1 ((qbx k.more j).count);have HLS:=hid hls;have HLC:=hid hlc;rw [← hls] at l0 l0';rw [← hlc] at l1;clear hls hlc;have bF:=aL.lt
     by_cases fQ:k.more[j].count < V+2
     ·have HP:=hid (show k.more[j].count≤qab k.vec k.more[j].site+1∨dlt (qbx k.more j) k.more[j]=false from .inl (by rw [HVS.out,← HVV.out];omega))
      have hcv':decide (k.more[j].count < V+2)=true:=decide_eq_true fQ;clear fQ;go_upto_region 20 with fail;go_quiet (fail);go_wp2_with fail;go_ret;exact ⟨qa8 (by rw [HF.out,← HG.out,HS.out,if_pos HO.out,if_pos HP.out]),(hx.trans aA).drewN _⟩
     have hcv':decide (k.more[j].count < V+2)=false:=decide_eq_false fQ
     by_cases hsl2:(s:Int) < ls
     ·have HP:=hid (show k.more[j].count≤qab k.vec k.more[j].site+1∨dlt (qbx k.more j) k.more[j]=false from .inr (by rw [← Bool.not_eq_true,qek,← HLS.out,HSI.out];omega))
      have bX:decide ((s:Int) < ls)=true:=decide_eq_true hsl2;clear fQ hsl2;go_upto_region 20 with fail;go_quiet (fail);go_wp2_with fail;go_ret;exact ⟨qa8 (by rw [HF.out,← HG.out,HS.out,if_pos HO.out,if_pos HP.out]),(hx.trans aA).drewN _⟩
     have bX:decide ((s:Int) < ls)=false:=decide_eq_false hsl2
     by_cases hse:(s:Int)=ls
     ·have bC:((s:Int)==ls)=true:=by simpa using hse
      by_cases bD:k.more[j].count≤lc
      ·have HP:=hid (show k.more[j].count≤qab k.vec k.more[j].site+1∨dlt (qbx k.more j) k.more[j]=false from .inr (by rw [← Bool.not_eq_true,qek,← HLS.out,HSI.out,← HLC.out];omega))
       have ad:decide (k.more[j].count≤lc)=true:=decide_eq_true bD;clear fQ hsl2 hse bD;go_upto_region 20 with fail;go_quiet (fail);go_wp2_with fail;go_ret;exact ⟨qa8 (by rw [HF.out,← HG.out,HS.out,if_pos HO.out,if_pos HP.out]),(hx.trans aA).drewN _⟩
      have HN:=hid (show ¬ (k.more[j].count≤qab k.vec k.more[j].site+1∨dlt (qbx k.more j) k.more[j]=false) by
       rw [← Bool.not_eq_true,qek,← HLS.out,HSI.out,← HLC.out,← HVV.out];omega)
      have ad:decide (k.more[j].count≤lc)=false:=decide_eq_false bD;clear fQ hsl2 hse bD;go_upto_region 20 with fail;go_quiet (fail);obtain ⟨w6,cM⟩:=ex1 (w1.drewN nq);rw [← cM];have aT:Ext w1 w6:=by rw [cM];exact (Ext.refl _).drewN _
      replace aL:=aL.ext aT;replace d0:=aT.cell d0;replace d1:=aT.cell d1;replace l0:=aT.cell l0;replace l1:=aT.cell l1;replace z0:=(aT.frozenAt (World.block_lt_of_cell? _ _ l0')).trans z0;replace z1:=(aT.frozenAt (World.block_lt_of_cell? _ _ l0')).trans z1;have eb:=hid ((hx.trans aA).trans aT);clear cM aT hx aA q l0';go_wp2_with fail;go_roundw
      case rel=>exact ⟨j+1,aD,by go_num,by rw [← HG.out,HS.out,if_pos HO.out,if_neg HN.out],(aL.far (by show _≠b7;omega) _).far (by show _≠b7;omega) _,by rw [qey _ _ aD,HSI.out];go_simp,by rw [qey _ _ aD];go_simp,by go_simp,by go_simp,(eb.out.setCell (by show _≤b7;omega) _).setCell (by show _≤b7;omega) _⟩
      case measure=>simp [intOf];omega
     have HN:=hid (show ¬ (k.more[j].count≤qab k.vec k.more[j].site+1∨dlt (qbx k.more j) k.more[j]=false) by
      rw [← Bool.not_eq_true,qek,← HLS.out,HSI.out,← HLC.out,← HVV.out];omega)
     have bC:((s:Int)==ls)=false:=by simpa using hse
     clear fQ hsl2 hse;go_upto_region 20 with fail;go_quiet (fail);obtain ⟨w6,cM⟩:=ex1 (w1.drewN nq);rw [← cM];have aT:Ext w1 w6:=by rw [cM];exact (Ext.refl _).drewN _
     replace aL:=aL.ext aT;replace d0:=aT.cell d0;replace d1:=aT.cell d1;replace l0:=aT.cell l0;replace l1:=aT.cell l1;replace z0:=(aT.frozenAt (World.block_lt_of_cell? _ _ l0')).trans z0;replace z1:=(aT.frozenAt (World.block_lt_of_cell? _ _ l0')).trans z1;have eb:=hid ((hx.trans aA).trans aT);clear cM aT hx aA q l0';go_wp2_with fail;go_roundw
     case rel=>exact ⟨j+1,aD,by go_num,by rw [← HG.out,HS.out,if_pos HO.out,if_neg HN.out],(aL.far (by show _≠b7;omega) _).far (by show _≠b7;omega) _,by rw [qey _ _ aD,HSI.out];go_simp,by rw [qey _ _ aD];go_simp,by go_simp,by go_simp,(eb.out.setCell (by show _≤b7;omega) _).setCell (by show _≤b7;omega) _⟩
     case measure=>simp [intOf];omega
    obtain rfl:j=k.more.length:=by omega
    have fd:=hid (show qdw k.vec ⟨-1,0⟩ k.more=0 by rw [← HG.out];simp [qdw]);go_wp2_with fail;go_ret;exact ⟨qa8 (by rw [HF.out,fd.out]),hx⟩
end Go.Proofs.YtngbfdogiciahaaGreat
