/- The walk of know.Check. -/
import Derived.Test.YtngbfdogiciahaaGreatWalks
set_option maxRecDepth 100000
set_option maxHeartbeats 40000000
namespace Go.Proofs.YtngbfdogiciahaaGreat
open Go Go.RowKit
theorem qem (B:Nat) (k:Know) (Av:Option Addr) (cv:Nat) (Am:Option Addr) (cm:Nat) (w:World) (h:InK B w Av Am k) :
  Calls Tryz.prog 166 #[.agg #[.slice Av k.vec.length cv, .slice Am k.more.length cm]] w fun e w'=>e=.returned (.int .i64 (qa4 k))∧Ext w w':=by
 have aY:=(Ext.refl w).alloc (.cells #[.slice Av k.vec.length cv,.slice Am k.more.length cm] 101)
 by_cases aX:5 < k.vec.length
 ·have HE:=hid (qfe (.inl aX))
  go_enter Tryz.func166, Tryz.ntmps166;go_wp2_with fail;go_ret;exact ⟨qa8 HE.out.symm,aY⟩
 by_cases aI:60 < k.more.length
 ·have HE:=hid (qfe (.inr aI))
  have hb1':decide ((5:Int) < k.vec.length)=false:=by simp;omega
  go_enter Tryz.func166, Tryz.ntmps166;go_wp2_with fail;go_ret;exact ⟨qa8 HE.out.symm,aY⟩
 have HE:=hid (qm6 (k:=k) (by omega));have hb1':decide ((5:Int) < k.vec.length)=false:=by simp;omega
 have hb2':decide ((60:Int) < k.more.length)=false:=by simp;omega
 have dh:k.vec.length≤5:=by omega
 have hm60:k.more.length≤60:=by omega
 clear aX aI;go_enter Tryz.func166, Tryz.ntmps166;go_wp2_with fail;go_loopw [21] (fun i wr=>∃ j:Nat,j≤k.vec.length∧i=.int .i64 j∧qf8 (k.vec.drop j)=qf8 k.vec∧Ext w wr∧wr.cell? ⟨w.heap.size,0,none⟩=some (.slice Av k.vec.length cv)∧wr.cell? ⟨w.heap.size,1,none⟩=some (.slice Am k.more.length cm)) (fun i _=>k.vec.length - (intOf i).toNat)
 case atStart=>exact ⟨0,Nat.zero_le _,rfl,rfl,aY,by go_simp,by go_simp⟩
 clear aY;obtain ⟨j,hj,rfl,hG,hx,q0,q1⟩:=hrel;have HG:=hid hG;clear hG
 by_cases aD:j < k.vec.length
 ·obtain ⟨b,off,rfl,hb,g0⟩:=(h.sv.ext RInt.mono hx).int aD
  have HS:=hid (qq8 k.vec j aD);rcases Int.lt_or_le k.vec[j] 0 with h0 | h0
  ·have HF:=hid (show qf8 k.vec=1 by rw [← HG.out,HS.out,if_neg (by omega)])
   go_wp2_with fail;go_ret;exact ⟨qa8 (by rw [HE.out,HF.out];rfl),hx⟩
  rcases Int.lt_or_le 1000 k.vec[j] with h1 | h1
  ·have HF:=hid (show qf8 k.vec=1 by rw [← HG.out,HS.out,if_neg (by omega)])
   go_wp2_with fail;go_ret;exact ⟨qa8 (by rw [HE.out,HF.out];rfl),hx⟩
  have HF:=hid (show qf8 (k.vec.drop (j+1))=qf8 k.vec by rw [← HG.out,HS.out,if_pos ⟨h0,h1⟩]);go_wp2_with fail;go_roundw
  case rel=>exact ⟨j+1,aD,by go_num,HF.out,hx,q0,q1⟩
  case measure=>simp [intOf];omega
 ·obtain rfl:j=k.vec.length:=by omega
  have dU:=hid (show qf8 k.vec=0 by rw [← HG.out];simp [qf8]);clear HG aD hj;have key:∀ (a:Act) (hlast:k.vec.getLast?≠some 0),True:=fun _ _=>trivial;clear key
  by_cases hlast:k.vec.getLast?=some 0
  ·have fT:0 < k.vec.length:=by
    rcases Nat.eq_zero_or_pos k.vec.length with h0 | h0
    ·rw [List.eq_nil_of_length_eq_zero h0] at hlast;cases hlast
    exact h0
   obtain ⟨b,off,rfl,hb,g0⟩:=(h.sv.ext RInt.mono hx).int (i:=k.vec.length - 1) (by omega);have hl0:k.vec[k.vec.length - 1]=0:=by rw [qgq fT] at hlast;exact Option.some.inj hlast
   rw [hl0] at g0;have HF:=hid (show qa4 k=3 by rw [HE.out,if_pos dU.out,if_pos hlast]);have en:((k.vec.length:Int) - 1)=((k.vec.length - 1:Nat):Int):=by omega
   have ez:(0:Int)≤(k.vec.length:Int) - 1:=by omega
   have ep:(0:Int) < k.vec.length:=by omega
   clear hlast hl0;go_wp2_with fail;go_ret;exact ⟨qa8 HF.out.symm,hx⟩
  ·have HF:=hid (show qa4 k=qdw k.vec ⟨-1,0⟩ k.more by rw [HE.out,if_pos dU.out,if_neg hlast])
   clear HE;have HVB:=hid (qkq ((qku _).1 dU.out));clear dU
   by_cases fT:0 < k.vec.length
   focus
    obtain ⟨b,off,rfl,hb,g0⟩:=(h.sv.ext RInt.mono hx).int (i:=k.vec.length - 1) (by omega);have hl0:(k.vec[k.vec.length - 1]==0)=false:=by
     rw [qgq fT] at hlast;exact beq_eq_false_iff_ne.2 fun e=>hlast (by rw [e])
    have en:((k.vec.length:Int) - 1)=((k.vec.length - 1:Nat):Int):=by omega
    have ez:(0:Int)≤(k.vec.length:Int) - 1:=by omega
    have ep:(0:Int) < k.vec.length:=by omega
    clear hlast;generalize k.vec[k.vec.length - 1]=lv at *;obtain ⟨Av,hAv⟩:=ex1 (some (⟨b,off,none⟩:Addr));go_wp2_with fail;rw [← hAv] at h q0 ⊢;clear hAv g0 en ez ep
   rotate_left
   focus
    have ep:decide ((0:Int) < k.vec.length)=false:=decide_eq_false (by omega);clear hlast;go_wp2_with fail;clear ep
   all_goals
    go_loopw [49] (fun i wr=>∃ j:Nat,j≤k.more.length∧i=.int .i64 j∧qdw k.vec (qbx k.more j) (k.more.drop j)=qdw k.vec ⟨-1,0⟩ k.more∧(∀ (i:Nat) (hi:i < k.more.length),i < j→qb8 k.more[i]=true)∧Ext w wr∧wr.cell? ⟨w.heap.size,0,none⟩=some (.slice Av k.vec.length cv)∧wr.cell? ⟨w.heap.size,1,none⟩=some (.slice Am k.more.length cm)) (fun i _=>k.more.length - (intOf i).toNat)
    case atStart=>exact ⟨0,Nat.zero_le _,rfl,rfl,fun i _ h=>absurd h (by omega),hx,q0,q1⟩
    clear hx q0 q1;obtain ⟨j,hj,rfl,hG,hprev,hx,q0,q1⟩:=hrel;have HG:=hid hG;have HPrev:=hid hprev;clear hG hprev
    by_cases aD:j < k.more.length
    ·have hsm:=h.sm
     obtain ⟨b,off,rfl,hb,g0,g1⟩:=(hsm.ext RPair.mono hx).pair aD;have HS:=hid (qoe k.vec k.more j aD)
     cases aO:qb8 k.more[j]
     ·have fd:=hid (show qdw k.vec ⟨-1,0⟩ k.more=1 by rw [← HG.out,HS.out,if_neg (by rw [aO];simp)])
      go_wp2_with fail;refine (qqp k.more[j] _).mono ?_;rintro e w1 ⟨rfl,aE⟩;rw [aO];clear aO;go_wp2_with fail;go_ret;exact ⟨qa8 (by rw [HF.out,fd.out]),(hx.alloc _).trans aE⟩
     have HO:=hid aO;obtain ⟨o1,o2,o3,o4⟩:=qar.1 aO;obtain ⟨s,hs⟩:=Int.eq_ofNat_of_zero_le o1;have bW:(s:Int)≤4:=by omega
     have hD:=qqp k.more[j];rw [hs] at hD g0;have HVS:=hid (show qab k.vec k.more[j].site=qab k.vec s by rw [hs]);have fD:=HVB.out s;go_wp2_with fail;refine (hD _).mono ?_;rintro e w1 ⟨rfl,aE⟩;rw [aO];clear aO hD;have aA:=((Ext.refl wr).alloc (.cells #[.int .i64 (s:Int),.int .i64 k.more[j].count] 35)).trans aE;have hd0:w1.cell? ⟨wr.heap.size,0,none⟩=some (.int .i64 (s:Int)):=aE.cell (by go_simp);have hd1:w1.cell? ⟨wr.heap.size,1,none⟩=some (.int .i64 k.more[j].count):=aE.cell (by go_simp);have dB:=hid (fun w' (x:Ext wr w')=>x.cell q0);have HC1:=hid (fun w' (x:Ext wr w')=>x.cell q1);have HKn:=hid (fun w' (x:Ext wr w')=>h.ext (hx.trans x));have HVec:=hid (fun w' (x:Ext w1 w')=>qvy B k Av cv (some ⟨b,off,none⟩) cm s w' (HKn.out _ (aA.trans x)));have HD0:=hid (fun w' (x:Ext w1 w')=>x.cell hd0);have HD1:=hid (fun w' (x:Ext w1 w')=>x.cell hd1);replace dB:=hid (fun w' (x:Ext w1 w')=>dB.out w' (aA.trans x))
     replace HC1:=hid (fun w' (x:Ext w1 w')=>HC1.out w' (aA.trans x));replace hx:=hx.trans aA;clear hd0 hd1 aE q0 q1;obtain ⟨V,hV⟩:=ex1 (qab k.vec s);have HVV:=hid hV;rw [← hV] at fD HVec;clear hV;obtain ⟨v0,v1⟩:=fD;have eV:IntKind.i64.wrap (V+1)=V+1:=by rw [IntKind.wrap_i64];omega
     clear aA
     by_cases fQ:k.more[j].count≤V+1
     ·have HP:=hid (show k.more[j].count≤qab k.vec k.more[j].site+1∨dlt (qbx k.more j) k.more[j]=false from .inl (by rw [HVS.out,← HVV.out];exact fQ))
      go_wp2_with fail;have aB:=hid (fun w' (x:Ext w1 w')=>show w'.cell? ⟨w.heap.size,0,none⟩=some (.slice Av k.vec.length cv)∧w'.cell? ⟨w.heap.size,1,none⟩=some (.slice (some ⟨b,off,none⟩) k.more.length cm)∧w'.cell? ⟨wr.heap.size,0,none⟩=some (.int .i64 (s:Int))∧w'.cell? ⟨wr.heap.size,1,none⟩=some (.int .i64 k.more[j].count) from ⟨dB.out _ x,HC1.out _ x,HD0.out _ x,HD1.out _ x⟩);refine qaj (fun w'=>Ext w1 w') (by kernel_rfl) (by kernel_rfl) (Ext.refl _).drew ?_
      iterate 5
       refine wqg aB.out _ ?_;try simp only [pq]
      refine qgk Tryz.call200 (by rfl) (fun w' x=>(HVec.out w' x).mono fun _ _ h=>⟨h.1,x.trans h.2⟩) ?_;try simp only [pq]
      iterate 3
       refine wqg aB.out _ ?_;try simp only [pq]
      iterate 3
       refine qhq (qa9 rfl rfl rfl) ?_;try simp only [pq]
      iterate 9
       refine qyh (jbv rfl rfl rfl) ?_;try simp only [pq]
      refine qhq (qa9 rfl rfl rfl) ?_;(try simp only [pq]);refine wqg aB.out _ ?_;(try simp only [pq]);refine qcf ?_;intro w25 aA;go_wp2_with fail;go_ret;exact ⟨qa8 (by rw [HF.out,← HG.out,HS.out,if_pos HO.out,if_pos HP.out]),hx.trans aA⟩
     have hcv':decide (k.more[j].count≤V+1)=false:=by simp;omega
     by_cases hj0:j=0
     ·have HN:=hid (show ¬ (k.more[j].count≤qab k.vec k.more[j].site+1∨dlt (qbx k.more j) k.more[j]=false) by
       rw [HVS.out,← HVV.out,show qbx k.more j=⟨-1,0⟩ from by rw [hj0];rfl,qu1 HO.out];simp;omega)
      have hj0':decide (0 < j)=false:=by simp;omega
      have hj0i:decide ((0:Int) < j)=false:=by simp;omega
      clear hj0;go_wp2_with fail;have aB:=hid (fun w' (x:Ext w1 w')=>show w'.cell? ⟨w.heap.size,0,none⟩=some (.slice Av k.vec.length cv)∧w'.cell? ⟨w.heap.size,1,none⟩=some (.slice (some ⟨b,off,none⟩) k.more.length cm)∧w'.cell? ⟨wr.heap.size,0,none⟩=some (.int .i64 (s:Int))∧w'.cell? ⟨wr.heap.size,1,none⟩=some (.int .i64 k.more[j].count) from ⟨dB.out _ x,HC1.out _ x,HD0.out _ x,HD1.out _ x⟩);refine qaj (fun w'=>Ext w1 w') (by kernel_rfl) (by kernel_rfl) (Ext.refl _).drew ?_
      iterate 5
       refine wqg aB.out _ ?_;try simp only [pq]
      refine qgk Tryz.call200 (by rfl) (fun w' x=>(HVec.out w' x).mono fun _ _ h=>⟨h.1,x.trans h.2⟩) ?_;try simp only [pq]
      iterate 2
       refine wqg aB.out _ ?_;try simp only [pq]
      (try simp only [hcv']);(try simp only [hj0']);(try simp only [hj0i]);refine wqg aB.out _ ?_;try simp only [pq]
      iterate 2
       refine wqo aB.out _ (qa9 rfl rfl rfl) ?_;try simp only [pq]
      (try simp only [hcv']);(try simp only [hj0']);(try simp only [hj0i]);refine wqo aB.out _ (qa9 rfl rfl rfl) ?_;try simp only [pq]
      iterate 9
       refine qhq (qa9 rfl rfl rfl) ?_;try simp only [pq]
      refine wqo aB.out _ (qa9 rfl rfl rfl) ?_;(try simp only [pq]);refine wqg aB.out _ ?_;(try simp only [pq]);refine qcf ?_;intro w25 aA;go_wp2_with fail;go_roundw
      case rel=>exact ⟨j+1,aD,by go_num,by rw [← HG.out,HS.out,if_pos HO.out,if_neg HN.out],fun i hi de=>by (by_cases h:i=j);(subst h;exact HO.out);exact HPrev.out i hi (by omega),hx.trans aA,dB.out _ aA,HC1.out _ aA⟩
      case measure=>simp [intOf];omega
     have hjp:decide ((0:Int) < j)=true:=by simp;omega
     have hjn:decide (0 < j)=true:=by simp;omega
     have en:IntKind.i64.wrap ((j:Int) - 1)=((j - 1:Nat):Int):=by rw [IntKind.wrap_i64];omega
     have ez:(0:Int)≤((j - 1:Nat):Int):=by omega
     have el:((j - 1:Nat):Int) < k.more.length:=by omega
     obtain ⟨b',off',hbo,_,p0,p1⟩:=((hsm.ext RPair.mono hx)).pair (i:=j - 1) (by omega);simp only [Option.some.injEq,Addr.mk.injEq] at hbo;obtain ⟨rfl,rfl,_⟩:=hbo;have HP0:=hid (fun w' (x:Ext w1 w')=>x.cell p0);have HP1:=hid (fun w' (x:Ext w1 w')=>x.cell p1);have hpok:qb8 k.more[j - 1]=true:=HPrev.out (j - 1) (by omega) (by omega);have HCmp:=hid (fun w'=>qqr k.more[j - 1] k.more[j] w' hpok HO.out);rw [hs] at HCmp;obtain ⟨C,hC⟩:=ex1 (cmpD k.more[j - 1] k.more[j]);have HCC:=hid hC;rw [← hC] at HCmp;clear hC p0 p1 hpok
     by_cases hcp:0≤C
     ·have HP:=hid (show k.more[j].count≤qab k.vec k.more[j].site+1∨dlt (qbx k.more j) k.more[j]=false from .inr (by rw [qo9 (by omega) (by omega),← qys,← HCC.out];exact hcp))
      go_wp2_with fail;have aB:=hid (fun w' (x:Ext w1 w')=>show w'.cell? ⟨w.heap.size,0,none⟩=some (.slice Av k.vec.length cv)∧w'.cell? ⟨w.heap.size,1,none⟩=some (.slice (some ⟨b,off,none⟩) k.more.length cm)∧w'.cell? ⟨wr.heap.size,0,none⟩=some (.int .i64 (s:Int))∧w'.cell? ⟨wr.heap.size,1,none⟩=some (.int .i64 k.more[j].count)∧w'.cell? ⟨b,off+(j - 1)*2,none⟩=some (.int .i64 k.more[j - 1].site)∧w'.cell? ⟨b,off+(j - 1)*2+1,none⟩=some (.int .i64 k.more[j - 1].count) from ⟨dB.out _ x,HC1.out _ x,HD0.out _ x,HD1.out _ x,HP0.out _ x,HP1.out _ x⟩);refine qaj (fun w'=>Ext w1 w') (by kernel_rfl) (by kernel_rfl) (Ext.refl _).drew ?_
      iterate 5
       refine wqg aB.out _ ?_;try simp only [pq]
      refine qgk Tryz.call200 (by rfl) (fun w' x=>(HVec.out w' x).mono fun _ _ h=>⟨h.1,x.trans h.2⟩) ?_;try simp only [pq]
      iterate 2
       refine wqg aB.out _ ?_;try simp only [pq]
      (try simp only [hcv']);(try simp only [hjp]);(try simp only [hjn]);refine wqg aB.out _ ?_;try simp only [pq]
      iterate 2
       refine wqo aB.out _ (qa9 rfl rfl rfl) ?_;try simp only [pq]
      (try simp only [hcv']);(try simp only [hjp]);try simp only [hjn]
      iterate 8
       refine wqo aB.out _ (qa9 rfl rfl rfl) ?_;try simp only [pq]
      refine qg2 Tryz.call192 (qa9 rfl rfl rfl) (by rfl) (fun w' x=>(HCmp.out w').mono fun _ _ h=>⟨h.1,x.trans h.2⟩) ?_;(try simp only [pq]);refine wqo aB.out _ (qa9 rfl rfl rfl) ?_;(try simp only [pq]);(try simp only [hcv']);(try simp only [hjp]);(try simp only [hjn]);refine wqo aB.out _ (qa9 rfl rfl rfl) ?_;(try simp only [pq]);refine wqg aB.out _ ?_;(try simp only [pq]);refine qcf ?_;intro w25 aA;go_wp2_with fail;go_ret;exact ⟨qa8 (by rw [HF.out,← HG.out,HS.out,if_pos HO.out,if_pos HP.out]),hx.trans aA⟩
     have HN:=hid (show ¬ (k.more[j].count≤qab k.vec k.more[j].site+1∨dlt (qbx k.more j) k.more[j]=false) by
      rw [HVS.out,← HVV.out,qo9 (by omega) (by omega),← qys,← HCC.out];omega)
     have hcp':decide (0≤C)=false:=by simp;omega
     go_wp2_with fail;have aB:=hid (fun w' (x:Ext w1 w')=>show w'.cell? ⟨w.heap.size,0,none⟩=some (.slice Av k.vec.length cv)∧w'.cell? ⟨w.heap.size,1,none⟩=some (.slice (some ⟨b,off,none⟩) k.more.length cm)∧w'.cell? ⟨wr.heap.size,0,none⟩=some (.int .i64 (s:Int))∧w'.cell? ⟨wr.heap.size,1,none⟩=some (.int .i64 k.more[j].count)∧w'.cell? ⟨b,off+(j - 1)*2,none⟩=some (.int .i64 k.more[j - 1].site)∧w'.cell? ⟨b,off+(j - 1)*2+1,none⟩=some (.int .i64 k.more[j - 1].count) from ⟨dB.out _ x,HC1.out _ x,HD0.out _ x,HD1.out _ x,HP0.out _ x,HP1.out _ x⟩);refine qaj (fun w'=>Ext w1 w') (by kernel_rfl) (by kernel_rfl) (Ext.refl _).drew ?_
     iterate 5
      refine wqg aB.out _ ?_;try simp only [pq]
     refine qgk Tryz.call200 (by rfl) (fun w' x=>(HVec.out w' x).mono fun _ _ h=>⟨h.1,x.trans h.2⟩) ?_;try simp only [pq]
     iterate 2
      refine wqg aB.out _ ?_;try simp only [pq]
     (try simp only [hcv']);(try simp only [hcp']);(try simp only [hjp]);(try simp only [hjn]);refine wqg aB.out _ ?_;try simp only [pq]
     iterate 2
      refine wqo aB.out _ (qa9 rfl rfl rfl) ?_;try simp only [pq]
     (try simp only [hcv']);(try simp only [hcp']);(try simp only [hjp]);try simp only [hjn]
     iterate 8
      refine wqo aB.out _ (qa9 rfl rfl rfl) ?_;try simp only [pq]
     refine qg2 Tryz.call192 (qa9 rfl rfl rfl) (by rfl) (fun w' x=>(HCmp.out w').mono fun _ _ h=>⟨h.1,x.trans h.2⟩) ?_;(try simp only [pq]);refine wqo aB.out _ (qa9 rfl rfl rfl) ?_;(try simp only [pq]);(try simp only [hcv']);(try simp only [hcp']);(try simp only [hjp]);(try simp only [hjn]);refine wqo aB.out _ (qa9 rfl rfl rfl) ?_;(try simp only [pq]);refine wqg aB.out _ ?_;(try simp only [pq]);refine qcf ?_;intro w25 aA;go_wp2_with fail;go_roundw
     case rel=>exact ⟨j+1,aD,by go_num,by rw [← HG.out,HS.out,if_pos HO.out,if_neg HN.out],fun i hi de=>by (by_cases h:i=j);(subst h;exact HO.out);exact HPrev.out i hi (by omega),hx.trans aA,dB.out _ aA,HC1.out _ aA⟩
     case measure=>simp [intOf];omega
    obtain rfl:j=k.more.length:=by omega
    have fd:=hid (show qdw k.vec ⟨-1,0⟩ k.more=0 by rw [← HG.out];simp [qdw]);go_wp2_with fail;go_ret;exact ⟨qa8 (by rw [HF.out,fd.out]),hx⟩
end Go.Proofs.YtngbfdogiciahaaGreat
