/- The walks of know.In, told, two, Has, Count. -/
import Derived.Test.YtngbfdogiciahaaGreatJoinSrtP
import Derived.Test.YtngbfdogiciahaaGreatKnB
set_option maxRecDepth 100000
set_option maxHeartbeats 40000000
namespace Go.Proofs.YtngbfdogiciahaaGreat
open Go Go.RowKit
def inK (k:Know) (d:Dot):Bool:=decide (d.count≤qab k.vec d.site)||k.more.contains d
def qjy (k:Know):Int:=if qa4 k=0 then k.more.length+k.vec.sum else 0
def qdg (a b:Know):Int:=if qa4 a=0 then qa4 b else qa4 a
theorem qqq (B:Nat) (k:Know) (Av:Option Addr) (cv:Nat) (Am:Option Addr) (cm:Nat) (d:Dot) (w:World) (h:InK B w Av Am k) (hk:KnowOk k) (hd:qb8 d=true) :
  Calls Tryz.prog 169 #[.agg #[.slice Av k.vec.length cv, .slice Am k.more.length cm],.agg #[.int .i64 d.site,.int .i64 d.count]] w fun e w'=>e=.returned (.bool (inK k d))∧Ext w w':=by
 obtain ⟨site,ct⟩:=d;obtain ⟨o1,o2,o3,o4⟩:=qar.1 hd;simp only at o1 o2 o3 o4;obtain ⟨s,rfl⟩:=Int.eq_ofNat_of_zero_le o1;have HK:=hid hk;have HD:=hid hd;clear hk hd;have hx:=((Ext.refl w).alloc (.cells #[.slice Av k.vec.length cv,.slice Am k.more.length cm] 101)).alloc (.cells #[.int .i64 (s:Int),.int .i64 ct] 35);have q0:((w.alloc (.cells #[.slice Av k.vec.length cv,.slice Am k.more.length cm] 101)).alloc (.cells #[.int .i64 (s:Int),.int .i64 ct] 35)).cell? ⟨w.heap.size,0,none⟩=some (.slice Av k.vec.length cv):=by go_simp
 have q1:((w.alloc (.cells #[.slice Av k.vec.length cv,.slice Am k.more.length cm] 101)).alloc (.cells #[.int .i64 (s:Int),.int .i64 ct] 35)).cell? ⟨w.heap.size,1,none⟩=some (.slice Am k.more.length cm):=by go_simp
 have d0:((w.alloc (.cells #[.slice Av k.vec.length cv,.slice Am k.more.length cm] 101)).alloc (.cells #[.int .i64 (s:Int),.int .i64 ct] 35)).cell? ⟨w.heap.size+1,0,none⟩=some (.int .i64 (s:Int)):=by go_simp
 have d1:((w.alloc (.cells #[.slice Av k.vec.length cv,.slice Am k.more.length cm] 101)).alloc (.cells #[.int .i64 (s:Int),.int .i64 ct] 35)).cell? ⟨w.heap.size+1,1,none⟩=some (.int .i64 ct):=by go_simp
 obtain ⟨V,hV⟩:=ex1 (qab k.vec s);have HV:=hid hV;clear hV;obtain ⟨w1,dP⟩:=ex1 ((w.alloc (.cells #[.slice Av k.vec.length cv,.slice Am k.more.length cm] 101)).alloc (.cells #[.int .i64 (s:Int),.int .i64 ct] 35));have HW1:=hid dP;rw [← dP] at hx q0 q1 d0 d1;clear dP;have HVec:=hid (fun w' (x:Ext w1 w')=>show Calls Tryz.prog 200 #[.agg #[.slice Av k.vec.length cv, .slice Am k.more.length cm],.int .i64 (s:Int)] w' fun e w2=>e=.returned (.int .i64 V)∧Ext w' w2 by rw [HV.out];exact qvy B k Av cv Am cm s w' (h.ext (hx.trans x)));have aB:=hid (fun w' (x:Ext w1 w')=>show w'.cell? ⟨w.heap.size,0,none⟩=some (.slice Av k.vec.length cv)∧w'.cell? ⟨w.heap.size,1,none⟩=some (.slice Am k.more.length cm)∧w'.cell? ⟨w.heap.size+1,0,none⟩=some (.int .i64 (s:Int))∧w'.cell? ⟨w.heap.size+1,1,none⟩=some (.int .i64 ct) from ⟨x.cell q0,x.cell q1,x.cell d0,x.cell d1⟩);clear d0 d1 q0 q1
 by_cases hc:ct≤V
 ·have HF:=hid (show inK k ⟨s,ct⟩=true by simp only [inK];rw [← HV.out,decide_eq_true hc];rfl)
  have hc':decide (ct≤V)=true:=decide_eq_true hc;clear hc;go_enter Tryz.func169, Tryz.ntmps169;go_wp2_with fail;rw [← HW1.out];refine qaj (fun w'=>Ext w1 w') (by kernel_rfl) (by kernel_rfl) (Ext.refl _).drew ?_
  iterate 5
   refine wqg aB.out _ ?_;try simp only [pq]
  refine qgk Tryz.call200 (by rfl) (fun w' x=>(HVec.out w' x).mono fun _ _ h=>⟨h.1,x.trans h.2⟩) ?_;(try simp only [pq]);refine wqg aB.out _ ?_;(try simp only [pq]);(try simp only [hc']);refine qcf ?_;intro w2 aA;go_wp2_with fail;go_ret;exact ⟨qa7 HF.out.symm,hx.trans aA⟩
 have HF:=hid (show inK k ⟨s,ct⟩=k.more.contains ⟨s,ct⟩ by simp only [inK];rw [← HV.out,decide_eq_false hc];rfl);have hc':decide (ct≤V)=false:=decide_eq_false hc;clear hc;go_enter Tryz.func169, Tryz.ntmps169;go_wp2_with fail;rw [← HW1.out];refine qaj (fun w'=>Ext w1 w') (by kernel_rfl) (by kernel_rfl) (Ext.refl _).drew ?_
 iterate 5
  refine wqg aB.out _ ?_;try simp only [pq]
 refine qgk Tryz.call200 (by rfl) (fun w' x=>(HVec.out w' x).mono fun _ _ h=>⟨h.1,x.trans h.2⟩) ?_;(try simp only [pq]);refine wqg aB.out _ ?_;(try simp only [pq]);(try simp only [hc']);refine qcf ?_;intro w2 aA;obtain ⟨q0,q1,d0,d1⟩:=aB.out w2 aA;go_wp2_with fail;refine (quh B Am cm k.more ⟨s,ct⟩ w2 (h.ext (hx.trans aA)).sm (by have:=HK.out.mlen;omega) HK.out.sorted (fun x hm=>(HK.out.more x hm).1) HD.out).mono ?_;rintro e w3 ⟨⟨i,rfl⟩,aM⟩;generalize k.more.contains ⟨(s:Int),ct⟩=bb at *;go_wp2_with fail;go_ret;exact ⟨qa7 HF.out.symm,(hx.trans aA).trans aM⟩
theorem qvx (B:Nat) (k l:Know) (Av:Option Addr) (cv:Nat) (Am:Option Addr) (cm:Nat) (Bv:Option Addr) (dv:Nat) (Bm:Option Addr) (dm:Nat) (w:World) (h:InK B w Av Am k) (g:InK B w Bv Bm l) :
  Calls Tryz.prog 225 #[.agg #[.slice Av k.vec.length cv, .slice Am k.more.length cm],.agg #[.slice Bv l.vec.length dv, .slice Bm l.more.length dm]] w fun e w'=>e=.returned (.int .i64 (qdg k l))∧Ext w w':=by
 have hx:=((Ext.refl w).alloc (.cells #[.slice Av k.vec.length cv,.slice Am k.more.length cm] 101)).alloc (.cells #[.slice Bv l.vec.length dv,.slice Bm l.more.length dm] 101);have HF:=hid (show qdg k l=if qa4 k=0 then qa4 l else qa4 k from rfl);go_enter Tryz.func225, Tryz.ntmps225;go_wp2_with fail;refine (qem B k Av cv Am cm _ (h.ext hx)).mono ?_;rintro e w1 ⟨rfl,aE⟩;have q0:w1.cell? ⟨w.heap.size+1,0,none⟩=some (.slice Bv l.vec.length dv):=aE.cell (by go_simp);have q1:w1.cell? ⟨w.heap.size+1,1,none⟩=some (.slice Bm l.more.length dm):=aE.cell (by go_simp);have HX:=hid (hx.trans aE);have HG:=hid (g.ext (hx.trans aE));clear hx aE;generalize qa4 k=c at *
 by_cases h0:c=0
 ·have HR:=hid (show qdg k l=qa4 l by rw [HF.out,if_pos h0])
  subst h0;go_wp2_with fail;refine (qem B l Bv dv Bm dm _ HG.out).mono ?_;rintro e w2 ⟨rfl,aH⟩;go_wp2_with fail;go_ret;exact ⟨qa8 HR.out.symm,HX.out.trans aH⟩
 have HR:=hid (show qdg k l=c by rw [HF.out,if_neg h0]);have hc:(c !=0)=true:=by simpa using h0
 clear h0;go_wp2_with fail;go_ret;exact ⟨qa8 HR.out.symm,HX.out⟩
theorem qwl (l:List Int) (j:Nat) (h:j < l.length):(l.take (j+1)).sum=(l.take j).sum+l[j]:=by
 rw [← List.take_append_getElem h,List.sum_append];simp
theorem jgj (l:List Int) (hl:∀ n∈l,0≤n∧n≤1000):0≤l.sum∧l.sum≤1000*l.length:=by
 induction l with
 | nil=>simp
 | cons x r ih=>
  have h1:=hl x (by simp);have h2:=ih fun n hn=>hl n (by simp [hn]);simp only [List.sum_cons,List.length_cons];omega
theorem qxg (B:Nat) (k:Know) (Av:Option Addr) (cv:Nat) (Am:Option Addr) (cm:Nat) (w:World) (h:InK B w Av Am k) :
  Calls Tryz.prog 206 #[.agg #[.slice Av k.vec.length cv, .slice Am k.more.length cm]] w fun e w'=>e=.returned (.tuple #[.int .i64 (qjy k),.int .i64 (qa4 k)])∧Ext w w':=by
 have hx:=(Ext.refl w).alloc (.cells #[.slice Av k.vec.length cv,.slice Am k.more.length cm] 101);have HC:=hid (show qjy k=if qa4 k=0 then k.more.length+k.vec.sum else 0 from rfl);have HKO:=hid (qb0 (k:=k));go_enter Tryz.func206, Tryz.ntmps206;go_wp2_with fail;refine (qem B k Av cv Am cm _ (h.ext hx)).mono ?_;rintro e w1 ⟨rfl,aE⟩;have q0:w1.cell? ⟨w.heap.size,0,none⟩=some (.slice Av k.vec.length cv):=aE.cell (by go_simp);have q1:w1.cell? ⟨w.heap.size,1,none⟩=some (.slice Am k.more.length cm):=aE.cell (by go_simp);replace hx:=hx.trans aE;clear aE;generalize hkc:qa4 k=c at HC HKO ⊢;have HCC:=hid hkc;clear hkc
 by_cases h0:c=0
 ·subst h0
  have HK:=hid (HKO.out.1 rfl);have HR:=hid (show qjy k=k.more.length+k.vec.sum by rw [HC.out];rfl);have f8:=HK.out.mlen;have fU:=HK.out.vlen;have HB:=hid (fun j=>jgj (k.vec.take j) fun n hn=>HK.out.vec n (List.mem_of_mem_take hn));have hsv:=h.sv;go_wp2_with fail;go_loopw [19,5] (fun i x wr=>∃ j:Nat,j≤k.vec.length∧i=.int .i64 j∧x=.int .i64 (k.more.length+(k.vec.take j).sum)∧Ext w wr∧wr.cell? ⟨w.heap.size,0,none⟩=some (.slice Av k.vec.length cv)) (fun i _ _=>k.vec.length - (intOf i).toNat)
  case atStart=>exact ⟨0,Nat.zero_le _,rfl,by simp,hx,q0⟩
  clear hx q0 q1;obtain ⟨j,hj,rfl,rfl,hx,q0⟩:=hrel
  by_cases aD:j < k.vec.length
  ·obtain ⟨b,off,rfl,_,g0⟩:=(hsv.ext RInt.mono hx).int aD
   have HS:=hid (qwl k.vec j aD);have aX:=HB.out j;have aI:=HB.out (j+1);rw [HS.out] at aI;simp only [List.length_take] at aX aI;generalize k.vec[j]=y at *;generalize (k.vec.take j).sum=z at *;have ew:IntKind.i64.wrap ((k.more.length:Int)+z+y)=(k.more.length:Int)+z+y:=by rw [IntKind.wrap_i64];omega
   clear aX aI;go_wp2_with fail;go_roundw
   case rel=>exact ⟨j+1,aD,by go_num,by rw [HS.out,Int.add_assoc],hx,q0⟩
   case measure=>simp [intOf];omega
  obtain rfl:j=k.vec.length:=by omega
  have HT:=hid (show k.vec.take k.vec.length=k.vec from List.take_length);generalize k.vec.take k.vec.length=t at *;clear aD hj;go_wp2_with fail;go_ret2;exact ⟨by rw [HR.out,HT.out,HCC.out];rfl,hx⟩
 have HR:=hid (show qjy k=0 by rw [HC.out,if_neg h0]);have hc:(c !=0)=true:=by simpa using h0
 clear h0;go_wp2_with fail;go_ret2;exact ⟨by rw [HR.out,HCC.out];rfl,hx⟩
end Go.Proofs.YtngbfdogiciahaaGreat
