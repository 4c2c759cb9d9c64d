/- The walk of the reference's Few. -/
import Derived.Test.YtngbfdogiciahaaGreatJoinKnEq
set_option maxRecDepth 100000
set_option maxHeartbeats 40000000
namespace Go.Proofs.YtngbfdogiciahaaGreat
open Go Go.RowKit
def qev (out:List RP) (p:RP):List RP:=if (qlg p||out.any (fun q=>qb4 p q))=true then out else (out.filter fun q=>!qb4 q p)++[p]
def fewR (l:List RP):List RP:=l.foldl qev []
theorem qzc (l:List RP) (k:Nat) (hk:k < l.length):fewR (l.take (k+1))=qev (fewR (l.take k)) l[k]:=by
 unfold fewR;rw [List.take_succ_eq_append_getElem hk,List.foldl_append];simp only [List.foldl_cons,List.foldl_nil]
theorem qm0:∀ (l out:List RP),(l.foldl qev out).length≤out.length+l.length
 | [],_=>by simp
 | p::r,out=>by
  have h:=qm0 r (qev out p);have h2:(qev out p).length≤out.length+1:=by
   unfold qev;split
   ·omega
   rw [List.length_append];have:=List.length_filter_le (fun q=>!qb4 q p) out;simp;omega
  simp only [List.foldl_cons,List.length_cons];omega
theorem qvo (l:List RP):(fewR l).length≤l.length:=by have:=qm0 l [];simpa [fewR] using this
theorem qnb:∀ w,(Instr.build 73 #[]).run Tryz.prog w=.ok (.agg (rowB 512 fun _=>false)) w:=fun w=>by kernel_rfl
theorem jft:Tryz.zeroCells184=rowD fun _ _=>false:=by kernel_rfl
theorem qyk (q:RP→Bool) (c:Bool) (l:List RP) (j:Nat) (hj:j < l.length):(c||(l.take (j+1)).any q)=((c||(l.take j).any q)||q l[j]):=by
 rw [qjr q l j hj,Bool.or_assoc]
theorem qfi {ops:Array Oper} {rest:List Oper} {o:Oper} {a:Act} {w:World} {Q:Exit→Act→World→Prop} {y:RP} (x:Operand) (ho:o.op=.buildSlice 75 1 #[(0,x)]) (hg:o.guard=none) (hx:a.eval x=.agg (rowB 512 y.P++rowD y.K))
  (h:∀ w',Ext w w'→qe3 0 w' (some ⟨w.heap.size,0,none⟩) [y]→wpList Tryz.prog ops Q rest (a.put o.dst (.slice (some ⟨w.heap.size,0,none⟩) 1 1)) w'):wpList Tryz.prog ops Q (o::rest) a w:=
 wpList_plain hg fun _ hK=>qhp Tryz.underlying75 qi5 ⟨by omega,by omega⟩ x ho hx (qa5 y) (hK _ _ (h _ ((Ext.refl w).alloc _) (Sl.one (cs:=(rowB 512 y.P++rowD y.K).toList) (by rw [Array.toArray_toList]) (by rw [Array.length_toList];exact qa5 y) rfl)))
theorem quv (B:Nat) (A:Option Addr) (c:Nat) (l:List RP) (w:World) (hl:l.length≤1000) (h:qe3 B w A l) :
  Calls Tryz.prog 114 #[.slice A l.length c] w fun e w'=>∃ v,e=.returned v∧Own RRef 592 186 w' w.heap.size v (fewR l)∧Ext w w':=by
 go_enter Tryz.func114, Tryz.ntmps114;go_wp2_with fail;go_loopw [14,3] (fun i v wr=>∃ k:Nat,k≤l.length∧i=.int .i64 k∧Own RRef 592 186 wr w.heap.size v (fewR (l.take k))∧Ext w wr) (fun i _ _=>l.length - (intOf i).toNat)
 case atStart=>exact ⟨0,Nat.zero_le _,rfl,Own.nil,Ext.refl _⟩
 obtain ⟨k,hk,rfl,aQ,hx⟩:=hrel
 by_cases aD:k < l.length
 ·obtain ⟨b,off,rfl,hb,hr⟩:=(h.ext RRef.mono hx).ref aD
  have HSS:=hid (qzc l k aD);have am:=hid (show (fewR (l.take k)).length≤1000 by have:=qvo (l.take k);rw [List.length_take] at this;omega);obtain ⟨OUT,ed⟩:=ex1 (fewR (l.take k));obtain ⟨X,hX⟩:=ex1 (l[k]);rw [← hX] at hr HSS;rw [← ed] at aQ HSS am;obtain ⟨Ao,co,rfl,ho1,aR⟩:=aQ.len;have HSl:=hid (aQ.sl B);obtain ⟨N1,hN1⟩:∃ N:Bool,N=qds (fun i=>X.P i==false) 512:=⟨_,rfl⟩
  obtain ⟨N2,hN2⟩:∃ N:Bool,N=eqD X.K (fun _ _=>false):=⟨_,rfl⟩
  have HN:=hid (show qlg X=(N1||N2) by rw [hN1,hN2,qlg]);have HN1:=hid hN1;have HN2:=hid hN2;have heq1:∀ w,(Op.equalIn 10000 73 (.agg (rowB 512 X.P)) (.agg (rowB 512 fun _=>false))).run Tryz.prog w=.ok N1 w:=fun w=>by rw [HN1.out,qns]
  have heq2:∀ w,(Op.equalIn 10000 184 (.agg (rowD X.K)) (.agg (rowD fun _ _=>false))).run Tryz.prog w=.ok N2 w:=fun w=>by rw [HN2.out];exact qpk _ _ w
  clear ed hX hN1 hN2
  cases N1
  ·have HNv:=hid (show qlg X=N2 by rw [HN.out];rfl)
   go_wp2_with (first
    | ((with_reducible refine qa1 (o:=⟨some 17,_,_,_,_,_⟩) qc7 _ rfl rfl rfl hr (qa5 _) ?_))
    | ((with_reducible refine qa2 (o:=⟨some 5,_,_,_,_,_⟩) qj9 rfl rfl ?_);intro w1 aE aX bX)
    | ((with_reducible refine qa3 (o:=⟨none,_,_,_,_,_⟩) qc7 _ _ rfl rfl rfl rfl aX (qa5 _) (qa5 ⟨fun _=>false,fun _ _=>false⟩) (qcq _) ?_);intro w2 aH aI bC aR;have aK:=aE.below aH (Nat.le_refl _);clear aE aH hr)
    | ((with_reducible refine qa1 (o:=⟨some 19,_,_,_,_,_⟩) qbb _ rfl rfl rfl (qsw aI) (qa6 _ _) ?_))
    | ((with_reducible refine qkw (o:=⟨some 20,_,_,_,_,_⟩) qnb rfl rfl ?_)))
   refine qd4 (o:=⟨some 24,_,_,_,_,_⟩) qe9 _ rfl rfl (qr4 aI) (qad _) ?_;have hz83:Tryz.zeroCells184=rowD fun _ _=>false:=jft;go_wp2_with fail;clear hz83;have dS:=hid hx;have HOV:=hid aQ;have L0:=am.out;clear hx aQ;have aa:Ext wr w2:=aK;have fk:=aI;obtain ⟨r,hr⟩:=ex1 wr.heap.size;rw [← hr] at fk ⊢;obtain ⟨wo,ft⟩:=ex1 wr;rw [← ft] at aa HSl dS HOV;clear aK aI bC aR aX bX hr ft;go_loopw [30,6] (fun j lf ws=>∃ q:Nat,q≤OUT.length∧j=.int .i64 q∧lf=.bool (N2||(OUT.take q).any (fun y=>qb4 X y))∧Blk ws r 186 (rowB 512 X.P++rowD X.K)∧Ext wo ws) (fun j _ _=>OUT.length - (intOf j).toNat)
   case atStart=>exact ⟨0,Nat.zero_le _,rfl,by simp,fk,aa⟩
   clear fk aa;obtain ⟨q,hq,rfl,rfl,fk,aa⟩:=hrel
   by_cases eJ:q < OUT.length
   ·obtain ⟨b2,off2,hA2,hbb2,hr⟩:=(HSl.out.ext RRef.mono aa).ref eJ
    subst hA2;have HAn:=hid (qyk (fun y=>qb4 X y) N2 OUT q eJ);obtain ⟨Y,hY⟩:=ex1 (OUT[q]);rw [← hY] at hr HAn;clear hY;have cR:=fk.lt
    cases hLf:(N2||(OUT.take q).any (fun y=>qb4 X y))
    ·rw [hLf] at HAn
     clear hLf;go_wp2_with (first
      | ((with_reducible refine qa1 (o:=⟨some 33,_,_,_,_,_⟩) qc7 _ rfl rfl rfl hr (qa5 _) ?_))
      | ((with_reducible refine qa2 (o:=⟨some 8,_,_,_,_,_⟩) qj9 rfl rfl ?_);intro w1 aE aX bX)
      | ((with_reducible refine qa3 (o:=⟨none,_,_,_,_,_⟩) qc7 _ _ rfl rfl rfl rfl aX (qa5 _) (qa5 ⟨fun _=>false,fun _ _=>false⟩) (qcq _) ?_);intro w2 aH aI bC aR;have aK:=aE.below aH (Nat.le_refl _);have dN:=fk.ext aK;clear aE aH hr))
     refine qd4 (o:=⟨some 36,_,_,_,_,_⟩) qc7 _ rfl rfl (dN.whole) (qa5 _) ?_;go_wp2_with fail;refine qd4 (o:=⟨some 37,_,_,_,_,_⟩) qc7 _ rfl rfl (aI.whole) (qa5 _) ?_;go_wp2_with fail;refine (qkl X Y _).mono ?_;rintro e w3 ⟨rfl,aM⟩;go_wp2_with fail;go_roundw
     case rel=>exact ⟨q+1,eJ,by go_num,by rw [HAn.out];simp,dN.ext aM,(aa.trans aK).trans aM⟩
     case measure=>simp [intOf];omega
    rw [hLf] at HAn;clear hLf;go_wp2_with (first
     | ((with_reducible refine qa1 (o:=⟨some 33,_,_,_,_,_⟩) qc7 _ rfl rfl rfl hr (qa5 _) ?_))
     | ((with_reducible refine qa2 (o:=⟨some 8,_,_,_,_,_⟩) qj9 rfl rfl ?_);intro w1 aE aX bX)
     | ((with_reducible refine qa3 (o:=⟨none,_,_,_,_,_⟩) qc7 _ _ rfl rfl rfl rfl aX (qa5 _) (qa5 ⟨fun _=>false,fun _ _=>false⟩) (qcq _) ?_);intro w2 aH aI bC aR;have aK:=aE.below aH (Nat.le_refl _);have dN:=fk.ext aK;clear aE aH hr))
    go_roundw
    case rel=>exact ⟨q+1,eJ,by go_num,by rw [HAn.out];simp,dN,aa.trans aK⟩
    case measure=>simp [intOf];omega
   obtain rfl:q=OUT.length:=by omega
   rw [List.take_length];have hN0:=HNv.out
   cases hLft:(N2||OUT.any (fun y=>qb4 X y))
   ·have HLF:=hid (show (qlg X||OUT.any (fun y=>qb4 X y))=false by rw [hN0];exact hLft)
    clear hN0 hLft;have HSt:=hid (show fewR (l.take (k+1))=(OUT.filter fun y=>!qb4 y X)++[X] by rw [HSS.out,qev,HLF.out];rfl);have e7:=hid (show ∀ q,((OUT.take q).filter fun y=>!qb4 y X).length≤1000 from fun q=>by
     have h1:=List.length_filter_le (fun y=>!qb4 y X) (OUT.take q);have h2:(OUT.take q).length≤OUT.length:=by rw [List.length_take];omega
     have:=am.out;omega)
    go_wp2_with fail;have HXB:=hid aa;have HBX:=hid fk;obtain ⟨wb,hwb⟩:=ex1 wr;subst hwb;clear aa fk;go_loopw [44,9] (fun j kv ws=>∃ q:Nat,q≤OUT.length∧j=.int .i64 q∧Own RRef 592 186 ws wb.heap.size kv ((OUT.take q).filter fun y=>!qb4 y X)∧Ext wb ws) (fun j _ _=>OUT.length - (intOf j).toNat)
    case atStart=>exact ⟨0,Nat.zero_le _,rfl,Own.nil,Ext.refl _⟩
    obtain ⟨q,hq,rfl,eH,ar⟩:=hrel
    by_cases eJ:q < OUT.length
    ·obtain ⟨b2,off2,hA2,hbb2,hr⟩:=(HSl.out.ext RRef.mono (HXB.out.trans ar)).ref eJ
     subst hA2;have HFl:=hid (qda (fun y=>!qb4 y X) OUT q eJ);obtain ⟨Y,hY⟩:=ex1 (OUT[q]);rw [← hY] at hr HFl;clear hY;have hbx:=HBX.out.ext ar;have cR:=hbx.lt;go_wp2_with (first
      | ((with_reducible refine qa1 (o:=⟨some 47,_,_,_,_,_⟩) qc7 _ rfl rfl rfl hr (qa5 _) ?_))
      | ((with_reducible refine qa2 (o:=⟨some 11,_,_,_,_,_⟩) qj9 rfl rfl ?_);intro w1 aE aX bX)
      | ((with_reducible refine qa3 (o:=⟨none,_,_,_,_,_⟩) qc7 _ _ rfl rfl rfl rfl aX (qa5 _) (qa5 ⟨fun _=>false,fun _ _=>false⟩) (qcq _) ?_);intro w2 aH aI bC aR;have aK:=aE.below aH (Nat.le_refl _);have dN:=hbx.ext aK;clear aE aH hr)
      | ((with_reducible refine qa1 (o:=⟨some 48,_,_,_,_,_⟩) qc7 _ rfl rfl rfl (aI.whole) (qa5 _) ?_))
      | ((with_reducible refine qa1 (o:=⟨some 49,_,_,_,_,_⟩) qc7 _ rfl rfl rfl (dN.whole) (qa5 _) ?_)))
     refine (qkl Y X _).mono ?_;rintro e w3 ⟨rfl,aM⟩;have eZ:=aK.trans aM;have aL:=aI.ext aM;replace eH:=eH.ext (RRef.mono (B:=0)) eZ;replace ar:=ar.trans eZ;clear aK aM eZ aI dN hbx
     cases hU:qb4 Y X
     ·have fd:=hid (show (OUT.take (q+1)).filter (fun y=>!qb4 y X)=(OUT.take q).filter (fun y=>!qb4 y X)++[Y] by rw [HFl.out,hU];rfl)
      clear hU;go_wp2_with (first
       | ((with_reducible refine qa1 (o:=⟨some 53,_,_,_,_,_⟩) qc7 _ rfl rfl rfl (aL.whole) (qa5 _) ?_))
       | ((with_reducible refine qfi (o:=⟨some 54,_,_,_,_,_⟩) _ rfl rfl rfl ?_);intro w6 aT hL6;replace eH:=eH.ext (RRef.mono (B:=0)) aT;replace ar:=ar.trans aT)
       | (at_builtin;refine qaf (ys:=[Y]) (c:=1) (B:=0) rfl _ _ rfl qz5 rfl eH (Nat.zero_le _) ar.size rfl hL6 RRef.oneC RRef.mono (by have:=e7.out q;simp [maxLen];omega) (by have:=e7.out q;simp;omega) ?_;intro v7 w7 cn _ fY _))
      go_roundw
      case rel=>
       refine ⟨q+1,eJ,by go_num,?_,ar.below fY (Nat.le_refl _)⟩;rw [fd.out];exact cn
      case measure=>simp [intOf];omega
     have fd:=hid (show (OUT.take (q+1)).filter (fun y=>!qb4 y X)=(OUT.take q).filter (fun y=>!qb4 y X) by rw [HFl.out,hU];simp);clear hU;go_wp2_with fail;go_roundw
     case rel=>
      refine ⟨q+1,eJ,by go_num,?_,ar⟩;rw [fd.out];exact eH
     case measure=>simp [intOf];omega
    obtain rfl:q=OUT.length:=by omega
    rw [List.take_length] at eH;have hbx:=HBX.out.ext ar;have HFn:=hid (show (OUT.filter fun y=>!qb4 y X).length≤1000 by have:=e7.out OUT.length;rwa [List.take_length] at this);obtain ⟨FL,hFL⟩:=ex1 (OUT.filter fun y=>!qb4 y X);rw [← hFL] at eH HSt HFn;clear hFL;go_wp2_with (first
     | ((with_reducible refine qa1 (o:=⟨some 58,_,_,_,_,_⟩) qc7 _ rfl rfl rfl (hbx.whole) (qa5 _) ?_))
     | ((with_reducible refine qfi (o:=⟨some 59,_,_,_,_,_⟩) _ rfl rfl rfl ?_);intro w6 aT hL6;replace eH:=eH.ext (RRef.mono (B:=0)) aT;replace ar:=ar.trans aT)
     | (at_builtin;refine qaf (ys:=[X]) (c:=1) (B:=0) rfl _ _ rfl qz5 rfl eH (Nat.zero_le _) ar.size rfl hL6 RRef.oneC RRef.mono (by have:=HFn.out;simp [maxLen];omega) (by have:=HFn.out;simp;omega) ?_;intro v7 w7 cn _ fY _))
    have al:=(dS.out.trans HXB.out).trans (ar.below fY (Nat.le_refl _));have bI:w.heap.size≤wb.heap.size:=(dS.out.trans HXB.out).size;go_roundw
    case rel=>
     refine ⟨k+1,aD,by go_num,?_,al⟩;rw [HSt.out];exact cn.weaken bI
    case measure=>simp [intOf];omega
   have HLF:=hid (show (qlg X||OUT.any (fun y=>qb4 X y))=true by rw [hN0];exact hLft);have HSt:=hid (show fewR (l.take (k+1))=OUT by rw [HSS.out,qev,HLF.out];rfl);clear hN0 hLft;go_wp2_with fail;go_roundw
   case rel=>
    refine ⟨k+1,aD,by go_num,?_,dS.out.trans aa⟩;rw [HSt.out];exact HOV.out.ext (RRef.mono (B:=0)) aa
   case measure=>simp [intOf];omega
  have HNv:=hid (show qlg X=true by rw [HN.out];rfl);go_wp2_with (first
   | ((with_reducible refine qa1 (o:=⟨some 17,_,_,_,_,_⟩) qc7 _ rfl rfl rfl hr (qa5 _) ?_))
   | ((with_reducible refine qa2 (o:=⟨some 5,_,_,_,_,_⟩) qj9 rfl rfl ?_);intro w1 aE aX bX)
   | ((with_reducible refine qa3 (o:=⟨none,_,_,_,_,_⟩) qc7 _ _ rfl rfl rfl rfl aX (qa5 _) (qa5 ⟨fun _=>false,fun _ _=>false⟩) (qcq _) ?_);intro w2 aH aI bC aR;have aK:=aE.below aH (Nat.le_refl _);clear aE aH hr)
   | ((with_reducible refine qa1 (o:=⟨some 19,_,_,_,_,_⟩) qbb _ rfl rfl rfl (qsw aI) (qa6 _ _) ?_))
   | ((with_reducible refine qkw (o:=⟨some 20,_,_,_,_,_⟩) qnb rfl rfl ?_)))
  have dS:=hid hx;have HOV:=hid aQ;have L0:=am.out;clear hx aQ;have aa:Ext wr w2:=aK;have fk:=aI;obtain ⟨r,hr⟩:=ex1 wr.heap.size;rw [← hr] at fk ⊢;obtain ⟨wo,ft⟩:=ex1 wr;rw [← ft] at aa HSl dS HOV;clear aK aI bC aR aX bX hr ft;go_loopw [30,6] (fun j lf ws=>∃ q:Nat,q≤OUT.length∧j=.int .i64 q∧lf=.bool (true||(OUT.take q).any (fun y=>qb4 X y))∧Blk ws r 186 (rowB 512 X.P++rowD X.K)∧Ext wo ws) (fun j _ _=>OUT.length - (intOf j).toNat)
  case atStart=>exact ⟨0,Nat.zero_le _,rfl,by simp,fk,aa⟩
  clear fk aa;obtain ⟨q,hq,rfl,rfl,fk,aa⟩:=hrel
  by_cases eJ:q < OUT.length
  ·obtain ⟨b2,off2,hA2,hbb2,hr⟩:=(HSl.out.ext RRef.mono aa).ref eJ
   subst hA2;have HAn:=hid (qyk (fun y=>qb4 X y) true OUT q eJ);obtain ⟨Y,hY⟩:=ex1 (OUT[q]);rw [← hY] at hr HAn;clear hY;have cR:=fk.lt
   cases hLf:(true||(OUT.take q).any (fun y=>qb4 X y))
   ·rw [hLf] at HAn
    clear hLf;go_wp2_with (first
     | ((with_reducible refine qa1 (o:=⟨some 33,_,_,_,_,_⟩) qc7 _ rfl rfl rfl hr (qa5 _) ?_))
     | ((with_reducible refine qa2 (o:=⟨some 8,_,_,_,_,_⟩) qj9 rfl rfl ?_);intro w1 aE aX bX)
     | ((with_reducible refine qa3 (o:=⟨none,_,_,_,_,_⟩) qc7 _ _ rfl rfl rfl rfl aX (qa5 _) (qa5 ⟨fun _=>false,fun _ _=>false⟩) (qcq _) ?_);intro w2 aH aI bC aR;have aK:=aE.below aH (Nat.le_refl _);have dN:=fk.ext aK;clear aE aH hr))
    refine qd4 (o:=⟨some 36,_,_,_,_,_⟩) qc7 _ rfl rfl (dN.whole) (qa5 _) ?_;go_wp2_with fail;refine qd4 (o:=⟨some 37,_,_,_,_,_⟩) qc7 _ rfl rfl (aI.whole) (qa5 _) ?_;go_wp2_with fail;refine (qkl X Y _).mono ?_;rintro e w3 ⟨rfl,aM⟩;go_wp2_with fail;go_roundw
    case rel=>exact ⟨q+1,eJ,by go_num,by rw [HAn.out];simp,dN.ext aM,(aa.trans aK).trans aM⟩
    case measure=>simp [intOf];omega
   rw [hLf] at HAn;clear hLf;go_wp2_with (first
    | ((with_reducible refine qa1 (o:=⟨some 33,_,_,_,_,_⟩) qc7 _ rfl rfl rfl hr (qa5 _) ?_))
    | ((with_reducible refine qa2 (o:=⟨some 8,_,_,_,_,_⟩) qj9 rfl rfl ?_);intro w1 aE aX bX)
    | ((with_reducible refine qa3 (o:=⟨none,_,_,_,_,_⟩) qc7 _ _ rfl rfl rfl rfl aX (qa5 _) (qa5 ⟨fun _=>false,fun _ _=>false⟩) (qcq _) ?_);intro w2 aH aI bC aR;have aK:=aE.below aH (Nat.le_refl _);have dN:=fk.ext aK;clear aE aH hr))
   go_roundw
   case rel=>exact ⟨q+1,eJ,by go_num,by rw [HAn.out];simp,dN,aa.trans aK⟩
   case measure=>simp [intOf];omega
  obtain rfl:q=OUT.length:=by omega
  rw [List.take_length];have hN0:=HNv.out
  cases hLft:(true||OUT.any (fun y=>qb4 X y))
  ·have HLF:=hid (show (qlg X||OUT.any (fun y=>qb4 X y))=false by rw [hN0];exact hLft)
   clear hN0 hLft;have HSt:=hid (show fewR (l.take (k+1))=(OUT.filter fun y=>!qb4 y X)++[X] by rw [HSS.out,qev,HLF.out];rfl);have e7:=hid (show ∀ q,((OUT.take q).filter fun y=>!qb4 y X).length≤1000 from fun q=>by
    have h1:=List.length_filter_le (fun y=>!qb4 y X) (OUT.take q);have h2:(OUT.take q).length≤OUT.length:=by rw [List.length_take];omega
    have:=am.out;omega)
   go_wp2_with fail;have HXB:=hid aa;have HBX:=hid fk;obtain ⟨wb,hwb⟩:=ex1 wr;subst hwb;clear aa fk;go_loopw [44,9] (fun j kv ws=>∃ q:Nat,q≤OUT.length∧j=.int .i64 q∧Own RRef 592 186 ws wb.heap.size kv ((OUT.take q).filter fun y=>!qb4 y X)∧Ext wb ws) (fun j _ _=>OUT.length - (intOf j).toNat)
   case atStart=>exact ⟨0,Nat.zero_le _,rfl,Own.nil,Ext.refl _⟩
   obtain ⟨q,hq,rfl,eH,ar⟩:=hrel
   by_cases eJ:q < OUT.length
   ·obtain ⟨b2,off2,hA2,hbb2,hr⟩:=(HSl.out.ext RRef.mono (HXB.out.trans ar)).ref eJ
    subst hA2;have HFl:=hid (qda (fun y=>!qb4 y X) OUT q eJ);obtain ⟨Y,hY⟩:=ex1 (OUT[q]);rw [← hY] at hr HFl;clear hY;have hbx:=HBX.out.ext ar;have cR:=hbx.lt;go_wp2_with (first
     | ((with_reducible refine qa1 (o:=⟨some 47,_,_,_,_,_⟩) qc7 _ rfl rfl rfl hr (qa5 _) ?_))
     | ((with_reducible refine qa2 (o:=⟨some 11,_,_,_,_,_⟩) qj9 rfl rfl ?_);intro w1 aE aX bX)
     | ((with_reducible refine qa3 (o:=⟨none,_,_,_,_,_⟩) qc7 _ _ rfl rfl rfl rfl aX (qa5 _) (qa5 ⟨fun _=>false,fun _ _=>false⟩) (qcq _) ?_);intro w2 aH aI bC aR;have aK:=aE.below aH (Nat.le_refl _);have dN:=hbx.ext aK;clear aE aH hr)
     | ((with_reducible refine qa1 (o:=⟨some 48,_,_,_,_,_⟩) qc7 _ rfl rfl rfl (aI.whole) (qa5 _) ?_))
     | ((with_reducible refine qa1 (o:=⟨some 49,_,_,_,_,_⟩) qc7 _ rfl rfl rfl (dN.whole) (qa5 _) ?_)))
    refine (qkl Y X _).mono ?_;rintro e w3 ⟨rfl,aM⟩;have eZ:=aK.trans aM;have aL:=aI.ext aM;replace eH:=eH.ext (RRef.mono (B:=0)) eZ;replace ar:=ar.trans eZ;clear aK aM eZ aI dN hbx
    cases hU:qb4 Y X
    ·have fd:=hid (show (OUT.take (q+1)).filter (fun y=>!qb4 y X)=(OUT.take q).filter (fun y=>!qb4 y X)++[Y] by rw [HFl.out,hU];rfl)
     clear hU;go_wp2_with (first
      | ((with_reducible refine qa1 (o:=⟨some 53,_,_,_,_,_⟩) qc7 _ rfl rfl rfl (aL.whole) (qa5 _) ?_))
      | ((with_reducible refine qfi (o:=⟨some 54,_,_,_,_,_⟩) _ rfl rfl rfl ?_);intro w6 aT hL6;replace eH:=eH.ext (RRef.mono (B:=0)) aT;replace ar:=ar.trans aT)
      | (at_builtin;refine qaf (ys:=[Y]) (c:=1) (B:=0) rfl _ _ rfl qz5 rfl eH (Nat.zero_le _) ar.size rfl hL6 RRef.oneC RRef.mono (by have:=e7.out q;simp [maxLen];omega) (by have:=e7.out q;simp;omega) ?_;intro v7 w7 cn _ fY _))
     go_roundw
     case rel=>
      refine ⟨q+1,eJ,by go_num,?_,ar.below fY (Nat.le_refl _)⟩;rw [fd.out];exact cn
     case measure=>simp [intOf];omega
    have fd:=hid (show (OUT.take (q+1)).filter (fun y=>!qb4 y X)=(OUT.take q).filter (fun y=>!qb4 y X) by rw [HFl.out,hU];simp);clear hU;go_wp2_with fail;go_roundw
    case rel=>
     refine ⟨q+1,eJ,by go_num,?_,ar⟩;rw [fd.out];exact eH
    case measure=>simp [intOf];omega
   obtain rfl:q=OUT.length:=by omega
   rw [List.take_length] at eH;have hbx:=HBX.out.ext ar;have HFn:=hid (show (OUT.filter fun y=>!qb4 y X).length≤1000 by have:=e7.out OUT.length;rwa [List.take_length] at this);obtain ⟨FL,hFL⟩:=ex1 (OUT.filter fun y=>!qb4 y X);rw [← hFL] at eH HSt HFn;clear hFL;go_wp2_with (first
    | ((with_reducible refine qa1 (o:=⟨some 58,_,_,_,_,_⟩) qc7 _ rfl rfl rfl (hbx.whole) (qa5 _) ?_))
    | ((with_reducible refine qfi (o:=⟨some 59,_,_,_,_,_⟩) _ rfl rfl rfl ?_);intro w6 aT hL6;replace eH:=eH.ext (RRef.mono (B:=0)) aT;replace ar:=ar.trans aT)
    | (at_builtin;refine qaf (ys:=[X]) (c:=1) (B:=0) rfl _ _ rfl qz5 rfl eH (Nat.zero_le _) ar.size rfl hL6 RRef.oneC RRef.mono (by have:=HFn.out;simp [maxLen];omega) (by have:=HFn.out;simp;omega) ?_;intro v7 w7 cn _ fY _))
   have al:=(dS.out.trans HXB.out).trans (ar.below fY (Nat.le_refl _));have bI:w.heap.size≤wb.heap.size:=(dS.out.trans HXB.out).size;go_roundw
   case rel=>
    refine ⟨k+1,aD,by go_num,?_,al⟩;rw [HSt.out];exact cn.weaken bI
   case measure=>simp [intOf];omega
  have HLF:=hid (show (qlg X||OUT.any (fun y=>qb4 X y))=true by rw [hN0];exact hLft);have HSt:=hid (show fewR (l.take (k+1))=OUT by rw [HSS.out,qev,HLF.out];rfl);clear hN0 hLft;go_wp2_with fail;go_roundw
  case rel=>
   refine ⟨k+1,aD,by go_num,?_,dS.out.trans aa⟩;rw [HSt.out];exact HOV.out.ext (RRef.mono (B:=0)) aa
  case measure=>simp [intOf];omega
 obtain rfl:k=l.length:=by omega
 rw [List.take_length] at aQ;go_wp2_with fail;go_ret;exact ⟨_,rfl,aQ,hx⟩
end Go.Proofs.YtngbfdogiciahaaGreat
