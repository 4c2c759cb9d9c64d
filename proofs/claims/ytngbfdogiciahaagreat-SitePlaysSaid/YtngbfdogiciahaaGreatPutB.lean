/- The walk of slices.BinarySearchFunc at versions. -/
import Derived.Test.YtngbfdogiciahaaGreatJoinSiteY
set_option maxRecDepth 100000
set_option maxHeartbeats 40000000
namespace Go.Proofs.YtngbfdogiciahaaGreat
open Go Go.RowKit
def SrchV (l:List Version) (v:Version) (lo hi:Nat):Prop:=(∀ (t:Nat) (h:t < l.length),t < lo→qbi l[t] v=true)∧(∀ (t:Nat) (h:t < l.length),hi≤t→qbi l[t] v=false)
theorem SrchV.start (l:List Version) (v:Version):SrchV l v 0 l.length:=⟨fun _ _ h=>absurd h (by omega),fun _ h g=>absurd h (by omega)⟩
theorem SrchV.right {l:List Version} {v:Version} {lo hi m:Nat} (hs:Inc l) (h:SrchV l v lo hi) (hm:m < l.length) (hc:qbi l[m] v=true):SrchV l v (m+1) hi:=by
 refine ⟨fun t ht aD=>?_,h.2⟩;rcases Nat.lt_or_ge t m with g | g
 ·exact qer (List.pairwise_iff_getElem.1 hs t m ht hm g) hc
 obtain rfl:t=m:=by omega
 exact hc
theorem SrchV.left {l:List Version} {v:Version} {lo hi m:Nat} (hs:Inc l) (h:SrchV l v lo hi) (hm:m < l.length) (hc:qbi l[m] v=false):SrchV l v lo m:=by
 refine ⟨h.1,fun t ht aD=>?_⟩;rcases Nat.lt_or_ge m t with g | g
 ·cases q:qbi l[t] v
  ·rfl
  rw [qer (List.pairwise_iff_getElem.1 hs m t hm ht g) q] at hc;cases hc
 obtain rfl:t=m:=by omega
 exact hc
theorem qy3 (B:Nat) (A:Option Addr) (c:Nat) (l:List Version) (v:Version) (Av:Option Addr) (cv:Nat) (Am:Option Addr) (cm:Nat) (w:World) (hl:l.length≤60) (h:qb6 B w A l) (hs:Inc l) (ho:∀ x∈l,qb8 x.dot=true) (hd:qb8 v.dot=true) :
  Calls Tryz.prog 150 #[.slice A l.length c,.agg #[.string v.id, .int .i64 v.dot.site, .int .i64 v.dot.count, .int .i64 v.pt.tags, .int .i64 v.pt.num, .int .i64 v.body, .slice Av v.past.vec.length cv, .slice Am v.past.more.length cm],.func (.func 151) #[] #[]] w fun e w'=>e=.returned (.tuple #[.int .i64 (pos l v:Int),.bool (qcv l v)])∧Ext w w':=by
 have HS:=hid hs;have HO:=hid ho;have HD:=hid hd;clear hs ho hd;have hx:=(Ext.refl w).alloc (.cells #[.string v.id, .int .i64 v.dot.site, .int .i64 v.dot.count, .int .i64 v.pt.tags, .int .i64 v.pt.num, .int .i64 v.body, .slice Av v.past.vec.length cv, .slice Am v.past.more.length cm] 151);have ap:=Blk.new w 151 #[.string v.id, .int .i64 v.dot.site, .int .i64 v.dot.count, .int .i64 v.pt.tags, .int .i64 v.pt.num, .int .i64 v.body, .slice Av v.past.vec.length cv, .slice Am v.past.more.length cm];go_enter Tryz.func150, Tryz.ntmps150;go_wp2_with fail;go_loopw [9,10] (fun x y wr=>∃ lo hi:Nat,x=.int .i64 lo∧y=.int .i64 hi∧lo≤hi∧hi≤l.length∧SrchV l v lo hi∧Ext w wr∧Blk wr w.heap.size 151 #[.string v.id, .int .i64 v.dot.site, .int .i64 v.dot.count, .int .i64 v.pt.tags, .int .i64 v.pt.num, .int .i64 v.body, .slice Av v.past.vec.length cv, .slice Am v.past.more.length cm]) (fun x y _=>(intOf y).toNat - (intOf x).toNat)
 case atStart=>exact ⟨0,l.length,rfl,rfl,Nat.zero_le _,Nat.le_refl _,SrchV.start l v,hx,ap⟩
 clear hx ap;obtain ⟨lo,hi,rfl,rfl,h1,h2,hsr,hx,ap⟩:=hrel;have HR:=hid hsr;clear hsr
 by_cases aD:lo < hi
 ·obtain ⟨m,hm⟩:=ex1 ((lo+hi) / 2)
  have f8:m < l.length:=by omega
  have dZ:=hid f8;obtain ⟨b,off,Au,cu,Mu,du,rfl,hb,bS,_⟩:=(h.ext RVer.monoE hx).ver f8;have HC:=hid (fun w'=>qkn l[m] v Au cu Mu du Av cv Am cm w' (HO.out _ (List.getElem_mem dZ.out)) HD.out);generalize fV:l[m]=y at bS HC;have hy:=fV.symm;have HY:=hid hy;obtain ⟨C,hC⟩:=ex1 (qbw y v);have HCC:=hid hC;rw [← hC] at HC;clear hy fV hC;have em:((lo:Int)+(hi:Int)) / 2=(m:Int):=by omega
  have HM:=hid hm;clear hm
  by_cases hc:C < 0
  ·have HN:=hid (HR.out.right HS.out dZ.out (qkv.1 (show qbw l[m] v < 0 by rw [← HY.out,← HCC.out];exact hc)))
   have hc':decide (C < 0)=true:=decide_eq_true hc;clear hc;go_wp2_with fail;have aB:=hid (fun w' (x:Ext wr w')=>show w'.cell? ⟨w.heap.size,0,none⟩=some (.string v.id)∧w'.cell? ⟨w.heap.size,1,none⟩=some (.int .i64 v.dot.site) from ⟨(ap.ext x).cell rfl,(ap.ext x).cell rfl⟩);have HWV:=hid (fun w' (x:Ext wr w')=>show w'.rangeAt w.heap.size 0 (#[.string v.id, .int .i64 v.dot.site, .int .i64 v.dot.count, .int .i64 v.pt.tags, .int .i64 v.pt.num, .int .i64 v.body, .slice Av v.past.vec.length cv, .slice Am v.past.more.length cm]:Array Value).toList from (ap.ext x).whole);have HWE:=hid (fun w' (x:Ext wr w')=>show w'.rangeAt b (off+m*8) (#[.string y.id, .int .i64 y.dot.site, .int .i64 y.dot.count, .int .i64 y.pt.tags, .int .i64 y.pt.num, .int .i64 y.body, .slice Au y.past.vec.length cu, .slice Mu y.past.more.length du]:Array Value).toList from qb9 x bS);have HBV:=hid ap;clear ap bS;refine qaj (fun w'=>Ext wr w') (by kernel_rfl) (by kernel_rfl) (Ext.refl _).drew ?_
   iterate 4
    refine wqg aB.out _ ?_;try simp only [pq]
   refine qfo qam (by rfl) HWE.out rfl ?_;(try simp only [pq]);refine qfo qam (by rfl) HWV.out rfl ?_;(try simp only [pq]);refine qn4 (by rfl) Tryz.call151 (by rfl) (fun w' x=>(HC.out w').mono fun _ _ h=>⟨h.1,x.trans h.2⟩) ?_;(try simp only [pq]);refine wqg aB.out _ ?_;(try simp only [pq]);(try simp only [hc']);refine qcf ?_;intro w25 aA;go_wp2_with fail;go_roundw
   case rel=>exact ⟨m+1,hi,by go_num,rfl,by have:=HM.out;omega,h2,HN.out,hx.trans aA,HBV.out.ext aA⟩
   case measure=>have:=HM.out;simp [intOf];omega
  have HN:=hid (HR.out.left HS.out dZ.out (by
   cases q:qbi l[m] v
   ·rfl
   exact absurd (qkv.2 q) (by rw [← HY.out,← HCC.out];exact hc)))
  have hc':decide (C < 0)=false:=decide_eq_false hc;clear hc;go_wp2_with fail;have aB:=hid (fun w' (x:Ext wr w')=>show w'.cell? ⟨w.heap.size,0,none⟩=some (.string v.id)∧w'.cell? ⟨w.heap.size,1,none⟩=some (.int .i64 v.dot.site) from ⟨(ap.ext x).cell rfl,(ap.ext x).cell rfl⟩);have HWV:=hid (fun w' (x:Ext wr w')=>show w'.rangeAt w.heap.size 0 (#[.string v.id, .int .i64 v.dot.site, .int .i64 v.dot.count, .int .i64 v.pt.tags, .int .i64 v.pt.num, .int .i64 v.body, .slice Av v.past.vec.length cv, .slice Am v.past.more.length cm]:Array Value).toList from (ap.ext x).whole);have HWE:=hid (fun w' (x:Ext wr w')=>show w'.rangeAt b (off+m*8) (#[.string y.id, .int .i64 y.dot.site, .int .i64 y.dot.count, .int .i64 y.pt.tags, .int .i64 y.pt.num, .int .i64 y.body, .slice Au y.past.vec.length cu, .slice Mu y.past.more.length du]:Array Value).toList from qb9 x bS);have HBV:=hid ap;clear ap bS;refine qaj (fun w'=>Ext wr w') (by kernel_rfl) (by kernel_rfl) (Ext.refl _).drew ?_
  iterate 4
   refine wqg aB.out _ ?_;try simp only [pq]
  refine qfo qam (by rfl) HWE.out rfl ?_;(try simp only [pq]);refine qfo qam (by rfl) HWV.out rfl ?_;(try simp only [pq]);refine qn4 (by rfl) Tryz.call151 (by rfl) (fun w' x=>(HC.out w').mono fun _ _ h=>⟨h.1,x.trans h.2⟩) ?_;(try simp only [pq]);refine wqg aB.out _ ?_;(try simp only [pq]);(try simp only [hc']);refine qcf ?_;intro w25 aA;go_wp2_with fail;go_roundw
  case rel=>exact ⟨lo,m,rfl,rfl,by have:=HM.out;omega,by omega,HN.out,hx.trans aA,HBV.out.ext aA⟩
  case measure=>have:=HM.out;simp [intOf];omega
 ·obtain rfl:hi=lo:=by omega
  have HP:=hid (jg5 HS.out h2 (fun k g e=>HR.out.1 k g e) (fun k g e=>HR.out.2 k g e))
  by_cases hn:hi < l.length
  focus
   have dZ:=hid hn;obtain ⟨b,off,Au,cu,Mu,du,rfl,hb,bS,_⟩:=(h.ext RVer.monoE hx).ver hn;have HC:=hid (fun w'=>qkn l[hi] v Au cu Mu du Av cv Am cm w' (HO.out _ (List.getElem_mem dZ.out)) HD.out);generalize fV:l[hi]=y at bS HC;have hy:=fV.symm;have HY:=hid hy;obtain ⟨C,hC⟩:=ex1 (qbw y v);have HCC:=hid hC;rw [← hC] at HC;clear hy fV hC;have HF:=hid (show qcv l v=decide (C=0) by
    have e1:=HP.out;have e2:=dZ.out;rw [HCC.out,HY.out]
    by_cases e:qbw l[hi] v=0
    ·refine Eq.trans ?_ (decide_eq_true e).symm
     subst e1;exact jcy e2 e
    refine Eq.trans ?_ (decide_eq_false e).symm;subst e1;exact qvv HS.out (fun g=>by rw [List.getElem?_eq_getElem g];exact e))
   have hn':decide (hi < l.length)=true:=decide_eq_true hn;have hni:decide ((hi:Int) < l.length)=true:=decide_eq_true (by omega)
   by_cases hc:C=0
   focus
    have HN:=hid (show qcv l v=true by rw [HF.out];exact decide_eq_true hc);have hc':(C==0)=true:=beq_iff_eq.2 hc;clear hc;go_wp2_with fail;have aB:=hid (fun w' (x:Ext wr w')=>show w'.cell? ⟨w.heap.size,0,none⟩=some (.string v.id)∧w'.cell? ⟨w.heap.size,1,none⟩=some (.int .i64 v.dot.site) from ⟨(ap.ext x).cell rfl,(ap.ext x).cell rfl⟩);have HWV:=hid (fun w' (x:Ext wr w')=>show w'.rangeAt w.heap.size 0 (#[.string v.id, .int .i64 v.dot.site, .int .i64 v.dot.count, .int .i64 v.pt.tags, .int .i64 v.pt.num, .int .i64 v.body, .slice Av v.past.vec.length cv, .slice Am v.past.more.length cm]:Array Value).toList from (ap.ext x).whole);have HWE:=hid (fun w' (x:Ext wr w')=>show w'.rangeAt b (off+hi*8) (#[.string y.id, .int .i64 y.dot.site, .int .i64 y.dot.count, .int .i64 y.pt.tags, .int .i64 y.pt.num, .int .i64 y.body, .slice Au y.past.vec.length cu, .slice Mu y.past.more.length du]:Array Value).toList from qb9 x bS);have HBV:=hid ap;clear ap bS;refine qaj (fun w'=>Ext wr w') (by kernel_rfl) (by kernel_rfl) (Ext.refl _).drew ?_
    iterate 4
     refine wqg aB.out _ ?_;try simp only [pq]
    (try simp only [hc']);(try simp only [hn']);(try simp only [hni]);refine wqg aB.out _ ?_;try simp only [pq]
    iterate 4
     refine wqo aB.out _ (qa9 rfl rfl rfl) ?_;try simp only [pq]
    refine qf3 qam (qa9 rfl rfl rfl) (by rfl) HWE.out rfl ?_;(try simp only [pq]);refine qf3 qam (qa9 rfl rfl rfl) (by rfl) HWV.out rfl ?_;(try simp only [pq]);refine qj2 (by rfl) Tryz.call151 (qa9 rfl rfl rfl) (by rfl) (fun w' x=>(HC.out w').mono fun _ _ h=>⟨h.1,x.trans h.2⟩) ?_;(try simp only [pq]);refine wqo aB.out _ (qa9 rfl rfl rfl) ?_;(try simp only [pq]);(try simp only [hc']);(try simp only [hn']);try simp only [hni]
   rotate_left
   focus
    have HN:=hid (show qcv l v=false by rw [HF.out];exact decide_eq_false hc);have hc':(C==0)=false:=beq_eq_false_iff_ne.2 hc;clear hc;go_wp2_with fail;have aB:=hid (fun w' (x:Ext wr w')=>show w'.cell? ⟨w.heap.size,0,none⟩=some (.string v.id)∧w'.cell? ⟨w.heap.size,1,none⟩=some (.int .i64 v.dot.site) from ⟨(ap.ext x).cell rfl,(ap.ext x).cell rfl⟩);have HWV:=hid (fun w' (x:Ext wr w')=>show w'.rangeAt w.heap.size 0 (#[.string v.id, .int .i64 v.dot.site, .int .i64 v.dot.count, .int .i64 v.pt.tags, .int .i64 v.pt.num, .int .i64 v.body, .slice Av v.past.vec.length cv, .slice Am v.past.more.length cm]:Array Value).toList from (ap.ext x).whole);have HWE:=hid (fun w' (x:Ext wr w')=>show w'.rangeAt b (off+hi*8) (#[.string y.id, .int .i64 y.dot.site, .int .i64 y.dot.count, .int .i64 y.pt.tags, .int .i64 y.pt.num, .int .i64 y.body, .slice Au y.past.vec.length cu, .slice Mu y.past.more.length du]:Array Value).toList from qb9 x bS);have HBV:=hid ap;clear ap bS;refine qaj (fun w'=>Ext wr w') (by kernel_rfl) (by kernel_rfl) (Ext.refl _).drew ?_
    iterate 4
     refine wqg aB.out _ ?_;try simp only [pq]
    (try simp only [hc']);(try simp only [hn']);(try simp only [hni]);refine wqg aB.out _ ?_;try simp only [pq]
    iterate 4
     refine wqo aB.out _ (qa9 rfl rfl rfl) ?_;try simp only [pq]
    refine qf3 qam (qa9 rfl rfl rfl) (by rfl) HWE.out rfl ?_;(try simp only [pq]);refine qf3 qam (qa9 rfl rfl rfl) (by rfl) HWV.out rfl ?_;(try simp only [pq]);refine qj2 (by rfl) Tryz.call151 (qa9 rfl rfl rfl) (by rfl) (fun w' x=>(HC.out w').mono fun _ _ h=>⟨h.1,x.trans h.2⟩) ?_;(try simp only [pq]);refine wqo aB.out _ (qa9 rfl rfl rfl) ?_;(try simp only [pq]);(try simp only [hc']);(try simp only [hn']);try simp only [hni]
  rotate_left 2
  focus
   obtain rfl:hi=l.length:=by omega
   have HN:=hid (show qcv l v=false from qvv HS.out (fun g=>absurd g (by rw [← HP.out];omega)));have hn':decide (l.length < l.length)=false:=decide_eq_false (by omega);have hni:decide ((l.length:Int) < l.length)=false:=decide_eq_false (by omega);go_wp2_with fail;have aB:=hid (fun w' (x:Ext wr w')=>show w'.cell? ⟨w.heap.size,0,none⟩=some (.string v.id)∧w'.cell? ⟨w.heap.size,1,none⟩=some (.int .i64 v.dot.site) from ⟨(ap.ext x).cell rfl,(ap.ext x).cell rfl⟩);clear ap;refine qaj (fun w'=>Ext wr w') (by kernel_rfl) (by kernel_rfl) (Ext.refl _).drew ?_
   iterate 4
    refine wqg aB.out _ ?_;try simp only [pq]
   (try simp only [hn']);(try simp only [hni]);refine wqg aB.out _ ?_;try simp only [pq]
   iterate 8
    refine qhq (qa9 rfl rfl rfl) ?_;try simp only [pq]
  all_goals
   iterate 3
    refine wqg aB.out _ ?_;try simp only [pq]
   refine qcf ?_;intro w25 aA;go_wp2_with fail;go_ret2;exact ⟨by rw [HN.out,← HP.out];rfl,hx.trans aA⟩
end Go.Proofs.YtngbfdogiciahaaGreat
