/- Texts joined. -/
import Derived.Test.YtngbfdogiciahaaGreatShelfE
import Derived.Test.YtngbfdogiciahaaGreatKnF
set_option maxRecDepth 100000
set_option maxHeartbeats 40000000
namespace Go.Proofs.YtngbfdogiciahaaGreat
open Go Go.RowKit
theorem qoo (B1 B2:Nat) (v:Version) (Aa:Option Addr) (ca:Nat) (Ma:Option Addr) (da:Nat) (Ab:Option Addr) (cb:Nat) (Mb:Option Addr) (db:Nat) (w:World) (ha:InV B1 w Aa ca Ma da v) (hb:InV B2 w Ab cb Mb db v) :
  Calls Tryz.prog 76 #[.agg #[.string v.id, .int .i64 v.dot.site, .int .i64 v.dot.count, .int .i64 v.pt.tags, .int .i64 v.pt.num, .int .i64 v.body, .slice Aa v.past.vec.length ca, .slice Ma v.past.more.length da],.agg #[.string v.id, .int .i64 v.dot.site, .int .i64 v.dot.count, .int .i64 v.pt.tags, .int .i64 v.pt.num, .int .i64 v.body, .slice Ab v.past.vec.length cb, .slice Mb v.past.more.length db]] w fun e w'=>e=.returned (.bool true)∧Ext w w':=by
 have aY:=((Ext.refl w).alloc (.cells #[.string v.id, .int .i64 v.dot.site, .int .i64 v.dot.count, .int .i64 v.pt.tags, .int .i64 v.pt.num, .int .i64 v.body, .slice Aa v.past.vec.length ca, .slice Ma v.past.more.length da] 151)).alloc (.cells #[.string v.id, .int .i64 v.dot.site, .int .i64 v.dot.count, .int .i64 v.pt.tags, .int .i64 v.pt.num, .int .i64 v.body, .slice Ab v.past.vec.length cb, .slice Mb v.past.more.length db] 151);have HA:=hid ha;have HB:=hid hb;clear ha hb;have h1:(v.id.toList==v.id.toList)=true:=by simp
 go_enter Tryz.func76, Tryz.ntmps76;go_wp2_with fail;refine (qid B1 B2 v.past v.past Aa ca Ma da Ab cb Mb db _ (HA.out.k.ext aY) (HB.out.k.ext aY)).mono ?_;rintro e w1 ⟨rfl,aE⟩;have hd:decide (v.past=v.past)=true:=decide_eq_true rfl;go_wp2_with fail;go_ret;exact ⟨rfl,aY.trans aE⟩
theorem qx9 (B1 B2:Nat) (A1:Option Addr) (c1:Nat) (A2:Option Addr) (c2:Nat) (l:List Version) (w:World) (hl:l.length≤maxLen) (h:qb6 B1 w A1 l) (g:qb6 B2 w A2 l) :
  Calls Tryz.prog 75 #[.slice A1 l.length c1,.slice A2 l.length c2,.func (.func 76) #[] #[]] w fun e w'=>e=.returned (.bool true)∧Ext w w':=by
 unfold maxLen at hl;have hll:(l.length:Int)≤9223372036854775807:=by omega
 go_enter Tryz.func75, Tryz.ntmps75;go_wp2_with fail;go_loopw [17] (fun i wr=>∃ k:Nat,k≤l.length∧i=.int .i64 k∧Ext w wr) (fun i _=>l.length - (intOf i).toNat)
 case atStart=>exact ⟨0,Nat.zero_le _,rfl,Ext.refl _⟩
 obtain ⟨k,hk,rfl,hx⟩:=hrel
 by_cases aD:k < l.length
 ·obtain ⟨b,off,Av,cv,Am,cm,rfl,hb,hr,hI⟩:=(h.ext RVer.monoE hx).ver aD
  obtain ⟨b',off',Bv,dv,Bm,dm,rfl,hb',hr',hJ⟩:=(g.ext RVer.monoE hx).ver aD;have HI:=hid hI;have HJ:=hid hJ;have aK:=(Ext.refl wr).alloc (.cells #[.string l[k].id, .int .i64 l[k].dot.site, .int .i64 l[k].dot.count, .int .i64 l[k].pt.tags, .int .i64 l[k].pt.num, .int .i64 l[k].body, .slice Av l[k].past.vec.length cv, .slice Am l[k].past.more.length cm] 151);have hr2:=qb9 aK hr';have hxm:=aK.alloc (.cells #[.string l[k].id, .int .i64 l[k].dot.site, .int .i64 l[k].dot.count, .int .i64 l[k].pt.tags, .int .i64 l[k].pt.num, .int .i64 l[k].body, .slice Bv l[k].past.vec.length dv, .slice Bm l[k].past.more.length dm] 151);have aW:([.string l[k].id, .int .i64 l[k].dot.site, .int .i64 l[k].dot.count, .int .i64 l[k].pt.tags, .int .i64 l[k].pt.num, .int .i64 l[k].body, .slice Av l[k].past.vec.length cv, .slice Am l[k].past.more.length cm]:List Value).length=8:=rfl;have hsz2:([.string l[k].id, .int .i64 l[k].dot.site, .int .i64 l[k].dot.count, .int .i64 l[k].pt.tags, .int .i64 l[k].pt.num, .int .i64 l[k].body, .slice Bv l[k].past.vec.length dv, .slice Bm l[k].past.more.length dm]:List Value).length=8:=rfl;clear hI hJ hr';go_wp2_with (first | (with_reducible refine qaa (o:=⟨some 21,_,_,_,_,_⟩) qam _ rfl rfl rfl hr aW ?_) | (with_reducible refine qaa (o:=⟨some 25,_,_,_,_,_⟩) qam _ rfl rfl rfl hr2 hsz2 ?_));clear hr hr2 aW hsz2;refine (qoo B1 B2 l[k] Av cv Am cm Bv dv Bm dm _ (HI.out.ext hxm) (HJ.out.ext hxm)).mono ?_;rintro e w1 ⟨rfl,aE⟩;have eZ:=hx.trans (hxm.trans aE);clear hx hxm aK aE;go_wp2_with fail;go_roundw
  case rel=>exact ⟨k+1,aD,by go_num,eZ⟩
  case measure=>simp [intOf];omega
 obtain rfl:k=l.length:=by omega
 go_wp2_with fail;go_ret;exact ⟨rfl,hx⟩
theorem qff (B1 B2:Nat) (A1:Option Addr) (c1:Nat) (A2:Option Addr) (c2:Nat) (l:List Version) (w:World) (hl:l.length≤maxLen) (h:qb6 B1 w A1 l) (g:qb6 B2 w A2 l) :
  Calls Tryz.prog 22 #[.slice A1 l.length c1,.slice A2 l.length c2] w fun e w'=>e=.returned (.bool true)∧Ext w w':=by
 go_enter Tryz.func22, Tryz.ntmps22;go_wp2_with fail;refine (qx9 B1 B2 A1 c1 A2 c2 l _ hl h g).mono ?_;rintro e w1 ⟨rfl,hx⟩;go_wp2_with fail;go_ret;exact ⟨rfl,hx⟩
theorem jgw (v:Version) (Av:Option Addr) (cv:Nat) (Am:Option Addr) (cm:Nat) (s:ByteArray) (r:Nat) (w:World) (hc:w.cell? ⟨r,0,none⟩=some (.string s)) :
  Calls Tryz.prog 174 #[.agg #[.string v.id, .int .i64 v.dot.site, .int .i64 v.dot.count, .int .i64 v.pt.tags, .int .i64 v.pt.num, .int .i64 v.body, .slice Av v.past.vec.length cv, .slice Am v.past.more.length cm],.pointer (some ⟨r,0,none⟩)] w fun e w'=>e=.returned (.bool (!sEq v.id s))∧Ext w w':=by
 have aY:=(Ext.refl w).alloc (.cells #[.string v.id, .int .i64 v.dot.site, .int .i64 v.dot.count, .int .i64 v.pt.tags, .int .i64 v.pt.num, .int .i64 v.body, .slice Av v.past.vec.length cv, .slice Am v.past.more.length cm] 151);have hb:r < w.heap.size:=World.block_lt_of_cell? _ _ hc
 cases h1:sEq v.id s
 ·have h1':(v.id.toList==s.toList)=false:=h1
  clear h1;go_enter Tryz.func174, Tryz.ntmps174;go_wp2_with fail;go_ret;exact ⟨rfl,aY⟩
 have h1':(v.id.toList==s.toList)=true:=h1;clear h1;go_enter Tryz.func174, Tryz.ntmps174;go_wp2_with fail;go_ret;exact ⟨rfl,aY⟩
theorem jas (B:Nat) (A:Option Addr) (c:Nat) (l:List Version) (s:ByteArray) (w:World) (hB:B≤w.heap.size) (hl:l.length≤10000) (h:qb6 B w A l) :
  Calls Tryz.prog 55 #[.slice A l.length c,.string s] w fun e w'=>∃ v,e=.returned v∧Own (RVer B) 8 151 w' w.heap.size v (getL l s)∧Ext w w':=by
 have hll:(l.length:Int)≤10000:=by omega
 go_enter Tryz.func55, Tryz.ntmps55;go_wp2_with fail;go_loopw [5,10] (fun o i wr=>∃ k:Nat,k≤l.length∧i=.int .i64 k∧Own (RVer B) 8 151 wr w.heap.size o (getL (l.take k) s)∧Ext w wr) (fun _ i _=>l.length - (intOf i).toNat)
 case atStart=>exact ⟨0,Nat.zero_le _,rfl,Own.nil,Ext.refl _⟩
 obtain ⟨k,hk,rfl,ho,hx⟩:=hrel
 by_cases aD:k < l.length
 ·obtain ⟨b,off,Av,cv,Am,cm,rfl,hb,hr,hI⟩:=(h.ext RVer.monoE hx).ver aD
  have HI:=hid hI;clear hI;have aW:([.string l[k].id, .int .i64 l[k].dot.site, .int .i64 l[k].dot.count, .int .i64 l[k].pt.tags, .int .i64 l[k].pt.num, .int .i64 l[k].body, .slice Av l[k].past.vec.length cv, .slice Am l[k].past.more.length cm]:List Value).length=8:=rfl;have aK:=(Ext.refl wr).alloc (.cells #[.string l[k].id, .int .i64 l[k].dot.site, .int .i64 l[k].dot.count, .int .i64 l[k].pt.tags, .int .i64 l[k].pt.num, .int .i64 l[k].body, .slice Av l[k].past.vec.length cv, .slice Am l[k].past.more.length cm] 151);have am:=hid (show (getL (l.take k) s).length≤10000 by have:=List.length_filter_le (fun v=>sEq v.id s) (l.take k);have h2:=List.length_take_le k l;unfold getL;omega)
  cases h1:sEq l[k].id s
  ·have h1':(l[k].id.toList==s.toList)=false:=h1
   have HG:=hid (qze l s k aD h1);clear h1;go_wp2_with (with_reducible refine qaa (o:=⟨some 13,_,_,_,_,_⟩) qam _ rfl rfl rfl hr aW ?_);go_roundw
   case rel=>exact ⟨k+1,aD,by go_num,by rw [HG.out];exact ho.ext RVer.monoE aK,hx.trans aK⟩
   case measure=>simp [intOf];omega
  have h1':(l[k].id.toList==s.toList)=true:=h1;have HG:=hid (qqo l s k aD h1);clear h1;have aN:qb6 B ((wr.alloc (.cells #[.string l[k].id, .int .i64 l[k].dot.site, .int .i64 l[k].dot.count, .int .i64 l[k].pt.tags, .int .i64 l[k].pt.num, .int .i64 l[k].body, .slice Av l[k].past.vec.length cv, .slice Am l[k].past.more.length cm] 151)).alloc (.cells #[.string l[k].id, .int .i64 l[k].dot.site, .int .i64 l[k].dot.count, .int .i64 l[k].pt.tags, .int .i64 l[k].pt.num, .int .i64 l[k].body, .slice Av l[k].past.vec.length cv, .slice Am l[k].past.more.length cm] 151)) (some ⟨wr.heap.size+1,0,none⟩) [l[k]]:=by
   have:=Sl.one (R:=RVer B) (B:=B) (e:=151) (sz:=8) (w:=wr.alloc (.cells #[.string l[k].id, .int .i64 l[k].dot.site, .int .i64 l[k].dot.count, .int .i64 l[k].pt.tags, .int .i64 l[k].pt.num, .int .i64 l[k].body, .slice Av l[k].past.vec.length cv, .slice Am l[k].past.more.length cm] 151)) (cs:=[.string l[k].id, .int .i64 l[k].dot.site, .int .i64 l[k].dot.count, .int .i64 l[k].pt.tags, .int .i64 l[k].pt.num, .int .i64 l[k].body, .slice Av l[k].past.vec.length cv, .slice Am l[k].past.more.length cm]) (y:=l[k]) rfl rfl (HI.out.ext (aK.alloc _)).rver;simpa using this
  have hxm:=aK.alloc (.cells #[.string l[k].id, .int .i64 l[k].dot.site, .int .i64 l[k].dot.count, .int .i64 l[k].pt.tags, .int .i64 l[k].pt.num, .int .i64 l[k].body, .slice Av l[k].past.vec.length cv, .slice Am l[k].past.more.length cm] 151);have aR:=ho.ext RVer.monoE hxm;have al:=hx.trans hxm;clear ho hx aK hxm;go_wp2_with (first | (with_reducible refine qaa (o:=⟨some 13,_,_,_,_,_⟩) qam _ rfl rfl rfl hr aW ?_) | (at_builtin;refine qaf (ys:=[l[k]]) (c:=1) (B:=B) rfl _ _ rfl qfr rfl aR hB al.size rfl aN RVer.oneC (RVer.mono (by decide) (by decide)) (by have:=am.out;simp [maxLen];omega) (by have:=am.out;simp;omega) ?_;intro v5 w5 bJ bj au dd));have cA:=al.below au (Nat.le_refl _);clear bj au dd aR aN al;go_roundw
  case rel=>exact ⟨k+1,aD,by go_num,by rw [HG.out];exact bJ,cA⟩
  case measure=>simp [intOf];omega
 obtain rfl:k=l.length:=by omega
 rw [List.take_length] at ho;go_wp2_with fail;go_ret;exact ⟨_,rfl,ho,hx⟩
theorem qcj (B:Nat) (A:Option Addr) (c:Nat) (l:List Version) (w:World) (hB:B≤w.heap.size) (hl:l.length≤10000) (aO:∀ v∈l,VerOk v) (h:qb6 B w A l) :
  Calls Tryz.prog 80 #[.slice A l.length c] w fun e w'=>∃ v,e=.returned v∧Own (RVer B) 8 151 w' w.heap.size v l∧Ext w w':=by
 have aZ:=hid aO;clear aO;have hll:(l.length:Int)≤10000:=by omega
 go_enter Tryz.func80, Tryz.ntmps80;go_wp2_with fail;go_loopw [3,8] (fun o i wr=>∃ k:Nat,k≤l.length∧i=.int .i64 k∧Own (RVer B) 8 151 wr w.heap.size o (l.take k)∧Ext w wr) (fun _ i _=>l.length - (intOf i).toNat)
 case atStart=>exact ⟨0,Nat.zero_le _,rfl,Own.nil,Ext.refl _⟩
 obtain ⟨k,hk,rfl,ho,hx⟩:=hrel
 by_cases aD:k < l.length
 ·obtain ⟨b,off,Av,cv,Am,cm,rfl,hb,hr,hI⟩:=(h.ext RVer.monoE hx).ver aD
  have HI:=hid hI;clear hI;have HO:=hid (aZ.out _ (List.getElem_mem aD));have HTk:=hid (show l.take (k+1)=l.take k++[l[k]] from List.take_succ_eq_append_getElem aD);have am:=hid (show (l.take k).length≤10000 by have:=List.length_take_le k l;omega);have aW:([.string l[k].id, .int .i64 l[k].dot.site, .int .i64 l[k].dot.count, .int .i64 l[k].pt.tags, .int .i64 l[k].pt.num, .int .i64 l[k].body, .slice Av l[k].past.vec.length cv, .slice Am l[k].past.more.length cm]:List Value).length=8:=rfl;have aC:=(Ext.refl wr).alloc (.cells #[.string l[k].id, .int .i64 l[k].dot.site, .int .i64 l[k].dot.count, .int .i64 l[k].pt.tags, .int .i64 l[k].pt.num, .int .i64 l[k].body, .slice Av l[k].past.vec.length cv, .slice Am l[k].past.more.length cm] 151);go_wp2_with (with_reducible refine qaa (o:=⟨some 11,_,_,_,_,_⟩) qam _ rfl rfl rfl hr aW ?_);clear hr aW;refine (qo7 B l[k].past Av cv Am cm _ (Nat.le_trans hB (hx.trans aC).size) (by have:=HO.out.k.vlen;have:=HO.out.k.mlen;omega) (HI.out.k.ext aC)).mono ?_;rintro e w1 ⟨v,rfl,hv,aE⟩;obtain ⟨A2,c2,A3,c3,rfl,b1,b2,b3,b4,hk1⟩:=hv;have p0:w1.cell? ⟨wr.heap.size,0,none⟩=some (.string l[k].id):=aE.cell (by go_simp);have p1:w1.cell? ⟨wr.heap.size,1,none⟩=some (.int .i64 l[k].dot.site):=aE.cell (by go_simp);have p2:w1.cell? ⟨wr.heap.size,2,none⟩=some (.int .i64 l[k].dot.count):=aE.cell (by go_simp)
  have p3:w1.cell? ⟨wr.heap.size,3,none⟩=some (.int .i64 l[k].pt.tags):=aE.cell (by go_simp);have p4:w1.cell? ⟨wr.heap.size,4,none⟩=some (.int .i64 l[k].pt.num):=aE.cell (by go_simp);have p5:w1.cell? ⟨wr.heap.size,5,none⟩=some (.int .i64 l[k].body):=aE.cell (by go_simp);have p6:w1.cell? ⟨wr.heap.size,6,none⟩=some (.slice Av l[k].past.vec.length cv):=aE.cell (by go_simp);have p7:w1.cell? ⟨wr.heap.size,7,none⟩=some (.slice Am l[k].past.more.length cm):=aE.cell (by go_simp);have z6:w1.frozen? ⟨wr.heap.size,6,none⟩=false:=by rw [aE.frozenAt (by simp)];go_simp
  have z7:w1.frozen? ⟨wr.heap.size,7,none⟩=false:=by rw [aE.frozenAt (by simp)];go_simp
  have pt:tyAt w1 wr.heap.size=some 151:=by rw [qep (aE.blockAt (by simp))];unfold tyAt;rw [heap_alloc_new]
  have hz:wr.heap.size < w1.heap.size:=World.block_lt_of_cell? _ _ p0;have hwr:=hx.size;have hxr:=aC.trans aE;clear aC aE;have pt2:tyAt (w1.setCell ⟨wr.heap.size,6,none⟩ (.slice A2 l[k].past.vec.length c2)) wr.heap.size=some 151:=qhm wr.heap.size 151 [.slice A2 l[k].past.vec.length c2] 6 w1 pt;have bC:Ext wr ((w1.setCell ⟨wr.heap.size,6,none⟩ (.slice A2 l[k].past.vec.length c2)).setCell ⟨wr.heap.size,7,none⟩ (.slice A3 l[k].past.more.length c3)):=(hxr.setCell (Nat.le_refl _) _).setCell (Nat.le_refl _) _;have bv:Chg B [151] w1 ((w1.setCell ⟨wr.heap.size,6,none⟩ (.slice A2 l[k].past.vec.length c2)).setCell ⟨wr.heap.size,7,none⟩ (.slice A3 l[k].past.more.length c3)):=((Chg.refl w1).setCell (p:=⟨wr.heap.size,6,none⟩) pt (by simp) _ (by show B≤wr.heap.size;omega)).setCell (p:=⟨wr.heap.size,7,none⟩) pt2 (by simp) _ (by show B≤wr.heap.size;omega);have hk2:=hk1.chg bv (by decide) (by decide)
  have hV:InV B ((w1.setCell ⟨wr.heap.size,6,none⟩ (.slice A2 l[k].past.vec.length c2)).setCell ⟨wr.heap.size,7,none⟩ (.slice A3 l[k].past.more.length c3)) A2 c2 A3 c3 l[k]:=⟨⟨b1,b2⟩,⟨b3,b4⟩,HI.out.lid,hk2⟩
  have al:=hx.trans bC;have aC:=(Ext.refl ((w1.setCell ⟨wr.heap.size,6,none⟩ (.slice A2 l[k].past.vec.length c2)).setCell ⟨wr.heap.size,7,none⟩ (.slice A3 l[k].past.more.length c3))).alloc (.cells #[.string l[k].id,.int .i64 l[k].dot.site,.int .i64 l[k].dot.count,.int .i64 l[k].pt.tags,.int .i64 l[k].pt.num,.int .i64 l[k].body,.slice A2 l[k].past.vec.length c2,.slice A3 l[k].past.more.length c3] 151);have aN:qb6 B (((w1.setCell ⟨wr.heap.size,6,none⟩ (.slice A2 l[k].past.vec.length c2)).setCell ⟨wr.heap.size,7,none⟩ (.slice A3 l[k].past.more.length c3)).alloc (.cells #[.string l[k].id,.int .i64 l[k].dot.site,.int .i64 l[k].dot.count,.int .i64 l[k].pt.tags,.int .i64 l[k].pt.num,.int .i64 l[k].body,.slice A2 l[k].past.vec.length c2,.slice A3 l[k].past.more.length c3] 151)) (some ⟨w1.heap.size,0,none⟩) [l[k]]:=by
   have:=Sl.one (R:=RVer B) (B:=B) (e:=151) (sz:=8) (w:=((w1.setCell ⟨wr.heap.size,6,none⟩ (.slice A2 l[k].past.vec.length c2)).setCell ⟨wr.heap.size,7,none⟩ (.slice A3 l[k].past.more.length c3))) (cs:=[.string l[k].id,.int .i64 l[k].dot.site,.int .i64 l[k].dot.count,.int .i64 l[k].pt.tags,.int .i64 l[k].pt.num,.int .i64 l[k].body,.slice A2 l[k].past.vec.length c2,.slice A3 l[k].past.more.length c3]) (y:=l[k]) rfl rfl (hV.ext aC).rver;rwa [World.size_setCell,World.size_setCell] at this
  have aR:=ho.ext RVer.monoE (bC.trans aC);have hxw2:=al.trans aC;clear bC bv hk2 hV al aC hk1 ho hx hxr pt pt2;go_wp2_with (at_builtin;refine qaf (ys:=[l[k]]) (c:=1) (B:=B) rfl _ _ rfl qfr rfl aR hB hxw2.size rfl aN RVer.oneC (RVer.mono (by decide) (by decide)) (by have:=am.out;simp [maxLen];omega) (by have:=am.out;simp;omega) ?_;intro v5 w5 bJ bj au dd);have cA:=hxw2.below au (Nat.le_refl _);clear bj au dd aR aN hxw2;go_roundw
  case rel=>exact ⟨k+1,aD,by go_num,by rw [HTk.out];exact bJ,cA⟩
  case measure=>simp [intOf];omega
 obtain rfl:k=l.length:=by omega
 rw [List.take_length] at ho;go_wp2_with fail;go_ret;exact ⟨_,rfl,ho,hx⟩
def qj6 (l:List Version) (s:ByteArray):Int:=if qae l=0 then (if (getL l s).length=0 then 4 else 0) else qae l
def qm5 (l:List Version) (s:ByteArray):List Version:=if qae l=0 then getL l s else []
theorem qub (l:List Version) (s:ByteArray):(l.filter fun x=>!(!sEq x.id s))=getL l s:=by simp [getL]
theorem jb3 (B:Nat) (A:Option Addr) (c:Nat) (l:List Version) (s:ByteArray) (w:World) (hB:B≤w.heap.size) (hl:l.length≤maxLen) (h:qb6 B w A l) :
  Calls Tryz.prog 116 #[.slice A l.length c,.string s] w fun e w'=>∃ v,e=.returned (.tuple #[v,.int .i64 (qj6 l s)])∧qlt B w' v (qm5 l s)∧Ext w w':=by
 have aY:=(Ext.refl w).alloc (.cells #[.string s] 9);have aZ:=hid (qcw (l:=l));go_enter Tryz.func116, Tryz.ntmps116;go_wp2_with fail;refine (qhk B A c l _ hl (h.ext RVer.monoE aY)).mono ?_;rintro e w1 ⟨rfl,aE⟩;have q0:w1.cell? ⟨w.heap.size,0,none⟩=some (.string s):=aE.cell (by go_simp);have hzb:w.heap.size < w1.heap.size:=World.block_lt_of_cell? _ _ q0;have hx:=aY.trans aE;clear aE aY
 by_cases hc:qae l=0
 ·rw [hc]
  have HO:=hid (aZ.out hc);have HE:=hid (show qj6 l s=if (getL l s).length=0 then 4 else 0 by unfold qj6;rw [if_pos hc]);have HT:=hid (show qm5 l s=getL l s by unfold qm5;rw [if_pos hc]);clear hc;go_wp2_with fail;refine (qiq B A c l _ (Nat.le_trans hB hx.size) (by have:=HO.out.len;omega) (h.ext RVer.monoE hx)).mono ?_;rintro e w2 ⟨v2,rfl,aR,aH⟩;replace q0:=aH.cell q0;have aV:some w.heap.size≠v2.ownBlock:=by
   rcases aR.at_ with ⟨rfl,_⟩ | ⟨g,c',rfl,hg,_⟩
   ·simp [Value.ownBlock]
   intro e;simp [Value.ownBlock] at e;omega
  have al:=hx.trans aH;have bX:=hx.size;have bC:=aH.size;obtain ⟨A2,c2,rfl,_,_⟩:=aR.len;clear hx aH;go_wp2_with fail;refine (qgn B w1.heap.size 174 #[.pointer (some ⟨w.heap.size,0,none⟩)] (.slice A2 l.length c2) l (fun v=>!sEq v.id s) w2 (by omega) (by have:=HO.out.len;omega) aR Tryz.call174 (fun q hq cs wn hg bD hR=>by
   obtain ⟨Bv,dv,Bm,dm,rfl,hi⟩:=hR.inV;exact jgw l[q] Bv dv Bm dm s w.heap.size wn (qat hg q0 aV))).mono ?_
  rintro e w3 ⟨v3,rfl,cE,hg3,hob⟩;rw [qub] at cE;obtain ⟨A3,c3,rfl,_,_⟩:=cE.len;have hxw3:=al.below (aR.below_of hg3 bC) (by omega);have hLL:(getL l s).length≤10000:=by have:=List.length_filter_le (fun v:Version=>sEq v.id s) l;have:=HO.out.len;unfold getL;omega
  have aB:=hid (show ∀ v∈getL l s,VerOk v from fun v hv=>HO.out.all v ((List.mem_filter.1 hv).1));generalize getL l s=L at cE hLL HE HT aB ⊢;clear hob hg3 al aR q0 aV
  by_cases hz:L=[]
  ·subst hz
   have HE':=hid (show qj6 l s=4 from HE.out);go_wp2_with fail;go_ret2;exact ⟨.slice none 0 0,by simp [HE'.out],by rw [HT.out];exact Own.nil.isSl (base:=0) B,hxw3⟩
  have hnz:((L.length:Int)==0)=false:=by rw [beq_eq_false_iff_ne];intro e;exact hz (List.length_eq_zero_iff.1 (by omega))
  have HE':=hid (show qj6 l s=0 by rw [HE.out,if_neg (by simpa using hz)]);clear hz;go_wp2_with fail;refine (qcj B A3 c3 L _ (Nat.le_trans hB hxw3.size) hLL aB.out (cE.sl B)).mono ?_;rintro e w4 ⟨v4,rfl,ho4,aj⟩;go_wp2_with fail;go_ret2;exact ⟨v4,by simp [HE'.out],by rw [HT.out];exact ho4.isSl B,hxw3.trans aj⟩
 have aV:(qae l !=0)=true:=by simpa using hc
 have HE:=hid (show qj6 l s=qae l by unfold qj6;rw [if_neg hc]);have HT:=hid (show qm5 l s=[] by unfold qm5;rw [if_neg hc]);clear hc;go_wp2_with fail;go_ret2;exact ⟨.slice none 0 0,by simp [HE.out],by rw [HT.out];exact Own.nil.isSl (base:=0) B,hx⟩
theorem qes {P:Program} {o:Oper} {a:Act} {w:World} {Q:Exit→Act→World→Prop} {K:Act→World→Prop} {t:TypeId} {n:Nat} (ri:qc0 P t n) (x y:Operand) (ho:o.op=.store t x y) {b:Nat} (hx:a.eval x=.pointer (some ⟨b,0,none⟩)) {cs old:Array Value} (hy:a.eval y=.agg cs)
  (hb:Blk w b t old) (hn:cs.size=n) (hold:old.size=n) (h1:cs.all (·.oneCell')=true)
  (h:∀ w',Below b w w'→Blk w' b t cs→w'.heap.size=w.heap.size→(∀ k,k≠b→w'.heap[k]?=w.heap[k]?)→K (a.put o.dst undef) w'):o.wp P a w K Q:=by
 obtain ⟨_,hi⟩:=ri;have cw:∀ k,k≠b→(w.setRow b cs).heap[k]?=w.heap[k]?:=fun k hk=>setRow_other w b k cs (by omega);exact wp_store_row t x y ho b cs hx hy t old hb (by rw [hn];exact hi) (by omega) h1
  (h _ ⟨rfl,rfl,rfl,by simp,fun k hk=>cw k (by omega)⟩ (setRow_heap w b old _ t _ hb) (by simp) cw)
theorem qf5 {B g:Nat} {t:TypeId} {w w':World} {old:Array Value} (hb:Blk w g t old) (x:Below g w w') (ho:∀ k,k≠g→w'.heap[k]?=w.heap[k]?) (hB:B≤g):Chg B [t] w w':=
 ⟨x.os,x.tape,x.output,x.size,fun k _ hc=>ho k (by
  rintro rfl;rcases hc with hc | hc
  ·omega
  exact hc t (by simp) hb.ty)⟩
theorem jdh {w:World} {v:Value} {b:Nat} {x y:Value} {tmps:Array Value} (h4:tmps.getD 4 undef=.pointer (some ⟨b,0,none⟩)) (h5:tmps.getD 5 undef=v) (c1:w.cell? ⟨b,0,none⟩=some x) (c2:w.cell? ⟨b,1,none⟩=some y) :
  (results Tryz.f98 tmps).run Tryz.prog w=.ok (.tuple #[.agg #[x,y],v]) w:=by
 have h4':tmps[4]?.getD undef=.pointer (some ⟨b,0,none⟩):=by simpa using h4
 have h5':tmps[5]?.getD undef=v:=by simpa using h5
 simp [results,Tryz.results98,go_sem,h4',h5',c1,c2]
theorem jdf (B:Nat) (A:Option Addr) (c:Nat) (l:List Version) (s:ByteArray) (w:World) (hB:B≤w.heap.size) (hl:l.length≤60) (aO:∀ v∈l,VerOk v) (h:qb6 B w A l) :
  Calls Tryz.prog 98 #[.slice A l.length c,.string s] w fun e w'=>∃ x,e=.returned (.tuple #[x,.int .i64 (qbm (qb2 (qc3 (getL l s))))])∧IsK 0 w' x (qcs (qb2 (qc3 (getL l s))))∧Ext w w':=by
 have aZ:=hid (show ∀ v∈getL l s,VerOk v from fun v hv=>aO v (List.mem_filter.1 hv).1);have hLL:(getL l s).length≤60:=by have:=List.length_filter_le (fun v:Version=>sEq v.id s) l;unfold getL;omega
 clear aO;have aY:=(Ext.refl w).alloc (.cells #[.slice none 0 0,.slice none 0 0] 101);have aG:=Blk.new w 101 #[.slice none 0 0,.slice none 0 0];go_enter Tryz.func98, Tryz.ntmps98;go_wp2_with ((with_reducible refine qa2 (o:=⟨some 6,_,_,_,_,_⟩) qjp rfl rfl ?_);intro w3 aM aL bv);have hb:Blk w3 (w.heap.size+1) 184 (rowD fun _ _=>false):=by simpa using aL
 replace aG:=aG.ext aM;have hx:=aY.trans aM;clear aL bv aM aY;refine (jas B A c l s _ (Nat.le_trans hB hx.size) (by omega) (h.ext RVer.monoE hx)).mono ?_;rintro e w4 ⟨v4,rfl,ho4,aj⟩;obtain ⟨A4,c4,rfl,_,_⟩:=ho4.len;have hL:=ho4.sl B;replace hb:=hb.ext aj;replace aG:=aG.ext aj;replace hx:=hx.trans aj;clear aj ho4 h;obtain ⟨L,d8⟩:=ex1 (getL l s);rw [← d8] at hL hLL aZ;rw [← d8];have HLd:=hid d8;clear d8;clear hl;have cN:=hid hB;clear hB;go_wp2_with fail;go_loopw [13] (fun i wr=>∃ k:Nat,k≤L.length∧i=.int .i64 k∧Blk wr (w.heap.size+1) 184 (rowD (qc3 (L.take k)))∧qb6 B wr A4 L∧Ext w wr∧Blk wr w.heap.size 101 #[.slice none 0 0,.slice none 0 0]) (fun i _=>L.length - (intOf i).toNat)
 case atStart=>exact ⟨0,Nat.zero_le _,rfl,hb,hL,hx,aG⟩
 clear hb hL hx aG;obtain ⟨k,hk,rfl,hb,hL,hx,aG⟩:=hrel
 by_cases aD:k < L.length
 ·obtain ⟨b,off,Av,cv,Am,cm,rfl,eF,hr,hI⟩:=hL.ver aD
  have HO:=hid (aZ.out _ (List.getElem_mem aD));have aW:([.string L[k].id, .int .i64 L[k].dot.site, .int .i64 L[k].dot.count, .int .i64 L[k].pt.tags, .int .i64 L[k].pt.num, .int .i64 L[k].body, .slice Av L[k].past.vec.length cv, .slice Am L[k].past.more.length cm]:List Value).length=8:=rfl;go_wp2_with (with_reducible refine qaa (o:=⟨some 16,_,_,_,_,_⟩) qam _ rfl rfl rfl hr aW ?_);clear hr aW;have aK:=(Ext.refl wr).alloc (.cells #[.string L[k].id, .int .i64 L[k].dot.site, .int .i64 L[k].dot.count, .int .i64 L[k].pt.tags, .int .i64 L[k].pt.num, .int .i64 L[k].body, .slice Av L[k].past.vec.length cv, .slice Am L[k].past.more.length cm] 151);have aq:=Blk.new wr 151 #[.string L[k].id, .int .i64 L[k].dot.site, .int .i64 L[k].dot.count, .int .i64 L[k].pt.tags, .int .i64 L[k].pt.num, .int .i64 L[k].body, .slice Av L[k].past.vec.length cv, .slice Am L[k].past.more.length cm];have hrr:=hb.lt;obtain ⟨wa,cD⟩:=ex1 (wr.alloc (.cells #[.string L[k].id, .int .i64 L[k].dot.site, .int .i64 L[k].dot.count, .int .i64 L[k].pt.tags, .int .i64 L[k].pt.num, .int .i64 L[k].body, .slice Av L[k].past.vec.length cv, .slice Am L[k].past.more.length cm] 151));obtain ⟨r,hr⟩:=ex1 wr.heap.size;rw [← cD] at aK aq ⊢;rw [← hr] at aq hrr ⊢;clear cD hr;have HI:=hid (hI.ext aK);obtain ⟨s1,c1,hsd,hsc,eG,eY,_⟩:=qqh HO.out.dot L[k].past;have HStep:=hid (qst L k aD s1 c1 (Dot.ext' hsd hsc));have HDS:=hid eG;have HDC:=hid eY;have HRR:=hid (show r≠w.heap.size+1 by omega);have dS:=hid (hx.trans aK);have HDots:=hid (fun w' (x:Ext wa w')=>(hb.ext aK).ext x);have HL:=hid (fun w' (x:Ext wa w')=>(hL.ext RVer.monoE aK).ext RVer.monoE x)
  have HBr:=hid (fun w' (x:Ext wa w')=>aq.ext x);have HCls:=hid (fun w' (b:Blk w' r 151 #[.string L[k].id, .int .i64 L[k].dot.site, .int .i64 L[k].dot.count, .int .i64 L[k].pt.tags, .int .i64 L[k].pt.num, .int .i64 L[k].body, .slice Av L[k].past.vec.length cv, .slice Am L[k].past.more.length cm])=>show w'.cell? ⟨r,1,none⟩=some (.int .i64 (s1:Int))∧w'.cell? ⟨r,2,none⟩=some (.int .i64 (c1:Int))∧w'.cell? ⟨r,6,none⟩=some (.slice Av L[k].past.vec.length cv)∧w'.cell? ⟨r,7,none⟩=some (.slice Am L[k].past.more.length cm) from ⟨by rw [← hsd];exact b.cell rfl,by rw [← hsc];exact b.cell rfl,b.cell rfl,b.cell rfl⟩);have HKb:=hid (fun w' (x:Ext wa w')=>(aG.ext aK).ext x);have aB:=hid (fun w' (x:Ext wa w')=>HCls.out w' (aq.ext x));clear hsd hsc eG eY hb hL hx aK aq hI hrr eF aG;have aA:=(Ext.refl wa).drew;refine wp_region_held_drew (S:=fun w'=>w'.cell? ⟨r,1,none⟩=some (.int .i64 (s1:Int))∧w'.cell? ⟨r,2,none⟩=some (.int .i64 (c1:Int))∧w'.cell? ⟨r,6,none⟩=some (.slice Av L[k].past.vec.length cv)∧w'.cell? ⟨r,7,none⟩=some (.slice Am L[k].past.more.length cm)) (by kernel_rfl) (aB.out _ aA) (fun hHeld=>?_)
  obtain ⟨wc,aS⟩:=ex1 wa.drew;rw [← aS] at hHeld aA ⊢;clear aS;refine tkA 1 _ rfl ?_;(try simp only [gq,pq]);refine tkA 2 _ rfl ?_;(try simp only [gq,pq]);refine tkA 5 _ rfl ?_;(try simp only [gq,pq]);refine tkA 6 _ rfl ?_;(try simp only [gq,pq]);refine wpAnyH_ready (rs:=[0,3]) (by kernel_rfl) (by simp) ?_;refine AllReadyH.cons rfl (fun K hK=>?_) ?_
  focus
   simp only [gq];simp only [Region.wanted,if_true];have bF:=(HDots.out wc aA).whole;with_reducible refine qd4 (b:=w.heap.size+1) (i:=0) (cs:=rowD (qc3 (L.take k))) (n:=80) (t:=184) qe9 (.tmp 6) rfl ?_ bF (qad _) ?_
   ·rfl
   clear bF;refine hK.out _ _ (aB.out _ aA) (fun hHeld=>?_);clear hK K;(try simp only [pq]);refine rd1 3 rfl fun K hK=>?_;simp only [gq];go_simp;refine (qlk B L[k].past Av cv Am cm wc (HI.out.k.ext aA) HO.out.k).mono ?_;rintro e wn ⟨rfl,aC⟩;dsimp only;replace aA:=aA.trans aC;clear aC;obtain ⟨wc,rfl⟩:=ex1 wn
  rotate_left
  focus
   refine AllReadyH.cons rfl (fun K hK=>?_) AllReadyH.nil;simp only [gq];go_simp;refine (qlk B L[k].past Av cv Am cm wc (HI.out.k.ext aA) HO.out.k).mono ?_;rintro e wn ⟨rfl,aC⟩;dsimp only;replace aA:=aA.trans aC;clear aC;obtain ⟨wc,rfl⟩:=ex1 wn;refine hK.out _ _ (aB.out _ aA) (fun hHeld=>?_);clear hK K;(try simp only [pq]);refine rd1 0 rfl fun K hK=>?_;simp only [gq];simp only [Region.wanted,if_true];have bF:=(HDots.out wc aA).whole;with_reducible refine qd4 (b:=w.heap.size+1) (i:=0) (cs:=rowD (qc3 (L.take k))) (n:=80) (t:=184) qe9 (.tmp 6) rfl ?_ bF (qad _) ?_
   ·rfl
   clear bF
  all_goals
   refine hK.out _ _ (aB.out _ aA) (fun hHeld=>?_);clear hK K;(try simp only [pq]);refine rd1 4 rfl fun K hK=>?_;simp only [gq];go_simp;refine (qz0 (qc3 (L.take k)) (hasK L[k].past) wc).mono ?_;rintro e wn ⟨rfl,aC⟩;dsimp only;replace aA:=aA.trans aC;clear aC;obtain ⟨wc,rfl⟩:=ex1 wn;refine hK.out _ _ (aB.out _ aA) (fun hHeld=>?_);clear hK K;(try simp only [pq]);refine rd1 7 rfl fun K hK=>?_;simp only [gq];go_simp;refine (qnm (orD (qc3 (L.take k)) (hasK L[k].past)) s1 c1 wc HDS.out HDC.out).mono ?_;rintro e wn ⟨rfl,aC⟩;dsimp only;rw [← HStep.out];replace aA:=aA.trans aC;clear aC;obtain ⟨wc,rfl⟩:=ex1 wn;refine hK.out _ _ (aB.out _ aA) (fun hHeld=>?_);clear hK K;(try simp only [pq]);refine rd1 8 rfl fun K hK=>?_;simp only [gq];simp only [Region.wanted,if_true];have d9:=HDots.out wc aA;with_reducible refine qes (b:=w.heap.size+1) (cs:=rowD (qc3 (L.take (k+1)))) (old:=rowD (qc3 (L.take k))) (n:=80) (t:=184) qe9 (.tmp 6) (.tmp 24) rfl ?_ ?_ d9 (qad _) (qad _) (qgc _) ?_
   ·rfl
   ·rfl
   intro wn aw fG _ hot;have ah:=qf5 (B:=B) (HDots.out wc aA) aw hot (by have:=cN.out;omega);have al:=(dS.out.trans aA).below aw (by omega);have hkn:=(HKb.out wc aA).other hot (by omega);have hLn:=(HL.out wc aA).chg (RVer.mono (by decide) (by decide)) (by decide) ah;refine hK.out _ _ (HCls.out wn ((HBr.out wc aA).other hot HRR.out)) (fun hHeld=>?_);clear ah aw hot aA d9;clear hK K;(try simp only [pq]);refine wpAnyH_done (by kernel_rfl) ?_ _;go_wp2_with fail;go_roundw
   case rel=>exact ⟨k+1,aD,by go_num,fG,hLn,al,hkn⟩
   case measure=>simp [intOf];omega
 obtain rfl:k=L.length:=by omega
 rw [List.take_length] at hb;go_wp2_with ((with_reducible refine qap (o:=⟨some 26,_,_,_,_,_⟩) qc8 _ rfl rfl rfl hb (qad _) ?_));refine (qy1 (qc3 L) _).mono ?_;rintro e w5 ⟨x,rfl,bN,aT⟩;replace aG:=aG.ext aT;obtain ⟨Ax,cx,Ay,cy,rfl,e1,e2,e3,e4,hk6⟩:=bN;have y0:=aG.ce 0 (.slice none 0 0) rfl;have y1:=aG.ce 1 (.slice none 0 0) rfl;have y2:=aG.frozen 0;have y3:=aG.frozen 1;have pt:=aG.ty;have hxf:=hx.trans aT;clear aG hx aT hb hL;go_wp2_with fail;have pt2:tyAt (w5.setCell ⟨w.heap.size,0,none⟩ (.slice Ax (qcs (qb2 (qc3 L))).vec.length cx)) w.heap.size=some 101:=qhm w.heap.size 101 [.slice Ax (qcs (qb2 (qc3 L))).vec.length cx] 0 w5 pt;refine bodyPost_ret (v:=.tuple #[.agg #[.slice Ax (qcs (qb2 (qc3 L))).vec.length cx,.slice Ay (qcs (qb2 (qc3 L))).more.length cy],.int .i64 (qbm (qb2 (qc3 L)))]) (jdh (b:=w.heap.size) rfl rfl ?_ ?_) rfl ⟨.agg #[.slice Ax (qcs (qb2 (qc3 L))).vec.length cx,.slice Ay (qcs (qb2 (qc3 L))).more.length cy],by rw [← HLd.out],?_,?_⟩
 ·go_simp
 ·go_simp
 ·rw [← HLd.out]
  exact ⟨Ax,cx,Ay,cy,rfl,e1,e2,e3,e4,hk6.chg (((Chg.refl (ts:=[101]) w5).setCell (p:=⟨w.heap.size,0,none⟩) pt (by simp) _ (Nat.zero_le _)).setCell (p:=⟨w.heap.size,1,none⟩) pt2 (by simp) _ (Nat.zero_le _)) (by decide) (by decide)⟩
 exact (hxf.setCell (Nat.le_refl _) _).setCell (Nat.le_refl _) _
end Go.Proofs.YtngbfdogiciahaaGreat
