/- The walk of the document's Site.Take. -/
import Derived.Test.YtngbfdogiciahaaGreatDocG
import Derived.Test.YtngbfdogiciahaaGreatJoinPutQ
set_option maxRecDepth 100000
set_option maxHeartbeats 40000000
namespace Go.Proofs.YtngbfdogiciahaaGreat
open Go Go.RowKit
def qk1 (s:SiteS) (b:Batch) (J K:List RP):List RP:=if qba s b=0 then fewR (J++K) else J
theorem qmn {s:SiteS} {b:Batch} {J K:List RP} {e:Int} (h:qba s b=e) (he:e≠0):qba s b=e∧qg3 s b=s∧qk1 s b J K=J:=by
 obtain ⟨h1,h2⟩:=qim h he;exact ⟨h1,h2,by unfold qk1;rw [if_neg (by rw [h];exact he)]⟩
theorem qz2 {s:SiteS} {b:Batch} {J K:List RP} (h:qba s b=0):qba s b=0∧qg3 s b={ s with shelf:=qbu (qbt s.shelf b.vers) b.gone,parts:=qfu s.parts b.parts }∧qk1 s b J K=fewR (J++K):=by
 obtain ⟨h1,h2⟩:=qwo h;exact ⟨h1,h2,by unfold qk1;rw [if_pos h]⟩
theorem qx7 {s:SiteS} {b:Batch} {J K:List RP} (hr:Rel s.parts J∧Rel b.parts K) (hb:TailOk b) (aO:SiteOk s) (h1:qcc s.shelf b.vers=0) (h2:qbc (qbt s.shelf b.vers) b.gone=0):qco s b=if 29 < (fewR (J++K)).length then 2 else 0:=by
 have hl:(fewR (J++K)).length=(qcl (s.parts++b.parts)).length:=(hr.1.app hr.2).few.len;have h0:qew s.parts b.parts=0:=by
  unfold qew;rw [if_pos (qhh (Nat.le_trans aO.lp (by decide)) aO.parts)];exact qhh hb.lp hb.parts
 unfold qco;rw [if_pos h1,if_pos h2,hl]
 by_cases h30:30 < (qcl (s.parts++b.parts)).length
 ·have e:qdl s.parts b.parts=2:=by unfold qdl;rw [if_pos h0,if_pos h30]
  rw [e,if_neg (by decide),if_pos (by omega)]
 have e:qdl s.parts b.parts=0:=by unfold qdl;rw [if_pos h0,if_neg h30]
 have e2:qfu s.parts b.parts=qcl (s.parts++b.parts):=by unfold qfu;rw [if_pos e]
 rw [if_pos e,e2]
 by_cases h29:(qcl (s.parts++b.parts)).length=30
 ·rw [if_pos h29,if_pos (by omega)]
 rw [if_neg h29,if_neg (by omega)]
theorem qu3 {l L:List Version} {vs:List Gone} {k:Nat} (aD:k < vs.length) (h1:L=qbu l (vs.take k)):qbo L vs[k]=qbu l (vs.take (k+1)):=by
 rw [List.take_succ_eq_append_getElem aD,qi1,← h1];rfl
section
variable {B:Nat} {w:World} {r:Nat} {AL:Option Addr} {cL:Nat} {AP:Option Addr} {cP:Nat} {s:SiteS} {F:Nat→Bool} {J:List RP}
theorem qao {e:TypeId} {cs:Array Value} (hb:Blk w r e cs) {i j:Nat} (aV:i≠j) (u:Value):(w.setCell ⟨r,i,none⟩ u).cell? ⟨r,j,none⟩=w.cell? ⟨r,j,none⟩:=by
 rw [cell_of_row _ _ _ _ _ (0,0) (hb.set i u),cell_of_row _ _ _ _ _ (0,0) hb,Array.getElem?_setIfInBounds_ne aV]
theorem DocAt.is (h:DocAt B w r AL cL AP cP s F J):IsDoc B w r s F J:=⟨AL,cL,AP,cP,h⟩
theorem DocAt.chgS (h:DocAt B w r AL cL AP cP s F J) (o:Nat) (u:Value):Chg B [77] w (w.setCell ⟨r,o,none⟩ u):=(Chg.refl w).setCell (p:=⟨r,o,none⟩) h.ty (by simp) u h.hB
theorem DocAt.rows (h:DocAt B w r AL cL AP cP s F J):w.cell? ⟨r,515,none⟩=some (.slice AL s.shelf.length cL)∧w.cell? ⟨r,516,none⟩=some (.slice AP J.length cP)∧w.frozen? ⟨r,515,none⟩=false∧w.frozen? ⟨r,516,none⟩=false:=by
 obtain ⟨cs,hb,_⟩:=h.blk;exact ⟨h.cL,h.cP,hb.frozen _,hb.frozen _⟩
theorem DocAt.setL (h:DocAt B w r AL cL AP cP s F J) {A:Option Addr} {c:Nat} {l:List Version} (hl:qb6 B w A l):DocAt B (w.setCell ⟨r,515,none⟩ (.slice A l.length c)) r A c AP cP { s with shelf:=l } F J:=by
 obtain ⟨cs,hb,hs⟩:=h.blk;have hc:=h.chgS 515 (.slice A l.length c);refine ⟨h.hB,⟨_,hb.set 515 _,by simpa using hs⟩,?_,?_,?_,fun j v hv=>?_,?_,?_,hl.chg (RVer.mono (by decide) (by decide)) (by decide) hc,h.sP.chg RRef.mono (by decide) hc⟩
 ·rw [qao hb (by decide)];exact h.c0
 ·rw [qao hb (by decide)];exact h.c1
 ·rw [qao hb (by decide)];exact h.c2
 ·have hj:j < 512:=by have:=(List.getElem?_eq_some_iff.1 hv).1;rwa [Array.length_toList,qa6] at this
  rw [qao hb (by omega)];exact h.cF j v hv
 ·exact (hb.set 515 _).cell (by rw [Array.getElem?_setIfInBounds_self_of_lt (by omega)])
 rw [qao hb (by decide)];exact h.cP
theorem DocAt.setK (h:DocAt B w r AL cL AP cP s F J) {A:Option Addr} {c:Nat} {l:List RP} (hl:qe3 B w A l):DocAt B (w.setCell ⟨r,516,none⟩ (.slice A l.length c)) r AL cL A c s F l:=by
 obtain ⟨cs,hb,hs⟩:=h.blk;have hc:=h.chgS 516 (.slice A l.length c);refine ⟨h.hB,⟨_,hb.set 516 _,by simpa using hs⟩,?_,?_,?_,fun j v hv=>?_,?_,?_,h.sL.chg (RVer.mono (by decide) (by decide)) (by decide) hc,hl.chg RRef.mono (by decide) hc⟩
 ·rw [qao hb (by decide)];exact h.c0
 ·rw [qao hb (by decide)];exact h.c1
 ·rw [qao hb (by decide)];exact h.c2
 ·have hj:j < 512:=by have:=(List.getElem?_eq_some_iff.1 hv).1;rwa [Array.length_toList,qa6] at this
  rw [qao hb (by omega)];exact h.cF j v hv
 ·rw [qao hb (by decide)];exact h.cL
 exact (hb.set 516 _).cell (by rw [Array.getElem?_setIfInBounds_self_of_lt (by omega)])
theorem IsDoc.congr {t:SiteS} (h:IsDoc B w r s F J) (h1:t.me=s.me) (h2:t.made=s.made) (h3:t.stamp=s.stamp) (h4:s.shelf=t.shelf):IsDoc B w r t F J:=by
 obtain ⟨AL,cL,AP,cP,h⟩:=h;exact ⟨AL,cL,AP,cP,h.hB,h.blk,by rw [h1];exact h.c0,by rw [h2];exact h.c1,by rw [h3];exact h.c2,h.cF,by rw [← h4];exact h.cL,h.cP,by rw [← h4];exact h.sL,h.sP⟩
end
theorem jcf (B:Nat) (r:Nat) (s:SiteS) (F:Nat→Bool) (J:List RP) (b:Batch) (Q:List RP) (Bx:Option Addr) (dx:Nat) (Bg:Option Addr) (dg:Nat) (AK:Option Addr) (cK:Nat) (w:World) (hB:B≤w.heap.size) (aO:SiteOk s) (h:IsDoc B w r s F J) (hj:Rel s.parts J)
  (dr:qan b=0) (aY:qb6 B w Bx b.vers) (hg0:qh4 B w Bg b.gone) (hk0:qe3 B w AK Q) (hkr:Rel b.parts Q) :
  Calls Tryz.prog 53 #[.pointer (some ⟨r,0,none⟩),.agg #[.int .i64 b.site,.int .i64 b.stamp,.slice Bx b.vers.length dx,.slice Bg b.gone.length dg,.slice AK Q.length cK]] w fun e w'=>e=.returned (.int .i64 (qba s b))∧IsDoc B w' r (qg3 s b) F (qk1 s b J Q)∧Fr r w w':=by
 obtain ⟨AL,cL,AP,cP,dt⟩:=h;have hrl0:=dt.lt;have HB:=hid hB;have aZ:=hid aO;have HTO:=hid (qjt dr);have HREL:=hid (And.intro hj hkr);have HLJ:=hid (show J.length≤29 by rw [hj.len];exact aO.lp);have HLK:=hid (show Q.length≤30 by rw [hkr.len];exact HTO.out.lp);have HIX:=hid aY;have HIG:=hid hg0;have HK0:=hid hk0;have HT1:=hid (show qba s b=if b.site=s.me then (if b.stamp=s.stamp then qco s b else 6) else 1 by unfold qba;rw [if_pos dr]);obtain ⟨N8,hN8⟩:=ex1 (fewR (J++Q));have cU:=hid hN8;have HS0:=hid (fun w' (x:Ext w w')=>dt.ext x);have hx:=(Ext.refl w).alloc (.cells #[.int .i64 b.site,.int .i64 b.stamp,.slice Bx b.vers.length dx,.slice Bg b.gone.length dg,.slice AK Q.length cK] 95);have ae:=Blk.new w 95 #[.int .i64 b.site,.int .i64 b.stamp,.slice Bx b.vers.length dx,.slice Bg b.gone.length dg,.slice AK Q.length cK];clear hB aO hj dr aY hg0 hk0 hkr hN8 dt;go_enter Tryz.func53, Tryz.ntmps53
 go_wp2_with fail;obtain ⟨w1,dP⟩:=ex1 (w.alloc (.cells #[.int .i64 b.site,.int .i64 b.stamp,.slice Bx b.vers.length dx,.slice Bg b.gone.length dg,.slice AK Q.length cK] 95));obtain ⟨b3,fO⟩:=ex1 w.heap.size;rw [← dP,← fO];rw [← dP] at hx ae;rw [← fO] at ae;clear dP fO;have bq:=hid hx;have HS:=hid (fun w' (x:Ext w1 w')=>HS0.out w' (hx.trans x));have dJ:=hid (fun w' (x:Ext w1 w')=>ae.ext x);clear hx ae
 by_cases hm:b.site=s.me
 ·have hm':(b.site !=s.me)=false:=by rw [hm];simp
  have HT2:=hid (show qba s b=if b.stamp=s.stamp then qco s b else 6 by rw [HT1.out,if_pos hm]);clear hm;have aB:=hid (fun w' (x:Ext w1 w')=>show w'.cell? ⟨b3,0,none⟩=some (.int .i64 b.site)∧w'.cell? ⟨r,0,none⟩=some (.int .i64 s.me) from ⟨(dJ.out w' x).cell rfl,(HS.out w' x).c0⟩);refine qaj (fun w'=>Ext w1 w') (by kernel_rfl) (by kernel_rfl) (Ext.refl _).drew ?_
  iterate 7
   refine wqg aB.out _ ?_;try simp only [pq]
  (try simp only [hm']);refine qcf ?_;intro w1b aA;go_wp2_with fail;have hx:=bq.out.trans aA;have ae:=dJ.out _ aA;clear bq HS dJ aB aA;have bq:=hid hx;obtain ⟨w1,dP⟩:∃ w1',w1'=w1b:=⟨_,rfl⟩
  rw [← dP] at hx ae bq ⊢;clear dP;have HS:=hid (fun w' (x:Ext w1 w')=>HS0.out w' (hx.trans x));have dJ:=hid (fun w' (x:Ext w1 w')=>ae.ext x);clear hx ae
  by_cases ht:b.stamp=s.stamp
  ·have ht':(b.stamp !=s.stamp)=false:=by rw [ht];simp
   have HTE:=hid (show qba s b=qco s b by rw [HT2.out,if_pos ht]);clear ht;have aB:=hid (fun w' (x:Ext w1 w')=>show w'.cell? ⟨b3,1,none⟩=some (.int .i64 b.stamp)∧w'.cell? ⟨r,2,none⟩=some (.int .i64 s.stamp) from ⟨(dJ.out w' x).cell rfl,(HS.out w' x).c2⟩);refine qaj (fun w'=>Ext w1 w') (by kernel_rfl) (by kernel_rfl) (Ext.refl _).drew ?_
   iterate 7
    refine wqg aB.out _ ?_;try simp only [pq]
   (try simp only [ht']);refine qcf ?_;intro w1b aA;have hx:=bq.out.trans aA;have ae:=dJ.out _ aA;have hsx:=HS.out _ aA;have q4:=hsx.cL;have p2:=ae.ce 2 (.slice Bx b.vers.length dx) rfl;have cR:=hsx.lt;have hv60:=HTO.out.lv;clear bq HS dJ aB aA hsx;go_wp2_with fail;clear q4 p2 cR;go_loopw [5,33] (fun l i wr=>∃ (k:Nat) (Al:Option Addr) (cl:Nat) (L:List Version),k≤b.vers.length∧i=.int .i64 k∧l=.slice Al L.length cl∧qb6 B wr Al L∧L=qbt s.shelf (b.vers.take k)∧qcc s.shelf (b.vers.take k)=0∧Hid (ShelfOk L)∧Ext w wr∧Blk wr b3 95 #[.int .i64 b.site,.int .i64 b.stamp,.slice Bx b.vers.length dx,.slice Bg b.gone.length dg,.slice AK Q.length cK]) (fun _ i _=>b.vers.length - (intOf i).toNat)
   case atStart=>exact ⟨0,AL,cL,s.shelf,Nat.zero_le _,rfl,rfl,(HS0.out _ hx).sL,rfl,rfl,hid aZ.out.shelf,hx,ae⟩
   clear hx ae;obtain ⟨k,Al,cl,L,hk,rfl,rfl,hL,d8,hLe,hok',hx,ae⟩:=hrel
   by_cases aD:k < b.vers.length
   ·obtain ⟨r0,off,Av,cv,Am,cm,rfl,hb,hr,hI⟩:=(HIX.out.ext RVer.monoE hx).ver aD
    have HV:=hid hI;have fW:=hid d8;have eP:=hid hLe;clear hI d8 hLe;have aW:([.string b.vers[k].id, .int .i64 b.vers[k].dot.site, .int .i64 b.vers[k].dot.count, .int .i64 b.vers[k].pt.tags, .int .i64 b.vers[k].pt.num, .int .i64 b.vers[k].body, .slice Av b.vers[k].past.vec.length cv, .slice Am b.vers[k].past.more.length cm]:List Value).length=8:=rfl;have aK:=(Ext.refl wr).alloc (.cells #[.string b.vers[k].id, .int .i64 b.vers[k].dot.site, .int .i64 b.vers[k].dot.count, .int .i64 b.vers[k].pt.tags, .int .i64 b.vers[k].pt.num, .int .i64 b.vers[k].body, .slice Av b.vers[k].past.vec.length cv, .slice Am b.vers[k].past.more.length cm] 151);have an:=Blk.new wr 151 #[.string b.vers[k].id, .int .i64 b.vers[k].dot.site, .int .i64 b.vers[k].dot.count, .int .i64 b.vers[k].pt.tags, .int .i64 b.vers[k].pt.num, .int .i64 b.vers[k].body, .slice Av b.vers[k].past.vec.length cv, .slice Am b.vers[k].past.more.length cm];go_wp2_with (first | (with_reducible refine qaa (o:=⟨some 36,_,_,_,_,_⟩) qam _ rfl rfl rfl hr aW ?_) | (with_reducible refine qa1 (o:=⟨some 39,_,_,_,_,_⟩) qam _ rfl rfl rfl an.whole rfl ?_));clear hr aW hb;refine (jav B Al cl L b.vers[k] Av cv Am cm _ (Nat.le_trans HB.out (hx.trans aK).size) (qc5 hok'.out) (hL.ext RVer.monoE aK) (HV.out.ext aK)).mono ?_;rintro e w2 ⟨A2,c2,rfl,bx,aH⟩;replace ae:=ae.ext (aK.trans aH);replace hx:=hx.trans (aK.trans aH);clear aK aH an hL;obtain ⟨E,hE⟩:=ex1 (qb7 L b.vers[k]);obtain ⟨O,hO⟩:=ex1 (qbk L b.vers[k]);rw [← hO] at bx ⊢;rw [← hE]
    by_cases h0:E=0
    ·have HS1:=hid (qss aD fW.out eP.out (hE.symm.trans h0))
     have HO:=hid hO;have HO60:=hid (show ShelfOk O from by rw [hO];exact (qkk (hE.symm.trans h0)).2.2.1);subst h0;clear hE hO;go_wp2_with fail;go_roundw
     case rel=>exact ⟨k+1,A2,c2,O,aD,by go_num,rfl,bx,by rw [HO.out];exact HS1.out.1,HS1.out.2,HO60,hx,ae⟩
     case measure=>simp [intOf];omega
    have aV:(E !=0)=true:=by simpa using h0
    have ak:=hid (qmn (J:=J) (K:=Q) (e:=E) (by rw [HTE.out];unfold qco;rw [if_neg (by rw [qiu aD fW.out eP.out (hE ▸ h0)];exact hE ▸ h0),qiu aD fW.out eP.out (hE ▸ h0),hE]) h0);clear h0 hE hO;go_wp2_with fail;go_ret;exact ⟨by rw [ak.out.1] <;> rfl,by rw [ak.out.2.1,ak.out.2.2];exact (HS0.out _ hx).is,Fr.of_ext hx⟩
   obtain rfl:k=b.vers.length:=Nat.le_antisymm hk (Nat.le_of_not_lt aD);rw [List.take_length] at d8 hLe;have HPO:=hid d8;have HPE:=hid hLe;have p3:=ae.ce 3 (.slice Bg b.gone.length dg) rfl;have hg60:=HTO.out.lg;clear d8 hLe hk aD;go_wp2_with fail;clear p3;go_loopw [5,50] (fun l i wr=>∃ (k:Nat) (Al:Option Addr) (cl:Nat) (L:List Version),k≤b.gone.length∧i=.int .i64 k∧l=.slice Al L.length cl∧qb6 B wr Al L∧L=qbu (qbt s.shelf b.vers) (b.gone.take k)∧Hid (ShelfOk L)∧Ext w wr∧Blk wr b3 95 #[.int .i64 b.site,.int .i64 b.stamp,.slice Bx b.vers.length dx,.slice Bg b.gone.length dg,.slice AK Q.length cK]) (fun _ i _=>b.gone.length - (intOf i).toNat)
   case atStart=>exact ⟨0,Al,cl,L,Nat.zero_le _,rfl,rfl,hL,HPO.out,hok',hx,ae⟩
   clear hL hx ae hok';obtain ⟨k,Al,cl,L,hk,rfl,rfl,hL,d8,hok',hx,ae⟩:=hrel
   by_cases aD:k < b.gone.length
   ·obtain ⟨r0,off,Av,cv,Am,cm,rfl,hb,hr,hI⟩:=(HIG.out.ext RGone.monoE hx).gone aD
    have HV:=hid hI;have fW:=hid d8;have HGO:=hid (HTO.out.gone _ (List.getElem_mem aD));have HE0:=hid (show qbl L b.gone[k]=0 by unfold qbl;rw [if_pos (qc5 hok'.out)];exact qjf.2 HGO.out);clear hI d8;have aW:([.string b.gone[k].id, .slice Av b.gone[k].past.vec.length cv, .slice Am b.gone[k].past.more.length cm]:List Value).length=3:=rfl;have aK:=(Ext.refl wr).alloc (.cells #[.string b.gone[k].id, .slice Av b.gone[k].past.vec.length cv, .slice Am b.gone[k].past.more.length cm] 103);have an:=Blk.new wr 103 #[.string b.gone[k].id, .slice Av b.gone[k].past.vec.length cv, .slice Am b.gone[k].past.more.length cm];go_wp2_with (first | (with_reducible refine qaa (o:=⟨some 53,_,_,_,_,_⟩) qih _ rfl rfl rfl hr aW ?_) | (with_reducible refine qa1 (o:=⟨some 56,_,_,_,_,_⟩) qih _ rfl rfl rfl an.whole rfl ?_));clear hr aW hb;refine (jde B Al cl L b.gone[k] Av cv Am cm _ (Nat.le_trans HB.out (hx.trans aK).size) (qc5 hok'.out) (hL.ext RVer.monoE aK) (HV.out.ext aK)).mono ?_;rintro e w2 ⟨v2,rfl,bx,aH⟩;replace ae:=ae.ext (aK.trans aH);replace hx:=hx.trans (aK.trans aH);clear aK aH an hL;have HS1:=hid (qu3 aD fW.out)
    have HOK2:=hid (ql6 hok'.out HE0.out).1;obtain ⟨O,hO⟩:=ex1 (qbo L b.gone[k]);rw [← hO] at bx HS1 HOK2;obtain ⟨A2,c2,rfl,-,-,bx⟩:=bx;clear hO;go_wp2_with fail;go_roundw
    case rel=>exact ⟨k+1,A2,c2,O,aD,by go_num,rfl,bx,HS1.out,HOK2,hx,ae⟩
    case measure=>simp [intOf];omega
   obtain rfl:k=b.gone.length:=Nat.le_antisymm hk (Nat.le_of_not_lt aD);rw [List.take_length] at d8;have fW:=hid d8;have HTT:=hid (show qba s b=if 29 < N8.length then 2 else 0 by
    rw [HTE.out,cU.out];exact qx7 HREL.out HTO.out aZ.out HPE.out (qnn _ _ (qlj _ _ aZ.out.shelf HPE.out) HTO.out.gone))
   have HSr:=hid (fun w' (x:Ext wr w')=>HS0.out w' (hx.trans x));have HBr:=hid (fun w' (x:Ext wr w')=>ae.ext x);have HXr:=hid hx;have HJS:=hid (fun w' (x:Ext wr w')=>(HSr.out w' x).sP);have HKS:=hid (fun w' (x:Ext wr w')=>HK0.out.ext RRef.mono (hx.trans x));have aB:=hid (fun w' (x:Ext wr w')=>show w'.cell? ⟨r,516,none⟩=some (.slice AP J.length cP)∧w'.cell? ⟨b3,4,none⟩=some (.slice AK Q.length cK) from ⟨(HSr.out w' x).cP,(HBr.out w' x).cell rfl⟩);clear ae hx d8 hk aD hok';go_wp2_with fail;have aA:=(Ext.refl wr).drew;refine wp_region_held_drew (S:=fun w'=>w'.cell? ⟨r,516,none⟩=some (.slice AP J.length cP)∧w'.cell? ⟨b3,4,none⟩=some (.slice AK Q.length cK)) (by kernel_rfl) (aB.out _ aA) (fun hHeld=>?_);replace hL:=hL.ext RVer.monoE aA;obtain ⟨wc,aS⟩:=ex1 wr.drew;rw [← aS] at hHeld aA hL ⊢;clear aS;refine tkA 0 _ rfl ?_;(try simp only [gq,pq]);refine tkA 1 _ rfl ?_;(try simp only [gq,pq]);refine tkA 2 _ rfl ?_
   (try simp only [gq,pq]);refine tkA 3 _ rfl ?_;(try simp only [gq,pq]);refine tkA 4 _ rfl ?_;(try simp only [gq,pq]);refine tkA 5 _ rfl ?_;(try simp only [gq,pq]);refine rd1 6 rfl fun K hK=>?_;simp only [gq];go_simp;have aC:=(Ext.refl wc).alloc (.cells #[.slice AP J.length cP,.slice AK Q.length cK] 75);have hl2:Sl B 75 (RL B 186 RRef 592) 1 (wc.alloc (.cells #[.slice AP J.length cP,.slice AK Q.length cK] 75)) (some ⟨wc.heap.size,0,none⟩) [J,Q]:=Sl.lit2 rfl ⟨AP,cP,rfl,(HJS.out _ (aA.trans aC))⟩ ⟨AK,cK,rfl,(HKS.out _ (aA.trans aC))⟩;replace aA:=aA.trans aC;replace hL:=hL.ext RVer.monoE aC;obtain ⟨wn,aP⟩:=ex1 (wc.alloc (.cells #[.slice AP J.length cP,.slice AK Q.length cK] 75));obtain ⟨b6,d9⟩:=ex1 wc.heap.size;rw [← aP] at hl2 aA hL;rw [← aP,← d9];rw [← d9] at hl2;clear aC aP d9;obtain ⟨wc,rfl⟩:=ex1 wn;refine hK.out _ _ (aB.out _ aA) (fun hHeld=>?_)
   clear hK K;(try simp only [pq]);refine rd1 7 rfl fun K hK=>?_;simp only [gq];go_simp;refine (qyv B _ 2 [J,Q] wc (Nat.le_trans HB.out (Nat.le_trans HXr.out.size aA.size)) hl2 (by simp) (by have:=HLJ.out;have:=HLK.out;simp;omega)).mono ?_;rintro e wn ⟨v7,rfl,cn,aC⟩;dsimp only;rw [show ([J,Q]:List (List RP)).flatten=J++Q by simp] at cn;obtain ⟨M7,hM7⟩:=ex1 (J++Q);rw [← hM7] at cn;have HM7:=hid hM7;have HL7:=hid (show M7.length≤1000 by rw [hM7,List.length_append];have:=HLJ.out;have:=HLK.out;omega);clear hM7;obtain ⟨A7,c7,rfl,-,-⟩:=cn.len;have hs7:=cn.sl 0;replace aA:=aA.trans aC;replace hL:=hL.ext RVer.monoE aC;clear aC cn hl2;obtain ⟨wc,rfl⟩:=ex1 wn;refine hK.out _ _ (aB.out _ aA) (fun hHeld=>?_);clear hK K;(try simp only [pq]);refine rd1 8 rfl fun K hK=>?_;simp only [gq];go_simp;refine (quv 0 A7 c7 M7 wc HL7.out hs7).mono ?_;rw [HM7.out];rintro e wn ⟨v8,rfl,dI,aC⟩;dsimp only;rw [← cU.out] at dI
   obtain ⟨A8,c8,rfl,-,-⟩:=dI.len;have cG:qe3 B wn A8 N8:=(dI.sl 0).old (fun _ _ h=>h) (Nat.zero_le B);replace aA:=aA.trans aC;replace hL:=hL.ext RVer.monoE aC;clear aC hs7 dI;obtain ⟨wc,rfl⟩:=ex1 wn;refine hK.out _ _ (aB.out _ aA) (fun hHeld=>?_);clear hK K;(try simp only [pq]);refine tkA 9 _ rfl ?_;(try simp only [gq,pq]);refine wpAnyH_done (by kernel_rfl) ?_ _;clear hHeld aB;have dt:=HSr.out wc aA;have hx:=HXr.out.trans aA;clear HSr HBr HXr aA
   by_cases h30:29 < N8.length
   ·have hd:decide ((29:Int) < (N8.length:Int))=true:=decide_eq_true (by omega)
    have hdn:decide (29 < N8.length)=true:=decide_eq_true h30;have ak:=hid (qmn (J:=J) (K:=Q) (HTT.out.trans (if_pos h30)) (by decide));clear h30;go_wp2_with fail;go_ret;exact ⟨by rw [ak.out.1] <;> rfl,by rw [ak.out.2.1,ak.out.2.2];exact dt.is,Fr.of_ext hx⟩
   have hd:decide ((29:Int) < (N8.length:Int))=false:=decide_eq_false (by omega);have hdn:decide (29 < N8.length)=false:=decide_eq_false h30;have cV:=hid (qz2 (J:=J) (K:=Q) (HTT.out.trans (if_neg h30)));clear h30;obtain ⟨q4,q5,f4,f5⟩:=dt.rows;have hs8':=(dt.setL (c:=cl) hL).setK (c:=c8) (cG.chg (B:=B) RRef.mono (by decide) (dt.chgS 515 (.slice Al L.length cl)));have hf8:=((Fr.of_ext (r:=r) hx).setR 515 (.slice Al L.length cl)).setR 516 (.slice A8 N8.length c8);have cR:=dt.lt;go_wp2_with fail;go_ret;refine ⟨by rw [cV.out.1] <;> rfl,?_,hf8⟩;rw [cV.out.2.2,← cU.out];exact hs8'.is.congr (by rw [cV.out.2.1]) (by rw [cV.out.2.1]) (by rw [cV.out.2.1]) (by rw [cV.out.2.1];exact fW.out)
  have ht':(b.stamp !=s.stamp)=true:=by simpa using ht
  have ak:=hid (qmn (J:=J) (K:=Q) (e:=6) (by rw [HT2.out,if_neg ht]) (by decide));clear ht;have aB:=hid (fun w' (x:Ext w1 w')=>show w'.cell? ⟨b3,1,none⟩=some (.int .i64 b.stamp)∧w'.cell? ⟨r,2,none⟩=some (.int .i64 s.stamp) from ⟨(dJ.out w' x).cell rfl,(HS.out w' x).c2⟩);refine qaj (fun w'=>Ext w1 w') (by kernel_rfl) (by kernel_rfl) (Ext.refl _).drew ?_
  iterate 7
   refine wqg aB.out _ ?_;try simp only [pq]
  (try simp only [ht']);refine qcf ?_;intro w1b aA;go_wp2_with fail;go_ret;exact ⟨by rw [ak.out.1] <;> rfl,by rw [ak.out.2.1,ak.out.2.2];exact (HS.out _ aA).is,Fr.of_ext (bq.out.trans aA)⟩
 have hm':(b.site !=s.me)=true:=by simpa using hm
 have ak:=hid (qmn (J:=J) (K:=Q) (e:=1) (by rw [HT1.out,if_neg hm]) (by decide));clear hm;have aB:=hid (fun w' (x:Ext w1 w')=>show w'.cell? ⟨b3,0,none⟩=some (.int .i64 b.site)∧w'.cell? ⟨r,0,none⟩=some (.int .i64 s.me) from ⟨(dJ.out w' x).cell rfl,(HS.out w' x).c0⟩);refine qaj (fun w'=>Ext w1 w') (by kernel_rfl) (by kernel_rfl) (Ext.refl _).drew ?_
 iterate 7
  refine wqg aB.out _ ?_;try simp only [pq]
 (try simp only [hm']);refine qcf ?_;intro w1b aA;go_wp2_with fail;go_ret;exact ⟨by rw [ak.out.1] <;> rfl,by rw [ak.out.2.1,ak.out.2.2];exact (HS.out _ aA).is,Fr.of_ext (bq.out.trans aA)⟩
end Go.Proofs.YtngbfdogiciahaaGreat
