/- The walk of a Site's Take. -/
import Derived.Test.YtngbfdogiciahaaGreatJoinSiteZ
set_option maxRecDepth 100000
set_option maxHeartbeats 40000000
namespace Go.Proofs.YtngbfdogiciahaaGreat
open Go Go.RowKit
theorem qim {s:SiteS} {b:Batch} {e:Int} (h:qba s b=e) (he:e≠0):qba s b=e∧qg3 s b=s:=by
 refine ⟨h,?_⟩;unfold qg3;rw [if_neg (by rw [h];exact he)]
theorem qwo {s:SiteS} {b:Batch} (h:qba s b=0):qba s b=0∧qg3 s b={ s with shelf:=qbu (qbt s.shelf b.vers) b.gone,parts:=qfu s.parts b.parts }:=by
 refine ⟨h,?_⟩;unfold qg3;rw [if_pos h]
theorem qjj:∀ (a c l:List Version),qcc l (a++c)=if qcc l a=0 then qcc (qbt l a) c else qcc l a
 | [],c,l=>by simp [qcc,qbt]
 | v::r,c,l=>by
  rw [List.cons_append,qcc,qcc,qbt]
  by_cases h:qb7 l v=0
  ·rw [if_pos h,if_pos h,qjj r c]
  rw [if_neg h,if_neg h,if_neg h]
theorem qom:∀ (a c l:List Version),qbt l (a++c)=qbt (qbt l a) c
 | [],_,_=>rfl
 | v::r,c,l=>by rw [List.cons_append,qbt,qbt,qom r c]
theorem qi0:∀ (a c:List Gone) (l:List Version),qbc l (a++c)=if qbc l a=0 then qbc (qbu l a) c else qbc l a
 | [],c,l=>by simp [qbc,qbu]
 | v::r,c,l=>by
  rw [List.cons_append,qbc,qbc,qbu]
  by_cases h:qbl l v=0
  ·rw [if_pos h,if_pos h,qi0 r c]
  rw [if_neg h,if_neg h,if_neg h]
theorem qi1:∀ (a c:List Gone) (l:List Version),qbu l (a++c)=qbu (qbu l a) c
 | [],_,_=>rfl
 | v::r,c,l=>by rw [List.cons_append,qbu,qbu,qi1 r c]
theorem qss {l L vs:List Version} {k:Nat} (aD:k < vs.length) (h1:L=qbt l (vs.take k)) (h2:qcc l (vs.take k)=0) (h3:qb7 L vs[k]=0):qbk L vs[k]=qbt l (vs.take (k+1))∧qcc l (vs.take (k+1))=0:=by
 rw [List.take_succ_eq_append_getElem aD,qom,qjj,if_pos h2,← h1,qcc,if_pos h3];exact ⟨rfl,rfl⟩
theorem qiu {l L vs:List Version} {k:Nat} (aD:k < vs.length) (h1:L=qbt l (vs.take k)) (h2:qcc l (vs.take k)=0) (h3:qb7 L vs[k]≠0):qcc l vs=qb7 L vs[k]:=by
 have e:vs=vs.take k++vs[k]::vs.drop (k+1):=by rw [List.getElem_cons_drop,List.take_append_drop]
 have:=qjj (vs.take k) (vs[k]::vs.drop (k+1)) l;rw [← e,if_pos h2,← h1,qcc,if_neg h3] at this;exact this
theorem qx6 {l L:List Version} {vs:List Gone} {k:Nat} (aD:k < vs.length) (h1:L=qbu l (vs.take k)) (h2:qbc l (vs.take k)=0) (h3:qbl L vs[k]=0):qbo L vs[k]=qbu l (vs.take (k+1))∧qbc l (vs.take (k+1))=0:=by
 rw [List.take_succ_eq_append_getElem aD,qi1,qi0,if_pos h2,← h1,qbc,if_pos h3];exact ⟨rfl,rfl⟩
theorem qnp {l L:List Version} {vs:List Gone} {k:Nat} (aD:k < vs.length) (h1:L=qbu l (vs.take k)) (h2:qbc l (vs.take k)=0) (h3:qbl L vs[k]≠0):qbc l vs=qbl L vs[k]:=by
 have e:vs=vs.take k++vs[k]::vs.drop (k+1):=by rw [List.getElem_cons_drop,List.take_append_drop]
 have:=qi0 (vs.take k) (vs[k]::vs.drop (k+1)) l;rw [← e,if_pos h2,← h1,qbc,if_neg h3] at this;exact this
theorem qu2 (l:List Version) (g:Gone):(qbo l g).length≤l.length:=by
 unfold qbo;split
 ·split
  ·exact List.length_filter_le _ _
  exact Nat.zero_le _
 exact Nat.zero_le _
theorem qjt {b:Batch} (h:qan b=0):TailOk b:=by
 unfold qan at h
 by_cases h0:0≤b.site∧b.site≤4∧0≤b.stamp
 ·rw [if_pos h0] at h;exact qlv h
 rw [if_neg h0] at h;cases h
theorem qt5 (B:Nat) (r:Nat) (s:SiteS) (b:Batch) (Bx:Option Addr) (dx:Nat) (Bg:Option Addr) (dg:Nat) (Bp:Option Addr) (dp:Nat) (w:World) (hB:B≤w.heap.size) (fj:B≤r) (aO:SiteOk s) (h:IsSite B w r s) (hi:InB B w Bx dx Bg dg Bp dp b) :
  Calls Tryz.prog 51 #[.pointer (some ⟨r,0,none⟩),.agg #[.int .i64 b.site, .int .i64 b.stamp, .slice Bx b.vers.length dx, .slice Bg b.gone.length dg, .slice Bp b.parts.length dp]] w fun e w'=>e=.returned (.int .i64 (qba s b))∧IsSite B w' r (qg3 s b)∧Fr r w w':=by
 have hrl0:=h.lt;obtain ⟨Af,cf,Ax,cx,Ap,cp,aF⟩:=h;have HB:=hid hB;have cT:=hid fj;have aZ:=hid aO;have HI:=hid hi;have hx:=(Ext.refl w).alloc (.cells #[.int .i64 b.site, .int .i64 b.stamp, .slice Bx b.vers.length dx, .slice Bg b.gone.length dg, .slice Bp b.parts.length dp] 90);have ae:=Blk.new w 90 #[.int .i64 b.site, .int .i64 b.stamp, .slice Bx b.vers.length dx, .slice Bg b.gone.length dg, .slice Bp b.parts.length dp];have HS0:=hid (fun w' (x:Ext w w')=>aF.ext x);have HTD:=hid (show qba s b=if qan b=0 then (if b.site=s.me then (if b.stamp=s.stamp then qco s b else 6) else 1) else qan b from rfl);have au:(#[.int .i64 b.site, .int .i64 b.stamp, .slice Bx b.vers.length dx, .slice Bg b.gone.length dg, .slice Bp b.parts.length dp]:Array Value).size=5:=rfl;clear hB fj aO hi aF;go_enter Tryz.func51, Tryz.ntmps51;go_wp2_with (with_reducible refine qa1 (o:=⟨some 15,_,_,_,_,_⟩) qcd _ rfl rfl rfl (ae.whole) au ?_);refine (qy8 B b Bx dx Bg dg Bp dp _ (HI.out.ext hx)).mono ?_;rintro e w1 ⟨rfl,aE⟩;replace ae:=ae.ext aE;replace hx:=hx.trans aE;clear aE;obtain ⟨b3,fO⟩:=ex1 w.heap.size;rw [← fO] at ae ⊢;have HN3:=hid (show b3≠r by omega);clear fO
 by_cases he:qan b=0
 ·rw [he]
  have HTO:=hid (qjt he);have HT1:=hid (show qba s b=if b.site=s.me then (if b.stamp=s.stamp then qco s b else 6) else 1 by rw [HTD.out,if_pos he]);clear he;have bq:=hid hx;have HS:=hid (fun w' (x:Ext w1 w')=>HS0.out w' (hx.trans x));have dJ:=hid (fun w' (x:Ext w1 w')=>ae.ext x);clear hx ae
  by_cases hm:b.site=s.me
  ·have hm':(b.site !=s.me)=false:=by rw [hm];simp
   have HT2:=hid (show qba s b=if b.stamp=s.stamp then qco s b else 6 by rw [HT1.out,if_pos hm]);clear hm;go_wp2_with fail;have aB:=hid (fun w' (x:Ext w1 w')=>show w'.cell? ⟨b3,0,none⟩=some (.int .i64 b.site)∧w'.cell? ⟨r,0,none⟩=some (.int .i64 s.me) from ⟨(dJ.out w' x).cell rfl,(HS.out w' x).blk.cell rfl⟩);refine qaj (fun w'=>Ext w1 w') (by kernel_rfl) (by kernel_rfl) (Ext.refl _).drew ?_
   iterate 7
    refine wqg aB.out _ ?_;try simp only [pq]
   (try simp only [hm']);refine qcf ?_;intro w1b aA;go_wp2_with fail;have hx:=bq.out.trans aA;have ae:=dJ.out _ aA;clear bq HS dJ aB aA;have bq:=hid hx;obtain ⟨w1,dP⟩:∃ w1',w1'=w1b:=⟨_,rfl⟩
   rw [← dP] at hx ae bq ⊢;clear dP;have HS:=hid (fun w' (x:Ext w1 w')=>HS0.out w' (hx.trans x));have dJ:=hid (fun w' (x:Ext w1 w')=>ae.ext x);clear hx ae
   by_cases ht:b.stamp=s.stamp
   ·have ht':(b.stamp !=s.stamp)=false:=by rw [ht];simp
    have HTE:=hid (show qba s b=qco s b by rw [HT2.out,if_pos ht]);clear ht;go_wp2_with fail;have aB:=hid (fun w' (x:Ext w1 w')=>show w'.cell? ⟨b3,1,none⟩=some (.int .i64 b.stamp)∧w'.cell? ⟨r,2,none⟩=some (.int .i64 s.stamp) from ⟨(dJ.out w' x).cell rfl,(HS.out w' x).blk.cell rfl⟩);refine qaj (fun w'=>Ext w1 w') (by kernel_rfl) (by kernel_rfl) (Ext.refl _).drew ?_
    iterate 7
     refine wqg aB.out _ ?_;try simp only [pq]
    (try simp only [ht']);refine qcf ?_;intro w1b aA;have hx:=bq.out.trans aA;have ae:=dJ.out _ aA;have hsx:=HS.out _ aA;have q4:=hsx.blk.ce 4 (.slice Ax s.shelf.length cx) rfl;have p2:=ae.ce 2 (.slice Bx b.vers.length dx) rfl;have cR:=hsx.blk.lt;have hv60:=HTO.out.lv;clear bq HS dJ aB aA hsx;go_wp2_with fail;clear q4 p2 cR;go_loopw [6,41] (fun l i wr=>∃ (k:Nat) (Al:Option Addr) (cl:Nat) (L:List Version),k≤b.vers.length∧i=.int .i64 k∧l=.slice Al L.length cl∧qb6 B wr Al L∧L=qbt s.shelf (b.vers.take k)∧qcc s.shelf (b.vers.take k)=0∧L.length≤60∧Ext w wr∧Blk wr b3 90 #[.int .i64 b.site, .int .i64 b.stamp, .slice Bx b.vers.length dx, .slice Bg b.gone.length dg, .slice Bp b.parts.length dp]) (fun _ i _=>b.vers.length - (intOf i).toNat)
    case atStart=>exact ⟨0,Ax,cx,s.shelf,Nat.zero_le _,rfl,rfl,(HS0.out _ hx).sx,rfl,rfl,aZ.out.shelf.len,hx,ae⟩
    clear hx ae;obtain ⟨k,Al,cl,L,hk,rfl,rfl,hL,d8,hLe,dz,hx,ae⟩:=hrel
    by_cases aD:k < b.vers.length
    ·obtain ⟨r0,off,Av,cv,Am,cm,rfl,hb,hr,hI⟩:=(HI.out.sx.ext RVer.monoE hx).ver aD
     have HV:=hid hI;have fW:=hid d8;have eP:=hid hLe;clear hI d8 hLe;have aW:([.string b.vers[k].id, .int .i64 b.vers[k].dot.site, .int .i64 b.vers[k].dot.count, .int .i64 b.vers[k].pt.tags, .int .i64 b.vers[k].pt.num, .int .i64 b.vers[k].body, .slice Av b.vers[k].past.vec.length cv, .slice Am b.vers[k].past.more.length cm]:List Value).length=8:=rfl;have aK:=(Ext.refl wr).alloc (.cells #[.string b.vers[k].id, .int .i64 b.vers[k].dot.site, .int .i64 b.vers[k].dot.count, .int .i64 b.vers[k].pt.tags, .int .i64 b.vers[k].pt.num, .int .i64 b.vers[k].body, .slice Av b.vers[k].past.vec.length cv, .slice Am b.vers[k].past.more.length cm] 151);have an:=Blk.new wr 151 #[.string b.vers[k].id, .int .i64 b.vers[k].dot.site, .int .i64 b.vers[k].dot.count, .int .i64 b.vers[k].pt.tags, .int .i64 b.vers[k].pt.num, .int .i64 b.vers[k].body, .slice Av b.vers[k].past.vec.length cv, .slice Am b.vers[k].past.more.length cm];go_wp2_with (first | (with_reducible refine qaa (o:=⟨some 44,_,_,_,_,_⟩) qam _ rfl rfl rfl hr aW ?_) | (with_reducible refine qa1 (o:=⟨some 47,_,_,_,_,_⟩) qam _ rfl rfl rfl an.whole rfl ?_));clear hr aW hb;refine (qt4 B Al cl L b.vers[k] Av cv Am cm _ (Nat.le_trans HB.out (hx.trans aK).size) (by unfold maxLen;omega) (hL.ext RVer.monoE aK) (HV.out.ext aK)).mono ?_;rintro e w2 ⟨v2,rfl,bx,aH⟩;replace ae:=ae.ext (aK.trans aH);replace hx:=hx.trans (aK.trans aH);clear aK aH an hL;obtain ⟨E,hE⟩:=ex1 (qb7 L b.vers[k]);obtain ⟨O,hO⟩:=ex1 (qbk L b.vers[k]);rw [← hO] at bx;rw [← hE];obtain ⟨A2,c2,rfl,_,_,bx⟩:=bx
     by_cases h0:E=0
     ·have HS1:=hid (qss aD fW.out eP.out (hE.symm.trans h0))
      have HO:=hid hO;have HO60:=hid (show O.length≤60 from by rw [hO];exact (qkk (hE.symm.trans h0)).2.2.1.len);subst h0;clear hE hO dz;go_wp2_with fail;go_roundw
      case rel=>exact ⟨k+1,A2,c2,O,aD,by go_num,rfl,bx,by rw [HO.out];exact HS1.out.1,HS1.out.2,HO60.out,hx,ae⟩
      case measure=>simp [intOf];omega
     have aV:(E !=0)=true:=by simpa using h0
     have ak:=hid (qim (e:=E) (by rw [HTE.out];unfold qco;rw [if_neg (by rw [qiu aD fW.out eP.out (hE ▸ h0)];exact hE ▸ h0),qiu aD fW.out eP.out (hE ▸ h0),hE]) h0);clear h0 hE hO dz;go_wp2_with fail;go_ret;exact ⟨by rw [ak.out.1] <;> rfl,by rw [ak.out.2];exact (HS0.out _ hx).is,Fr.of_ext hx⟩
    obtain rfl:k=b.vers.length:=by omega
    rw [List.take_length] at d8 hLe;have HPO:=hid d8;have HPE:=hid hLe;have p3:=ae.ce 3 (.slice Bg b.gone.length dg) rfl;have hg60:=HTO.out.lg;clear d8 hLe hk aD;go_wp2_with fail;clear p3;go_loopw [6,58] (fun l i wr=>∃ (k:Nat) (Al:Option Addr) (cl:Nat) (L:List Version),k≤b.gone.length∧i=.int .i64 k∧l=.slice Al L.length cl∧qb6 B wr Al L∧L=qbu (qbt s.shelf b.vers) (b.gone.take k)∧qbc (qbt s.shelf b.vers) (b.gone.take k)=0∧L.length≤60∧Ext w wr∧Blk wr b3 90 #[.int .i64 b.site, .int .i64 b.stamp, .slice Bx b.vers.length dx, .slice Bg b.gone.length dg, .slice Bp b.parts.length dp]) (fun _ i _=>b.gone.length - (intOf i).toNat)
    case atStart=>exact ⟨0,Al,cl,L,Nat.zero_le _,rfl,rfl,hL,HPO.out,rfl,dz,hx,ae⟩
    clear hL hx ae dz;obtain ⟨k,Al,cl,L,hk,rfl,rfl,hL,d8,hLe,dz,hx,ae⟩:=hrel
    by_cases aD:k < b.gone.length
    ·obtain ⟨r0,off,Av,cv,Am,cm,rfl,hb,hr,hI⟩:=(HI.out.sg.ext RGone.monoE hx).gone aD
     have HV:=hid hI;have fW:=hid d8;have eP:=hid hLe;have HL60:=hid dz;clear hI d8 hLe;have aW:([.string b.gone[k].id, .slice Av b.gone[k].past.vec.length cv, .slice Am b.gone[k].past.more.length cm]:List Value).length=3:=rfl;have aK:=(Ext.refl wr).alloc (.cells #[.string b.gone[k].id, .slice Av b.gone[k].past.vec.length cv, .slice Am b.gone[k].past.more.length cm] 103);have an:=Blk.new wr 103 #[.string b.gone[k].id, .slice Av b.gone[k].past.vec.length cv, .slice Am b.gone[k].past.more.length cm];go_wp2_with (first | (with_reducible refine qaa (o:=⟨some 61,_,_,_,_,_⟩) qih _ rfl rfl rfl hr aW ?_) | (with_reducible refine qa1 (o:=⟨some 64,_,_,_,_,_⟩) qih _ rfl rfl rfl an.whole rfl ?_));clear hr aW hb;refine (qy4 B Al cl L b.gone[k] Av cv Am cm _ (Nat.le_trans HB.out (hx.trans aK).size) (by unfold maxLen;omega) (hL.ext RVer.monoE aK) (HV.out.ext aK)).mono ?_;rintro e w2 ⟨v2,rfl,bx,aH⟩;replace ae:=ae.ext (aK.trans aH);replace hx:=hx.trans (aK.trans aH);clear aK aH an hL dz;obtain ⟨E,hE⟩:=ex1 (qbl L b.gone[k]);obtain ⟨O,hO⟩:=ex1 (qbo L b.gone[k]);rw [← hO] at bx;rw [← hE];obtain ⟨A2,c2,rfl,_,_,bx⟩:=bx
     by_cases h0:E=0
     ·have HS1:=hid (qx6 aD fW.out eP.out (hE.symm.trans h0))
      have HO:=hid hO;have HO60:=hid (show O.length≤60 from by
       have h:=HL60.out;have h2:=qu2 L b.gone[k];rw [← hO] at h2;omega)
      subst h0;clear hE hO;go_wp2_with fail;go_roundw
      case rel=>exact ⟨k+1,A2,c2,O,aD,by go_num,rfl,bx,by rw [HO.out];exact HS1.out.1,HS1.out.2,HO60.out,hx,ae⟩
      case measure=>simp [intOf];omega
     have aV:(E !=0)=true:=by simpa using h0
     have ak:=hid (qim (e:=E) (by rw [HTE.out];unfold qco;rw [if_pos HPE.out,if_neg (by rw [qnp aD fW.out eP.out (hE ▸ h0)];exact hE ▸ h0),qnp aD fW.out eP.out (hE ▸ h0),hE]) h0);clear h0 hE hO;go_wp2_with fail;go_ret;exact ⟨by rw [ak.out.1] <;> rfl,by rw [ak.out.2];exact (HS0.out _ hx).is,Fr.of_ext hx⟩
    obtain rfl:k=b.gone.length:=by omega
    rw [List.take_length] at d8 hLe;have fW:=hid d8;have HTT:=hid (show qba s b=if qdl s.parts b.parts=0 then (if (qfu s.parts b.parts).length=30 then 2 else 0) else qdl s.parts b.parts by rw [HTE.out];unfold qco;rw [if_pos HPE.out,if_pos hLe]);have HSr:=hid (fun w' (x:Ext wr w')=>HS0.out w' (hx.trans x));have HBr:=hid (fun w' (x:Ext wr w')=>ae.ext x);have HXr:=hid hx;have aB:=hid (fun w' (x:Ext wr w')=>show w'.cell? ⟨r,5,none⟩=some (.slice Ap s.parts.length cp)∧w'.cell? ⟨b3,4,none⟩=some (.slice Bp b.parts.length dp) from ⟨(HSr.out w' x).blk.cell rfl,(HBr.out w' x).cell rfl⟩);clear ae hx d8 hLe hk aD;go_wp2_with fail;have aA:=(Ext.refl wr).drew;refine wp_region_held_drew (S:=fun w'=>w'.cell? ⟨r,5,none⟩=some (.slice Ap s.parts.length cp)∧w'.cell? ⟨b3,4,none⟩=some (.slice Bp b.parts.length dp)) (by kernel_rfl) (aB.out _ aA) (fun hHeld=>?_);replace hL:=hL.ext RVer.monoE aA;obtain ⟨wc,aS⟩:=ex1 wr.drew
    rw [← aS] at hHeld aA hL ⊢;clear aS;refine tkA 0 _ rfl ?_;(try simp only [gq,pq]);refine tkA 1 _ rfl ?_;(try simp only [gq,pq]);refine tkA 2 _ rfl ?_;(try simp only [gq,pq]);refine tkA 3 _ rfl ?_;(try simp only [gq,pq]);refine tkA 4 _ rfl ?_;(try simp only [gq,pq]);refine tkA 5 _ rfl ?_;(try simp only [gq,pq]);refine rd1 6 rfl fun K hK=>?_;simp only [gq];go_simp;refine (jaj B Ap Bp cp dp s.parts b.parts wc (Nat.le_trans HB.out (Nat.le_trans HXr.out.size aA.size)) (by have:=aZ.out.lp;unfold maxLen;omega) HI.out.mx.2.2 ((HSr.out wc aA).sp) (HI.out.sp.ext RPart.monoE (HXr.out.trans aA))).mono ?_;rintro e wn ⟨v6,rfl,hv6,aC⟩;dsimp only;obtain ⟨A6,c6,rfl,_,_,hv6⟩:=hv6;replace aA:=aA.trans aC;replace hL:=hL.ext RVer.monoE aC;clear aC;obtain ⟨wc,rfl⟩:=ex1 wn;refine hK.out _ _ (aB.out _ aA) (fun hHeld=>?_);clear hK K;(try simp only [pq]);refine tkA 7 _ rfl ?_;(try simp only [gq,pq]);refine tkA 8 _ rfl ?_
    (try simp only [gq,pq]);refine tkA 9 _ rfl ?_;(try simp only [gq,pq]);refine tkA 10 _ rfl ?_;(try simp only [gq,pq]);refine tkA 11 _ rfl ?_;(try simp only [gq,pq]);refine wpAnyH_done (by kernel_rfl) ?_ _;clear hHeld aB;have aF:=HSr.out wc aA;have hx:=HXr.out.trans aA;clear HSr HBr HXr aA;obtain ⟨E,hE⟩:=ex1 (qdl s.parts b.parts);obtain ⟨J,hJ⟩:=ex1 (qfu s.parts b.parts);rw [← hJ] at hv6;rw [← hE,← hJ]
    by_cases h0:E=0
    ·subst h0
     have HJ:=hid hJ;have HE0:=hid hE.symm;clear hE hJ
     by_cases h30:J.length=30
     ·have h30':((J.length:Int)==30)=true:=by rw [h30];rfl
      have ak:=hid (qim (e:=2) (HTT.out.trans (by rw [if_pos HE0.out,← HJ.out,if_pos h30])) (by decide));clear h30;go_wp2_with fail;go_ret;exact ⟨by rw [ak.out.1] <;> rfl,by rw [ak.out.2];exact aF.is,Fr.of_ext hx⟩
     have h30':((J.length:Int)==30)=false:=by rw [beq_eq_false_iff_ne];omega
     have cV:=hid (qwo (HTT.out.trans (by rw [if_pos HE0.out,← HJ.out,if_neg h30])));clear h30;have q4:=aF.blk.ce 4 (.slice Ax s.shelf.length cx) rfl;have q5:=aF.blk.ce 5 (.slice Ap s.parts.length cp) rfl;have f4:=aF.blk.frozen 4;have f5:=aF.blk.frozen 5;have cG:=(aF.setShelf cT.out (c:=cl) hL).setParts cT.out (c:=c6) (hv6.chg (RPart.mono (by decide) (by decide) (by decide) (by decide)) (by decide) (aF.chgS cT.out 4 (.slice Al L.length cl)));have hf8:=((Fr.of_ext (r:=r) hx).setR 4 (.slice Al L.length cl)).setR 5 (.slice A6 J.length c6);go_wp2_with fail;go_ret;refine ⟨by rw [cV.out.1] <;> rfl,?_,hf8⟩;rw [cV.out.2,← HJ.out,← fW.out];exact cG.is
    have aV:(E !=0)=true:=by simpa using h0
    have ak:=hid (qim (e:=E) (HTT.out.trans (by rw [← hE,if_neg h0])) h0);clear h0 hE hJ;go_wp2_with fail;go_ret;exact ⟨by rw [ak.out.1] <;> rfl,by rw [ak.out.2];exact aF.is,Fr.of_ext hx⟩
   have ht':(b.stamp !=s.stamp)=true:=by simpa using ht
   have ak:=hid (qim (e:=6) (by rw [HT2.out,if_neg ht]) (by decide));clear ht;go_wp2_with fail;have aB:=hid (fun w' (x:Ext w1 w')=>show w'.cell? ⟨b3,1,none⟩=some (.int .i64 b.stamp)∧w'.cell? ⟨r,2,none⟩=some (.int .i64 s.stamp) from ⟨(dJ.out w' x).cell rfl,(HS.out w' x).blk.cell rfl⟩);refine qaj (fun w'=>Ext w1 w') (by kernel_rfl) (by kernel_rfl) (Ext.refl _).drew ?_
   iterate 7
    refine wqg aB.out _ ?_;try simp only [pq]
   (try simp only [ht']);refine qcf ?_;intro w1b aA;go_wp2_with fail;go_ret;exact ⟨by rw [ak.out.1] <;> rfl,by rw [ak.out.2];exact (HS.out _ aA).is,Fr.of_ext (bq.out.trans aA)⟩
  have hm':(b.site !=s.me)=true:=by simpa using hm
  have ak:=hid (qim (e:=1) (by rw [HT1.out,if_neg hm]) (by decide));clear hm;go_wp2_with fail;have aB:=hid (fun w' (x:Ext w1 w')=>show w'.cell? ⟨b3,0,none⟩=some (.int .i64 b.site)∧w'.cell? ⟨r,0,none⟩=some (.int .i64 s.me) from ⟨(dJ.out w' x).cell rfl,(HS.out w' x).blk.cell rfl⟩);refine qaj (fun w'=>Ext w1 w') (by kernel_rfl) (by kernel_rfl) (Ext.refl _).drew ?_
  iterate 7
   refine wqg aB.out _ ?_;try simp only [pq]
  (try simp only [hm']);refine qcf ?_;intro w1b aA;go_wp2_with fail;go_ret;exact ⟨by rw [ak.out.1] <;> rfl,by rw [ak.out.2];exact (HS.out _ aA).is,Fr.of_ext (bq.out.trans aA)⟩
 have aV:(qan b !=0)=true:=by simpa using he
 have ak:=hid (qim (by rw [HTD.out,if_neg he]) he);clear he;go_wp2_with fail;go_ret;exact ⟨by rw [ak.out.1] <;> rfl,by rw [ak.out.2];exact (HS0.out _ hx).is,Fr.of_ext hx⟩
end Go.Proofs.YtngbfdogiciahaaGreat
