/- Texts joined. -/
import Derived.Test.YtngbfdogiciahaaGreatJoinSrtS
set_option maxRecDepth 100000
set_option maxHeartbeats 40000000
namespace Go.Proofs.YtngbfdogiciahaaGreat
open Go Go.RowKit
theorem qr1 {l:List Version} {v u:Version} (h0:qae l=0) (hv:qas v=0) (hu:u∈l) (h:(qbw u v==0)=true∨over u v=true):qb7 l v=0∧qbk l v=l:=by
 have ha:qeh l v=true:=by
  unfold qeh qcv;rw [Bool.or_eq_true,List.any_eq_true,List.any_eq_true];rcases h with h | h
  ·exact .inl ⟨u,hu,h⟩
  exact .inr ⟨u,hu,h⟩
 unfold qb7 qbk;rw [if_pos h0,if_pos hv,if_pos h0,if_pos hv,ha];exact ⟨rfl,rfl⟩
theorem jdc {l:List Version} {v:Version} (h:∀ u∈l,(qbw u v==0)=false∧over u v=false):qcv l v=false∧qeh l v=false:=by
 have a:qcv l v=false:=by
  unfold qcv;rw [List.any_eq_false];intro u hu;rw [(h u hu).1];simp
 refine ⟨a,?_⟩;unfold qeh;rw [a,Bool.false_or,List.any_eq_false];intro u hu;rw [(h u hu).2];simp
theorem qzs {u v:Version} (h:sEq u.id v.id=false∨u.dot≠v.dot):(qbw u v==0)=false:=by
 rw [beq_eq_false_iff_ne];intro e;obtain ⟨a,b⟩:=qhn.1 e;rcases h with h | h
 ·rw [qhj.2 a] at h;cases h
 exact h b
theorem qms {B base r:Nat} {w:World} {v:Value} {L:List Version} {cs:Array Value} (hr:Blk w r 48 cs) (ho:Own (RVer B) 8 151 w base v L) (h:L≠[]):∃ g c,v=.slice (some ⟨g,0,none⟩) L.length c∧r≠g:=by
 rcases ho.at_ with ⟨_,e⟩ | ⟨g',c',e,_,_,ht,_⟩
 ·exact absurd e h
 refine ⟨g',c',e,?_⟩;rintro rfl;rw [hr.ty] at ht;exact absurd ht (by decide)
theorem qmv {B:Nat} {w w0:World} {base r rb:Nat} {vo:Value} {v5:Value} {L:List Version} {cs:Array Value} {tb:TypeId} (hr:Blk w r 48 #[vo]) (ho:Own (RVer B) 8 151 w base v5 L) (hx:Ext w0 w) (hB:B≤base) (aY:base≤w0.heap.size) (hr0:w0.heap.size≤r) (hb:Blk w rb tb cs) (aV:rb≠r) (u:Value) :
  Blk (w.setCell ⟨r,0,none⟩ u) r 48 #[u]∧Own (RVer B) 8 151 (w.setCell ⟨r,0,none⟩ u) base v5 L∧Ext w0 (w.setCell ⟨r,0,none⟩ u)∧Blk (w.setCell ⟨r,0,none⟩ u) rb tb cs:=by
 have fa:=hr.ty;refine ⟨by simpa using hr.set 0 u,?_,hx.setCell hr0 u,hb.far aV u⟩;refine ho.chg (B:=B) (ts:=[48]) (RVer.mono (by decide) (by decide)) ?_ ?_
 ·exact (Chg.refl w).setCell (p:=⟨r,0,none⟩) fa (by simp) u (Nat.le_trans hB (Nat.le_trans aY hr0))
 intro g hg;refine Below.heap_setCell w ⟨r,0,none⟩ u g ?_;rintro rfl;rcases ho.at_ with ⟨e,_⟩ | ⟨g',c',e,_,_,ht,_⟩
 ·rw [e] at hg;simp [Value.ownBlock] at hg
 rw [e] at hg;simp [Value.ownBlock] at hg;subst hg;rw [fa] at ht;exact absurd ht (by decide)
theorem jav (B:Nat) (A:Option Addr) (c:Nat) (l:List Version) (v:Version) (Av0:Option Addr) (cv0:Nat) (Am0:Option Addr) (cm0:Nat) (w:World) (hB:B≤w.heap.size) (hc:qae l=0) (h:qb6 B w A l) (hi:InV B w Av0 cv0 Am0 cm0 v) :
  Calls Tryz.prog 99 #[.slice A l.length c,.agg #[.string v.id, .int .i64 v.dot.site, .int .i64 v.dot.count, .int .i64 v.pt.tags, .int .i64 v.pt.num, .int .i64 v.body, .slice Av0 v.past.vec.length cv0, .slice Am0 v.past.more.length cm0]] w fun e w'=>∃ A' c',e=.returned (.tuple #[.slice A' (qbk l v).length c',.int .i64 (qb7 l v)])∧qb6 B w' A' (qbk l v)∧Ext w w':=by
 have hx:=(Ext.refl w).alloc (.cells #[.string v.id, .int .i64 v.dot.site, .int .i64 v.dot.count, .int .i64 v.pt.tags, .int .i64 v.pt.num, .int .i64 v.body, .slice Av0 v.past.vec.length cv0, .slice Am0 v.past.more.length cm0] 151);have ap:=Blk.new w 151 #[.string v.id, .int .i64 v.dot.site, .int .i64 v.dot.count, .int .i64 v.pt.tags, .int .i64 v.pt.num, .int .i64 v.body, .slice Av0 v.past.vec.length cv0, .slice Am0 v.past.more.length cm0];have dB:=hid hc;have aZ:=hid (qcw hc);have HI0:=hid hi;have dz:=aZ.out.len;have hll:(l.length:Int)≤60:=by omega
 clear hi hc;have hv8:(#[.string v.id, .int .i64 v.dot.site, .int .i64 v.dot.count, .int .i64 v.pt.tags, .int .i64 v.pt.num, .int .i64 v.body, .slice Av0 v.past.vec.length cv0, .slice Am0 v.past.more.length cm0]:Array Value).size=8:=rfl;go_enter Tryz.func99, Tryz.ntmps99;go_wp2_with (with_reducible refine qa1 (o:=⟨some 10,_,_,_,_,_⟩) qam _ rfl rfl rfl (ap.whole) hv8 ?_);refine (jau B v Av0 cv0 Am0 cm0 _ (HI0.out.ext hx)).mono ?_;rintro e w2 ⟨rfl,aH⟩;replace ap:=ap.ext aH;replace hx:=hx.trans aH;clear aH
 by_cases bM:qas v=0
 ·rw [bM]
  have dU:=hid bM;have HV:=hid (qeq.1 bM);clear bM;go_wp2_with fail;have aC:=(Ext.refl w2).alloc (.cells #[.slice none 0 0] 48);have aq:=Blk.new w2 48 #[.slice none 0 0];have HX0:=hid hx;have dR:=hid (HI0.out.ext hx);replace h:=h.ext RVer.monoE hx;have fj:B≤w2.heap.size:=Nat.le_trans hB hx.size;have HWB:=hid ap.lt;clear hB hx HI0;have HI0:=dR;clear dR;have hx:=Ext.refl w2;obtain ⟨w3,dY⟩:=ex1 (w2.alloc (.cells #[.slice none 0 0] 48));obtain ⟨r,hr⟩:=ex1 w2.heap.size;rw [← dY] at aC aq ⊢;rw [← hr] at aq fj HWB ⊢;have HR:=hid hr;replace ap:=ap.ext aC;replace hx:=hx.trans aC;clear dY hr aC;go_loopw [17] (fun i wr=>∃ (k:Nat) (vo:Value),k≤l.length∧i=.int .i64 k∧Blk wr r 48 #[vo]∧Own (RVer B) 8 151 wr r vo ((l.take k).filter fun u=>!over v u)∧Ext w2 wr∧Blk wr w.heap.size 151 #[.string v.id, .int .i64 v.dot.site, .int .i64 v.dot.count, .int .i64 v.pt.tags, .int .i64 v.pt.num, .int .i64 v.body, .slice Av0 v.past.vec.length cv0, .slice Am0 v.past.more.length cm0]∧∀ u∈l.take k,(qbw u v==0)=false∧over u v=false) (fun i _=>l.length - (intOf i).toNat)
  case atStart=>exact ⟨0,.slice none 0 0,Nat.zero_le _,rfl,aq,Own.nil,hx,ap,by simp⟩
  clear aq hx ap;obtain ⟨k,vo,hk,rfl,aq,ho,hx,ap,hno⟩:=hrel;have HNo:=hid hno;clear hno
  by_cases aD:k < l.length
  ·obtain ⟨b,off,Av,cv,Am,cm,rfl,hb,hr,hI⟩:=(h.ext RVer.monoE hx).ver aD
   have e9:=hid (aZ.out.all _ (List.getElem_mem aD));have am:=hid (show ((l.take k).filter fun u=>!over v u).length≤10000 by have:=List.length_filter_le (fun u=>!over v u) (l.take k);have h2:=List.length_take_le k l;omega);have aW:([.string l[k].id, .int .i64 l[k].dot.site, .int .i64 l[k].dot.count, .int .i64 l[k].pt.tags, .int .i64 l[k].pt.num, .int .i64 l[k].body, .slice Av l[k].past.vec.length cv, .slice Am l[k].past.more.length cm]:List Value).length=8:=rfl;have aK:=(Ext.refl wr).alloc (.cells #[.string l[k].id, .int .i64 l[k].dot.site, .int .i64 l[k].dot.count, .int .i64 l[k].pt.tags, .int .i64 l[k].pt.num, .int .i64 l[k].body, .slice Av l[k].past.vec.length cv, .slice Am l[k].past.more.length cm] 151);have bF:=Blk.new wr 151 #[.string l[k].id, .int .i64 l[k].dot.site, .int .i64 l[k].dot.count, .int .i64 l[k].pt.tags, .int .i64 l[k].pt.num, .int .i64 l[k].body, .slice Av l[k].past.vec.length cv, .slice Am l[k].past.more.length cm];have HI:=hid hI;have hrw:=hx.size;clear hI;have p0:=ap.ce 0 (.string v.id) rfl;have p1:=ap.ce 1 (.int .i64 v.dot.site) rfl;have p2:=ap.ce 2 (.int .i64 v.dot.count) rfl;have p3:=ap.ce 3 (.int .i64 v.pt.tags) rfl;have p4:=ap.ce 4 (.int .i64 v.pt.num) rfl;have p5:=ap.ce 5 (.int .i64 v.body) rfl;have p6:=ap.ce 6 (.slice Av0 v.past.vec.length cv0) rfl;have p7:=ap.ce 7 (.slice Am0 v.past.more.length cm0) rfl;have hzv:=ap.lt
   cases h1:sEq l[k].id v.id
   ·have h1':(l[k].id.toList==v.id.toList)=false:=h1
    have HCm:=hid (show (qbw l[k] v==0)=false from qzs (.inl h1));clear h1;go_wp2_with (with_reducible refine qaa (o:=⟨some 20,_,_,_,_,_⟩) qam _ rfl rfl rfl hr aW ?_);have aK:=(Ext.refl wr).alloc (.cells #[.string l[k].id, .int .i64 l[k].dot.site, .int .i64 l[k].dot.count, .int .i64 l[k].pt.tags, .int .i64 l[k].pt.num, .int .i64 l[k].body, .slice Av l[k].past.vec.length cv, .slice Am l[k].past.more.length cm] 151);have bF:=Blk.new wr 151 #[.string l[k].id, .int .i64 l[k].dot.site, .int .i64 l[k].dot.count, .int .i64 l[k].pt.tags, .int .i64 l[k].pt.num, .int .i64 l[k].body, .slice Av l[k].past.vec.length cv, .slice Am l[k].past.more.length cm];clear p0 p1 p2 p3 p4 p5 p6 p7;refine (qiv B l[k] v Av cv Am cm Av0 cv0 Am0 cm0 _ (HI.out.ext aK) e9.out.k HV.out.dot).mono ?_;rintro e w7 ⟨rfl,ac⟩;have ar:=aK.trans ac;replace bF:=bF.ext ac;replace aq:=aq.ext ar;replace ap:=ap.ext ar;replace ho:=ho.ext RVer.monoE ar;replace hx:=hx.trans ar;clear ac aK
    cases h8:over l[k] v
    ·have HN:=hid (show ∀ u∈l.take (k+1),(qbw u v==0)=false∧over u v=false from by
      intro u hu;rw [List.take_succ_eq_append_getElem aD] at hu;rcases List.mem_append.1 hu with hu | hu
      ·exact HNo.out u hu
      rw [List.mem_singleton.1 hu];exact ⟨HCm.out,h8⟩)
     clear h8;have hbv2:=ap;have hbw2:=bF;go_wp2_with (first | (with_reducible refine qa1 (o:=⟨some 39,_,_,_,_,_⟩) qam _ rfl rfl rfl hbv2.whole rfl ?_) | (with_reducible refine qa1 (o:=⟨some 40,_,_,_,_,_⟩) qam _ rfl rfl rfl hbw2.whole rfl ?_));refine (qiv B v l[k] Av0 cv0 Am0 cm0 Av cv Am cm _ (HI0.out.ext hx) HV.out.k e9.out.dot).mono ?_;rintro e w8 ⟨rfl,a7⟩;clear hbv2 hbw2;replace aq:=aq.ext a7;replace ap:=ap.ext a7;replace bF:=bF.ext a7;replace ho:=ho.ext RVer.monoE a7;replace hx:=hx.trans a7;replace ar:=ar.trans a7;clear a7
     cases h9:over v l[k]
     ·have HF:=hid (show (l.take (k+1)).filter (fun u=>!over v u)=(l.take k).filter (fun u=>!over v u)++[l[k]] by rw [List.take_succ_eq_append_getElem aD,List.filter_append];simp [h9])
      clear h9;have q0:=aq.ce 0 (vo) rfl;have hrlt:=aq.lt;have cS:=bF.whole;have aa:=(Ext.refl w8).alloc (.cells #[.string l[k].id, .int .i64 l[k].dot.site, .int .i64 l[k].dot.count, .int .i64 l[k].pt.tags, .int .i64 l[k].pt.num, .int .i64 l[k].body, .slice Av l[k].past.vec.length cv, .slice Am l[k].past.more.length cm] 151);have aN:qb6 B (w8.alloc (.cells #[.string l[k].id, .int .i64 l[k].dot.site, .int .i64 l[k].dot.count, .int .i64 l[k].pt.tags, .int .i64 l[k].pt.num, .int .i64 l[k].body, .slice Av l[k].past.vec.length cv, .slice Am l[k].past.more.length cm] 151)) (some ⟨w8.heap.size,0,none⟩) [l[k]]:=by
       have:=Sl.one (R:=RVer B) (B:=B) (e:=151) (sz:=8) (w:=w8) (cs:=[.string l[k].id, .int .i64 l[k].dot.site, .int .i64 l[k].dot.count, .int .i64 l[k].pt.tags, .int .i64 l[k].pt.num, .int .i64 l[k].body, .slice Av l[k].past.vec.length cv, .slice Am l[k].past.more.length cm]) (y:=l[k]) rfl rfl (HI.out.ext (ar.trans aa)).rver;simpa using this
      have aR:=ho.ext RVer.monoE aa;have al:=hx.trans aa;go_wp2_with (first | (with_reducible refine qa1 (o:=⟨some 44,_,_,_,_,_⟩) qam _ rfl rfl rfl cS rfl ?_) | (at_builtin;refine qaf (ys:=[l[k]]) (c:=1) (B:=B) rfl _ _ rfl qfr rfl aR fj (by rw [HR.out];exact al.size) rfl aN RVer.oneC (RVer.mono (by decide) (by decide)) (by have:=am.out;simp [maxLen];omega) (by have:=am.out;simp;omega) ?_;intro v5 w5 bJ bj au dd;have bg:=(aq.ext aa).chg bj (by decide);have q5:=bg.ce 0 (vo) rfl;have z5:=bg.frozen 0;obtain ⟨M,hM⟩:=ex1 (((l.take k).filter fun u=>!over v u)++[l[k]]);rw [← hM] at bJ;have HM:=hid hM;obtain ⟨g5,c5,rfl,hrg⟩:=qms bg bJ (by rw [hM];simp);clear hM));have cA:=al.below au (by rw [HR.out];exact Nat.le_refl _);have eq:=(ap.ext aa).below au HWB.out;obtain ⟨d1,d2,d3,d4⟩:=qmv bg bJ cA fj (by rw [HR.out];exact Nat.le_refl _) (by rw [HR.out];exact Nat.le_refl _) eq (Nat.ne_of_lt HWB.out) (.slice (some ⟨g5,0,none⟩) M.length c5)
      clear bj au dd aR aN al cS aq ap bF ho hx ar cA eq bJ bg q5 z5 q0;go_roundw
      case rel=>exact ⟨k+1,.slice (some ⟨g5,0,none⟩) M.length c5,aD,by go_num,d1,by rw [HF.out,← HM.out];exact d2,d3,d4,HN.out⟩
      case measure=>simp [intOf];omega
     have HF:=hid (show (l.take (k+1)).filter (fun u=>!over v u)=(l.take k).filter (fun u=>!over v u) by rw [List.take_succ_eq_append_getElem aD,List.filter_append];simp [h9]);clear h9;go_wp2_with fail;go_roundw
     case rel=>exact ⟨k+1,vo,aD,by go_num,aq,by rw [HF.out];exact ho,hx,ap,HN.out⟩
     case measure=>simp [intOf];omega
    have HO:=hid h8;clear h8;have HE:=hid (show qb7 l v=0∧qbk l v=l from qr1 dB.out dU.out (List.getElem_mem aD) (.inr HO.out));clear aq ap bF ho;go_wp2_with fail;go_ret2;exact ⟨some ⟨b,off,none⟩,c,by rw [HE.out.1,HE.out.2];rfl,by rw [HE.out.2];exact h.ext RVer.monoE hx,HX0.out.trans hx⟩
   have h1':(l[k].id.toList==v.id.toList)=true:=h1;have H1:=hid (qhj.1 h1);clear h1
   by_cases e1:l[k].dot.site=v.dot.site
   ·have bX:(l[k].dot.site==v.dot.site)=true:=by rw [e1];simp
    have E1:=hid e1;clear e1
    by_cases e2:l[k].dot.count=v.dot.count
    ·have bC:(l[k].dot.count==v.dot.count)=true:=by rw [e2];simp
     have HK:=hid (show (qbw l[k] v==0)=true from by rw [beq_iff_eq];exact qhn.2 ⟨H1.out,Dot.ext' E1.out e2⟩);clear e2;go_wp2_with (with_reducible refine qaa (o:=⟨some 20,_,_,_,_,_⟩) qam _ rfl rfl rfl hr aW ?_);have HE:=hid (show qb7 l v=0∧qbk l v=l from qr1 dB.out dU.out (List.getElem_mem aD) (.inl HK.out));clear aq ap bF ho;go_wp2_with fail;go_ret2;exact ⟨some ⟨b,off,none⟩,c,by rw [HE.out.1,HE.out.2];rfl,by rw [HE.out.2];exact h.ext RVer.monoE (hx.trans ((Ext.refl wr).alloc _)),HX0.out.trans (hx.trans ((Ext.refl wr).alloc _))⟩
    have bC:(l[k].dot.count==v.dot.count)=false:=by rw [beq_eq_false_iff_ne];exact e2
    have HCm:=hid (show (qbw l[k] v==0)=false from qzs (.inr (fun e=>e2 (by rw [e]))));clear e2;go_wp2_with (with_reducible refine qaa (o:=⟨some 20,_,_,_,_,_⟩) qam _ rfl rfl rfl hr aW ?_);have aK:=(Ext.refl wr).alloc (.cells #[.string l[k].id, .int .i64 l[k].dot.site, .int .i64 l[k].dot.count, .int .i64 l[k].pt.tags, .int .i64 l[k].pt.num, .int .i64 l[k].body, .slice Av l[k].past.vec.length cv, .slice Am l[k].past.more.length cm] 151);have bF:=Blk.new wr 151 #[.string l[k].id, .int .i64 l[k].dot.site, .int .i64 l[k].dot.count, .int .i64 l[k].pt.tags, .int .i64 l[k].pt.num, .int .i64 l[k].body, .slice Av l[k].past.vec.length cv, .slice Am l[k].past.more.length cm];clear p0 p1 p2 p3 p4 p5 p6 p7;refine (qiv B l[k] v Av cv Am cm Av0 cv0 Am0 cm0 _ (HI.out.ext aK) e9.out.k HV.out.dot).mono ?_;rintro e w7 ⟨rfl,ac⟩;have ar:=aK.trans ac;replace bF:=bF.ext ac;replace aq:=aq.ext ar;replace ap:=ap.ext ar;replace ho:=ho.ext RVer.monoE ar;replace hx:=hx.trans ar;clear ac aK
    cases h8:over l[k] v
    ·have HN:=hid (show ∀ u∈l.take (k+1),(qbw u v==0)=false∧over u v=false from by
      intro u hu;rw [List.take_succ_eq_append_getElem aD] at hu;rcases List.mem_append.1 hu with hu | hu
      ·exact HNo.out u hu
      rw [List.mem_singleton.1 hu];exact ⟨HCm.out,h8⟩)
     clear h8;have hbv2:=ap;have hbw2:=bF;go_wp2_with (first | (with_reducible refine qa1 (o:=⟨some 39,_,_,_,_,_⟩) qam _ rfl rfl rfl hbv2.whole rfl ?_) | (with_reducible refine qa1 (o:=⟨some 40,_,_,_,_,_⟩) qam _ rfl rfl rfl hbw2.whole rfl ?_));refine (qiv B v l[k] Av0 cv0 Am0 cm0 Av cv Am cm _ (HI0.out.ext hx) HV.out.k e9.out.dot).mono ?_;rintro e w8 ⟨rfl,a7⟩;clear hbv2 hbw2;replace aq:=aq.ext a7;replace ap:=ap.ext a7;replace bF:=bF.ext a7;replace ho:=ho.ext RVer.monoE a7;replace hx:=hx.trans a7;replace ar:=ar.trans a7;clear a7
     cases h9:over v l[k]
     ·have HF:=hid (show (l.take (k+1)).filter (fun u=>!over v u)=(l.take k).filter (fun u=>!over v u)++[l[k]] by rw [List.take_succ_eq_append_getElem aD,List.filter_append];simp [h9])
      clear h9;have q0:=aq.ce 0 (vo) rfl;have hrlt:=aq.lt;have cS:=bF.whole;have aa:=(Ext.refl w8).alloc (.cells #[.string l[k].id, .int .i64 l[k].dot.site, .int .i64 l[k].dot.count, .int .i64 l[k].pt.tags, .int .i64 l[k].pt.num, .int .i64 l[k].body, .slice Av l[k].past.vec.length cv, .slice Am l[k].past.more.length cm] 151);have aN:qb6 B (w8.alloc (.cells #[.string l[k].id, .int .i64 l[k].dot.site, .int .i64 l[k].dot.count, .int .i64 l[k].pt.tags, .int .i64 l[k].pt.num, .int .i64 l[k].body, .slice Av l[k].past.vec.length cv, .slice Am l[k].past.more.length cm] 151)) (some ⟨w8.heap.size,0,none⟩) [l[k]]:=by
       have:=Sl.one (R:=RVer B) (B:=B) (e:=151) (sz:=8) (w:=w8) (cs:=[.string l[k].id, .int .i64 l[k].dot.site, .int .i64 l[k].dot.count, .int .i64 l[k].pt.tags, .int .i64 l[k].pt.num, .int .i64 l[k].body, .slice Av l[k].past.vec.length cv, .slice Am l[k].past.more.length cm]) (y:=l[k]) rfl rfl (HI.out.ext (ar.trans aa)).rver;simpa using this
      have aR:=ho.ext RVer.monoE aa;have al:=hx.trans aa;go_wp2_with (first | (with_reducible refine qa1 (o:=⟨some 44,_,_,_,_,_⟩) qam _ rfl rfl rfl cS rfl ?_) | (at_builtin;refine qaf (ys:=[l[k]]) (c:=1) (B:=B) rfl _ _ rfl qfr rfl aR fj (by rw [HR.out];exact al.size) rfl aN RVer.oneC (RVer.mono (by decide) (by decide)) (by have:=am.out;simp [maxLen];omega) (by have:=am.out;simp;omega) ?_;intro v5 w5 bJ bj au dd;have bg:=(aq.ext aa).chg bj (by decide);have q5:=bg.ce 0 (vo) rfl;have z5:=bg.frozen 0;obtain ⟨M,hM⟩:=ex1 (((l.take k).filter fun u=>!over v u)++[l[k]]);rw [← hM] at bJ;have HM:=hid hM;obtain ⟨g5,c5,rfl,hrg⟩:=qms bg bJ (by rw [hM];simp);clear hM));have cA:=al.below au (by rw [HR.out];exact Nat.le_refl _);have eq:=(ap.ext aa).below au HWB.out;obtain ⟨d1,d2,d3,d4⟩:=qmv bg bJ cA fj (by rw [HR.out];exact Nat.le_refl _) (by rw [HR.out];exact Nat.le_refl _) eq (Nat.ne_of_lt HWB.out) (.slice (some ⟨g5,0,none⟩) M.length c5)
      clear bj au dd aR aN al cS aq ap bF ho hx ar cA eq bJ bg q5 z5 q0;go_roundw
      case rel=>exact ⟨k+1,.slice (some ⟨g5,0,none⟩) M.length c5,aD,by go_num,d1,by rw [HF.out,← HM.out];exact d2,d3,d4,HN.out⟩
      case measure=>simp [intOf];omega
     have HF:=hid (show (l.take (k+1)).filter (fun u=>!over v u)=(l.take k).filter (fun u=>!over v u) by rw [List.take_succ_eq_append_getElem aD,List.filter_append];simp [h9]);clear h9;go_wp2_with fail;go_roundw
     case rel=>exact ⟨k+1,vo,aD,by go_num,aq,by rw [HF.out];exact ho,hx,ap,HN.out⟩
     case measure=>simp [intOf];omega
    have HO:=hid h8;clear h8;have HE:=hid (show qb7 l v=0∧qbk l v=l from qr1 dB.out dU.out (List.getElem_mem aD) (.inr HO.out));clear aq ap bF ho;go_wp2_with fail;go_ret2;exact ⟨some ⟨b,off,none⟩,c,by rw [HE.out.1,HE.out.2];rfl,by rw [HE.out.2];exact h.ext RVer.monoE hx,HX0.out.trans hx⟩
   have bX:(l[k].dot.site==v.dot.site)=false:=by rw [beq_eq_false_iff_ne];exact e1
   have HCm:=hid (show (qbw l[k] v==0)=false from qzs (.inr (fun e=>e1 (by rw [e]))));clear e1;go_wp2_with (with_reducible refine qaa (o:=⟨some 20,_,_,_,_,_⟩) qam _ rfl rfl rfl hr aW ?_);have aK:=(Ext.refl wr).alloc (.cells #[.string l[k].id, .int .i64 l[k].dot.site, .int .i64 l[k].dot.count, .int .i64 l[k].pt.tags, .int .i64 l[k].pt.num, .int .i64 l[k].body, .slice Av l[k].past.vec.length cv, .slice Am l[k].past.more.length cm] 151);have bF:=Blk.new wr 151 #[.string l[k].id, .int .i64 l[k].dot.site, .int .i64 l[k].dot.count, .int .i64 l[k].pt.tags, .int .i64 l[k].pt.num, .int .i64 l[k].body, .slice Av l[k].past.vec.length cv, .slice Am l[k].past.more.length cm];clear p0 p1 p2 p3 p4 p5 p6 p7;refine (qiv B l[k] v Av cv Am cm Av0 cv0 Am0 cm0 _ (HI.out.ext aK) e9.out.k HV.out.dot).mono ?_;rintro e w7 ⟨rfl,ac⟩;have ar:=aK.trans ac;replace bF:=bF.ext ac;replace aq:=aq.ext ar;replace ap:=ap.ext ar;replace ho:=ho.ext RVer.monoE ar;replace hx:=hx.trans ar;clear ac aK
   cases h8:over l[k] v
   ·have HN:=hid (show ∀ u∈l.take (k+1),(qbw u v==0)=false∧over u v=false from by
     intro u hu;rw [List.take_succ_eq_append_getElem aD] at hu;rcases List.mem_append.1 hu with hu | hu
     ·exact HNo.out u hu
     rw [List.mem_singleton.1 hu];exact ⟨HCm.out,h8⟩)
    clear h8;have hbv2:=ap;have hbw2:=bF;go_wp2_with (first | (with_reducible refine qa1 (o:=⟨some 39,_,_,_,_,_⟩) qam _ rfl rfl rfl hbv2.whole rfl ?_) | (with_reducible refine qa1 (o:=⟨some 40,_,_,_,_,_⟩) qam _ rfl rfl rfl hbw2.whole rfl ?_));refine (qiv B v l[k] Av0 cv0 Am0 cm0 Av cv Am cm _ (HI0.out.ext hx) HV.out.k e9.out.dot).mono ?_;rintro e w8 ⟨rfl,a7⟩;clear hbv2 hbw2;replace aq:=aq.ext a7;replace ap:=ap.ext a7;replace bF:=bF.ext a7;replace ho:=ho.ext RVer.monoE a7;replace hx:=hx.trans a7;replace ar:=ar.trans a7;clear a7
    cases h9:over v l[k]
    ·have HF:=hid (show (l.take (k+1)).filter (fun u=>!over v u)=(l.take k).filter (fun u=>!over v u)++[l[k]] by rw [List.take_succ_eq_append_getElem aD,List.filter_append];simp [h9])
     clear h9;have q0:=aq.ce 0 (vo) rfl;have hrlt:=aq.lt;have cS:=bF.whole;have aa:=(Ext.refl w8).alloc (.cells #[.string l[k].id, .int .i64 l[k].dot.site, .int .i64 l[k].dot.count, .int .i64 l[k].pt.tags, .int .i64 l[k].pt.num, .int .i64 l[k].body, .slice Av l[k].past.vec.length cv, .slice Am l[k].past.more.length cm] 151);have aN:qb6 B (w8.alloc (.cells #[.string l[k].id, .int .i64 l[k].dot.site, .int .i64 l[k].dot.count, .int .i64 l[k].pt.tags, .int .i64 l[k].pt.num, .int .i64 l[k].body, .slice Av l[k].past.vec.length cv, .slice Am l[k].past.more.length cm] 151)) (some ⟨w8.heap.size,0,none⟩) [l[k]]:=by
      have:=Sl.one (R:=RVer B) (B:=B) (e:=151) (sz:=8) (w:=w8) (cs:=[.string l[k].id, .int .i64 l[k].dot.site, .int .i64 l[k].dot.count, .int .i64 l[k].pt.tags, .int .i64 l[k].pt.num, .int .i64 l[k].body, .slice Av l[k].past.vec.length cv, .slice Am l[k].past.more.length cm]) (y:=l[k]) rfl rfl (HI.out.ext (ar.trans aa)).rver;simpa using this
     have aR:=ho.ext RVer.monoE aa;have al:=hx.trans aa;go_wp2_with (first | (with_reducible refine qa1 (o:=⟨some 44,_,_,_,_,_⟩) qam _ rfl rfl rfl cS rfl ?_) | (at_builtin;refine qaf (ys:=[l[k]]) (c:=1) (B:=B) rfl _ _ rfl qfr rfl aR fj (by rw [HR.out];exact al.size) rfl aN RVer.oneC (RVer.mono (by decide) (by decide)) (by have:=am.out;simp [maxLen];omega) (by have:=am.out;simp;omega) ?_;intro v5 w5 bJ bj au dd;have bg:=(aq.ext aa).chg bj (by decide);have q5:=bg.ce 0 (vo) rfl;have z5:=bg.frozen 0;obtain ⟨M,hM⟩:=ex1 (((l.take k).filter fun u=>!over v u)++[l[k]]);rw [← hM] at bJ;have HM:=hid hM;obtain ⟨g5,c5,rfl,hrg⟩:=qms bg bJ (by rw [hM];simp);clear hM));have cA:=al.below au (by rw [HR.out];exact Nat.le_refl _);have eq:=(ap.ext aa).below au HWB.out;obtain ⟨d1,d2,d3,d4⟩:=qmv bg bJ cA fj (by rw [HR.out];exact Nat.le_refl _) (by rw [HR.out];exact Nat.le_refl _) eq (Nat.ne_of_lt HWB.out) (.slice (some ⟨g5,0,none⟩) M.length c5)
     clear bj au dd aR aN al cS aq ap bF ho hx ar cA eq bJ bg q5 z5 q0;go_roundw
     case rel=>exact ⟨k+1,.slice (some ⟨g5,0,none⟩) M.length c5,aD,by go_num,d1,by rw [HF.out,← HM.out];exact d2,d3,d4,HN.out⟩
     case measure=>simp [intOf];omega
    have HF:=hid (show (l.take (k+1)).filter (fun u=>!over v u)=(l.take k).filter (fun u=>!over v u) by rw [List.take_succ_eq_append_getElem aD,List.filter_append];simp [h9]);clear h9;go_wp2_with fail;go_roundw
    case rel=>exact ⟨k+1,vo,aD,by go_num,aq,by rw [HF.out];exact ho,hx,ap,HN.out⟩
    case measure=>simp [intOf];omega
   have HO:=hid h8;clear h8;have HE:=hid (show qb7 l v=0∧qbk l v=l from qr1 dB.out dU.out (List.getElem_mem aD) (.inr HO.out));clear aq ap bF ho;go_wp2_with fail;go_ret2;exact ⟨some ⟨b,off,none⟩,c,by rw [HE.out.1,HE.out.2];rfl,by rw [HE.out.2];exact h.ext RVer.monoE hx,HX0.out.trans hx⟩
  obtain rfl:k=l.length:=by omega
  have HN:=hid (jdc (l:=l) (v:=v) (by have:=HNo.out;rwa [List.take_length] at this));rw [List.take_length] at ho;obtain ⟨L,hL⟩:=ex1 (l.filter (fun u=>!over v u));have HLL:=hid (show L.length≤60 by have:=List.length_filter_le (fun u=>!over v u) l;rw [hL];omega);rw [← hL] at ho;have HL:=hid hL;clear hL;have q0:=aq.ce 0 (vo) rfl;have hrlt:=aq.lt;have cS:=ap.whole;have aa:=(Ext.refl wr).alloc (.cells #[.string v.id, .int .i64 v.dot.site, .int .i64 v.dot.count, .int .i64 v.pt.tags, .int .i64 v.pt.num, .int .i64 v.body, .slice Av0 v.past.vec.length cv0, .slice Am0 v.past.more.length cm0] 151);have aN:qb6 B (wr.alloc (.cells #[.string v.id, .int .i64 v.dot.site, .int .i64 v.dot.count, .int .i64 v.pt.tags, .int .i64 v.pt.num, .int .i64 v.body, .slice Av0 v.past.vec.length cv0, .slice Am0 v.past.more.length cm0] 151)) (some ⟨wr.heap.size,0,none⟩) [v]:=by
   have:=Sl.one (R:=RVer B) (B:=B) (e:=151) (sz:=8) (w:=wr) (cs:=[.string v.id, .int .i64 v.dot.site, .int .i64 v.dot.count, .int .i64 v.pt.tags, .int .i64 v.pt.num, .int .i64 v.body, .slice Av0 v.past.vec.length cv0, .slice Am0 v.past.more.length cm0]) (y:=v) rfl rfl (HI0.out.ext (hx.trans aa)).rver;simpa using this
  have aR:=ho.ext RVer.monoE aa;have al:=hx.trans aa;go_wp2_with (first | (with_reducible refine qa1 (o:=⟨some 49,_,_,_,_,_⟩) qam _ rfl rfl rfl cS rfl ?_) | (at_builtin;refine qaf (ys:=[v]) (c:=1) (B:=B) rfl _ _ rfl qfr rfl aR fj (by rw [HR.out];exact al.size) rfl aN RVer.oneC (RVer.mono (by decide) (by decide)) (by have:=HLL.out;simp [maxLen];omega) (by have:=HLL.out;simp;omega) ?_;intro v5 w5 bJ bj au dd;have bg:=(aq.ext aa).chg bj (by decide);have q5:=bg.ce 0 (vo) rfl;have z5:=bg.frozen 0;obtain ⟨M,hM⟩:=ex1 (L++[v]);rw [← hM] at bJ;have HM:=hid hM;obtain ⟨g5,c5,rfl,hrg⟩:=qms bg bJ (by rw [hM];simp);clear hM));have cA:=al.below au (by rw [HR.out];exact Nat.le_refl _);have eq:=(ap.ext aa).below au HWB.out;obtain ⟨d1,d2,d3,_⟩:=qmv bg bJ cA fj (by rw [HR.out];exact Nat.le_refl _) (by rw [HR.out];exact Nat.le_refl _) eq (Nat.ne_of_lt HWB.out) (.slice (some ⟨g5,0,none⟩) M.length c5);clear bj au dd aR aN al cS aq ap ho hx cA eq bJ bg q5 z5 q0 aa
  refine (jdq B w2 g5 M.length c5 r M _ (by rw [← HR.out];exact fj) hrg (by have:=HLL.out;rw [HM.out];simp;omega) (by rw [HM.out];simp) ⟨rfl,d3,by rw [← HR.out];exact d2,d1⟩).mono ?_;rintro e w9 ⟨rfl,m,hm1,hm2,hst⟩;have hmE:m=putL l v:=qy0 aZ.out.inc HV.out HN.out.1 (by rw [HM.out,HL.out] at hm1;exact hm1) hm2;have q9:=hst.var.ce 0 (.slice (some ⟨g5,0,none⟩) M.length c5) rfl;have hlm:=hst.len;have fc:=hid hst;have HME:=hid hmE;have HLM:=hid hlm;have hM0:(M.length:Int)≤61:=by have:=HLL.out;rw [HM.out];simp;omega
  clear hst hmE hlm hm1 hm2 d1 d2 d3
  by_cases fN:60 < M.length
  ·have h60':decide ((60:Int) < (M.length:Int))=true:=decide_eq_true (by omega)
   have HE:=hid (qol dB.out dU.out HN.out.2 (by rw [← HME.out,HLM.out];exact fN));clear fN;go_wp2_with fail;go_ret2;exact ⟨none,0,by rw [HE.out.1,HE.out.2];rfl,by rw [HE.out.2];exact Sl.nil,HX0.out.trans fc.out.ext⟩
  have h60':decide ((60:Int) < (M.length:Int))=false:=decide_eq_false (by omega);have HE:=hid (qr2 dB.out dU.out HN.out.2 (by rw [← HME.out,HLM.out];exact fN));clear fN;go_wp2_with fail;go_ret2;exact ⟨some ⟨g5,0,none⟩,c5,by rw [HE.out.1,HE.out.2,← HME.out,HLM.out];rfl,by rw [HE.out.2,← HME.out];exact fc.out.own.sl B,HX0.out.trans fc.out.ext⟩
 have aV:(qas v !=0)=true:=by simpa using bM
 have HE:=hid (show qb7 l v=qas v∧qbk l v=[] by unfold qb7 qbk;rw [if_pos dB.out,if_neg bM,if_pos dB.out,if_neg bM];exact ⟨rfl,rfl⟩);clear bM;go_wp2_with fail;go_ret2;exact ⟨none,0,by rw [HE.out.1,HE.out.2];rfl,by rw [HE.out.2];exact Sl.nil,hx⟩
def Ex (M:Int→Int) (d:Dot):Prop:=d.count≤M d.site
def NM (H:List Version) (v:Version):Prop:=∃ u∈H,over u v=true
structure Hist (M:Int→Int) (H:List Version):Prop where
 ok:∀ v∈H,VerOk v
 ex:∀ v∈H,Ex M v.dot
 uniq:∀ u∈H,∀ v∈H,u.dot=v.dot→u=v
 past:∀ v∈H,∀ d,qb8 d=true→inK v.past d=true→Ex M d
 trans:∀ u∈H,∀ v∈H,∀ w∈H,over u v=true→over v w=true→over u w=true
def kn (s:SiteS) (v:Version):Bool:=qdd (qch s) v.pt v.dot
def HasOr (H:List Version) (s:SiteS) (v:Version):Prop:=v∈s.shelf∨NM H v
structure SInv (M:Int→Int) (H:List Version) (s:SiteS):Prop where
 ok:SiteOk s
 made:M s.me=s.made
 sub:∀ v∈s.shelf,v∈H
 snd:∀ v∈H,kn s v=true→HasOr H s v
 ex:∀ p d,qaz p=true→qb8 d=true→qdd (qch s) p d=true→Ex M d
 fil:∀ v∈s.shelf,qbd s.filter v.pt=true∨v.dot.site=s.me
theorem NM.mono {H:List Version} {v w:Version} (h:NM H w):NM (H++[v]) w:=by
 obtain ⟨u,hu,ho⟩:=h;exact ⟨u,List.mem_append_left _ hu,ho⟩
theorem HasOr.mono {H:List Version} {s:SiteS} {v w:Version} (h:HasOr H s w):HasOr (H++[v]) s w:=h.imp id NM.mono
def upM (M:Int→Int) (i n:Int):Int→Int:=fun j=>if j=i then n else M j
section
variable {M:Int→Int} {H:List Version} {s:SiteS}
theorem Ex.up {i:Int} (d:Dot) (h:Ex M d):Ex (upM M i (M i+1)) d:=by
 unfold Ex upM at *;split
 ·rename_i e;rw [e] at h;omega
 exact h
structure AskI (M:Int→Int) (H:List Version) (s:SiteS) (a:AskS):Prop where
 ok:qca a=0
 me:a.site=s.me
 le:a.stamp≤s.stamp
 ex:∀ p d,qaz p=true→qb8 d=true→qdd a.parts p d=true→Ex M d
 fil:a.stamp=s.stamp→a.filter=s.filter
 snd:a.stamp=s.stamp→∀ v∈H,qdd a.parts v.pt v.dot=true→HasOr H s v
structure BatI (M:Int→Int) (H:List Version) (s:SiteS) (b:Batch):Prop where
 ok:qan b=0
 me:b.site=s.me
 le:b.stamp≤s.stamp
 ex:∀ p d,qaz p=true→qb8 d=true→qdd b.parts p d=true→Ex M d
 sub:∀ v∈b.vers,v∈H
 gone:∀ g∈b.gone,∃ u∈H,g=qf9 u
 fil:b.stamp=s.stamp→∀ v∈b.vers,qbd s.filter v.pt=true
 snd:b.stamp=s.stamp→∀ v∈H,qdd b.parts v.pt v.dot=true→v∈b.vers∨HasOr H s v
theorem qej {b:Batch} (h:qan b=0):TailOk b∧0≤b.site∧b.site≤4∧0≤b.stamp:=by
 unfold qan at h
 by_cases h0:0≤b.site∧b.site≤4∧0≤b.stamp
 ·rw [if_pos h0] at h
  exact ⟨qlv h,h0⟩
 rw [if_neg h0] at h;cases h
structure Stays (H:List Version) (s t:SiteS):Prop where
 me:t.me=s.me
 stamp:t.stamp=s.stamp
 filter:t.filter=s.filter
 has:∀ v∈H,HasOr H s v→HasOr H t v
theorem Stays.refl (H:List Version) (s:SiteS):Stays H s s:=⟨rfl,rfl,rfl,fun _ _ h=>h⟩
theorem AskI.grow {a:AskS} {i:Int} {v:Version} (h:AskI M H s a) (hv:VerOk v) (hn:¬ Ex M v.dot):AskI (upM M i (M i+1)) (H++[v]) s a:=by
 refine ⟨h.ok,h.me,h.le,fun p d hp hd q=>Ex.up _ (h.ex p d hp hd q),h.fil,fun e w hw q=>?_⟩;rcases List.mem_append.1 hw with k | k
 ·exact (h.snd e w k q).mono
 rw [List.mem_singleton.1 k] at q;exact absurd (h.ex _ _ hv.pt hv.dot q) hn
theorem BatI.grow {b:Batch} {i:Int} {v:Version} (h:BatI M H s b) (hv:VerOk v) (hn:¬ Ex M v.dot):BatI (upM M i (M i+1)) (H++[v]) s b:=by
 refine ⟨h.ok,h.me,h.le,fun p d hp hd q=>Ex.up _ (h.ex p d hp hd q),fun w hw=>List.mem_append_left _ (h.sub w hw),fun g hg=>?_,h.fil,fun e w hw q=>?_⟩
 ·obtain ⟨u,hu,e⟩:=h.gone g hg
  exact ⟨u,List.mem_append_left _ hu,e⟩
 rcases List.mem_append.1 hw with k | k
 ·exact (h.snd e w k q).imp id HasOr.mono
 rw [List.mem_singleton.1 k] at q;exact absurd (h.ex _ _ hv.pt hv.dot q) hn
end
section
variable {M:Int→Int} {H:List Version} {s:SiteS}
theorem qnn:∀ (gs:List Gone) (l:List Version),ShelfOk l→(∀ g∈gs,GoneOk g)→qbc l gs=0
 | [],_,_,_=>rfl
 | g::r,l,hl,hg=>by
  have h1:qbl l g=0:=by unfold qbl;rw [if_pos (qc5 hl)];exact qjf.2 (hg g (by simp))
  rw [qbc,if_pos h1];exact qnn r _ (ql6 hl h1).1 (fun x hx=>hg x (by simp [hx]))
theorem qtd (hH:Hist M H):∀ (n:Nat) (v:Version),v∈H→(H.filter fun x=>over x v).length≤n→NM H v→∃ u∈H,over u v=true∧¬ NM H u
 | 0,v,hv,hn,h=>by
  obtain ⟨u,hu,ho⟩:=h;have:u∈H.filter fun x=>over x v:=List.mem_filter.2 ⟨hu,ho⟩;have h0:=List.eq_nil_of_length_eq_zero (Nat.le_zero.1 hn);rw [h0] at this
  cases this
 | n+1,v,hv,hn,h=>by
  obtain ⟨u,hu,ho⟩:=h
  by_cases hq:NM H u
  ·have aD:(H.filter fun x=>over x u).length < (H.filter fun x=>over x v).length:=by
    have hsub:(H.filter fun x=>over x u)=(H.filter fun x=>over x v).filter fun x=>over x u:=by
     rw [List.filter_filter];apply List.filter_congr;intro x hx
     cases hxu:over x u
     ·rfl
     rw [hH.trans x hx u hu v hv hxu ho];rfl
    rw [hsub];have hex:∃ x∈(H.filter fun x=>over x v),¬ over x u=true:=⟨u,List.mem_filter.2 ⟨hu,ho⟩,by rw [qsl (hH.ok u hu)];simp⟩
    exact List.length_filter_lt_length_iff_exists.2 hex
   obtain ⟨x,hx,h1,h2⟩:=qtd hH n u hu (by omega) hq;exact ⟨x,hx,hH.trans x hx u hu v hv h1 ho,h2⟩
  exact ⟨u,hu,ho,hq⟩
theorem NM.top (hH:Hist M H) {v:Version} (hv:v∈H) (h:NM H v):∃ u∈H,over u v=true∧¬ NM H u:=qtd hH _ v hv (Nat.le_refl _) h
end
end Go.Proofs.YtngbfdogiciahaaGreat
