/- The walk of shelf.Past. -/
import Derived.Test.YtngbfdogiciahaaGreatJoinShelfF
set_option maxRecDepth 100000
set_option maxHeartbeats 40000000
namespace Go.Proofs.YtngbfdogiciahaaGreat
open Go Go.RowKit
theorem qz6:ElemInfo Tryz.prog 23 32 1 24:=ElemInfo.mk_ (z:=.slice none 0 0) Tryz.underlying23 (by kernel_rfl) rfl (by decide)
theorem RVec.mono {B:Nat} {ts:List TypeId} (h:3∉ts):Mono B ts (RVec B):=by
 rintro w w' cs l x ⟨v,rfl,hv⟩;exact ⟨v,rfl,hv.chg RInt.mono h x⟩
theorem RVec.oneC {B:Nat}:OneC (RVec B):=by
 rintro w cs l ⟨v,rfl,A,c,rfl,_⟩ u hu;simp at hu;subst hu;rfl
theorem Sl.ofBlkV {α:Type} {R:World→List Value→α→Prop} {B sz:Nat} {e:TypeId} {w:World} {b:Nat} {cs:Array Value} {x:α} (h:Blk w b e cs) (hl:cs.size=sz) (hR:R w cs.toList x):Sl B e R sz w (some ⟨b,0,none⟩) [x]:=by
 intro i y hi
 match i,hi with
 | 0,hi=>
  simp at hi;subst hi;exact ⟨b,0,cs.toList,rfl,h.lt,.inr h.ty,by simp [hl],fun j u hj=>by rw [Nat.zero_mul,Nat.zero_add];exact h.cell (by rwa [Array.getElem?_toList] at hj),hR⟩
theorem qgy:∀ t∈[32],t∈[32,35]:=by simp
theorem jbj:∀ t∈[35],t∈[32,35]:=by simp
def qbs (l:List Version) (s:ByteArray):Int:=if qae l=0 then qbm (quq (getL l s)) else qae l
def qbj (l:List Version) (s:ByteArray):Know:=if qae l=0 then qcs (quq (getL l s)) else ⟨[],[]⟩
theorem qib:∀ {l:List Version},(∀ v∈l,VerOk v)→(qd6 l).length≤61*l.length
 | [],_=>by simp [qd6]
 | v::r,h=>by
  have h1:=(h v (by simp)).k.mlen;have h2:=qib (l:=r) (fun x hx=>h x (by simp [hx]));simp only [qd6,List.flatMap_cons,List.length_append,List.length_cons,List.length_nil] at h2 ⊢;omega
theorem qmp (l:List Version) (s:ByteArray) (k:Nat):(getL (l.take k) s).length≤l.length:=by
 have h1:=List.length_filter_le (fun v:Version=>sEq v.id s) (l.take k);have h2:=List.length_take_le k l;have h3:(l.take k).length≤l.length:=by rw [List.length_take];omega
 unfold getL;omega
theorem qzf {l:List Version} (h:∀ v∈l,VerOk v) (s:ByteArray) (k:Nat):∀ v∈getL (l.take k) s,VerOk v:=fun v hv=>h v (List.mem_of_mem_take (List.mem_filter.1 hv).1)
theorem qop {w:World} {v:Value} {b:Nat} {x y:Value} {tmps:Array Value} (h4:tmps.getD 4 undef=.pointer (some ⟨b,0,none⟩)) (h5:tmps.getD 5 undef=v) (c1:w.cell? ⟨b,0,none⟩=some x) (c2:w.cell? ⟨b,1,none⟩=some y) :
  (results Tryz.f94 tmps).run Tryz.prog w=.ok (.tuple #[.agg #[x,y],v]) w:=by
 have h4':tmps[4]?.getD undef=.pointer (some ⟨b,0,none⟩):=by simpa using h4
 have h5':tmps[5]?.getD undef=v:=by simpa using h5
 simp [results,Tryz.results94,go_sem,h4',h5',c1,c2]
theorem qy5 (B:Nat) (A:Option Addr) (c:Nat) (l:List Version) (s:ByteArray) (w:World) (hB:B≤w.heap.size) (hl:l.length≤maxLen) (h:qb6 B w A l) :
  Calls Tryz.prog 94 #[.slice A l.length c,.string s] w fun e w'=>∃ x,e=.returned (.tuple #[x,.int .i64 (qbs l s)])∧IsK 0 w' x (qbj l s)∧Ext w w':=by
 have hx:=(Ext.refl w).alloc (.cells #[.slice none 0 0,.slice none 0 0] 101);have aG:=Blk.new w 101 #[.slice none 0 0,.slice none 0 0];have HCO:=hid (qcw (l:=l));go_enter Tryz.func94, Tryz.ntmps94;go_wp2_with fail;refine (qhk B A c l _ hl (h.ext RVer.monoE hx)).mono ?_;rintro e w1 ⟨rfl,aE⟩;replace aG:=aG.ext aE;replace hx:=hx.trans aE;clear aE
 by_cases hc:qae l=0
 ·rw [hc]
  have HCK:=hid (HCO.out hc);have aZ:=hid HCK.out.all;have HL60:=hid HCK.out.len;have dz:(l.length:Int)≤60:=by have:=HL60.out;omega
  have HEr:=hid (show qbs l s=qbm (quq (getL l s)) by unfold qbs;rw [if_pos hc]);have HKn:=hid (show qbj l s=qcs (quq (getL l s)) by unfold qbj;rw [if_pos hc]);clear hc;go_wp2_with fail;go_loopw [20,7,8] (fun i v u wr=>∃ k:Nat,k≤l.length∧i=.int .i64 k∧Ext w wr∧Blk wr w.heap.size 101 #[.slice none 0 0,.slice none 0 0]∧Own (RVec B) 1 32 wr w.heap.size v (qdi (getL (l.take k) s))∧Own RDot 2 35 wr w.heap.size u (qd6 (getL (l.take k) s))) (fun i _ _ _=>l.length - (intOf i).toNat)
  case atStart=>exact ⟨0,Nat.zero_le _,rfl,hx,aG,Own.nil,Own.nil⟩
  clear hx aG;obtain ⟨k,hk,rfl,hx,aG,aQ,cq⟩:=hrel
  by_cases aD:k < l.length
  ·obtain ⟨b,off,Av,cv,Am,cm,rfl,hb,hr,hI⟩:=(h.ext RVer.monoE hx).ver aD
   have HI:=hid hI;clear hI;have aW:([.string l[k].id, .int .i64 l[k].dot.site, .int .i64 l[k].dot.count, .int .i64 l[k].pt.tags, .int .i64 l[k].pt.num, .int .i64 l[k].body, .slice Av l[k].past.vec.length cv, .slice Am l[k].past.more.length cm]:List Value).length=8:=rfl;have aK:=(Ext.refl wr).alloc (.cells #[.string l[k].id, .int .i64 l[k].dot.site, .int .i64 l[k].dot.count, .int .i64 l[k].pt.tags, .int .i64 l[k].pt.num, .int .i64 l[k].body, .slice Av l[k].past.vec.length cv, .slice Am l[k].past.more.length cm] 151);have aq:=Blk.new wr 151 #[.string l[k].id, .int .i64 l[k].dot.site, .int .i64 l[k].dot.count, .int .i64 l[k].pt.tags, .int .i64 l[k].pt.num, .int .i64 l[k].body, .slice Av l[k].past.vec.length cv, .slice Am l[k].past.more.length cm]
   cases hI:sEq l[k].id s
   ·have h1':(l[k].id.toList==s.toList)=false:=hI
    have HG:=hid (qze l s k aD hI);clear hI;go_wp2_with (with_reducible refine qaa (o:=⟨some 23,_,_,_,_,_⟩) qam _ rfl rfl rfl hr aW ?_);go_roundw
    case rel=>exact ⟨k+1,aD,by go_num,hx.trans aK,aG.ext aK,by rw [HG.out];exact aQ.ext RVec.monoE aK,by rw [HG.out];exact cq.ext (RPair.mono (B:=0)) aK⟩
    case measure=>simp [intOf];omega
   ·have h1':(l[k].id.toList==s.toList)=true:=hI
    have HSv:=hid (show qdi (getL (l.take (k+1)) s)=qdi (getL (l.take k) s)++[l[k].past.vec] by unfold qdi;rw [qqo l s k aD hI,List.map_append];rfl);have HSd:=hid (show qd6 (getL (l.take (k+1)) s)=(qd6 (getL (l.take k) s)++l[k].past.more)++[l[k].dot] by unfold qd6;rw [qqo l s k aD hI,List.flatMap_append];simp [List.append_assoc]);have HLv:=hid (show (qdi (getL (l.take k) s)).length+1≤100 by have:=qmp l s k;have:=HL60.out;unfold qdi;rw [List.length_map];omega);have HLd:=hid (show (qd6 (getL (l.take k) s)).length+l[k].past.more.length+1≤5000 by have:=qib (qzf aZ.out s k);have:=qmp l s k;have:=HL60.out;have:=(aZ.out _ (List.getElem_mem aD)).k.mlen;omega);clear hI;go_wp2_with (with_reducible refine qaa (o:=⟨some 23,_,_,_,_,_⟩) qam _ rfl rfl rfl hr aW ?_);clear hr aW h1';obtain ⟨w1,dP⟩:=ex1 (wr.alloc (.cells #[.string l[k].id, .int .i64 l[k].dot.site, .int .i64 l[k].dot.count, .int .i64 l[k].pt.tags, .int .i64 l[k].pt.num, .int .i64 l[k].body, .slice Av l[k].past.vec.length cv, .slice Am l[k].past.more.length cm] 151));obtain ⟨r,hr⟩:=ex1 wr.heap.size;rw [← dP] at aK aq ⊢
    rw [← hr] at aq ⊢;clear dP hr;have aB:=hid (fun w' (x:Chg B [32,35] w1 w')=>show w'.cell? ⟨r,1,none⟩=some (.int .i64 l[k].dot.site)∧w'.cell? ⟨r,2,none⟩=some (.int .i64 l[k].dot.count)∧w'.cell? ⟨r,6,none⟩=some (.slice Av l[k].past.vec.length cv)∧w'.cell? ⟨r,7,none⟩=some (.slice Am l[k].past.more.length cm) from by
     have hb':=aq.chg x (by decide);exact ⟨hb'.cell rfl,hb'.cell rfl,hb'.cell rfl,hb'.cell rfl⟩)
    have HPv:=hid (fun w' (x:Chg B [32] w1 w')=>show qg4 B w' Av l[k].past.vec from (HI.out.k.sv.ext RInt.mono aK).chg RInt.mono (by decide) x);have HPm:=hid (fun w' (x:Chg B [32] w1 w')=>show qgm B w' Am l[k].past.more from (HI.out.k.sm.ext RPair.mono aK).chg RPair.mono (by decide) x);have hxd:=(Ext.refl w1).drew;have hxe:=aK.trans hxd;replace aQ:=aQ.ext RVec.monoE hxe;replace cq:=cq.ext (RPair.mono (B:=0)) hxe;replace hx:=hx.trans hxe;replace aG:=aG.ext hxe;have cC:=Chg.of_ext (B:=B) (ts:=[32]) hxd;refine wp_region_held_drew (S:=fun w'=>w'.cell? ⟨r,1,none⟩=some (.int .i64 l[k].dot.site)∧w'.cell? ⟨r,2,none⟩=some (.int .i64 l[k].dot.count)∧w'.cell? ⟨r,6,none⟩=some (.slice Av l[k].past.vec.length cv)∧w'.cell? ⟨r,7,none⟩=some (.slice Am l[k].past.more.length cm)) (by kernel_rfl) (aB.out _ (cC.more qgy)) (fun hHeld=>?_);obtain ⟨wc,aS⟩:=ex1 w1.drew;rw [← aS] at hHeld cC aQ cq hx aG ⊢
    clear aS hxd hxe aK aq hb;refine tkA 0 _ rfl ?_;(try simp only [gq,pq]);refine tkA 1 _ rfl ?_;(try simp only [gq,pq]);refine tkA 2 _ rfl ?_;(try simp only [gq,pq]);refine tkA 3 _ rfl ?_;(try simp only [gq,pq]);refine tkA 6 _ rfl ?_;(try simp only [gq,pq]);refine tkA 7 _ rfl ?_;(try simp only [gq,pq]);refine tkA 8 _ rfl ?_;(try simp only [gq,pq]);refine tkA 9 _ rfl ?_;(try simp only [gq,pq]);refine tkA 11 _ rfl ?_;(try simp only [gq,pq]);refine tkA 12 _ rfl ?_;(try simp only [gq,pq]);refine wpAnyH_ready (rs:=[4,13]) (by kernel_rfl) (by simp) ?_;refine AllReadyH.cons rfl (fun K hK=>?_) ?_
    focus
     simp only [gq];go_simp;have aC:=(Ext.refl wc).alloc (.cells #[.slice Av l[k].past.vec.length cv] 32);obtain ⟨wn,aP⟩:=ex1 (wc.alloc (.cells #[.slice Av l[k].past.vec.length cv] 32));rw [← aP] at aC;replace aG:=aG.ext aC;replace hx:=hx.trans aC;replace aQ:=aQ.ext RVec.monoE aC;replace cq:=cq.ext (RPair.mono (B:=0)) aC;replace cC:=cC.trans (Chg.of_ext (B:=B) (ts:=[32]) aC);have dW:qjq B wn (some ⟨wc.heap.size,0,none⟩) [l[k].past.vec]:=Sl.one (cs:=[.slice Av l[k].past.vec.length cv]) aP rfl ⟨_,rfl,Av,cv,rfl,HI.out.lcv.1,HI.out.lcv.2,HPv.out _ cC⟩;obtain ⟨a4,ef⟩:=ex1 (some (⟨wc.heap.size,0,none⟩:Addr));rw [← aP,← ef];rw [← ef] at dW;clear aC aP ef;obtain ⟨wc,rfl⟩:=ex1 wn;refine hK.out _ _ (aB.out _ (cC.more qgy)) (fun hHeld=>?_);clear hK K;(try simp only [pq]);refine wpAnyH_ready (rs:=[5,13]) (by kernel_rfl) (by simp) ?_;refine AllReadyH.cons rfl (fun K hK=>?_) ?_
     focus
      simp only [gq];simp only [Region.wanted,if_true];refine qh2 (.tmp 28) (.tmp 32) rfl qz6 rfl aQ (B:=B) hB hx.size (ys:=[l[k].past.vec]) (c:=1) rfl dW RVec.oneC (RVec.mono (by decide)) (by have:=HLv.out;simp [maxLen];omega) (by have:=HLv.out;simp;omega) ?_;intro v5 wn cz ah aw _;replace cq:=cq.chgT (B:=B) RPair.mono (by decide) ah;replace aG:=aG.chg ah (by decide);replace hx:=hx.below aw (Nat.le_refl _);replace cC:=cC.trans ah;clear ah aw aQ dW;obtain ⟨wc,rfl⟩:=ex1 wn;refine hK.out _ _ (aB.out _ (cC.more qgy)) (fun hHeld=>?_);clear hK K;(try simp only [pq]);refine wpAnyH_ready (rs:=[10,13]) (by kernel_rfl) (by simp) ?_;refine AllReadyH.cons rfl (fun K hK=>?_) ?_
      focus
       simp only [gq];simp only [Region.wanted,if_true];refine qh2 (.tmp 34) (.tmp 37) rfl qi2 rfl cq (B:=B) hB hx.size (ys:=l[k].past.more) (c:=cm) rfl (HPm.out _ cC) RPair.oneC RPair.mono (by have:=HLd.out;unfold maxLen;omega) (by have:=HLd.out;omega) ?_;intro v10 wn ey ah aw cJ;replace cz:=cz.chgT (B:=B) (RVec.mono (by decide)) (by decide) ah;replace aG:=aG.chg ah (by decide);replace hx:=hx.below aw (Nat.le_refl _);have hcz:=(cC.more qgy).trans (ah.more jbj);clear ah aw cJ cq cC;obtain ⟨wc,rfl⟩:=ex1 wn;refine hK.out _ _ (aB.out _ hcz) (fun hHeld=>?_);clear hK K;(try simp only [pq]);refine rd1 13 rfl fun K hK=>?_;simp only [gq];go_simp;have aC:=(Ext.refl wc).alloc (.cells #[.int .i64 l[k].dot.site,.int .i64 l[k].dot.count] 35);have bO:=Blk.new wc 35 #[.int .i64 l[k].dot.site,.int .i64 l[k].dot.count];obtain ⟨wn,aP⟩:=ex1 (wc.alloc (.cells #[.int .i64 l[k].dot.site,.int .i64 l[k].dot.count] 35))
       obtain ⟨a13,dM⟩:=ex1 wc.heap.size;rw [← aP] at aC bO;rw [← aP,← dM];rw [← dM] at bO;replace aG:=aG.ext aC;replace hx:=hx.trans aC;replace cz:=cz.ext RVec.monoE aC;replace ey:=ey.ext (RPair.mono (B:=0)) aC;replace hcz:=hcz.trans (Chg.of_ext (B:=B) (ts:=[32,35]) aC);clear aC aP dM
      rotate_left
      focus
       refine AllReadyH.cons rfl (fun K hK=>?_) AllReadyH.nil;simp only [gq];go_simp;have aC:=(Ext.refl wc).alloc (.cells #[.int .i64 l[k].dot.site,.int .i64 l[k].dot.count] 35);have bO:=Blk.new wc 35 #[.int .i64 l[k].dot.site,.int .i64 l[k].dot.count];have ck:∀ g,u8.ownBlock=some g→g≠wc.heap.size:=fun g hg=>by have:=(cq.lt hg).2;omega
       obtain ⟨wn,aP⟩:=ex1 (wc.alloc (.cells #[.int .i64 l[k].dot.site,.int .i64 l[k].dot.count] 35));obtain ⟨a13,dM⟩:=ex1 wc.heap.size;rw [← aP] at aC bO;rw [← aP,← dM];rw [← dM] at bO ck;replace aG:=aG.ext aC;replace hx:=hx.trans aC;replace cz:=cz.ext RVec.monoE aC;replace cq:=cq.ext (RPair.mono (B:=0)) aC;replace cC:=cC.trans (Chg.of_ext (B:=B) (ts:=[32]) aC);clear aC aP dM;obtain ⟨wc,rfl⟩:=ex1 wn;refine hK.out _ _ (aB.out _ (cC.more qgy)) (fun hHeld=>?_);clear hK K;(try simp only [pq]);refine rd1 10 rfl fun K hK=>?_;simp only [gq];simp only [Region.wanted,if_true];refine qh2 (.tmp 34) (.tmp 37) rfl qi2 rfl cq (B:=B) hB hx.size (ys:=l[k].past.more) (c:=cm) rfl (HPm.out _ cC) RPair.oneC RPair.mono (by have:=HLd.out;unfold maxLen;omega) (by have:=HLd.out;omega) ?_;intro v10 wn ey ah aw cJ;replace cz:=cz.chgT (B:=B) (RVec.mono (by decide)) (by decide) ah;replace aG:=aG.chg ah (by decide)
       replace hx:=hx.below aw (Nat.le_refl _);have hcz:=(cC.more qgy).trans (ah.more jbj);replace bO:=(cJ.block _ bO.lt (fun e=>ck _ e.symm rfl)).trans bO;clear ck;clear ah aw cJ cq cC
     rotate_left 2
     focus
      refine AllReadyH.cons rfl (fun K hK=>?_) AllReadyH.nil;simp only [gq];go_simp;have aC:=(Ext.refl wc).alloc (.cells #[.int .i64 l[k].dot.site,.int .i64 l[k].dot.count] 35);have bO:=Blk.new wc 35 #[.int .i64 l[k].dot.site,.int .i64 l[k].dot.count];have ck:∀ g,u8.ownBlock=some g→g≠wc.heap.size:=fun g hg=>by have:=(cq.lt hg).2;omega
      obtain ⟨wn,aP⟩:=ex1 (wc.alloc (.cells #[.int .i64 l[k].dot.site,.int .i64 l[k].dot.count] 35));obtain ⟨a13,dM⟩:=ex1 wc.heap.size;rw [← aP] at aC bO;rw [← aP,← dM];rw [← dM] at bO ck;replace aG:=aG.ext aC;replace hx:=hx.trans aC;replace aQ:=aQ.ext RVec.monoE aC;replace dW:=dW.ext RVec.monoE aC;replace cq:=cq.ext (RPair.mono (B:=0)) aC;replace cC:=cC.trans (Chg.of_ext (B:=B) (ts:=[32]) aC);clear aC aP dM;obtain ⟨wc,rfl⟩:=ex1 wn;refine hK.out _ _ (aB.out _ (cC.more qgy)) (fun hHeld=>?_);clear hK K;(try simp only [pq]);refine rd1 5 rfl fun K hK=>?_;simp only [gq];simp only [Region.wanted,if_true];refine qh2 (.tmp 28) (.tmp 32) rfl qz6 rfl aQ (B:=B) hB hx.size (ys:=[l[k].past.vec]) (c:=1) rfl dW RVec.oneC (RVec.mono (by decide)) (by have:=HLv.out;simp [maxLen];omega) (by have:=HLv.out;simp;omega) ?_;intro v5 wn cz ah aw _;replace cq:=cq.chgT (B:=B) RPair.mono (by decide) ah;replace aG:=aG.chg ah (by decide)
      replace hx:=hx.below aw (Nat.le_refl _);replace cC:=cC.trans ah;replace bO:=bO.chg ah (by decide);clear ah aw aQ dW;obtain ⟨wc,rfl⟩:=ex1 wn;refine hK.out _ _ (aB.out _ (cC.more qgy)) (fun hHeld=>?_);clear hK K;(try simp only [pq]);refine rd1 10 rfl fun K hK=>?_;simp only [gq];simp only [Region.wanted,if_true];refine qh2 (.tmp 34) (.tmp 37) rfl qi2 rfl cq (B:=B) hB hx.size (ys:=l[k].past.more) (c:=cm) rfl (HPm.out _ cC) RPair.oneC RPair.mono (by have:=HLd.out;unfold maxLen;omega) (by have:=HLd.out;omega) ?_;intro v10 wn ey ah aw cJ;replace cz:=cz.chgT (B:=B) (RVec.mono (by decide)) (by decide) ah;replace aG:=aG.chg ah (by decide);replace hx:=hx.below aw (Nat.le_refl _);have hcz:=(cC.more qgy).trans (ah.more jbj);replace bO:=(cJ.block _ bO.lt (fun e=>ck _ e.symm rfl)).trans bO;clear ck;clear ah aw cJ cq cC
    rotate_left 3
    focus
     refine AllReadyH.cons rfl (fun K hK=>?_) AllReadyH.nil;simp only [gq];go_simp;have aC:=(Ext.refl wc).alloc (.cells #[.int .i64 l[k].dot.site,.int .i64 l[k].dot.count] 35);have bO:=Blk.new wc 35 #[.int .i64 l[k].dot.site,.int .i64 l[k].dot.count];have ck:∀ g,u8.ownBlock=some g→g≠wc.heap.size:=fun g hg=>by have:=(cq.lt hg).2;omega
     obtain ⟨wn,aP⟩:=ex1 (wc.alloc (.cells #[.int .i64 l[k].dot.site,.int .i64 l[k].dot.count] 35));obtain ⟨a13,dM⟩:=ex1 wc.heap.size;rw [← aP] at aC bO;rw [← aP,← dM];rw [← dM] at bO ck;replace aG:=aG.ext aC;replace hx:=hx.trans aC;replace aQ:=aQ.ext RVec.monoE aC;replace cq:=cq.ext (RPair.mono (B:=0)) aC;replace cC:=cC.trans (Chg.of_ext (B:=B) (ts:=[32]) aC);clear aC aP dM;obtain ⟨wc,rfl⟩:=ex1 wn;refine hK.out _ _ (aB.out _ (cC.more qgy)) (fun hHeld=>?_);clear hK K;(try simp only [pq]);refine rd1 4 rfl fun K hK=>?_;simp only [gq];go_simp;have aC:=(Ext.refl wc).alloc (.cells #[.slice Av l[k].past.vec.length cv] 32);obtain ⟨wn,aP⟩:=ex1 (wc.alloc (.cells #[.slice Av l[k].past.vec.length cv] 32));rw [← aP] at aC;replace aG:=aG.ext aC;replace hx:=hx.trans aC;replace aQ:=aQ.ext RVec.monoE aC;replace cq:=cq.ext (RPair.mono (B:=0)) aC;replace bO:=bO.ext aC;replace cC:=cC.trans (Chg.of_ext (B:=B) (ts:=[32]) aC)
     have dW:qjq B wn (some ⟨wc.heap.size,0,none⟩) [l[k].past.vec]:=Sl.one (cs:=[.slice Av l[k].past.vec.length cv]) aP rfl ⟨_,rfl,Av,cv,rfl,HI.out.lcv.1,HI.out.lcv.2,HPv.out _ cC⟩;obtain ⟨a4,ef⟩:=ex1 (some (⟨wc.heap.size,0,none⟩:Addr));rw [← aP,← ef];rw [← ef] at dW;clear aC aP ef;obtain ⟨wc,rfl⟩:=ex1 wn;refine hK.out _ _ (aB.out _ (cC.more qgy)) (fun hHeld=>?_);clear hK K;(try simp only [pq]);refine rd1 5 rfl fun K hK=>?_;simp only [gq];simp only [Region.wanted,if_true];refine qh2 (.tmp 28) (.tmp 32) rfl qz6 rfl aQ (B:=B) hB hx.size (ys:=[l[k].past.vec]) (c:=1) rfl dW RVec.oneC (RVec.mono (by decide)) (by have:=HLv.out;simp [maxLen];omega) (by have:=HLv.out;simp;omega) ?_;intro v5 wn cz ah aw _;replace cq:=cq.chgT (B:=B) RPair.mono (by decide) ah;replace aG:=aG.chg ah (by decide);replace hx:=hx.below aw (Nat.le_refl _);replace cC:=cC.trans ah;replace bO:=bO.chg ah (by decide);clear ah aw aQ dW
     obtain ⟨wc,rfl⟩:=ex1 wn;refine hK.out _ _ (aB.out _ (cC.more qgy)) (fun hHeld=>?_);clear hK K;(try simp only [pq]);refine rd1 10 rfl fun K hK=>?_;simp only [gq];simp only [Region.wanted,if_true];refine qh2 (.tmp 34) (.tmp 37) rfl qi2 rfl cq (B:=B) hB hx.size (ys:=l[k].past.more) (c:=cm) rfl (HPm.out _ cC) RPair.oneC RPair.mono (by have:=HLd.out;unfold maxLen;omega) (by have:=HLd.out;omega) ?_;intro v10 wn ey ah aw cJ;replace cz:=cz.chgT (B:=B) (RVec.mono (by decide)) (by decide) ah;replace aG:=aG.chg ah (by decide);replace hx:=hx.below aw (Nat.le_refl _);have hcz:=(cC.more qgy).trans (ah.more jbj);replace bO:=(cJ.block _ bO.lt (fun e=>ck _ e.symm rfl)).trans bO;clear ck;clear ah aw cJ cq cC
    all_goals
     obtain ⟨wc,rfl⟩:=ex1 wn;refine hK.out _ _ (aB.out _ hcz) (fun hHeld=>?_);clear hK K;(try simp only [pq]);refine rd1 14 rfl fun K hK=>?_;simp only [gq];simp only [Region.wanted,if_true];refine qh2 (.tmp 38) (.tmp 41) rfl qi2 rfl ey (B:=B) hB hx.size (ys:=[l[k].dot]) (c:=1) rfl (Sl.ofBlkV (B:=B) bO rfl rfl) RPair.oneC RPair.mono (by have:=HLd.out;simp [maxLen];omega) (by have:=HLd.out;simp;omega) ?_;intro v14 wn hod14 ah aw _;replace cz:=cz.chgT (B:=B) (RVec.mono (by decide)) (by decide) ah;replace aG:=aG.chg ah (by decide);replace hx:=hx.below aw (Nat.le_refl _);replace hcz:=hcz.trans (ah.more jbj);clear ah aw ey bO;obtain ⟨wc,rfl⟩:=ex1 wn;refine hK.out _ _ (aB.out _ hcz) (fun hHeld=>?_);clear hK K;(try simp only [pq]);refine tkA 15 _ rfl ?_;(try simp only [gq,pq]);refine tkA 16 _ rfl ?_;(try simp only [gq,pq]);refine wpAnyH_done (by kernel_rfl) ?_ _;go_wp2_with fail;go_roundw
     case rel=>
      refine ⟨k+1,aD,by go_num,hx,aG,?_,?_⟩
      ·rw [HSv.out];exact cz
      rw [HSd.out];exact hod14
     case measure=>simp [intOf];omega
  obtain rfl:k=l.length:=by omega
  rw [List.take_length] at aQ cq;have HV:=hid (show ∀ x∈qdi (getL l s),x.length≤5∧∀ n∈x,0≤n∧n≤1000 from fun x hx=>by
   obtain ⟨v,hv,rfl⟩:=List.mem_map.1 hx;have:=(aZ.out v (List.mem_filter.1 hv).1).k;exact ⟨this.vlen,this.vec⟩)
  have HD:=hid (show ∀ d∈qd6 (getL l s),qb8 d=true from fun d hd=>by
   obtain ⟨v,hv,hd⟩:=List.mem_flatMap.1 hd;have ho:=aZ.out v (List.mem_filter.1 hv).1;rcases List.mem_append.1 hd with hd | hd
   ·exact (ho.k.more d hd).1
   rw [List.mem_singleton.1 hd];exact ho.dot)
  have HLv:=hid (show (qdi (getL l s)).length≤1000 by have:=qmp l s l.length;rw [List.take_length] at this;have:=HL60.out;unfold qdi;rw [List.length_map];omega);have HLd:=hid (show (qd6 (getL l s)).length≤10000 by have h1:=qib (qzf aZ.out s l.length);have h2:=qmp l s l.length;rw [List.take_length] at h1 h2;have:=HL60.out;omega);have HP:=hid (show quq (getL l s)=qb2 (qjl (qdi (getL l s)) (qd6 (getL l s))) from rfl);obtain ⟨A5,c5,rfl,_,_⟩:=aQ.len;obtain ⟨A6,c6,rfl,_,_⟩:=cq.len;go_wp2_with fail;refine (qk9 B A5 c5 (qdi (getL l s)) A6 c6 (qd6 (getL l s)) wr (Nat.le_trans hB hx.size) (aQ.sl B) HLv.out (fun x hx=>(HV.out x hx).1) (fun x hx=>(HV.out x hx).2) (cq.sl B) HLd.out HD.out).mono ?_;rintro e w2 ⟨v,rfl,hk,aH⟩;rw [← HP.out] at hk;obtain ⟨G,hG⟩:=ex1 (quq (getL l s));rw [← hG] at hk HEr HKn;clear hG;obtain ⟨Ax,cx,Ay,cy,rfl,e1,e2,e3,e4,hk6⟩:=hk;have aw:=(aG.ext aH).lt;have HXF:=hid (hx.trans aH)
  have HKF:=hid hk6;have HT0:=hid (aG.ext aH).ty;have y0:=(aG.ext aH).ce 0 (.slice none 0 0) rfl;have y1:=(aG.ext aH).ce 1 (.slice none 0 0) rfl;have y2:=(aG.ext aH).frozen 0;have y3:=(aG.ext aH).frozen 1;clear aG hx aH aQ cq hk6
  by_cases hm:G.more.length≤60
  ·have hd:decide ((60:Int) < G.more.length)=false:=decide_eq_false (by omega)
   have HE:=hid (show qbs l s=0 by rw [HEr.out];exact if_pos hm);have HT:=hid (show qbj l s=G by rw [HKn.out];exact if_pos hm);clear hm;go_wp2_with fail;refine bodyPost_ret (v:=.tuple #[.agg #[.slice Ax G.vec.length cx,.slice Ay G.more.length cy],.int .i64 0]) (qop (b:=w.heap.size) rfl rfl ?_ ?_) rfl ⟨.agg #[.slice Ax G.vec.length cx,.slice Ay G.more.length cy],by rw [← HE.out],?_,?_⟩
   ·go_simp
   ·go_simp
   ·rw [HT.out]
    exact ⟨Ax,cx,Ay,cy,rfl,e1,e2,e3,e4,(HKF.out.chg (((Chg.refl (ts:=[101]) w2).setCell (p:=⟨w.heap.size,0,none⟩) HT0.out (by simp) _ (Nat.zero_le _)).setCell (p:=⟨w.heap.size,1,none⟩) (qiz HT0.out) (by simp) _ (Nat.zero_le _)) (by decide) (by decide)).ext ((Ext.refl _).alloc _)⟩
   exact ((HXF.out.setCell (Nat.le_refl _) _).setCell (Nat.le_refl _) _).alloc _
  have hd:decide ((60:Int) < G.more.length)=true:=decide_eq_true (by omega);have HE:=hid (show qbs l s=2 by rw [HEr.out];exact if_neg hm);have HT:=hid (show qbj l s=⟨[],[]⟩ by rw [HKn.out];exact if_neg hm);clear hm;go_wp2_with fail;refine bodyPost_ret (v:=.tuple #[.agg #[.slice none 0 0,.slice none 0 0],.int .i64 2]) (qop (b:=w.heap.size) rfl rfl ?_ ?_) rfl ⟨.agg #[.slice none 0 0,.slice none 0 0],by rw [← HE.out],?_,?_⟩
  ·go_simp
  ·go_simp
  ·rw [HT.out];exact IsK.empty
  exact ((HXF.out.setCell (Nat.le_refl _) _).setCell (Nat.le_refl _) _).alloc _
 have aV:(qae l !=0)=true:=by simpa using hc
 have HE:=hid (show qbs l s=qae l by unfold qbs;rw [if_neg hc]);have HT:=hid (show qbj l s=⟨[],[]⟩ by unfold qbj;rw [if_neg hc]);clear hc;have y0:=aG.ce 0 (.slice none 0 0) rfl;have y1:=aG.ce 1 (.slice none 0 0) rfl;have y2:=aG.frozen 0;have y3:=aG.frozen 1;clear aG;go_wp2_with fail;refine bodyPost_ret (v:=.tuple #[.agg #[.slice none 0 0,.slice none 0 0],.int .i64 (qae l)]) (qop (b:=w.heap.size) rfl rfl ?_ ?_) rfl ⟨.agg #[.slice none 0 0,.slice none 0 0],by rw [← HE.out],?_,?_⟩
 ·go_simp
 ·go_simp
 ·rw [HT.out];exact IsK.empty
 exact (hx.setCell (Nat.le_refl _) _).setCell (Nat.le_refl _) _
end Go.Proofs.YtngbfdogiciahaaGreat
