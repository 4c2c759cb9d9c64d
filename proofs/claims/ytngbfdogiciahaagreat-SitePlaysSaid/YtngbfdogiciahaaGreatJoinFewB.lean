/- Texts joined. -/
import Derived.Test.YtngbfdogiciahaaGreatJoinKnG
set_option maxRecDepth 100000
set_option maxHeartbeats 40000000
namespace Go.Proofs.YtngbfdogiciahaaGreat
open Go Go.RowKit
def qf6 (out:List Part) (p:Part):List Part:=if (qmi p||out.any (qdn p))=true then out else (out.filter fun q=>!qdn q p)++[p]
def fewL (l:List Part):List Part:=l.foldl qf6 []
theorem qzb (l:List Part) (k:Nat) (hk:k < l.length):fewL (l.take (k+1))=qf6 (fewL (l.take k)) l[k]:=by
 unfold fewL;rw [List.take_succ_eq_append_getElem hk,List.foldl_append];rfl
theorem qu4 {out:List Part} {p x:Part} (h:x∈qf6 out p):x∈out∨x=p:=by
 unfold qf6 at h;split at h
 ·exact .inl h
 rcases List.mem_append.1 h with h | h
 ·exact .inl (List.mem_filter.1 h).1
 exact .inr (List.mem_singleton.1 h)
theorem qnv:∀ (l out:List Part) (x:Part),x∈l.foldl qf6 out→x∈out∨x∈l
 | [],_,_,h=>.inl h
 | p::r,out,x,h=>by
  rcases qnv r _ x h with h | h
  ·rcases qu4 h with h | h
   ·exact .inl h
   exact .inr (by rw [h];simp)
  exact .inr (by simp [h])
theorem qvn {l:List Part} {x:Part} (h:x∈fewL l):x∈l:=(qnv l [] x h).resolve_left (by simp)
theorem qnu:∀ (l out:List Part),(l.foldl qf6 out).length≤out.length+l.length
 | [],_=>by simp
 | p::r,out=>by
  have h:=qnu r (qf6 out p);have h2:(qf6 out p).length≤out.length+1:=by
   unfold qf6;split
   ·omega
   rw [List.length_append];have:=List.length_filter_le (fun q=>!qdn q p) out;simp;omega
  simp only [List.foldl_cons,List.length_cons];omega
theorem qqk (l:List Part):(fewL l).length≤l.length:=by have:=qnu l [];simpa [fewL] using this
def plainP (p:Part):Part:=⟨qf0 p.filter,p.know⟩
def qcl (l:List Part):List Part:=(fewL l).map plainP
def qdq (L:List Part) (k:Nat):List Part:=(L.take k).map plainP++L.drop k
theorem qur (L:List Part) (k:Nat) (hk:k≤L.length):(qdq L k).length=L.length:=by unfold qdq;simp;omega
theorem qoj (L:List Part) (k:Nat) (hk:k < L.length):(qdq L k)[k]?=some L[k]:=by
 unfold qdq;rw [List.getElem?_append_right (by simp;omega)];simp [Nat.min_eq_left (Nat.le_of_lt hk),hk]
theorem qus (L:List Part) (k:Nat) (hk:k < L.length):(qdq L k).set k (plainP L[k])=qdq L (k+1):=by
 unfold qdq;rw [List.set_append_right _ _ (by simp;omega)];simp only [List.length_map,List.length_take,Nat.min_eq_left (Nat.le_of_lt hk),Nat.sub_self];rw [List.drop_eq_getElem_cons hk,List.set_cons_zero,List.take_succ_eq_append_getElem hk,List.map_append,List.append_assoc];rfl
theorem InP.chg {B:Nat} {ts:List TypeId} {w w':World} {Af:Option Addr} {cf:Nat} {Av:Option Addr} {cv:Nat} {Am:Option Addr} {cm:Nat} {p:Part} (h:InP B w Af cf Av cv Am cm p) (x:Chg B ts w w') (h1:137∉ts) (h2:142∉ts) (h3:3∉ts) (h4:35∉ts):InP B w' Af cf Av cv Am cm p:=
 ⟨h.lf,h.lcf,h.sf.chg (RBox.mono h1) h2 x,h.lcv,h.lcm,h.k.chg x h3 h4⟩
theorem qxe {w w':World} (h:w.grownBy w' none):Ext w w':=⟨h.os,h.tape,h.output,h.size,fun k hk=>h.block k hk (by simp)⟩
theorem Own.weaken {α:Type} {R:World→List Value→α→Prop} {sz:Nat} {e:TypeId} {w:World} {base base':Nat} {v:Value} {l:List α} (h:Own R sz e w base v l) (hb:base'≤base):Own R sz e w base' v l:=by
 obtain ⟨xs,hx,hR,ho⟩:=h;refine ⟨xs,hx,hR,ho.1,?_⟩;rcases ho.2 with hn | ⟨g,cap,cur,rfl,an,rest⟩
 ·exact .inl hn
 exact .inr ⟨g,cap,cur,rfl,by omega,rest⟩
theorem qqy (B:Nat) (A:Option Addr) (c:Nat) (l:List Part) (w:World) (hB:B≤w.heap.size) (hl:l.length≤10000) (aO:∀ x∈l,PartOk x) (h:qcg B w A l) :
  Calls Tryz.prog 137 #[.slice A l.length c] w fun e w'=>∃ v,e=.returned v∧Own (RPart B) 3 181 w' w.heap.size v (qcl l)∧Ext w w':=by
 have aZ:=hid aO;clear aO;go_enter Tryz.func137, Tryz.ntmps137;go_wp2_with fail;go_loopw [9,3] (fun i v wr=>∃ k:Nat,k≤l.length∧i=.int .i64 k∧Own (RPart B) 3 181 wr w.heap.size v (fewL (l.take k))∧Ext w wr) (fun i _ _=>l.length - (intOf i).toNat)
 case atStart=>exact ⟨0,Nat.zero_le _,rfl,Own.nil,Ext.refl _⟩
 obtain ⟨k,hk,rfl,aQ,hx⟩:=hrel
 by_cases aD:k < l.length
 ·obtain ⟨b,off,Af,cf,Av,cv,Am,cm,rfl,hb,g0,g1,g2,hp⟩:=(h.ext RPart.monoE hx).part aD
  have HO:=hid (aZ.out _ (List.getElem_mem aD));have HP:=hid hp;have HSS:=hid (qzb l k aD);have am:=hid (show (fewL (l.take k)).length≤10000 by have:=qqk (l.take k);rw [List.length_take] at this;omega);obtain ⟨OUT,ed⟩:=ex1 (fewL (l.take k));rw [← ed] at aQ HSS am;obtain ⟨Ao,co,rfl,ho1,aR⟩:=aQ.len;have HVR:=hid (fun g hg=>(aQ.lt (g:=g) hg).2);clear hp ed;go_wp2_with fail;have aK:=(Ext.refl wr).alloc (.cells #[.slice Af l[k].filter.length cf,.slice Av l[k].know.vec.length cv,.slice Am l[k].know.more.length cm] 181);refine (jal B l[k] Af cf Av cv Am cm _ (HP.out.ext aK)).mono ?_;rintro e w1 ⟨rfl,aE⟩;have q0:w1.cell? ⟨wr.heap.size,0,none⟩=some (.slice Af l[k].filter.length cf):=aE.cell (by go_simp);have q1:w1.cell? ⟨wr.heap.size,1,none⟩=some (.slice Av l[k].know.vec.length cv):=aE.cell (by go_simp);have q2:w1.cell? ⟨wr.heap.size,2,none⟩=some (.slice Am l[k].know.more.length cm):=aE.cell (by go_simp)
  obtain ⟨r,hr⟩:=ex1 wr.heap.size;rw [← hr] at q0 q1 q2 HVR ⊢;have eZ:=aK.trans aE;have HI:=hid (HP.out.ext eZ);replace aQ:=aQ.ext RPart.monoE eZ;have al:=hx.trans eZ;have hwr:=hx.size;clear hr aK aE eZ hx g0 g1 g2
  cases hN:qmi l[k]
  ·have HN:=hid hN
   clear hN;go_wp2_with fail;have cN:=hid (Nat.le_trans hB al.size);refine (qrs B none 183 #[.pointer (some ⟨r,0,none⟩)] Ao co OUT (qdn l[k]) w1 (by have:=am.out;unfold maxLen;omega) (aQ.sl B) Tryz.call183 (fun q hq cs wn hg bD hR=>by
    obtain ⟨Bf,df,Bv,dv,Bm,dm,rfl,hi⟩:=hR.inP;have dQ:=qxe hg;exact few1 B r l[k] OUT[q] Af cf Av cv Am cm Bf df Bv dv Bm dm wn (Nat.le_trans cN.out hg.size) (HI.out.ext dQ) hi (dQ.cell q0) (dQ.cell q1) (dQ.cell q2))).mono ?_
   rintro e w2 ⟨rfl,aH⟩;replace q0:=aH.cell q0;replace q1:=aH.cell q1;replace q2:=aH.cell q2;replace aQ:=aQ.ext RPart.monoE aH;replace al:=al.trans aH;have dR:=hid (HI.out.ext aH);have HBW2:=hid (Nat.le_trans cN.out aH.size);clear aH
   cases hA:OUT.any (qdn l[k])
   ·have HSt:=hid (show fewL (l.take (k+1))=(OUT.filter fun q=>!qdn q l[k])++[l[k]] by rw [HSS.out,qf6,HN.out,hA];rfl)
    clear hA;go_wp2_with fail;have aV:some r≠(Value.slice Ao OUT.length co).ownBlock:=fun e=>by have:=HVR.out r e.symm;omega
    refine (qx4 B w.heap.size 186 #[.pointer (some ⟨r,0,none⟩)] (.slice Ao OUT.length co) OUT (fun q=>qdn q l[k]) w2 hB (by have:=am.out;omega) aQ Tryz.call186 (fun q hq cs wn hg bD hR=>by
     obtain ⟨Bf,df,Bv,dv,Bm,dm,rfl,hi⟩:=hR.inP;exact few2 B r l[k] OUT[q] Af cf Av cv Am cm Bf df Bv dv Bm dm wn (Nat.le_trans HBW2.out hg.size) (dR.out.chg (aQ.chg_of hB hg) (by decide) (by decide) (by decide) (by decide)) hi (qat hg q0 aV) (qat hg q1 aV) (qat hg q2 aV))).mono ?_
    rintro e w3 ⟨v3,rfl,cE,hg3,hob⟩;obtain ⟨A3,c3,rfl,_,_⟩:=cE.len;have ah:=aQ.chg_of hB hg3;have aw:=aQ.below_of hg3 al.size;replace q0:=qat hg3 q0 aV;replace q1:=qat hg3 q1 aV;replace q2:=qat hg3 q2 aV;have HI3:=dR.out.chg ah (by decide) (by decide) (by decide) (by decide);have hxw3:=al.below aw (Nat.le_refl _);have HLen3:=hid (show (OUT.filter fun q=>!qdn q l[k]).length≤10000 by have:=List.length_filter_le (fun q=>!qdn q l[k]) OUT;have:=am.out;omega);obtain ⟨FL,hFL⟩:=ex1 (OUT.filter fun q=>!qdn q l[k]);rw [← hFL] at cE HSt HLen3;rw [← hFL];clear hFL aQ al ah aw hg3 aV hob;have aC:=(Ext.refl w3).alloc (.cells #[.slice Af l[k].filter.length cf,.slice Av l[k].know.vec.length cv,.slice Am l[k].know.more.length cm] 181);have aN:qcg B (w3.alloc (.cells #[.slice Af l[k].filter.length cf,.slice Av l[k].know.vec.length cv,.slice Am l[k].know.more.length cm] 181)) (some ⟨w3.heap.size,0,none⟩) [l[k]]:=Sl.one (cs:=[.slice Af l[k].filter.length cf,.slice Av l[k].know.vec.length cv,.slice Am l[k].know.more.length cm]) rfl rfl (HI3.ext aC).rpart
    have ho4:=cE.ext RPart.monoE aC;have hs4:w.heap.size≤(w3.alloc (.cells #[.slice Af l[k].filter.length cf,.slice Av l[k].know.vec.length cv,.slice Am l[k].know.more.length cm] 181)).heap.size:=(hxw3.trans aC).size;clear HI3 cE;go_wp2_with (at_builtin;refine qaf (ys:=[l[k]]) (c:=1) (B:=B) rfl _ _ rfl qvm rfl ho4 hB hs4 rfl aN RPart.oneC (RPart.mono (by decide) (by decide) (by decide) (by decide)) (by have:=HLen3.out;simp [maxLen];omega) (by have:=HLen3.out;simp;omega) ?_;intro v5 w5 bJ bj au dd);have cA:=(hxw3.trans aC).below au (Nat.le_refl _);clear bj au dd ho4 aN aC;go_roundw
    case rel=>
     refine ⟨k+1,aD,by go_num,?_,cA⟩;rw [HSt.out];exact bJ
    case measure=>simp [intOf];omega
   have HSt:=hid (show fewL (l.take (k+1))=OUT by rw [HSS.out,qf6,HN.out,hA];rfl);clear hA;go_wp2_with fail;go_roundw
   case rel=>
    refine ⟨k+1,aD,by go_num,?_,al⟩;rw [HSt.out];exact aQ
   case measure=>simp [intOf];omega
  have HSt:=hid (show fewL (l.take (k+1))=OUT by rw [HSS.out,qf6,hN];rfl);clear hN;go_wp2_with fail;go_roundw
  case rel=>
   refine ⟨k+1,aD,by go_num,?_,al⟩;rw [HSt.out];exact aQ
  case measure=>simp [intOf];omega
 obtain rfl:k=l.length:=by omega
 rw [List.take_length] at aQ;obtain ⟨OUT,ed⟩:=ex1 (fewL l);have HOut:=hid (show qcl l=OUT.map plainP by rw [ed];rfl);have HMem:=hid (show ∀ x∈OUT,PartOk x from fun x hm=>aZ.out x (qvn (ed ▸ hm)));have am:=hid (show OUT.length≤10000 by rw [ed];have:=qqk l;omega);rw [← ed] at aQ;clear ed;obtain ⟨Ao,co,rfl,ho1,aR⟩:=aQ.len;go_wp2_with fail;refine (qoh B Ao co OUT _ (Nat.le_trans hB hx.size) am.out HMem.out (aQ.sl B)).mono ?_;rintro e w2 ⟨v2,rfl,bx,aH⟩;obtain ⟨A2,c2,rfl,u1,u2⟩:=bx.len;have al:=hx.trans aH;replace bx:=bx.weaken hx.size;have L0:=am.out;clear aQ hx aH ho1 aR;go_wp2_with fail;go_loopw [32] (fun i ws=>∃ k:Nat,k≤OUT.length∧i=.int .i64 k∧Own (RPart B) 3 181 ws w.heap.size (.slice A2 OUT.length c2) (qdq OUT k)∧Ext w ws) (fun i _=>OUT.length - (intOf i).toNat)
 case atStart=>exact ⟨0,Nat.zero_le _,rfl,by rw [show qdq OUT 0=OUT by simp [qdq]];exact bx,al⟩
 clear bx al;obtain ⟨k,hk,rfl,how,hx⟩:=hrel
 by_cases aD:k < OUT.length
 ·have HO:=hid (HMem.out _ (List.getElem_mem aD))
  have fL:=hid (qur OUT k hk);rcases how.at_ with ⟨_,hn⟩ | ⟨g,c',hv,an,hgl,fa,hfz,hat⟩
  ·have:=fL.out;rw [hn] at this;simp at this;omega
  injection hv with hA hnn eW;clear hnn;subst hA eW;obtain ⟨cs,bD,eW,hR⟩:=hat k _ (qoj OUT k aD);obtain ⟨Af,cf,Av,cv,Am,cm,rfl,hi⟩:=hR.inP;have g0:=eW 0 _ rfl;simp only [Nat.add_zero] at g0;have hf0:=hfz (k*3);have k0:(0:Int)≤k:=by omega
  have k1:(k:Int) < OUT.length:=by omega
  have HGB:=hid an;have HI:=hid hi;clear hat eW bD hR hi hfz fa;go_wp2_with fail;refine (qg6 B Af cf OUT[k].filter wr (Nat.le_trans hB hx.size) HI.out.lf (qah HO.out.f).2 HI.out.sf).mono ?_;rintro e w3 ⟨v3,rfl,dA,aM⟩;obtain ⟨A3,c3,rfl,b1,b2,dA⟩:=dA;have how3:=how.ext RPart.monoE aM;replace g0:=aM.cell g0;replace hf0:=(aM.frozenAt hgl).trans hf0;have al:=hx.trans aM;have hgl3:g < w3.heap.size:=Nat.lt_of_lt_of_le hgl aM.size;clear how hx aM hgl;go_wp2_with fail;have fq:Own (RPart B) 3 181 w3 w.heap.size (.slice (some ⟨g,0,none⟩) (qdq OUT k).length c2) (qdq OUT k):=by rw [fL.out];exact how3
  have dC:k < (qdq OUT k).length:=by rw [fL.out];exact aD
  have hek:(qdq OUT k)[k]=OUT[k]:=by
   have:=qoj OUT k aD;rw [List.getElem?_eq_getElem dC] at this;injection this
  obtain ⟨eB,bK,bI⟩:=fq.set (B:=B) (RPart.mono (by decide) (by decide) (by decide) (by decide)) hB dC (show 0 < 3 by omega) (.slice A3 (qf0 OUT[k].filter).length c3) (plainP OUT[k]) (by
   intro cs bD hR;rw [hek] at hR;obtain ⟨f,v,m,rfl,hf,hvv,hm⟩:=hR;have ah:Chg B [181] w3 (w3.setCell ⟨g,k*3+0,none⟩ (.slice A3 (qf0 OUT[k].filter).length c3)):=(Chg.refl w3).setCell (p:=⟨g,k*3+0,none⟩) (show tyAt w3 g=some 181 by
    rcases how3.at_ with ⟨hv,_⟩ | ⟨g',c',hv,_,_,fa,_,_⟩
    ·cases hv
    injection hv with hA _ _;injection hA with hA;injection hA with hA _;rw [hA];exact fa) (by simp) _ (Nat.le_trans hB HGB.out)
   exact ⟨_,v,m,rfl,(show qdo B w3 (.slice A3 (qf0 OUT[k].filter).length c3) (qf0 OUT[k].filter) from ⟨A3,c3,rfl,b1,b2,dA⟩).chg (RBox.mono (by decide)) (by decide) ah,hvv.chg RInt.mono (by decide) ah,hm.chg RPair.mono (by decide) ah⟩)
  rw [qus OUT k aD,fL.out,Nat.add_zero] at eB;rw [Nat.add_zero] at bI;go_roundw
  case rel=>exact ⟨k+1,aD,by go_num,eB,al.below bI (Nat.le_refl _)⟩
  case measure=>simp [intOf];omega
 obtain rfl:k=OUT.length:=by omega
 rw [show qdq OUT OUT.length=OUT.map plainP by simp [qdq],← HOut.out] at how;go_wp2_with fail;go_ret;exact ⟨_,rfl,how,hx⟩
def qdl (a b:List Part):Int:=if qew a b=0 then (if 30 < (qcl (a++b)).length then 2 else 0) else qew a b
def qfu (a b:List Part):List Part:=if qdl a b=0 then qcl (a++b) else []
def qj3 (h:Part→Part) (L:List Part) (k:Nat):List Part:=(L.take k).map h++L.drop k
theorem qzw (h:Part→Part) (L:List Part) (k:Nat) (hk:k≤L.length):(qj3 h L k).length=L.length:=by unfold qj3;simp;omega
theorem qsc (h:Part→Part) (L:List Part) (k:Nat) (hk:k < L.length):(qj3 h L k)[k]?=some L[k]:=by
 unfold qj3;rw [List.getElem?_append_right (by simp;omega)];simp [Nat.min_eq_left (Nat.le_of_lt hk),hk]
theorem qzx (h:Part→Part) (L:List Part) (k:Nat) (hk:k < L.length):(qj3 h L k).set k (h L[k])=qj3 h L (k+1):=by
 unfold qj3;rw [List.set_append_right _ _ (by simp;omega)];simp only [List.length_map,List.length_take,Nat.min_eq_left (Nat.le_of_lt hk),Nat.sub_self];rw [List.drop_eq_getElem_cons hk,List.set_cons_zero,List.take_succ_eq_append_getElem hk,List.map_append,List.append_assoc];rfl
def jd2 (f g:List Box):List Box:=qc1 (fun a b=>a&&& b) f g
def qby (f:List Box) (p:Part):Part:=⟨jd2 p.filter f,p.know⟩
def qhf (l:List Part) (f:List Box):Int:=if qac l=0 then qa0 f else qac l
def qbg (l:List Part) (f:List Box):List Part:=if qhf l f=0 then qcl (l.map (qby f)) else []
theorem qw0 {f g:List Box} (hf:qa0 f=0) (hg:qa0 g=0):qa0 (jd2 f g)=0∧∀ i,i < 512→pts (jd2 f g) i=(pts f i&&pts g i):=by
 have h2:qb1 f g=0:=by rw [qb1,if_pos hf,hg]
 have h:=qk3 jc8 h2;exact ⟨h.ok,h.pts⟩
theorem qlf {p:Part} {f:List Box} (hp:PartOk p) (hf:qa0 f=0):PartOk (qby f p):=⟨(qw0 hp.f hf).1,hp.k⟩
theorem jaj (B:Nat) (A A':Option Addr) (c c':Nat) (a b:List Part) (w:World) (hB:B≤w.heap.size) (hla:a.length≤maxLen) (hlb:b.length≤maxLen) (ha:qcg B w A a) (hb:qcg B w A' b) :
  Calls Tryz.prog 111 #[.slice A a.length c,.slice A' b.length c'] w fun e w'=>∃ v,e=.returned (.tuple #[v,.int .i64 (qdl a b)])∧qja B w' v (qfu a b)∧Ext w w':=by
 have HJE:=hid (show qdl a b=if qew a b=0 then (if 30 < (qcl (a++b)).length then 2 else 0) else qew a b from rfl);have HJ:=hid (show qfu a b=if qdl a b=0 then qcl (a++b) else [] from rfl);have HT:=hid (show qew a b=if qac a=0 then qac b else qac a from rfl);have HCa:=hid (qci (l:=a));have HCb:=hid (qci (l:=b));go_enter Tryz.func111, Tryz.ntmps111;go_wp2_with fail;refine (qgu B A c a _ hla ha).mono ?_;rintro e w1 ⟨rfl,aE⟩;generalize hpa:qac a=x at HT HCa ⊢;clear hpa
 by_cases h0:x=0
 ·subst h0
  have HOa:=hid (HCa.out rfl);have HT1:=hid (show qew a b=qac b by rw [HT.out];rfl);clear HCa HT;go_wp2_with fail;refine (qgu B A' c' b _ hlb (hb.ext RPart.monoE aE)).mono ?_;rintro e w2 ⟨rfl,aH⟩;generalize hpb:qac b=y at HT1 HCb ⊢;clear hpb
  by_cases h1:y=0
  ·subst h1
   have HOb:=hid (HCb.out rfl);have hx:=aE.trans aH;have aC:=(Ext.refl w2).alloc (.cells #[.slice A a.length c,.slice A' b.length c'] 66);have hl2:Sl B 66 (RL B 181 (RPart B) 3) 1 (w2.alloc (.cells #[.slice A a.length c,.slice A' b.length c'] 66)) (some ⟨w2.heap.size,0,none⟩) [a,b]:=Sl.lit2 rfl ⟨A,c,rfl,ha.ext RPart.monoE (hx.trans aC)⟩ ⟨A',c',rfl,hb.ext RPart.monoE (hx.trans aC)⟩;have HX:=hid (hx.trans aC);clear HCb aE aH hx aC;go_wp2_with fail;refine (qx2 B _ 2 [a,b] _ (Nat.le_trans hB HX.out.size) hl2 (by simp) (by have:=HOa.out.1;have:=HOb.out.1;simp;omega)).mono ?_;rintro e w3 ⟨v3,rfl,dA,aM⟩;rw [show [a,b].flatten=a++b by simp] at dA;obtain ⟨ab,hab⟩:=ex1 (a++b);have HAB:=hid hab;rw [← hab] at dA;have am:=hid (show ab.length≤60 by rw [hab,List.length_append];have:=HOa.out.1;have:=HOb.out.1;omega);have HMem:=hid (show ∀ x∈ab,PartOk x by
    intro x hx;rw [hab] at hx;rcases List.mem_append.1 hx with h | h
    ·exact HOa.out.2 x h
    exact HOb.out.2 x h)
   obtain ⟨A3,c3,rfl,_,_⟩:=dA.len;have eE:=hid (HX.out.trans aM);clear hab aM hl2;go_wp2_with fail;refine (qqy B A3 c3 ab _ (Nat.le_trans hB eE.out.size) (by have:=am.out;omega) HMem.out (dA.sl B)).mono ?_;rintro e w4 ⟨v4,rfl,hv4,aj⟩;rw [HAB.out] at hv4;obtain ⟨FO,hFO⟩:=ex1 (qcl (a++b));rw [← hFO] at hv4 HJE HJ;obtain ⟨A4,c4,rfl,b1,b2⟩:=hv4.len;clear hFO dA
   by_cases hbig:30 < FO.length
   ·have d9:decide ((30:Int) < FO.length)=true:=decide_eq_true (by omega)
    have e1:qdl a b=2:=by rw [HJE.out,if_pos HT1.out,if_pos hbig]
    have e2:qfu a b=[]:=by rw [HJ.out,if_neg (by rw [e1];decide)]
    clear hbig;go_wp2_with fail;go_ret2;exact ⟨.slice none 0 0,by simp [e1],by rw [e2];exact IsSl.nil,eE.out.trans aj⟩
   have d9:decide ((30:Int) < FO.length)=false:=decide_eq_false (by omega);have e1:qdl a b=0:=by rw [HJE.out,if_pos HT1.out,if_neg hbig]
   have e2:qfu a b=FO:=by rw [HJ.out,if_pos e1]
   clear hbig;go_wp2_with fail;go_ret2;exact ⟨.slice A4 FO.length c4,by simp [e1],by rw [e2];exact hv4.isSl B,eE.out.trans aj⟩
  have aV:(y !=0)=true:=by simpa using h1
  have e1:qdl a b=y:=by rw [HJE.out,HT1.out,if_neg h1]
  have e2:qfu a b=[]:=by rw [HJ.out,if_neg (by rw [e1];exact h1)]
  clear h1;go_wp2_with fail;go_ret2;exact ⟨.slice none 0 0,by simp [e1],by rw [e2];exact IsSl.nil,aE.trans aH⟩
 have aV:(x !=0)=true:=by simpa using h0
 have e1:qdl a b=x:=by rw [HJE.out,HT.out,if_neg h0,if_neg h0]
 have e2:qfu a b=[]:=by rw [HJ.out,if_neg (by rw [e1];exact h0)]
 clear h0;go_wp2_with fail;go_ret2;exact ⟨.slice none 0 0,by simp [e1],by rw [e2];exact IsSl.nil,aE⟩
theorem qoi (B:Nat) (A A':Option Addr) (c c':Nat) (l:List Part) (f:List Box) (w:World) (hB:B≤w.heap.size) (hla:l.length≤maxLen) (hlf:f.length≤maxLen) (ha:qcg B w A l) (hf:qaw B w A' f) :
  Calls Tryz.prog 84 #[.slice A l.length c,.slice A' f.length c'] w fun e w'=>∃ v,e=.returned (.tuple #[v,.int .i64 (qhf l f)])∧qja B w' v (qbg l f)∧Ext w w':=by
 have HNE:=hid (show qhf l f=if qac l=0 then qa0 f else qac l from rfl);have ak:=hid (show qbg l f=if qhf l f=0 then qcl (l.map (qby f)) else [] from rfl);have HC:=hid (qci (l:=l));go_enter Tryz.func84, Tryz.ntmps84;go_wp2_with fail;refine (qgu B A c l _ hla ha).mono ?_;rintro e w1 ⟨rfl,aE⟩;generalize hpa:qac l=x at HNE HC ⊢;clear hpa
 by_cases h0:x=0
 ·subst h0
  have HO:=hid (HC.out rfl);have cH:=hid (show qhf l f=qa0 f by rw [HNE.out];rfl);clear HC HNE;go_wp2_with fail;refine (qcr B A' c' f _ hlf (hf.ext RBox.monoE aE)).mono ?_;rintro e w2 ⟨rfl,aH⟩;have HFC:=hid (rfl:qa0 f=qa0 f);generalize hpb:qa0 f=y at cH ⊢
  by_cases h1:y=0
  ·subst h1
   have HF0:=hid hpb;have e1:=cH.out;have HN2:=hid (show qbg l f=qcl (l.map (qby f)) by rw [ak.out,if_pos e1]);have hx:=aE.trans aH;clear aE aH ak hpb HFC e1;go_wp2_with fail;refine (qoh B A c l _ (Nat.le_trans hB hx.size) (by have:=HO.out.1;omega) HO.out.2 (ha.ext RPart.monoE hx)).mono ?_;rintro e w3 ⟨v3,rfl,dA,aM⟩;obtain ⟨A3,c3,rfl,b1,b2⟩:=dA.len;have al:=hx.trans aM;replace dA:=dA.weaken hx.size;have L0:=HO.out.1;clear hx aM;go_wp2_with fail;go_loopw [24] (fun i ws=>∃ k:Nat,k≤l.length∧i=.int .i64 k∧Own (RPart B) 3 181 ws w.heap.size (.slice A3 l.length c3) (qj3 (qby f) l k)∧Ext w ws) (fun i _=>l.length - (intOf i).toNat)
   case atStart=>exact ⟨0,Nat.zero_le _,rfl,by rw [show qj3 (qby f) l 0=l by simp [qj3]];exact dA,al⟩
   clear dA al;obtain ⟨k,hk,rfl,how,hx⟩:=hrel
   by_cases aD:k < l.length
   ·have HOk:=hid (HO.out.2 _ (List.getElem_mem aD))
    have fL:=hid (qzw (qby f) l k hk);rcases how.at_ with ⟨_,hn⟩ | ⟨g,cx,hv,an,hgl,fa,hfz,hat⟩
    ·have:=fL.out;rw [hn] at this;simp at this;omega
    injection hv with hA hnn eW;clear hnn;subst hA eW;obtain ⟨cs,bD,eW,hR⟩:=hat k _ (qsc (qby f) l k aD);obtain ⟨Af,cf,Av,cv,Am,cm,rfl,hi⟩:=hR.inP;have g0:=eW 0 _ rfl;simp only [Nat.add_zero] at g0;have hf0:=hfz (k*3);have k0:(0:Int)≤k:=by omega
    have k1:(k:Int) < l.length:=by omega
    have HGB:=hid an;have HI:=hid hi;clear hat eW bD hR hi hfz fa;go_wp2_with fail;refine (qu7 B Af A' cf c' l[k].filter f wr (Nat.le_trans hB hx.size) HI.out.lf hlf HI.out.sf (hf.ext RBox.monoE hx)).mono ?_;rintro e w4 ⟨v4,rfl,hv4,aj⟩;obtain ⟨M,hM⟩:=ex1 (qc1 (fun a b=>a&&& b) l[k].filter f);rw [← hM] at hv4;have HM:=hid (show qby f l[k]=⟨M,l[k].know⟩ by rw [hM];rfl);obtain ⟨A4,c4,rfl,b3,b4,hv4⟩:=hv4;have how3:=how.ext RPart.monoE aj;replace g0:=aj.cell g0;replace hf0:=(aj.frozenAt hgl).trans hf0;have al:=hx.trans aj;have hgl3:g < w4.heap.size:=Nat.lt_of_lt_of_le hgl aj.size;clear how hx aj hgl hM;go_wp2_with fail;have fq:Own (RPart B) 3 181 w4 w.heap.size (.slice (some ⟨g,0,none⟩) (qj3 (qby f) l k).length c3) (qj3 (qby f) l k):=by rw [fL.out];exact how3
    have dC:k < (qj3 (qby f) l k).length:=by rw [fL.out];exact aD
    have hek:(qj3 (qby f) l k)[k]=l[k]:=by
     have:=qsc (qby f) l k aD;rw [List.getElem?_eq_getElem dC] at this;injection this
    obtain ⟨eB,bK,bI⟩:=fq.set (B:=B) (RPart.mono (by decide) (by decide) (by decide) (by decide)) hB dC (show 0 < 3 by omega) (.slice A4 M.length c4) (qby f l[k]) (by
     intro cs bD hR;rw [hek] at hR;obtain ⟨f',v,m,rfl,hf',hvv,hm⟩:=hR;have ah:Chg B [181] w4 (w4.setCell ⟨g,k*3+0,none⟩ (.slice A4 M.length c4)):=(Chg.refl w4).setCell (p:=⟨g,k*3+0,none⟩) (show tyAt w4 g=some 181 by
      rcases how3.at_ with ⟨hv,_⟩ | ⟨g',cx,hv,_,_,fa,_,_⟩
      ·cases hv
      injection hv with hA _ _;injection hA with hA;injection hA with hA _;rw [hA];exact fa) (by simp) _ (Nat.le_trans hB HGB.out)
     rw [HM.out];exact ⟨_,v,m,rfl,(show qdo B w4 (.slice A4 M.length c4) M from ⟨A4,c4,rfl,b3,b4,hv4⟩).chg (RBox.mono (by decide)) (by decide) ah,hvv.chg RInt.mono (by decide) ah,hm.chg RPair.mono (by decide) ah⟩)
    rw [qzx (qby f) l k aD,fL.out,Nat.add_zero] at eB;rw [Nat.add_zero] at bI;go_roundw
    case rel=>exact ⟨k+1,aD,by go_num,eB,al.below bI (Nat.le_refl _)⟩
    case measure=>simp [intOf];omega
   obtain rfl:k=l.length:=by omega
   rw [show qj3 (qby f) l l.length=l.map (qby f) by simp [qj3]] at how;obtain ⟨NL,hNL⟩:=ex1 (l.map (qby f));have HNL:=hid hNL;rw [← hNL] at how;have HLn:=hid (show NL.length=l.length by rw [hNL,List.length_map]);have HMem:=hid (show ∀ x∈NL,PartOk x by
    intro x hx;rw [hNL] at hx;obtain ⟨y,hy,rfl⟩:=List.mem_map.1 hx;exact qlf (HO.out.2 y hy) HF0.out)
   clear hNL;go_wp2_with fail;have hfew:=qqy B A3 c3 NL wr (Nat.le_trans hB hx.size) (by rw [HLn.out];omega) HMem.out (how.sl B);rw [HLn.out] at hfew;refine hfew.mono ?_;rintro e w5 ⟨v5,rfl,dh,bN⟩;rw [HNL.out,← HN2.out] at dh;obtain ⟨A5,c5,rfl,b5,b6⟩:=dh.len;have e1:=cH.out;go_wp2_with fail;go_ret2;exact ⟨.slice A5 (qbg l f).length c5,by simp [e1],dh.isSl B,hx.trans bN⟩
  have aV:(y !=0)=true:=by simpa using h1
  have e1:=cH.out;have e2:qbg l f=[]:=by rw [ak.out,if_neg (by rw [e1];exact h1)]
  clear h1 hpb;go_wp2_with fail;go_ret2;exact ⟨.slice none 0 0,by simp [e1],by rw [e2];exact IsSl.nil,aE.trans aH⟩
 have aV:(x !=0)=true:=by simpa using h0
 have e1:qhf l f=x:=by rw [HNE.out,if_neg h0]
 have e2:qbg l f=[]:=by rw [ak.out,if_neg (by rw [e1];exact h0)]
 clear h0;go_wp2_with fail;go_ret2;exact ⟨.slice none 0 0,by simp [e1],by rw [e2];exact IsSl.nil,aE⟩
def vecD (v:List Int) (j:Nat):DSet:=fun s c=>decide (1≤c)&&decide (s < j)&&decide ((c:Int)≤qab v s)
def qkt (v:List Int) (j c0:Nat):DSet:=fun s c=>vecD v j s c||(decide (s=j)&&decide (1≤c∧c < c0))
def qlb (v:List Int) (l:List Dot) (j:Nat):DSet:=fun s c=>vecD v v.length s c||(l.take j).contains ⟨s,c⟩
theorem qoq {S T:DSet} (h:∀ s,s < 5→∀ c,c < 1024→S s c=T s c):rowD S=rowD T:=qiw ((qfs S T).2 h)
theorem qyg (v:List Int):rowD (fun _ _=>false)=rowD (vecD v 0):=qoq fun s _ c _=>by simp [vecD]
theorem qye (v:List Int) (j:Nat):rowD (vecD v j)=rowD (qkt v j 1):=qoq fun s _ c _=>by
 have:decide (1≤c∧c < 1)=false:=decide_eq_false (by omega);simp only [qkt,this,Bool.and_false,Bool.or_false]
theorem qti (v:List Int) (j c0:Nat) (h:1≤c0):qh1 (qkt v j c0) j c0=qkt v j (c0+1):=by
 funext s c;simp only [qh1,qkt,Bool.or_assoc];congr 1;rw [Bool.eq_iff_iff];simp only [Bool.or_eq_true,Bool.and_eq_true,decide_eq_true_eq];omega
theorem qyf (v:List Int) (j c0:Nat) (hj:j < v.length) (h:(c0:Int)=v[j]+1):rowD (qkt v j c0)=rowD (vecD v (j+1)):=qoq fun s _ c _=>by
 have hv:=qj0 hj;rw [Bool.eq_iff_iff];simp only [qkt,vecD,Bool.or_eq_true,Bool.and_eq_true,decide_eq_true_eq]
 by_cases e:s=j
 ·subst e;omega
 omega
theorem qun (v:List Int) (l:List Dot):rowD (vecD v v.length)=rowD (qlb v l 0):=qoq fun s _ c _=>by simp [qlb]
theorem qps (v:List Int) (l:List Dot) (j s c:Nat) (hj:j < l.length) (h:l[j]=⟨(s:Int),(c:Int)⟩):qh1 (qlb v l j) s c=qlb v l (j+1):=by
 funext t d;simp only [qh1,qlb,Bool.or_assoc];congr 1;rw [← List.take_append_getElem hj,h,Bool.eq_iff_iff];simp only [Bool.or_eq_true,Bool.and_eq_true,decide_eq_true_eq,List.contains_iff_mem,List.mem_append,List.mem_singleton,Dot.mk.injEq]
 by_cases hm:(⟨(t:Int),(d:Int)⟩:Dot)∈l.take j
 ·simp [hm]
 simp only [hm,false_or];omega
theorem qsf (k:Know) (hk:KnowOk k) (s c:Nat):qlb k.vec k.more k.more.length s c=hasK k s c:=by
 rw [Bool.eq_iff_iff];simp only [qlb,vecD,hasK,List.take_length,Bool.or_eq_true,Bool.and_eq_true,decide_eq_true_eq,List.contains_iff_mem];constructor
 ·rintro (⟨⟨h1,_⟩,h3⟩ | h)
  ·exact ⟨h1,.inl h3⟩
  have:=qar.1 (hk.more _ h).1;exact ⟨by simp only at this;omega,.inr h⟩
 rintro ⟨h1,h2 | h2⟩
 ·refine .inl ⟨⟨h1,?_⟩,h2⟩
  apply Nat.lt_of_not_le;intro hn;rw [qkr hn] at h2;omega
 exact .inr h2
theorem ja4 (k:Know) (hk:KnowOk k):rowD (qlb k.vec k.more k.more.length)=rowD (hasK k):=qoq fun s _ c _=>qsf k hk s c
theorem qlk (B:Nat) (k:Know) (Av:Option Addr) (cv:Nat) (Am:Option Addr) (cm:Nat) (w:World) (h:InK B w Av Am k) (hk:KnowOk k) :
  Calls Tryz.prog 106 #[.agg #[.slice Av k.vec.length cv, .slice Am k.more.length cm]] w fun e w'=>e=.returned (.agg (rowD (hasK k)))∧Ext w w':=by
 have HKO:=hid hk;have dh:=hk.vlen;have hm60:=hk.mlen;clear hk;go_enter Tryz.func106, Tryz.ntmps106;go_wp2_with (first
  | ((with_reducible refine qa2 (o:=⟨some 2,_,_,_,_,_⟩) qjp rfl rfl ?_);intro w2 aH aI bC;have p0:w2.cell? ⟨w.heap.size,0,none⟩=some (.slice Av k.vec.length cv):=aH.cell (by go_simp);have p1:w2.cell? ⟨w.heap.size,1,none⟩=some (.slice Am k.more.length cm):=aH.cell (by go_simp))
  | ((with_reducible refine qa2 (o:=⟨some 3,_,_,_,_,_⟩) qjp rfl rfl ?_);intro w3 aM aL bv;have q0:=aM.cell p0;have q1:=aM.cell p1))
 simp only [World.size_alloc] at aI bC;have hx:=(((Ext.refl w).alloc (.cells #[.slice Av k.vec.length cv,.slice Am k.more.length cm] 101)).trans aH).trans aM;replace aI:=aI.ext aM;rw [bC] at aL;rw [qyg k.vec] at aL;clear aH aM bC bv p0 p1;go_loopw [12] (fun i wr=>∃ j:Nat,j≤k.vec.length∧i=.int .i64 j∧Blk wr (w.heap.size+1+1) 184 (rowD (vecD k.vec j))∧Blk wr (w.heap.size+1) 184 (rowD fun _ _=>false)∧Ext w wr∧wr.cell? ⟨w.heap.size,1,none⟩=some (.slice Am k.more.length cm)) (fun i _=>k.vec.length - (intOf i).toNat)
 case atStart=>exact ⟨0,Nat.zero_le _,rfl,aL,aI,hx,q1⟩
 clear aL aI hx q0 q1;obtain ⟨j,hj,rfl,aL,aI,hx,q1⟩:=hrel
 by_cases aD:j < k.vec.length
 ·obtain ⟨b,off,rfl,hb,g0⟩:=(h.sv.ext RInt.mono hx).int aD
  have HLT:=hid aD;have s0:(0:Int)≤j:=by omega
  have s1:(j:Int) < 5:=by omega
  have hnb:=HKO.out.vec _ (List.getElem_mem aD);have HLV:=hid (fun c0=>qyf k.vec j c0 aD);generalize k.vec[j]=n at *;rw [qye] at aL;clear hj;go_wp2_with fail;obtain ⟨wo,rfl⟩:=ex1 wr;go_loopw [6] (fun i wr=>∃ c0:Nat,1≤c0∧(c0:Int)≤n+1∧i=.int .i64 c0∧Blk wr (w.heap.size+1+1) 184 (rowD (qkt k.vec j c0))∧Blk wr (w.heap.size+1) 184 (rowD fun _ _=>false)∧Ext w wr∧wr.cell? ⟨w.heap.size,1,none⟩=some (.slice Am k.more.length cm)) (fun i _=>1001 - (intOf i).toNat)
  case atStart=>exact ⟨1,Nat.le_refl _,by omega,rfl,aL,aI,hx,q1⟩
  clear aL aI hx q1 g0;obtain ⟨c,dH,hcn,rfl,aL,aI,hx,q1⟩:=hrel
  by_cases bD:(c:Int)≤n
  ·have hc:c < 1024:=by omega
   have HC1:=hid dH;have HCN:=hid bD;have HNB:=hid hnb;have hj5:j < 5:=by omega
   obtain ⟨k',hk⟩:∃ k',k'=c / 64:=⟨_,rfl⟩
   obtain ⟨r,hr⟩:=ex1 (c % 64);obtain ⟨p,hp⟩:=ex1 (2 ^ r);obtain ⟨wo,ft⟩:=ex1 (qb3 (qkt k.vec j c) j k');have x1:Int.tdiv (c:Int) 64=(k':Int):=by rw [hk];exact qn2 c 64
   have x2:Int.tmod (c:Int) 64=(r:Int):=by rw [hr];exact qn3 c 64
   have c0:(0:Int)≤k':=by omega
   have c1:(k':Int) < 16:=by omega
   have r0:(0:Int)≤r:=by omega
   have r1:(r:Int) < 64:=by omega
   have ek:IntKind.i64.wrap (k':Int)=(k':Int):=by rw [IntKind.wrap_i64];omega
   have HK:=hid hk;have HR:=hid hr;have HC:=hid hc;have HP:=hid hp;have HWO:=hid ft;have fq:p < 18446744073709551616:=by
    rw [hp];exact Nat.lt_of_lt_of_eq (Nat.pow_lt_pow_right (by omega) (show r < 64 by omega)) rfl
   have eS:IntKind.u64.wrap ((2:Int) ^ r)=(p:Int):=by
    rw [show ((2:Int) ^ r)=((2 ^ r:Nat):Int) by simp,← hp];rw [IntKind.wrap_u64];omega
   obtain ⟨v,hv⟩:=ex1 (wo||| p);have eO:bits .or .u64 (wo:Int) (p:Int)=(v:Int):=by rw [hv];exact bits_or_u64_nat _ _ (by rw [ft];exact qf2 _ _ _) fq
   have HV:=hid hv;clear hc hk hr hp ft hv fq;have q:=aL.cell (qjk _ hj5 (show k' < 16 by omega));rw [← HWO.out] at q;have z:=aL.frozen (j*16+k');clear hj5;go_upto_region 8 with fail;have aA:Ext wr wr.drew:=(Ext.refl _).drew;obtain ⟨wc,aS⟩:=ex1 wr.drew;rw [← aS] at aA;replace aL:=aL.ext aA;replace aI:=aI.ext aA;replace q:=aA.cell q;replace q1:=aA.cell q1;replace z:=aL.frozen (j*16+k');replace hx:=hx.trans aA;refine wp_region_held_drew (S:=fun _=>True) (by kernel_rfl) trivial (fun hHeld=>?_);rw [← aS];clear aS aA;refine tkA 0 _ rfl ?_;(try simp only [gq,pq]);refine tkA 1 _ rfl ?_;(try simp only [gq,pq]);refine tkA 2 _ rfl ?_;(try simp only [gq,pq]);refine tkA 3 _ rfl ?_;(try simp only [gq,pq]);refine tkA 4 _ rfl ?_;(try simp only [gq,pq]);refine tkA 6 _ rfl ?_;(try simp only [gq,pq]);refine tkA 7 _ rfl ?_;(try simp only [gq,pq]);refine tkA 8 _ rfl ?_;(try simp only [gq,pq]);refine tkA 10 _ rfl ?_
   (try simp only [gq,pq]);refine rd1 5 rfl fun K hK=>?_;simp only [gq];go_simp;refine hK.out _ _ hHeld (fun hHeld=>?_);clear hK K;(try simp only [pq]);refine tkA 9 _ rfl ?_;(try simp only [gq,pq]);refine tkA 11 _ rfl ?_;(try simp only [gq,pq]);refine rd1 12 rfl fun K hK=>?_;simp only [gq];go_simp;refine hK.out _ _ trivial (fun hHeld=>?_);clear hK K;(try simp only [pq]);refine wpAnyH_done (by kernel_rfl) ?_ _;have eF:=aL.set (j*16+k') (.int .u64 (v:Int));rw [HV.out,HWO.out,HP.out,HR.out,HK.out,qsz _ HC.out,qti _ _ _ HC1.out,← HK.out,← HR.out,← HP.out,← HWO.out,← HV.out] at eF;replace aI:=aI.far (p:=⟨w.heap.size+1+1,j*16+k',none⟩) (by dsimp only;omega) (.int .u64 (v:Int));replace hx:=hx.setCell (p:=⟨w.heap.size+1+1,j*16+k',none⟩) (by dsimp only;omega) (.int .u64 (v:Int));replace q1:=qag (g:=w.heap.size+1+1) (k:=j*16+k') (v:=.int .u64 (v:Int)) (by omega) q1;obtain ⟨wz,eK⟩:=ex1 (wc.setCell ⟨w.heap.size+1+1,j*16+k',none⟩ (.int .u64 (v:Int)))
   rw [← eK] at eF aI hx q1 ⊢;have hcb:(c:Int) < 1001:=by have:=HCN.out;have:=HNB.out;omega
   clear eK aL q z hHeld;go_wp2_with fail;go_roundw
   case rel=>exact ⟨c+1,by omega,by have:=HCN.out;omega,by go_num,eF,aI,hx,q1⟩
   case measure=>simp [intOf];omega
  have hce:(c:Int)=n+1:=by omega
  rw [HLV.out c hce] at aL;have hcl':decide ((c:Int)≤n)=false:=decide_eq_false bD;clear bD hce hcn;go_wp2_with fail;go_roundw
  case rel=>exact ⟨j+1,HLT.out,by go_num,aL,aI,hx,q1⟩
  case measure=>have:=HLT.out;simp [intOf];omega
 obtain rfl:j=k.vec.length:=by omega
 rw [qun k.vec k.more] at aL;clear hj aD;go_wp2_with fail;obtain ⟨wo,rfl⟩:=ex1 wr;go_loopw [38] (fun i wr=>∃ j:Nat,j≤k.more.length∧i=.int .i64 j∧Blk wr (w.heap.size+1+1) 184 (rowD (qlb k.vec k.more j))∧Blk wr (w.heap.size+1) 184 (rowD fun _ _=>false)∧Ext w wr) (fun i _=>k.more.length - (intOf i).toNat)
 case atStart=>exact ⟨0,Nat.zero_le _,rfl,aL,aI,hx⟩
 clear aL aI hx q1;obtain ⟨j,hj,rfl,aL,aI,hx⟩:=hrel
 by_cases aD:j < k.more.length
 ·obtain ⟨b,off,rfl,hb,g0,g1⟩:=(h.sm.ext RPair.mono hx).pair aD
  have HLT:=hid aD;obtain ⟨o1,o2,o3,o4⟩:=qar.1 (HKO.out.more _ (List.getElem_mem aD)).1;obtain ⟨s,hs⟩:=Int.eq_ofNat_of_zero_le o1;obtain ⟨c,hc⟩:=Int.eq_ofNat_of_zero_le (Int.le_trans (show (0:Int)≤1 by omega) o3);have e8:=hid (qps k.vec k.more j s c aD (Dot.ext' hs hc));rw [hs] at g0 o1 o2;rw [hc] at g1 o3 o4;have bP:s < 5:=by omega
  have hc10:c < 1024:=by omega
  have hw0:w.heap.size+1+1 < wr.heap.size:=aL.lt;have aC:=(Ext.refl wr).alloc (.cells #[.int .i64 (s:Int),.int .i64 (c:Int)] 35);replace aL:=aL.ext aC;replace aI:=aI.ext aC;replace hx:=hx.trans aC;clear hs hc hj aC;go_wp2_with ((with_reducible refine qap (o:=⟨some 42,_,_,_,_,_⟩) qc8 _ rfl rfl rfl aL (qad _) ?_));refine (qnm _ s c _ bP hc10).mono ?_;rintro e w4 ⟨rfl,aj⟩;rw [e8.out];replace aL:=aL.ext aj;replace aI:=aI.ext aj;replace hx:=hx.trans aj;clear aj;go_wp2_with ((with_reducible refine qau (o:=⟨none,_,_,_,_,_⟩) qc8 _ _ rfl rfl rfl rfl aL (qad _) (qad _) (qgc _) ?_);intro w9 bY ao bw bk);go_roundw
  case rel=>exact ⟨j+1,HLT.out,by go_num,ao,aI.below bY (by omega),hx.below bY (by omega)⟩
  case measure=>have:=HLT.out;simp [intOf];omega
 obtain rfl:j=k.more.length:=by omega
 rw [ja4 k HKO.out] at aL;clear aD hj;go_wp2_with (first
  | ((with_reducible refine qap (o:=⟨some 46,_,_,_,_,_⟩) qc8 _ rfl rfl rfl aL (qad _) ?_))
  | ((with_reducible refine qau (o:=⟨none,_,_,_,_,_⟩) qc8 _ _ rfl rfl rfl rfl aI (qad _) (qad _) (qgc _) ?_);intro w9 bY ao bw bk))
 exact qif rfl qc8 rfl ao (qad _) rfl ⟨rfl,hx.below bY (by omega)⟩
end Go.Proofs.YtngbfdogiciahaaGreat
