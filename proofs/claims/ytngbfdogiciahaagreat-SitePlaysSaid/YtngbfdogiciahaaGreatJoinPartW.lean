/- Texts joined. -/
import Derived.Test.YtngbfdogiciahaaGreatKnR
set_option maxRecDepth 100000
set_option maxHeartbeats 40000000
namespace Go.Proofs.YtngbfdogiciahaaGreat
open Go Go.RowKit
theorem qgu (B:Nat) (A:Option Addr) (c:Nat) (l:List Part) (w:World) (hl:l.length≤maxLen) (h:qcg B w A l) :
  Calls Tryz.prog 103 #[.slice A l.length c] w fun e w'=>e=.returned (.int .i64 (qac l))∧Ext w w':=by
 unfold maxLen at hl
 by_cases h30:30 < l.length
 ·go_enter Tryz.func103, Tryz.ntmps103
  go_wp2_with fail;go_ret;exact ⟨qa8 (by simp [qac,h30]),Ext.refl _⟩
 have HE:=hid (show qac l=qdp l by simp [qac,h30]);go_enter Tryz.func103, Tryz.ntmps103;go_wp2_with fail;go_loopw [12] (fun i wr=>∃ k:Nat,k≤l.length∧i=.int .i64 k∧qdp (l.drop k)=qdp l∧Ext w wr) (fun i _=>l.length - (intOf i).toNat)
 case atStart=>exact ⟨0,Nat.zero_le _,rfl,rfl,Ext.refl _⟩
 obtain ⟨k,hk,rfl,hG,hx⟩:=hrel;have HG:=hid hG;clear hG
 by_cases aD:k < l.length
 ·obtain ⟨b,off,Af,cf,Av,cv,Am,cm,rfl,hb,g0,g1,g2,hp⟩:=(h.ext RPart.monoE hx).part aD
  have HS:=hid (qma l k aD);have HP:=hid hp;clear hp;go_wp2_with fail;refine (qcr B Af cf l[k].filter _ HP.out.lf (HP.out.sf.ext RBox.monoE ((Ext.refl wr).alloc _))).mono ?_;rintro e w1 ⟨rfl,aE⟩;have q1:w1.cell? ⟨wr.heap.size,1,none⟩=some (.slice Av l[k].know.vec.length cv):=aE.cell (by go_simp);have q2:w1.cell? ⟨wr.heap.size,2,none⟩=some (.slice Am l[k].know.more.length cm):=aE.cell (by go_simp);have hxr:Ext wr w1:=((Ext.refl wr).alloc _).trans aE;have HK:=hid (HP.out.k.ext hxr);replace hx:=hx.trans hxr;clear aE hxr
  by_cases hc:qa0 l[k].filter=0
  ·rw [hc]
   have HC:=hid hc;clear hc;go_wp2_with fail;refine (qem B l[k].know Av cv Am cm _ HK.out).mono ?_;rintro e w2 ⟨rfl,aH⟩;replace hx:=hx.trans aH
   by_cases hd:qa4 l[k].know=0
   ·rw [hd]
    have HD:=hid hd;clear hd;go_wp2_with fail;go_roundw
    case rel=>exact ⟨k+1,aD,by go_num,by rw [← HG.out,HS.out,if_pos HC.out,if_pos HD.out],hx⟩
    case measure=>simp [intOf];omega
   have aV:(qa4 l[k].know !=0)=true:=by simpa using hd
   have HD:=hid hd;clear hd;go_wp2_with fail;go_ret;exact ⟨qa8 (by rw [HE.out,← HG.out,HS.out,if_pos HC.out,if_neg HD.out]),hx⟩
  have aV:(qa0 l[k].filter !=0)=true:=by simpa using hc
  have HC:=hid hc;clear hc;go_wp2_with fail;go_ret;exact ⟨qa8 (by rw [HE.out,← HG.out,HS.out,if_neg HC.out]),hx⟩
 obtain rfl:k=l.length:=by omega
 go_wp2_with fail;go_ret;exact ⟨qa8 (by rw [HE.out,← HG.out];simp [qdp]),hx⟩
theorem qsx (B:Nat) (A:Option Addr) (c:Nat) (l:List Part) (w:World) (hl:l.length≤maxLen) (h:qcg B w A l) :
  Calls Tryz.prog 44 #[.slice A l.length c] w fun e w'=>e=.returned (.int .i64 (qac l))∧Ext w w':=by
 unfold maxLen at hl
 by_cases h30:30 < l.length
 ·go_enter Tryz.func44, Tryz.ntmps44
  go_wp2_with fail;go_ret;exact ⟨qa8 (by simp [qac,h30]),Ext.refl _⟩
 have HE:=hid (show qac l=qdp l by simp [qac,h30]);go_enter Tryz.func44, Tryz.ntmps44;go_wp2_with fail;go_loopw [12] (fun i wr=>∃ k:Nat,k≤l.length∧i=.int .i64 k∧qdp (l.drop k)=qdp l∧Ext w wr) (fun i _=>l.length - (intOf i).toNat)
 case atStart=>exact ⟨0,Nat.zero_le _,rfl,rfl,Ext.refl _⟩
 obtain ⟨k,hk,rfl,hG,hx⟩:=hrel;have HG:=hid hG;clear hG
 by_cases aD:k < l.length
 ·obtain ⟨b,off,Af,cf,Av,cv,Am,cm,rfl,hb,g0,g1,g2,hp⟩:=(h.ext RPart.monoE hx).part aD
  have HS:=hid (qma l k aD);have HP:=hid hp;clear hp;go_wp2_with fail;refine (qfm B Af cf l[k].filter _ HP.out.lf (HP.out.sf.ext RBox.monoE ((Ext.refl wr).alloc _))).mono ?_;rintro e w1 ⟨rfl,aE⟩;have q1:w1.cell? ⟨wr.heap.size,1,none⟩=some (.slice Av l[k].know.vec.length cv):=aE.cell (by go_simp);have q2:w1.cell? ⟨wr.heap.size,2,none⟩=some (.slice Am l[k].know.more.length cm):=aE.cell (by go_simp);have hxr:Ext wr w1:=((Ext.refl wr).alloc _).trans aE;have HK:=hid (HP.out.k.ext hxr);replace hx:=hx.trans hxr;clear aE hxr
  by_cases hc:qa0 l[k].filter=0
  ·rw [hc]
   have HC:=hid hc;clear hc;go_wp2_with fail;refine (qmw B l[k].know Av cv Am cm _ HK.out).mono ?_;rintro e w2 ⟨rfl,aH⟩;replace hx:=hx.trans aH
   by_cases hd:qa4 l[k].know=0
   ·rw [hd]
    have HD:=hid hd;clear hd;go_wp2_with fail;go_roundw
    case rel=>exact ⟨k+1,aD,by go_num,by rw [← HG.out,HS.out,if_pos HC.out,if_pos HD.out],hx⟩
    case measure=>simp [intOf];omega
   have aV:(qa4 l[k].know !=0)=true:=by simpa using hd
   have HD:=hid hd;clear hd;go_wp2_with fail;go_ret;exact ⟨qa8 (by rw [HE.out,← HG.out,HS.out,if_pos HC.out,if_neg HD.out]),hx⟩
  have aV:(qa0 l[k].filter !=0)=true:=by simpa using hc
  have HC:=hid hc;clear hc;go_wp2_with fail;go_ret;exact ⟨qa8 (by rw [HE.out,← HG.out,HS.out,if_neg HC.out]),hx⟩
 obtain rfl:k=l.length:=by omega
 go_wp2_with fail;go_ret;exact ⟨qa8 (by rw [HE.out,← HG.out];simp [qdp]),hx⟩
theorem jd4 (B b0 b1:Nat) (x:Part) (Af:Option Addr) (cf:Nat) (Av:Option Addr) (cv:Nat) (Am:Option Addr) (cm:Nat) (p:Point) (d:Dot) (w:World) (hp:qaz p=true) (hd:qb8 d=true) (hx:PartOk x) (hi:InP B w Af cf Av cv Am cm x)
  (p0:w.cell? ⟨b0,0,none⟩=some (.int .i64 p.tags)) (p1:w.cell? ⟨b0,1,none⟩=some (.int .i64 p.num)) (d0:w.cell? ⟨b1,0,none⟩=some (.int .i64 d.site)) (d1:w.cell? ⟨b1,1,none⟩=some (.int .i64 d.count)) :
  Calls Tryz.prog 168 #[.agg #[.slice Af x.filter.length cf,.slice Av x.know.vec.length cv,.slice Am x.know.more.length cm],.pointer (some ⟨b0,0,none⟩),.pointer (some ⟨b1,0,none⟩)] w fun e w'=>e=.returned (.bool (qpw p d x))∧Ext w w':=by
 have hz0:b0 < w.heap.size:=World.block_lt_of_cell? _ _ p0;have hz1:b1 < w.heap.size:=World.block_lt_of_cell? _ _ d0;have HI:=hid hi;have HX:=hid hx;have HP:=hid hp;have HD:=hid hd;clear hi hx hp hd;go_enter Tryz.func168, Tryz.ntmps168;go_wp2_with fail;refine (qnx B Af cf x.filter p _ HI.out.lf (qah HX.out.f).2 HP.out (HI.out.sf.ext RBox.monoE ((Ext.refl w).alloc _))).mono ?_;rintro e w1 ⟨rfl,aE⟩;have q1:w1.cell? ⟨w.heap.size,1,none⟩=some (.slice Av x.know.vec.length cv):=aE.cell (by go_simp);have q2:w1.cell? ⟨w.heap.size,2,none⟩=some (.slice Am x.know.more.length cm):=aE.cell (by go_simp);have aC:=((Ext.refl w).alloc (.cells #[.slice Af x.filter.length cf,.slice Av x.know.vec.length cv,.slice Am x.know.more.length cm] 181)).trans aE;replace d0:=aC.cell d0;replace d1:=aC.cell d1;have HE:=hid (show qpw p d x=(qbd x.filter p&&inK x.know d) from rfl);clear aE p0 p1
 cases hI:qbd x.filter p
 ·have HF:=hid hI
  clear hI;go_wp2_with fail;go_ret;exact ⟨qa7 (by rw [HE.out,HF.out];rfl),aC⟩
 have HF:=hid hI;clear hI;go_wp2_with fail;refine (qqq B x.know Av cv Am cm d _ (HI.out.k.ext aC) HX.out.k HD.out).mono ?_;rintro e w2 ⟨rfl,aH⟩;go_wp2_with fail;go_ret;exact ⟨qa7 (by rw [HE.out,HF.out];rfl),aC.trans aH⟩
theorem que (B:Nat) (fn:FuncId) (cap:Array Value) (A:Option Addr) (c:Nat) (f:List Part) (p:Part→Bool) (w:World) (hl:f.length≤maxLen) (h:qcg B w A f)
  (hc:∀ (args:Array Value) (wn:World),(callFunc fn args).run Tryz.prog wn=.ok (.enter fn args) wn)
  (hf:∀ (k:Nat) (hk:k < f.length) (Af:Option Addr) (cf:Nat) (Av:Option Addr) (cv:Nat) (Am:Option Addr) (cm:Nat) (wn:World),Ext w wn→InP B wn Af cf Av cv Am cm f[k]→
   Calls Tryz.prog fn (#[.agg #[.slice Af f[k].filter.length cf,.slice Av f[k].know.vec.length cv,.slice Am f[k].know.more.length cm]]++cap) wn fun e w'=>e=.returned (.bool (p f[k]))∧Ext wn w') :
  Calls Tryz.prog 201 #[.slice A f.length c,.func (.func fn) #[] cap] w fun e w'=>∃ i:Int,e=.returned (.int .i64 i)∧decide (0≤i)=f.any p∧Ext w w':=by
 unfold maxLen at hl;have HF:=hid hf;clear hf;go_enter Tryz.func201, Tryz.ntmps201;go_wp2_with fail;go_loopw [8] (fun i wr=>∃ k:Nat,k≤f.length∧i=.int .i64 k∧(f.take k).any p=false∧Ext w wr) (fun i _=>f.length - (intOf i).toNat)
 case atStart=>exact ⟨0,Nat.zero_le _,rfl,rfl,Ext.refl _⟩
 obtain ⟨k,hk,rfl,hG,hx⟩:=hrel;have HG:=hid hG;clear hG
 by_cases aD:k < f.length
 ·obtain ⟨b,off,Af,cf,Av,cv,Am,cm,rfl,hb,g0,g1,g2,hp⟩:=(h.ext RPart.monoE hx).part aD
  have HS:=hid (qjr p f k aD);go_wp2_with fail;refine (HF.out k aD Af cf Av cv Am cm _ hx hp).mono ?_;rintro e w1 ⟨rfl,aE⟩
  cases hp:p f[k]
  ·have HP:=hid hp
   clear hp;go_wp2_with fail;go_roundw
   case rel=>exact ⟨k+1,aD,by go_num,by rw [HS.out,HG.out,HP.out];rfl,hx.trans aE⟩
   case measure=>simp [intOf];omega
  have HP:=hid hp;clear hp;go_wp2_with fail;go_ret;exact ⟨k,rfl,by rw [List.any_eq_true.2 ⟨f[k],List.getElem_mem aD,HP.out⟩];simp,hx.trans aE⟩
 obtain rfl:k=f.length:=by omega
 rw [List.take_length] at HG;go_wp2_with fail;go_ret;exact ⟨-1,rfl,by rw [HG.out];rfl,hx⟩
theorem qpb (B:Nat) (fn:FuncId) (cap:Array Value) (A:Option Addr) (c:Nat) (f:List Part) (p:Part→Bool) (w:World) (hl:f.length≤maxLen) (h:qcg B w A f)
  (hc:∀ (args:Array Value) (wn:World),(callFunc fn args).run Tryz.prog wn=.ok (.enter fn args) wn)
  (hf:∀ (k:Nat) (hk:k < f.length) (Af:Option Addr) (cf:Nat) (Av:Option Addr) (cv:Nat) (Am:Option Addr) (cm:Nat) (wn:World),Ext w wn→InP B wn Af cf Av cv Am cm f[k]→
   Calls Tryz.prog fn (#[.agg #[.slice Af f[k].filter.length cf,.slice Av f[k].know.vec.length cv,.slice Am f[k].know.more.length cm]]++cap) wn fun e w'=>e=.returned (.bool (p f[k]))∧Ext wn w') :
  Calls Tryz.prog 167 #[.slice A f.length c,.func (.func fn) #[] cap] w fun e w'=>e=.returned (.bool (f.any p))∧Ext w w':=by
 have HF:=hid hf;clear hf;go_enter Tryz.func167, Tryz.ntmps167;go_wp2_with fail;refine (que B fn cap A c f p _ hl h hc HF.out).mono ?_;rintro e w1 ⟨i,rfl,hi,hx⟩;go_wp2_with fail;go_ret;exact ⟨qa7 rfl,hx⟩
theorem jf6 (B:Nat) (A:Option Addr) (c:Nat) (l:List Part) (p:Point) (d:Dot) (w:World) (hl:l.length≤maxLen) (aO:∀ x∈l,PartOk x) (hp:qaz p=true) (hd:qb8 d=true) (h:qcg B w A l) :
  Calls Tryz.prog 104 #[.slice A l.length c,.agg #[.int .i64 p.tags,.int .i64 p.num],.agg #[.int .i64 d.site,.int .i64 d.count]] w fun e w'=>e=.returned (.bool (qdd l p d))∧Ext w w':=by
 have aZ:=hid aO;have HP:=hid hp;have HD:=hid hd;clear aO hp hd;have HE:=hid (show qdd l p d=l.any (qpw p d) from rfl);go_enter Tryz.func104, Tryz.ntmps104;go_wp2_with fail;have aY:=((Ext.refl w).alloc (.cells #[.int .i64 p.tags,.int .i64 p.num] 40)).alloc (.cells #[.int .i64 d.site,.int .i64 d.count] 35);refine (qpb B 168 #[.pointer (some ⟨w.heap.size,0,none⟩),.pointer (some ⟨w.heap.size+1,0,none⟩)] A c l (qpw p d) _ hl (h.ext RPart.monoE aY) Tryz.call168 (fun k hk Af cf Av cv Am cm wn dQ hi=>jd4 B w.heap.size (w.heap.size+1) l[k] Af cf Av cv Am cm p d wn HP.out HD.out (aZ.out _ (List.getElem_mem hk)) hi (dQ.cell (by go_simp)) (dQ.cell (by go_simp)) (dQ.cell (by go_simp)) (dQ.cell (by go_simp)))).mono ?_;rintro e w1 ⟨rfl,hx⟩;go_wp2_with fail;go_ret;exact ⟨qa7 HE.out.symm,aY.trans hx⟩
theorem qtz (B:Nat) (A:Option Addr) (c:Nat) (l:List Span) (w:World) (hl:l.length≤1000000) (h:Sl B 137 (RPair Span.fr Span.to) 2 w A l) :
  Calls Tryz.prog 136 #[.slice A l.length c] w fun e w'=>∃ v,e=.returned v∧Own (RPair Span.fr Span.to) 2 137 w' w.heap.size v l∧Ext w w':=by
 cases A with
 | none=>
  obtain rfl:l=[]:=Sl.none_nil h;have he:∀ w:World,(binOp .eql 138 (.slice none 0 c) (.slice none 0 0)).run Tryz.prog w=.ok (.bool true) w:=fun _=>rfl;go_enter Tryz.func136, Tryz.ntmps136;go_wp2_with fail;go_ret;exact ⟨_,rfl,Own.nil,Ext.refl _⟩
 | some a=>
  have he:∀ w:World,(binOp .eql 138 (.slice (some a) l.length c) (.slice none 0 0)).run Tryz.prog w=.ok (.bool false) w:=fun _=>rfl;have aY:=(Ext.refl w).alloc (.cells #[] 137);go_enter Tryz.func136, Tryz.ntmps136;go_wp2_with (at_builtin;refine qaf (ys:=l) (B:=w.heap.size) rfl _ _ rfl qqi rfl (Own.empty (Nat.le_refl _)) (Nat.le_refl _) aY.size rfl (h.ext RPair.mono aY) RPair.oneC RPair.mono ?_ ?_ ?_)
  ·simp [maxLen];omega
  ·simp;omega
  intro v w2 ho hc hb _;have hx:=aY.below hb (Nat.le_refl _);clear hc hb;go_wp2_with fail;go_ret;exact ⟨_,rfl,ho,hx⟩
theorem qha (B:Nat) (A:Option Addr) (c:Nat) (f:List Box) (w:World) (hB:B≤w.heap.size) (hl:f.length≤100000) (hs:∀ b∈f,b.spans.length≤1000000) (h:qaw B w A f) :
  Calls Tryz.prog 82 #[.slice A f.length c] w fun e w'=>∃ v,e=.returned v∧qdo B w' v f∧Ext w w':=by
 have HS:=hid hs;clear hs;go_enter Tryz.func82, Tryz.ntmps82;go_wp2_with fail;go_loopw [3,8] (fun o i wr=>∃ k:Nat,k≤f.length∧i=.int .i64 k∧Own (RBox B) 3 142 wr w.heap.size o (f.take k)∧Ext w wr) (fun _ i _=>f.length - (intOf i).toNat)
 case atStart=>exact ⟨0,Nat.zero_le _,rfl,Own.nil,Ext.refl _⟩
 obtain ⟨k,hk,rfl,ho,hx⟩:=hrel
 by_cases aD:k < f.length
 ·obtain ⟨b,off,A',c',rfl,aw,g0,g1,g2,bW,hsp⟩:=(h.ext RBox.monoE hx).box aD
  have hl1:=hid (show (f.take k).length+1≤100000 by rw [List.length_take];omega);have aC:=(Ext.refl wr).alloc (.cells #[.int .i64 f[k].cube.yes,.int .i64 f[k].cube.no,.slice A' f[k].spans.length c'] 142);go_wp2_with fail;refine (qtz B A' c' f[k].spans _ (HS.out _ (List.getElem_mem aD)) (hsp.ext RPair.mono aC)).mono ?_;rintro e w1 ⟨v,rfl,hv,aE⟩;obtain ⟨Av,cv,rfl,hvc,hvm⟩:=hv.len;have p0:w1.cell? ⟨wr.heap.size,0,none⟩=some (.int .i64 f[k].cube.yes):=aE.cell (by go_simp);have p1:w1.cell? ⟨wr.heap.size,1,none⟩=some (.int .i64 f[k].cube.no):=aE.cell (by go_simp);have p2:w1.cell? ⟨wr.heap.size,2,none⟩=some (.slice A' f[k].spans.length c'):=aE.cell (by go_simp);have pz:w1.frozen? ⟨wr.heap.size,2,none⟩=false:=by rw [aE.frozenAt (by simp)];go_simp
  have pt:tyAt w1 wr.heap.size=some 142:=by rw [qep (aE.blockAt (by simp))];unfold tyAt;rw [heap_alloc_new]
  have hz:wr.heap.size < w1.heap.size:=World.block_lt_of_cell? _ _ p0;have hwr:=hx.size;have bC:Ext wr (w1.setCell ⟨wr.heap.size,2,none⟩ (.slice Av f[k].spans.length cv)):=(aC.trans aE).setCell (Nat.le_refl _) _;have bv:Chg B [142] w1 (w1.setCell ⟨wr.heap.size,2,none⟩ (.slice Av f[k].spans.length cv)):=(Chg.refl w1).setCell (p:=⟨wr.heap.size,2,none⟩) pt (by simp) _ (by show B≤wr.heap.size;omega);have hsl2:qn8 B (w1.setCell ⟨wr.heap.size,2,none⟩ (.slice Av f[k].spans.length cv)) (.slice Av f[k].spans.length cv) f[k].spans:=(hv.isSl B).chg RPair.mono (by decide) bv;replace hx:=hx.trans bC;replace ho:=ho.ext RBox.monoE bC;have aN:qaw B ((w1.setCell ⟨wr.heap.size,2,none⟩ (.slice Av f[k].spans.length cv)).alloc (.cells #[.int .i64 f[k].cube.yes,.int .i64 f[k].cube.no,.slice Av f[k].spans.length cv] 142)) (some ⟨w1.heap.size,0,none⟩) [f[k]]:=by
   have:=Sl.one (R:=RBox B) (B:=B) (e:=142) (sz:=3) (w:=w1.setCell ⟨wr.heap.size,2,none⟩ (.slice Av f[k].spans.length cv)) (cs:=[.int .i64 f[k].cube.yes,.int .i64 f[k].cube.no,.slice Av f[k].spans.length cv]) (y:=f[k]) rfl rfl ⟨_,rfl,hsl2.ext RPair.mono ((Ext.refl _).alloc _)⟩;rwa [World.size_setCell] at this
  clear hv aE aC bC bv pt;go_wp2_with (at_builtin;refine qaf (ys:=[f[k]]) rfl _ _ rfl jeb rfl (ho.ext (B:=B) RBox.monoE ((Ext.refl _).alloc _)) hB (hx.alloc _).size rfl aN RBox.oneC (RBox.mono (by decide)) ?_ ?_ ?_)
  ·have:=hl1.out;simp [maxLen] at this ⊢;omega
  ·have:=hl1.out;simp at this ⊢;omega
  intro v2 w3 aR ad aI _;have aM:=(hx.alloc (.cells #[.int .i64 f[k].cube.yes,.int .i64 f[k].cube.no,.slice Av f[k].spans.length cv] 142)).below aI (Nat.le_refl _);clear ad aI hx;go_wp2_with fail;go_roundw
  case rel=>exact ⟨k+1,by omega,by go_num,aR,aM⟩
  case measure=>simp [intOf];omega
 obtain rfl:k=f.length:=by omega
 rw [List.take_length] at ho;go_wp2_with fail;go_ret;exact ⟨_,rfl,ho.isSl B,hx⟩
def RDots (B:Nat) (w:World) (cs:List Value) (l:List Dot):Prop:=∃ v,cs=[v]∧IsDots B w v l
theorem RDots.monoE {B:Nat}:Mono B [] (RDots B):=by
 rintro w w' cs l x ⟨v,rfl,h⟩;exact ⟨v,rfl,h.chg RPair.mono (by simp) x⟩
abbrev qqb (B:Nat):=Sl B 99 (RDots B) 1
theorem Sl.dots {B:Nat} {w:World} {A:Option Addr} {l:List (List Dot)} (h:qqb B w A l) {i:Nat} (hi:i < l.length) :
  ∃ b off A' c,A=some ⟨b,off,none⟩∧b < w.heap.size∧w.cell? ⟨b,off+i,none⟩=some (.slice A' l[i].length c)∧qgm B w A' l[i]:=by
 obtain ⟨b,off,cs,hA,hb,_,hc,v,rfl,A',c,rfl,_,_,hs⟩:=h.at_ hi;have:=hc 0 _ rfl;simp only [Nat.mul_one,Nat.add_zero] at this;exact ⟨b,off,A',c,hA,hb,this,hs⟩
theorem jew {P:Program} {e:TypeId} {z:Value} {sz bytes:Nat} (hi:(P.info? e).map (fun i=>(i.zero,i.size,i.bytes))=some (some z,sz,bytes)):∃ i,P.info? e=some i∧i.zero=some z∧i.size=sz∧i.bytes=bytes:=by
 cases h:P.info? e with
 | none=>rw [h] at hi;cases hi
 | some i=>
  rw [h] at hi;simp only [Option.map_some,Option.some.injEq,Prod.mk.injEq] at hi;exact ⟨i,rfl,hi.1,hi.2.1,hi.2.2⟩
theorem jgq:∃ i,Tryz.prog.info? 35=some i∧i.zero=some (.agg #[.int .i64 0,.int .i64 0])∧i.size=2∧i.bytes=16:=jew (by kernel_rfl)
theorem Own.room {α:Type} {R:World→List Value→α→Prop} {sz:Nat} {e:TypeId} {w:World} {cs:Array Value} {base cap:Nat} (hb:base≤w.heap.size) (hm:cap≤maxLen) (hs:cs.size=cap*sz) :
  Own R sz e (w.alloc (.cells cs e)) base (.slice (some ⟨w.heap.size,0,none⟩) 0 cap) ([]:List α):=by
 refine ⟨[],rfl,by intro i cs x h;simp at h,by simp,.inr ⟨w.heap.size,cap,cs,rfl,hb,heap_alloc_new w _,Nat.zero_le _,hm,hs,by simp⟩⟩
theorem qzh (n:Nat) (w:World) (hn:n≤1000000) :
  Calls Tryz.prog 249 #[.slice none 0 0,.int .i64 (n:Int)] w fun e w'=>∃ v,e=.returned v∧Own RDot 2 35 w' w.heap.size v []∧Ext w w':=by
 have h1:decide ((n:Int) < 0)=false:=decide_eq_false (by omega);have h2:IntKind.i64.wrap (n:Int)=(n:Int):=by rw [IntKind.wrap_i64];omega
 by_cases h0:n=0
 ·subst h0
  go_enter Tryz.func249, Tryz.ntmps249;go_wp2_with fail;go_ret;exact ⟨_,rfl,Own.nil,Ext.refl _⟩
 have h3:decide ((0:Int) < n)=true:=decide_eq_true (by omega);have h4:0 < n:=by omega
 obtain ⟨i,hi,hz,hs,hb⟩:=jgq;have hr:=fun ty=>Lib.run_append_nil_zeros w 99 3 ty 35 i _ .i64 .i64 Tryz.underlying99 Tryz.underlying3 hi hz n h4 (by omega) (by omega) (by rw [hb];omega);have hg:=grownCap_ge w n 0 35;have hgm:=grownCap_le_maxLen w n 0 35 (by unfold maxLen;omega);generalize grownCap w n 0 35=G at *;have aW:(Builtin.zeroCells (Value.agg #[.int .i64 0,.int .i64 0]).cells n++Builtin.zeroCells (Value.agg #[.int .i64 0,.int .i64 0]).cells (G - n)).size=G*2:=by
  rw [Array.size_append,size_zeroCells,size_zeroCells,← Nat.add_mul];show (n+(G - n))*2=G*2;omega
 generalize Builtin.zeroCells (Value.agg #[.int .i64 0,.int .i64 0]).cells n++Builtin.zeroCells (Value.agg #[.int .i64 0,.int .i64 0]).cells (G - n)=cells at *;have HS:=hid aW;have HG:=hid hgm;have hG0:(0:Int)≤G:=by omega
 clear hi hz hs hb aW hgm h0;go_enter Tryz.func249, Tryz.ntmps249;go_wp2_with (at_builtin;refine Lib.wpList_append_run _ rfl _ _ _ _ rfl _ _ rfl rfl _ _ (hr _) ?_);go_ret;exact ⟨_,rfl,Own.room (w:=w.drew) (Nat.le_refl _) HG.out HS.out,(Ext.refl _).drew.alloc _⟩
theorem qs3 (ls:List (List Dot)) (j:Nat) (hj:j < ls.length):(ls.take (j+1)).flatten=(ls.take j).flatten++ls[j]:=by
 rw [← List.take_append_getElem hj,List.flatten_append,List.flatten_cons,List.flatten_nil,List.append_nil]
theorem je6 {n:Nat} (h:n≤1000000):IntKind.i64.wrap (n:Int)=(n:Int):=by rw [IntKind.wrap_i64];omega
theorem qzd (ls:List (List Dot)) (j:Nat):(ls.take j).flatten.length≤ls.flatten.length:=by
 have h:ls.flatten=(ls.take j).flatten++(ls.drop j).flatten:=by rw [← List.flatten_append,List.take_append_drop]
 rw [h,List.length_append];omega
theorem qjc (B:Nat) (A:Option Addr) (c:Nat) (ls:List (List Dot)) (w:World) (hB:B≤w.heap.size) (h:qqb B w A ls) (hl:ls.length≤1000) (hf:ls.flatten.length≤10000) :
  Calls Tryz.prog 242 #[.slice A ls.length c] w fun e w'=>∃ v,e=.returned v∧Own RDot 2 35 w' w.heap.size v ls.flatten∧Ext w w':=by
 have HF:=hid hf;clear hf;go_enter Tryz.func242, Tryz.ntmps242;go_wp2_with fail;go_loopw [11,3] (fun i n wr=>∃ j:Nat,j≤ls.length∧i=.int .i64 j∧n=.int .i64 ((ls.take j).flatten.length:Nat)∧wr=w) (fun i _ _=>ls.length - (intOf i).toNat)
 case atStart=>exact ⟨0,Nat.zero_le _,rfl,rfl,rfl⟩
 obtain ⟨j,hj,rfl,rfl,rfl⟩:=hrel
 by_cases aD:j < ls.length
 ·obtain ⟨b,off,A',c',rfl,_,g0,bW⟩:=h.dots aD
  have dO:=qs3 ls j aD;have cZ:=qzd ls (j+1);have hfb:=HF.out;have ag:(ls.take (j+1)).flatten.length=(ls.take j).flatten.length+ls[j].length:=by rw [dO,List.length_append]
  rw [ag] at cZ;have HL:=hid ag;generalize (ls.take j).flatten.length=a at *;generalize ls[j].length=x at *;obtain ⟨t,ht⟩:=ex1 (a+x);have htl:t≤1000000:=by omega
  have es:(a:Int)+(x:Int)=(t:Int):=by omega
  have ew:=je6 htl;have hn:decide ((t:Int) < 0)=false:=decide_eq_false (by omega);have HT:=hid ht;clear dO ag cZ bW hfb ht htl;go_wp2_with fail;go_roundw
  case rel=>exact ⟨j+1,aD,by go_num,by rw [HL.out,← HT.out],trivial⟩
  case measure=>simp [intOf];omega
 obtain rfl:j=ls.length:=by omega
 rw [List.take_length];have hfb:=HF.out;generalize hn:ls.flatten.length=n at *;have HN:=hid hn;clear hn aD hj;go_wp2_with fail;refine (qzh n wr (by omega)).mono ?_;rintro e w1 ⟨v,rfl,aQ,hx⟩;have hB1:=Nat.le_trans hB hx.size;obtain ⟨ws,bz⟩:=ex1 wr.heap.size;rw [← bz] at aQ;have aW:ws≤w1.heap.size:=by rw [bz];exact hx.size
 have HH:=hid h;have HW:=hid (show wr.heap.size≤ws from Nat.le_of_eq bz.symm);obtain ⟨wo,rfl⟩:=ex1 wr;have HQ:=hid (show ws=wo.heap.size from bz);clear bz h;go_wp2_with fail;go_loopw [27,6] (fun i v wr=>∃ j:Nat,j≤ls.length∧i=.int .i64 j∧Own RDot 2 35 wr ws v (ls.take j).flatten∧Ext wo wr∧ws≤wr.heap.size) (fun i _ _=>ls.length - (intOf i).toNat)
 case atStart=>exact ⟨0,Nat.zero_le _,rfl,aQ,hx,aW⟩
 clear aQ hx aW;obtain ⟨j,hj,rfl,aQ,hx,aW⟩:=hrel
 by_cases aD:j < ls.length
 ·obtain ⟨b,off,A',c',rfl,_,g0,bW⟩:=(HH.out.ext RDots.monoE hx).dots aD
  have dO:=hid (qs3 ls j aD);have cZ:=qzd ls (j+1);rw [dO.out,List.length_append] at cZ;have hfb:=HF.out;have hnn:=HN.out;have cO:(ls.take j).flatten.length+ls[j].length≤maxLen:=by unfold maxLen;omega
  have cI:((ls.take j).flatten.length+ls[j].length)*16≤140737488355328:=by omega
  have hBs:B≤ws:=by rw [HQ.out];exact hB
  clear cZ hfb hnn hj;go_wp2_with (at_builtin;refine qaf (c:=c') (ys:=ls[j]) (B:=B) rfl _ _ rfl qi2 rfl aQ hBs aW rfl bW RPair.oneC RPair.mono cO cI ?_;intro v2 w2 aR _ aI _);rw [← dO.out] at aR;have bC:=Nat.le_trans aW (Below.size aI);have aH:=hx.below aI HW.out;clear aQ hx aW aI cO cI hBs bW g0;go_wp2_with fail;go_roundw
  case rel=>exact ⟨j+1,aD,by go_num,aR,aH,bC⟩
  case measure=>simp [intOf];omega
 obtain rfl:j=ls.length:=by omega
 rw [List.take_length] at aQ;clear aD hj;go_wp2_with fail;go_ret;exact ⟨_,rfl,HQ.out ▸ aQ,hx⟩
end Go.Proofs.YtngbfdogiciahaaGreat
