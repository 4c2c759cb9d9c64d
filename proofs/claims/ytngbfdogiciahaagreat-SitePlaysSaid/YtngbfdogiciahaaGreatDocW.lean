/- The document's Site: how it lies in memory, what it says of ours; the walks of every and Known. -/
import Derived.Test.YtngbfdogiciahaaGreatJoinWireQ
import Derived.Test.YtngbfdogiciahaaGreatFewT
set_option maxRecDepth 100000
set_option maxHeartbeats 40000000
namespace Go.Proofs.YtngbfdogiciahaaGreat
open Go Go.RowKit
def ownD (me n:Nat):DSet:=fun t d=>decide (t=me)&&(decide (1≤d)&&decide (d≤n))
def ownR (me n:Nat):RP:=⟨fun _=>true,ownD me n⟩
theorem jae (me n:Nat):qh1 (ownD me n) me (n+1)=ownD me (n+1):=by
 funext t d;unfold qh1 ownD
 by_cases h:t=me
 ·by_cases h1:d=n+1
  ·simp [h,h1]
  simp only [h,decide_true,Bool.true_and,h1,decide_false,Bool.and_false,Bool.or_false];congr 1;simp only [decide_eq_decide];omega
 simp [h]
theorem jaf (me:Nat):ownD me 0=fun _ _=>false:=by
 funext t d;unfold ownD
 by_cases h:1≤d
 ·simp [show ¬ d≤0 by omega]
 simp [h]
theorem jd3 (me n:Nat):hasK ⟨ownV (me:Int) (n:Int),[]⟩=ownD me n:=by
 funext t d;unfold hasK ownD qab ownV;simp only [List.contains_nil,Bool.or_false,Int.toNat_natCast]
 by_cases h:1≤d
 ·rw [decide_eq_true h,Bool.true_and,Bool.true_and]
  by_cases hn:n=0
  ·subst hn
   rw [show ((0:Nat):Int)=0 from rfl,if_pos rfl,decide_eq_false (show ¬ d≤0 by omega),Bool.and_false];simp;omega
  rw [if_neg (by omega)];rcases Nat.lt_trichotomy t me with g | g | g
  ·have e1:(List.replicate me (0:Int)++[(n:Int)]).getD t 0=0:=by
    simp [List.getD,List.getElem?_append_left (show t < (List.replicate me (0:Int)).length by simpa using g),g]
   rw [e1,decide_eq_false (show ¬ t=me by omega),Bool.false_and,decide_eq_false (show ¬ (d:Int)≤0 by omega)]
  ·subst g
   have e1:(List.replicate t (0:Int)++[(n:Int)]).getD t 0=(n:Int):=by simp [List.getD]
   rw [e1];simp
  have e1:(List.replicate me (0:Int)++[(n:Int)]).getD t 0=0:=by
   rw [List.getD,List.getElem?_eq_none (by simp;omega)];rfl
  rw [e1,decide_eq_false (show ¬ t=me by omega),Bool.false_and,decide_eq_false (show ¬ (d:Int)≤0 by omega)]
 rw [decide_eq_false h,Bool.false_and,Bool.false_and,Bool.and_false]
def Rel (l:List Part) (K:List RP):Prop:=∃ Z:List (Part×RP),Z.map Prod.fst=l∧Z.map Prod.snd=K∧∀ z∈Z,Says z.1 z.2
theorem Rel.nil:Rel [] []:=⟨[],rfl,rfl,fun z hz=>by cases hz⟩
theorem Rel.len {l:List Part} {K:List RP} (h:Rel l K):K.length=l.length:=by
 obtain ⟨Z,h1,h2,_⟩:=h;rw [← h1,← h2,List.length_map,List.length_map]
theorem Rel.say {l:List Part} {K:List RP} (h:Rel l K):SayOk (qcl l) (fewR K):=by
 obtain ⟨Z,rfl,rfl,h⟩:=h;exact jes Z h
theorem Rel.cons {l:List Part} {K:List RP} {p:Part} {x:RP} (h:Rel l K) (hp:Says p x):Rel (p::l) (x::K):=by
 obtain ⟨Z,rfl,rfl,h⟩:=h;refine ⟨(p,x)::Z,rfl,rfl,fun z hz=>?_⟩;rcases List.mem_cons.1 hz with rfl | hz
 ·exact hp
 exact h z hz
theorem Rel.app {l m:List Part} {K J:List RP} (h:Rel l K) (g:Rel m J):Rel (l++m) (K++J):=by
 obtain ⟨Z,rfl,rfl,h⟩:=h;obtain ⟨Y,rfl,rfl,g⟩:=g;refine ⟨Z++Y,by rw [List.map_append],by rw [List.map_append],fun z hz=>?_⟩;rcases List.mem_append.1 hz with hz | hz
 ·exact h z hz
 exact g z hz
theorem Rel.mean {l:List Part} (h:∀ x∈l,PartOk x):Rel l (l.map qd1):=by
 refine ⟨l.map fun p=>(p,qd1 p),by simp [List.map_map,Function.comp_def],by simp [List.map_map,Function.comp_def],fun z hz=>?_⟩;obtain ⟨p,hp,rfl⟩:=List.mem_map.1 hz;exact jb2 (h p hp)
theorem Says.plain {p:Part} {x:RP} (h:Says p x):Says (plainP p) x:=by
 obtain ⟨p1,p2,p3⟩:=qcu h.ok.f;exact ⟨⟨p2,h.ok.k⟩,fun j hj=>(p3 j hj).trans (h.P j hj),h.K⟩
theorem Rel.few {l:List Part} {K:List RP} (h:Rel l K):Rel (qcl l) (fewR K):=by
 obtain ⟨L,rfl,rfl,h⟩:=h;obtain ⟨Z,hZ⟩:=ex1 (L.foldl (qj4 (fun z:Part×RP=>qmi z.1) (fun y z=>qdn y.1 z.1)) []);have h1:=qo0 (β:=RP) qmi qdn L [];obtain ⟨h2,h3⟩:=qo1 qmi qdn qlg qb4 Says (fun _ _=>qsj) (fun _ _ _ _=>qq7) L [] h (by simp);rw [← hZ] at h1 h2 h3;refine ⟨Z.map fun z=>(plainP z.1,z.2),?_,?_,fun z hz=>?_⟩
 ·have e1:qcl (L.map Prod.fst)=(Z.map Prod.fst).map plainP:=by rw [h1];rfl
  rw [e1];simp [List.map_map,Function.comp_def]
 ·have e2:fewR (L.map Prod.snd)=Z.map Prod.snd:=h2.symm
  rw [e2];simp [List.map_map,Function.comp_def]
 obtain ⟨y,hy,rfl⟩:=List.mem_map.1 hz;exact (h3 y hy).plain
theorem Says.narrow {p:Part} {x:RP} {f:List Box} {F:Nat→Bool} (h:Says p x) (hf:qa0 f=0) (hF:∀ j,j < 512→pts f j=F j):Says (qby f p) (qck F x):=by
 refine ⟨qlf h.ok hf,fun j hj=>?_,h.K⟩;show pts (jd2 p.filter f) j=(x.P j&&F j);rw [(qw0 h.ok.f hf).2 j hj,h.P j hj,hF j hj]
theorem Rel.narrow {l:List Part} {K:List RP} {f:List Box} {F:Nat→Bool} (h:Rel l K) (hf:qa0 f=0) (hF:∀ j,j < 512→pts f j=F j):Rel (l.map (qby f)) (K.map (qck F)):=by
 obtain ⟨Z,rfl,rfl,h⟩:=h;refine ⟨Z.map fun z=>(qby f z.1,qck F z.2),by simp [List.map_map,Function.comp_def],by simp [List.map_map,Function.comp_def],fun z hz=>?_⟩;obtain ⟨y,hy,rfl⟩:=List.mem_map.1 hz;exact (h y hy).narrow hf hF
structure DocRel (s:SiteS) (F:Nat→Bool) (K:List RP):Prop where
 F:∀ j,j < 512→pts s.filter j=F j
 K:Rel s.parts K
def qd5 (s:SiteS) (K:List RP):List RP:=fewR (ownR s.me.toNat s.made.toNat::K)
theorem qw3 {s:SiteS} (h:SiteOk s):Says (ownP s) (ownR s.me.toNat s.made.toNat):=by
 refine ⟨quo h,fun j hj=>qz8 j hj,?_⟩;show ownD s.me.toNat s.made.toNat=hasK ⟨ownV s.me s.made,[]⟩;rw [← jd3,Int.toNat_of_nonneg h.me0,Int.toNat_of_nonneg h.made0]
theorem DocRel.known {s:SiteS} {F:Nat→Bool} {K:List RP} (h:DocRel s F K) (aO:SiteOk s):SayOk (qch s) (qd5 s K)∧Rel (qch s) (qd5 s K):=
 ⟨(h.K.cons (qw3 aO)).say,(h.K.cons (qw3 aO)).few⟩
theorem qgt {s:SiteS} {F:Nat→Bool} {K:List RP} (h:DocRel s F K) (aO:SiteOk s):K.length≤29∧(qd5 s K).length≤30:=by
 have h1:=h.K.len;have h2:=aO.lp;have h3:=qvo (ownR s.me.toNat s.made.toNat::K);rw [List.length_cons] at h3;exact ⟨by omega,by unfold qd5;omega⟩
structure DocAt (B:Nat) (w:World) (r:Nat) (AL:Option Addr) (cL:Nat) (AP:Option Addr) (cP:Nat) (s:SiteS) (F:Nat→Bool) (K:List RP):Prop where
 hB:B≤r
 blk:∃ cs:Array Value,Blk w r 77 cs∧cs.size=517
 c0:w.cell? ⟨r,0,none⟩=some (.int .i64 s.me)
 c1:w.cell? ⟨r,1,none⟩=some (.int .i64 s.made)
 c2:w.cell? ⟨r,2,none⟩=some (.int .i64 s.stamp)
 cF:w.rangeAt r 3 (rowB 512 F).toList
 cL:w.cell? ⟨r,515,none⟩=some (.slice AL s.shelf.length cL)
 cP:w.cell? ⟨r,516,none⟩=some (.slice AP K.length cP)
 sL:qb6 B w AL s.shelf
 sP:qe3 B w AP K
theorem DocAt.ext {B:Nat} {w w':World} {r:Nat} {AL:Option Addr} {cL:Nat} {AP:Option Addr} {cP:Nat} {s:SiteS} {F:Nat→Bool} {K:List RP} (h:DocAt B w r AL cL AP cP s F K) (x:Ext w w'):DocAt B w' r AL cL AP cP s F K:=by
 obtain ⟨cs,hb,hs⟩:=h.blk;exact ⟨h.hB,⟨cs,hb.ext x,hs⟩,x.cell h.c0,x.cell h.c1,x.cell h.c2,fun j v hv=>x.cell (h.cF j v hv),x.cell h.cL,x.cell h.cP,h.sL.ext RVer.monoE x,h.sP.ext RRef.mono x⟩
def IsDoc (B:Nat) (w:World) (r:Nat) (s:SiteS) (F:Nat→Bool) (K:List RP):Prop:=∃ AL cL AP cP,DocAt B w r AL cL AP cP s F K
theorem IsDoc.ext {B:Nat} {w w':World} {r:Nat} {s:SiteS} {F:Nat→Bool} {K:List RP} (h:IsDoc B w r s F K) (x:Ext w w'):IsDoc B w' r s F K:=let ⟨AL,cL,AP,cP,h⟩:=h;⟨AL,cL,AP,cP,h.ext x⟩
theorem DocAt.lt {B:Nat} {w:World} {r:Nat} {AL:Option Addr} {cL:Nat} {AP:Option Addr} {cP:Nat} {s:SiteS} {F:Nat→Bool} {K:List RP} (h:DocAt B w r AL cL AP cP s F K):r < w.heap.size:=let ⟨_,hb,_⟩:=h.blk;hb.lt
theorem DocAt.ty {B:Nat} {w:World} {r:Nat} {AL:Option Addr} {cL:Nat} {AP:Option Addr} {cP:Nat} {s:SiteS} {F:Nat→Bool} {K:List RP} (h:DocAt B w r AL cL AP cP s F K):tyAt w r=some 77:=let ⟨_,hb,_⟩:=h.blk;hb.ty
theorem jg0 (a b:Bool) (w:World):Calls Tryz.prog 175 #[.bool a,.bool b] w fun e w'=>e=.returned (.bool true)∧w=w':=by
 go_enter Tryz.func175, Tryz.ntmps175;go_wp2_with fail;go_ret;exact ⟨rfl,rfl⟩
theorem qrt (w:World):Calls Tryz.prog 118 #[] w fun e w'=>e=.returned (.agg (rowB 512 fun _=>true))∧Ext w w':=by
 have hc:=qnb;go_enter Tryz.func118, Tryz.ntmps118;go_wp2_with ((with_reducible refine qa2 (o:=⟨some 0,_,_,_,_,_⟩) ql0 rfl rfl ?_);intro w1 aE aX bX);refine (qr3 175 (fun _ _=>true) (fun _=>false) (fun _=>false) w1 Tryz.call175 jg0).mono ?_;rintro e w2 ⟨rfl,aH⟩;have aI:=aX.ext aH;go_wp2_with ((with_reducible refine qa3 (o:=⟨none,_,_,_,_,_⟩) qbb _ _ rfl rfl rfl rfl aI (qa6 _ _) (qa6 _ _) (qfg _ _) ?_);intro w3 aM aL bv cE);refine qgi rfl qbb rfl aL (qa6 _ _) rfl ⟨rfl,(aE.trans aH).below aM (Nat.le_refl _)⟩
theorem qk0 (B:Nat) (r:Nat) (s:SiteS) (F:Nat→Bool) (J:List RP) (w:World) (aO:SiteOk s) (hlk:J.length≤900) (h:IsDoc B w r s F J) :
  Calls Tryz.prog 59 #[.pointer (some ⟨r,0,none⟩)] w fun e w'=>∃ v,e=.returned v∧Own RRef 592 186 w' w.heap.size v (qd5 s J)∧Ext w w':=by
 obtain ⟨AL,cL,AP,cP,h⟩:=h;obtain ⟨me,hme⟩:=Int.eq_ofNat_of_zero_le aO.me0;obtain ⟨n,hn⟩:=Int.eq_ofNat_of_zero_le aO.made0;have h4:=aO.me4;have h1k:=aO.made1;have HME:=hid (show me < 5 by omega);have HN:=hid (show n≤1000 by omega);have HKN:=hid (show qd5 s J=fewR ([ownR me n]++J) by unfold qd5;rw [hme,hn];rfl);have q0:=h.c0;have q1:=h.c1;have q5:=h.cP;rw [hme] at q0;rw [hn] at q1;have HLK:=hid hlk;have HSP:=hid h.sP;have cR:=h.lt;have HQ:=hid (And.intro q0 (And.intro q1 q5));have eC:=hid (fun w' (x:Ext w w')=>show w'.cell? ⟨r,0,none⟩=some (.int .i64 (me:Int)) from x.cell q0);clear h aO hlk h4 h1k hme hn q0 q1 q5;go_enter Tryz.func59, Tryz.ntmps59;go_wp2_with ((with_reducible refine qa2 (o:=⟨some 3,_,_,_,_,_⟩) qjp rfl rfl ?_);intro w1 aE aX bX);obtain ⟨g,hg⟩:=ex1 w.heap.size;rw [← hg] at aX ⊢;have HG:=hid (show w.heap.size≤g by rw [hg];exact Nat.le_refl _);have bV:Blk w1 g 184 (rowD (ownD me 0)):=by rw [jaf];exact aX
 clear hg aX bX;go_loopw [4] (fun i wr=>∃ c:Nat,1≤c∧c≤n+1∧i=.int .i64 c∧Blk wr g 184 (rowD (ownD me (c - 1)))∧Ext w wr) (fun i _=>n+1 - (intOf i).toNat)
 case atStart=>exact ⟨1,Nat.le_refl _,by omega,rfl,bV,aE⟩
 clear bV aE;obtain ⟨c,dH,hcn,rfl,an,hx⟩:=hrel;have hcap:=HN.out;have dP:wrap64 ((c:Int)+1)=((c+1:Nat):Int):=by unfold wrap64;omega
 have HX:=hid hx;have hq1:=hx.cell HQ.out.2.1;have hrw:=Nat.lt_of_lt_of_le cR hx.size;have HBG:=hid (fun w' (x:Ext wr w')=>an.ext x)
 by_cases cZ:c≤n
 ·have hd:decide ((c:Int)≤(n:Int))=true:=decide_eq_true (by omega)
  have hdn:decide (c≤n)=true:=decide_eq_true cZ;have HC:=hid (show c≤n∧c < 1024∧1≤c from ⟨cZ,by omega,dH⟩);have HWD:=hid (show qh1 (ownD me (c - 1)) me c=ownD me (c+1 - 1) by
   have:=jae me (c - 1);rw [show c - 1+1=c by omega] at this;rw [this];rfl)
  have aB:=hid (fun w' (x:Ext wr w')=>show w'.cell? ⟨r,0,none⟩=some (.int .i64 (me:Int)) from eC.out w' (HX.out.trans x));clear an hx hcap cZ;go_wp2_with fail;clear hq1;have aA:=(Ext.refl wr).drew;refine wp_region_held_drew (S:=fun w'=>w'.cell? ⟨r,0,none⟩=some (.int .i64 (me:Int))) (by kernel_rfl) (aB.out _ aA) (fun hHeld=>?_);obtain ⟨wc,aS⟩:=ex1 wr.drew;rw [← aS] at hHeld aA ⊢;clear aS;refine tkA 1 _ rfl ?_;(try simp only [gq,pq]);refine tkA 2 _ rfl ?_;(try simp only [gq,pq]);refine tkA 3 _ rfl ?_;(try simp only [gq,pq]);refine tkA 4 _ rfl ?_;(try simp only [gq,pq]);refine tkA 5 _ rfl ?_;(try simp only [gq,pq]);refine tkA 6 _ rfl ?_;(try simp only [gq,pq]);refine rd1 0 rfl fun K hK=>?_;simp only [gq];simp only [Region.wanted,if_true];refine qj1 qc8 (.tmp 3) rfl rfl (HBG.out wc aA) (qad _) ?_;refine hK.out _ _ (aB.out _ aA) (fun hHeld=>?_);clear hK K;(try simp only [pq]);refine rd1 7 rfl fun K hK=>?_
  simp only [gq];go_simp;refine (qnm (ownD me (c - 1)) me c wc HME.out HC.out.2.1).mono ?_;rintro e wn ⟨rfl,aC⟩;dsimp only;replace aA:=aA.trans aC;clear aC;obtain ⟨wc,rfl⟩:=ex1 wn;refine hK.out _ _ (aB.out _ aA) (fun hHeld=>?_);clear hK K;(try simp only [pq]);refine rd1 8 rfl fun K hK=>?_;simp only [gq];simp only [Region.wanted,if_true];have an:=HBG.out wc aA;with_reducible refine qes (b:=g) (cs:=rowD (qh1 (ownD me (c - 1)) me c)) (old:=rowD (ownD me (c - 1))) (n:=80) (t:=184) qe9 (.tmp 3) (.tmp 20) rfl ?_ ?_ an (qad _) (qad _) (qgc _) ?_
  ·rfl
  ·rfl
  intro wn aw fG _ hot;have al:=(HX.out.trans aA).below aw HG.out;refine hK.out _ _ (eC.out wn al) (fun hHeld=>?_);clear hHeld hot aw an aA;clear hK K;(try simp only [Act.put]);refine wpAnyH_done (by kernel_rfl) ?_ _;clear aB;rw [HWD.out] at fG;go_wp2_with fail;go_roundw
  case rel=>exact ⟨c+1,by omega,by have:=HC.out;omega,by rw [dP],fG,al⟩
  case measure=>rw [dP];have:=HC.out;simp only [intOf,Int.toNat_natCast];omega
 ·obtain rfl:c=n+1:=by omega
  have hd:decide (((n+1:Nat):Int)≤(n:Int))=false:=decide_eq_false (by omega);have hdn:decide (n+1≤n)=false:=decide_eq_false (by omega);have HBG:=hid (fun w' (x:Ext wr w')=>(show Blk wr g 184 (rowD (ownD me n)) from an).ext x);have aB:=hid (fun w' (x:Ext wr w')=>show w'.cell? ⟨r,516,none⟩=some (.slice AP J.length cP) from (HX.out.trans x).cell HQ.out.2.2);clear an hx hcap cZ dH hcn dP;go_wp2_with fail;clear hq1;have aA:=(Ext.refl wr).drew;refine wp_region_held_drew (S:=fun w'=>w'.cell? ⟨r,516,none⟩=some (.slice AP J.length cP)) (by kernel_rfl) (aB.out _ aA) (fun hHeld=>?_);obtain ⟨wc,aS⟩:=ex1 wr.drew;rw [← aS] at hHeld aA ⊢;clear aS;refine tkA 4 _ rfl ?_;(try simp only [gq,pq]);refine tkA 5 _ rfl ?_;(try simp only [gq,pq]);refine tkA 6 _ rfl ?_;(try simp only [gq,pq]);refine tkA 7 _ rfl ?_;(try simp only [gq,pq]);refine wpAnyH_ready (rs:=[0,1]) (by kernel_rfl) (by simp) ?_;refine AllReadyH.cons rfl (fun K hK=>?_) ?_
  focus
   simp only [gq];go_simp;refine (qrt wc).mono ?_;rintro e wn ⟨rfl,aC⟩;dsimp only;replace aA:=aA.trans aC;clear aC;obtain ⟨wc,rfl⟩:=ex1 wn;refine hK.out _ _ (aB.out _ aA) (fun hHeld=>?_);clear hK K;(try simp only [pq]);refine rd1 1 rfl fun K hK=>?_;simp only [gq];simp only [Region.wanted,if_true];refine qj1 qc8 (.tmp 3) rfl rfl (HBG.out wc aA) (qad _) ?_
  rotate_left
  focus
   refine AllReadyH.cons rfl (fun K hK=>?_) AllReadyH.nil;simp only [gq];simp only [Region.wanted,if_true];refine qj1 qc8 (.tmp 3) rfl rfl (HBG.out wc aA) (qad _) ?_;refine hK.out _ _ (aB.out _ aA) (fun hHeld=>?_);clear hK K;(try simp only [pq]);refine rd1 0 rfl fun K hK=>?_;simp only [gq];go_simp;refine (qrt wc).mono ?_;rintro e wn ⟨rfl,aC⟩;dsimp only;replace aA:=aA.trans aC;clear aC;obtain ⟨wc,rfl⟩:=ex1 wn
  all_goals
   refine hK.out _ _ (aB.out _ aA) (fun hHeld=>?_);clear hK K;(try simp only [pq]);refine rd1 2 rfl fun K hK=>?_;simp only [gq];simp only [Region.wanted,if_true];refine qp5 jai (.tmp 21) (.tmp 22) rfl (by rfl) (by rfl) (qa6 _ _) (qad _) ?_;generalize bK:(rowB 512 fun _=>true)++rowD (ownD me n)=cs;have HCS:=hid bK.symm;clear bK;refine hK.out _ _ (aB.out _ aA) (fun hHeld=>?_);clear hK K;(try simp only [pq]);refine rd1 3 rfl fun K hK=>?_;simp only [gq];simp only [Region.wanted,if_true];refine qhp Tryz.underlying75 qi5 ⟨by omega,by omega⟩ (.tmp 23) rfl (by rfl) (by rw [HCS.out];exact qa5 (ownR me n)) ?_;have aC:=(Ext.refl wc).alloc (.cells cs 186);have aR:Own RRef 592 186 (wc.alloc (.cells (cs.toList).toArray 186)) wc.heap.size (.slice (some ⟨wc.heap.size,0,none⟩) 1 1) [ownR me n]:=Own.lit (cs:=cs.toList) (Nat.le_refl _) (by rw [HCS.out,Array.length_toList];exact qa5 (ownR me n)) (by unfold RRef;rw [HCS.out];rfl)
   rw [Array.toArray_toList] at aR;have bz:=aA.size;have bI:=aC.size;replace aA:=aA.trans aC;obtain ⟨wn,aP⟩:=ex1 (wc.alloc (.cells cs 186));obtain ⟨bs,bh⟩:=ex1 wc.heap.size;rw [← aP] at aA aR bI;rw [← aP,← bh];rw [← bh] at aR bz bI;clear aC aP bh;obtain ⟨wc,rfl⟩:=ex1 wn;refine hK.out _ _ (aB.out _ aA) (fun hHeld=>?_);clear hK K;(try simp only [pq]);refine rd1 8 rfl fun K hK=>?_;simp only [gq];simp only [Region.wanted,if_true];refine qh2 (.tmp 24) (.tmp 28) rfl qz4 rfl aR (B:=0) (Nat.zero_le _) bI (ys:=J) (c:=cP) rfl (HSP.out.ext RRef.mono (HX.out.trans aA)) RRef.oneC RRef.mono (by have:=HLK.out;simp [maxLen];omega) (by have:=HLK.out;simp;omega) ?_;intro v8 wn dI ah aw _;replace aA:=aA.below aw bz;clear ah aw aR bI;obtain ⟨A8,c8,rfl,-,-⟩:=dI.len;obtain ⟨wc,rfl⟩:=ex1 wn;refine hK.out _ _ (aB.out _ aA) (fun hHeld=>?_);clear hK K;(try simp only [pq]);refine rd1 9 rfl fun K hK=>?_;simp only [gq]
   go_simp;refine (quv 0 A8 c8 ([ownR me n]++J) wc (by have:=HLK.out;simp;omega) (dI.sl 0)).mono ?_;rintro e wn ⟨v9,rfl,bk,aC⟩;dsimp only;have eK:=aA.size;replace aA:=aA.trans aC;clear aC dI;obtain ⟨wc,rfl⟩:=ex1 wn;refine hK.out _ _ (aB.out _ aA) (fun hHeld=>?_);clear hK K;(try simp only [pq]);refine tkA 10 _ rfl ?_;(try simp only [gq,pq]);refine wpAnyH_done (by kernel_rfl) ?_ _;clear hHeld aB;go_wp2_with fail;go_ret;refine ⟨v9,rfl,?_,HX.out.trans aA⟩;rw [HKN.out];exact bk.weaken (Nat.le_trans HX.out.size eK)
end Go.Proofs.YtngbfdogiciahaaGreat
