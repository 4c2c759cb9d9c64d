/- Texts joined. -/
import Derived.Test.YtngbfdogiciahaaGreatJoinCubeQ
import Derived.Test.YtngbfdogiciahaaGreatJoinKnPl
set_option maxRecDepth 100000
set_option maxHeartbeats 40000000
namespace Go.Proofs.YtngbfdogiciahaaGreat
open Go Go.RowKit
def U32 (n:Nat):Prop:=n < 4294967296
theorem qny (B:Nat) (fn:FuncId) (d:Nat→Nat→Nat) (A A':Option Addr) (c c':Nat) (f g:List Box) (w:World) (hB:B≤w.heap.size) (hlf:f.length≤maxLen) (hlg:g.length≤maxLen) (hsf:qaw B w A f) (hsg:qaw B w A' g)
  (hc:∀ (args:Array Value) (wn:World),(callFunc fn args).run Tryz.prog wn=.ok (.enter fn args) wn)
  (hf:∀ (a b:Nat) (wn:World),U32 a→U32 b→Calls Tryz.prog fn #[.int .u32 a,.int .u32 b] wn fun e w'=>e=.returned (.int .u32 (d a b:Nat))∧wn=w') (hd:∀ a b,U32 a→U32 b→U32 (d a b)) :
  Calls Tryz.prog 187 #[.slice A f.length c,.slice A' g.length c',.func (.func fn) #[] #[]] w fun e w'=>∃ v,e=.returned (.tuple #[v,.int .i64 (qb1 f g)])∧qdo B w' v (qc1 d f g)∧Ext w w':=by
 have HF:=hid hf;have HD:=hid hd;clear hf hd;go_enter Tryz.func187, Tryz.ntmps187;go_wp2_with fail;refine (qcr B A c f _ hlf hsf).mono ?_;rintro e w1 ⟨rfl,aE⟩
 by_cases h0:qa0 f=0
 ·rw [h0]
  have H0:=hid h0;clear h0;go_wp2_with fail;refine (qcr B A' c' g _ hlg (hsg.ext RBox.monoE aE)).mono ?_;rintro e w2 ⟨rfl,aH⟩;have hx:=aE.trans aH;clear aE aH
  by_cases h1:qa0 g=0
  ·rw [h1]
   have H1:=hid h1;clear h1;have HTw:=hid (show qb1 f g=0 by rw [qb1,if_pos H0.out,H1.out]);have HOf:=hid (qah H0.out).2;have HOg:=hid (qah H1.out).2;go_wp2_with fail;refine (qfa B A c f _ hlf HOf.out (hsf.ext RBox.monoE hx)).mono ?_;rintro e w3 ⟨rfl,aM⟩;replace hx:=hx.trans aM;go_wp2_with fail;refine (qfa B A' c' g _ hlg HOg.out (hsg.ext RBox.monoE hx)).mono ?_;rintro e w4 ⟨rfl,aj⟩;replace hx:=hx.trans aj;clear aM aj;have HTf:=hid (fun t=>qgz HOf.out t);have HTg:=hid (fun t=>qgz HOg.out t);have HRes:=hid (show qc1 d f g=qfx fun t=>d (tab f t) (tab g t) by rw [qc1,if_pos HTw.out]);generalize tab f=T at *;generalize tab g=U at *;go_wp2_with (first
    | ((with_reducible refine qa2 (o:=⟨some 10,_,_,_,_,_⟩) qn5 rfl rfl ?_);intro w5 bN au bP)
    | ((with_reducible refine qa2 (o:=⟨some 11,_,_,_,_,_⟩) qn5 rfl rfl ?_);intro w6 aT bH hs6;have hb6r:=bH;rw [bP] at hb6r)
    | ((with_reducible refine qdt none (.store _ (.tmp 10) _) ?_);refine qau qh7 _ _ rfl rfl rfl rfl (au.ext aT) (qdf _ _) (qdf _ _) (qmz _ _) ?_;intro w7 ac fY hs7 cn)
    | ((with_reducible refine qdt none (.store _ (.tmp 11) _) ?_);(first | refine qau qh7 _ _ rfl rfl rfl rfl (hb6r.other cn (show w4.heap.size+1≠w4.heap.size by omega)) (qdf _ _) (qdf _ _) (qmz _ _) ?_ | refine qau qh7 _ _ rfl rfl rfl rfl (bH.other cn (show w5.heap.size≠w4.heap.size by omega)) (qdf _ _) (qdf _ _) (qmz _ _) ?_ );intro w8 a7 aJ cG dI))
   have hbt:Blk w8 w4.heap.size 208 (rowU 16 T):=fY.other dI (by omega);have bB:Blk w8 (w4.heap.size+1) 208 (rowU 16 U):=by rw [← bP];exact aJ
   have bY:Ext w4 w8:=((bN.trans aT).below ac (Nat.le_refl _)).below a7 (by omega);have hz:w.heap.size≤w4.heap.size:=hx.size;replace hx:=hx.trans bY;clear aJ au bH bN aT bP hs6 ac fY hs7 cn hb6r a7 cG dI;go_wp2_with fail;obtain ⟨wo,rfl⟩:=ex1 w8;go_loopw [27] (fun i wr=>∃ k:Nat,k≤16∧i=.int .i64 k∧Blk wr w4.heap.size 208 (rowU 16 fun i=>if i < k then d (T i) (U i) else T i)∧Blk wr (w4.heap.size+1) 208 (rowU 16 U)∧Ext w wr) (fun i _=>16 - (intOf i).toNat)
   case atStart=>
    refine ⟨0,by omega,rfl,?_,bB,hx⟩;rwa [qeo (U:=fun i=>if i < 0 then d (T i) (U i) else T i) (fun i _=>by simp)] at hbt
   clear hbt bB hx bY;obtain ⟨k,hk,rfl,aX,aI,hx⟩:=hrel
   by_cases aD:k < 16
   ·have k0:(0:Int)≤k:=by omega
    have k4:(k:Int) < 16:=by omega
    have c1:=aX.cell (qhi _ aD);have c2:=aI.cell (qhi _ aD);rw [if_neg (by omega)] at c1;have z1:=aX.frozen k;have HC:=hid (fun wn=>HF.out (T k) (U k) wn (HTf.out k) (HTg.out k));go_upto_region 11 with fail;go_region_with ((with_reducible refine (HC.out _).mono ?_);rintro e w7 ⟨rfl,rfl⟩)
    all_goals
     go_wp2_with fail;have hs':=aX.setU k (d (T k) (U k));have hdr:=(Ext.refl (wr.setCell ⟨w4.heap.size,k,none⟩ (.int .u32 (d (T k) (U k):Nat)))).drew;go_roundw
     case rel=>
      refine ⟨k+1,by omega,by go_num,?_,(aI.far (by simp) _).ext hdr,(hx.setCell (by show w.heap.size≤w4.heap.size;omega) _).trans hdr⟩;refine Blk.ext ?_ hdr;rwa [qeo (U:=fun i=>if i < k+1 then d (T i) (U i) else T i) (fun i _=>by
       by_cases hi:i=k
       ·subst hi;simp
       have e:(i < k)=(i < k+1):=by rw [eq_iff_iff];omega
       simp only [hi,if_false,e])] at hs'
     case measure=>simp [intOf];omega
   obtain rfl:k=16:=by omega
   rw [qeo (U:=fun i=>d (T i) (U i)) (fun i hi=>by rw [if_pos hi])] at aX;go_wp2_with (((with_reducible refine qap (o:=⟨some 41,_,_,_,_,_⟩) qh7 _ rfl rfl rfl aX (qdf _ _) ?_)));refine (qm3 B (fun i=>d (T i) (U i)) (fun i=>HD.out _ _ (HTf.out i) (HTg.out i)) _ (Nat.le_trans hB hx.size)).mono ?_;rintro e w9 ⟨v,rfl,hv,bY⟩;obtain ⟨A9,c9,rfl,k9,m9,bw⟩:=hv;have eZ:=hx.trans bY;go_wp2_with fail;go_ret2;exact ⟨.slice A9 (qc1 d f g).length c9,by rw [HTw.out,HRes.out];rfl,⟨A9,c9,rfl,by rw [HRes.out];exact k9,m9,by rw [HRes.out];exact bw⟩,eZ⟩
  have aV:(qa0 g !=0)=true:=by simpa using h1
  have H1:=hid h1;clear h1;go_wp2_with fail;go_ret2;have e:qb1 f g=qa0 g:=by rw [qb1,if_pos H0.out]
  exact ⟨_,by rw [e];rfl,by rw [qc1,e,if_neg H1.out];exact IsSl.nil,hx⟩
 have aV:(qa0 f !=0)=true:=by simpa using h0
 have H0:=hid h0;clear h0;go_wp2_with fail;go_ret2;have e:qb1 f g=qa0 f:=by rw [qb1,if_neg H0.out]
 exact ⟨_,by rw [e];rfl,by rw [qc1,e,if_neg H0.out];exact IsSl.nil,aE⟩
theorem qs2 (a b:Nat) (w:World) (ha:U32 a) (hb:U32 b):Calls Tryz.prog 188 #[.int .u32 a,.int .u32 b] w fun e w'=>e=.returned (.int .u32 ((a&&& b:Nat):Int))∧w=w':=by
 have e4:=u32_and_nat a b ha hb;go_enter Tryz.func188, Tryz.ntmps188;go_wp2_with fail;go_ret;exact ⟨rfl,rfl⟩
theorem qs1 (a b:Nat) (w:World) (ha:U32 a) (hb:U32 b):Calls Tryz.prog 240 #[.int .u32 a,.int .u32 b] w fun e w'=>e=.returned (.int .u32 ((qfw a b:Nat):Int))∧w=w':=by
 have e4:=u32_andNot_nat a b ha hb;go_enter Tryz.func240, Tryz.ntmps240;go_wp2_with fail;go_ret;exact ⟨rfl,rfl⟩
theorem qu7 (B:Nat) (A A':Option Addr) (c c':Nat) (f g:List Box) (w:World) (hB:B≤w.heap.size) (hlf:f.length≤maxLen) (hlg:g.length≤maxLen) (hsf:qaw B w A f) (hsg:qaw B w A' g) :
  Calls Tryz.prog 140 #[.slice A f.length c,.slice A' g.length c'] w fun e w'=>∃ v,e=.returned (.tuple #[v,.int .i64 (qb1 f g)])∧qdo B w' v (qc1 (fun a b=>a&&& b) f g)∧Ext w w':=by
 go_enter Tryz.func140, Tryz.ntmps140;go_wp2_with fail;refine (qny B 188 (fun a b=>a&&& b) A A' c c' f g _ hB hlf hlg hsf hsg Tryz.call188 (fun a b wn ha hb=>qs2 a b wn ha hb) (fun a b ha hb=>qmk ha)).mono ?_;rintro e w1 ⟨v,rfl,hv,hx⟩;go_wp2_with fail;go_ret2;exact ⟨v,rfl,hv,hx⟩
theorem qu6 (B:Nat) (A A':Option Addr) (c c':Nat) (f g:List Box) (w:World) (hB:B≤w.heap.size) (hlf:f.length≤maxLen) (hlg:g.length≤maxLen) (hsf:qaw B w A f) (hsg:qaw B w A' g) :
  Calls Tryz.prog 224 #[.slice A f.length c,.slice A' g.length c'] w fun e w'=>∃ v,e=.returned (.tuple #[v,.int .i64 (qb1 f g)])∧qdo B w' v (qc1 qfw f g)∧Ext w w':=by
 go_enter Tryz.func224, Tryz.ntmps224;go_wp2_with fail;refine (qny B 240 qfw A A' c c' f g _ hB hlf hlg hsf hsg Tryz.call240 (fun a b wn ha hb=>qs1 a b wn ha hb) (fun a b ha hb=>qmk ha)).mono ?_;rintro e w1 ⟨v,rfl,hv,hx⟩;go_wp2_with fail;go_ret2;exact ⟨v,rfl,hv,hx⟩
theorem qql (B:Nat) (A A':Option Addr) (c c':Nat) (f g:List Box) (w:World) (hB:B≤w.heap.size) (hlf:f.length≤maxLen) (hlg:g.length≤maxLen) (hsf:qaw B w A f) (hsg:qaw B w A' g) :
  Calls Tryz.prog 207 #[.slice A f.length c,.slice A' g.length c'] w fun e w'=>e=.returned (.tuple #[.bool (qcp qfw f g),.int .i64 (qb1 f g)])∧Ext w w':=by
 go_enter Tryz.func207, Tryz.ntmps207;go_wp2_with fail;refine (qu6 B A A' c c' f g _ hB hlf hlg hsf hsg).mono ?_;rintro e w1 ⟨v,rfl,hv,hx⟩;obtain ⟨A1,c1,rfl,k1,m1,bX⟩:=hv
 by_cases h0:qb1 f g=0
 ·have HN:=hid (show qcp qfw f g=decide (qc1 qfw f g=[]) by rw [qcp,decide_eq_true h0,Bool.true_and])
  rw [h0];have H0:=hid h0;clear h0;generalize qc1 qfw f g=L at *;go_wp2_with fail;go_ret2;exact ⟨by simp [HN.out,H0.out,jez],hx⟩
 have aV:(qb1 f g==0)=false:=by simpa using h0
 have HN:=hid (qpe (d:=qfw) h0);clear h0;go_wp2_with fail;go_ret2;exact ⟨by rw [HN.out];rfl,hx⟩
theorem qm1 (B:Nat) (w:World) (_hB:B≤w.heap.size) :
  Calls Tryz.prog 12 #[] w fun e w'=>∃ v,e=.returned v∧qdo B w' v qnt∧Ext w w':=by
 go_enter Tryz.func12, Tryz.ntmps12;go_wp2_with fail;go_ret;refine ⟨_,rfl,⟨some ⟨w.heap.size+1,0,none⟩,1,rfl,Nat.le_refl _,by decide,?_⟩,((Ext.refl w).alloc (.cells #[.int .i64 0,.int .i64 32] 137)).alloc (.cells #[.int .i64 0,.int .i64 0,.slice (some ⟨w.heap.size,0,none⟩) 1 1] 142)⟩;have h1:qh5 B (w.alloc (.cells #[.int .i64 0,.int .i64 32] 137)) (some ⟨w.heap.size,0,none⟩) [⟨0,32⟩]:=Sl.one rfl rfl rfl;have h2:=Sl.one (R:=RBox B) (B:=B) (e:=142) (sz:=3) (w:=w.alloc (.cells #[.int .i64 0,.int .i64 32] 137)) (cs:=[.int .i64 0,.int .i64 0,.slice (some ⟨w.heap.size,0,none⟩) 1 1]) (y:=⟨⟨0,0⟩,[⟨0,32⟩]⟩) rfl rfl ⟨_,rfl,_,_,rfl,Nat.le_refl _,by decide,h1.ext RPair.mono ((Ext.refl _).alloc _)⟩;rw [show (w.alloc (.cells #[.int .i64 0,.int .i64 32] 137)).heap.size=w.heap.size+1 by simp] at h2;exact h2
theorem qm2 (p:Point) (w:World) :
  Calls Tryz.prog 93 #[.agg #[.int .i64 p.tags,.int .i64 p.num]] w fun e w'=>e=.returned (.bool (qaz p))∧Ext w w':=by
 have HP:=hid (show qaz p=(qdm p.tags&&(decide (0≤p.num)&&decide (p.num≤31))) from rfl)
 cases h1:qdm p.tags
 ·have H1:=hid h1
  go_enter Tryz.func93, Tryz.ntmps93;go_wp2_with fail;refine (qdv _ _).mono ?_;rintro e w1 ⟨rfl,rfl⟩;rw [h1];clear h1;go_wp2_with fail;go_ret;exact ⟨qa7 (by rw [HP.out,H1.out];rfl),(Ext.refl w).alloc _⟩
 have H1:=hid h1;rcases Int.lt_or_le p.num 0 with hn | hn
 ·go_enter Tryz.func93, Tryz.ntmps93
  go_wp2_with fail;refine (qdv _ _).mono ?_;rintro e w1 ⟨rfl,rfl⟩;rw [h1];clear h1;go_wp2_with fail;go_ret;exact ⟨qa7 (by rw [HP.out,H1.out,decide_eq_false (show ¬ 0≤p.num by omega)];rfl),(Ext.refl w).alloc _⟩
 go_enter Tryz.func93, Tryz.ntmps93;go_wp2_with fail;refine (qdv _ _).mono ?_;rintro e w1 ⟨rfl,rfl⟩;rw [h1];clear h1;go_wp2_with fail;go_ret;exact ⟨qa7 (by rw [HP.out,H1.out,decide_eq_true hn,Bool.true_and,Bool.true_and,decide_eq_decide];omega),(Ext.refl w).alloc _⟩
theorem qs0 (B:Nat) (A:Option Addr) (c:Nat) (f:List Box) (w:World) (hlf:f.length≤maxLen) (hsf:qaw B w A f) :
  Calls Tryz.prog 71 #[.slice A f.length c] w fun e w'=>e=.returned (.tuple #[.int .i64 (qc9 f),.int .i64 (qa0 f)])∧Ext w w':=by
 go_enter Tryz.func71, Tryz.ntmps71;go_wp2_with fail;refine (qcr B A c f _ hlf hsf).mono ?_;rintro e w1 ⟨rfl,aE⟩
 by_cases h0:qa0 f=0
 ·have HN:=hid (show qc9 f=qgv (tab f) 16 by rw [qc9,if_pos h0])
  have aO:=(qah h0).2;rw [h0];have H0:=hid h0;clear h0;go_wp2_with fail;refine (qfa B A c f _ hlf aO (hsf.ext RBox.monoE aE)).mono ?_;rintro e w2 ⟨rfl,aH⟩;have hx:=aE.trans aH;clear aE aH hsf;have HT:=hid (fun t=>qgz aO t);generalize tab f=T at *;clear aO;go_wp2_with fail;go_loopw [5,15] (fun n i wr=>∃ k:Nat,k≤16∧i=.int .i64 k∧n=.int .i64 (qgv T k)∧Ext w wr) (fun _ i _=>16 - (intOf i).toNat)
  case atStart=>exact ⟨0,Nat.zero_le _,rfl,rfl,hx⟩
  clear hx;obtain ⟨k,hk,rfl,rfl,hx⟩:=hrel
  by_cases aD:k < 16
  ·have k0:(0:Int)≤k:=by omega
   have k4:(k:Int) < 16:=by omega
   have hix:∀ w,(Instr.index 208 (.agg (rowU 16 T)) (.int .i64 k)).run Tryz.prog w=.ok (.int .u32 (T k)) w:=qr8 Tryz.underlying208 (fun _=>by kernel_rfl) (fun _=>by kernel_rfl) aD;have HS:=hid (show qgv T (k+1)=qgv T k+qki (T k) 32 from rfl);have d9:=qsq T k;have htk:=HT.out k;go_wp2_with fail;obtain ⟨wo,rfl⟩:=ex1 wr;go_loopw [5,7] (fun n l ws=>∃ v:Nat,v < 4294967296∧l=.int .u32 v∧n=.int .i64 (qgv T k+qki (T k) 32 - qki v 32)∧Ext w ws) (fun _ l _=>(intOf l).toNat)
   case atStart=>exact ⟨T k,htk,rfl,by congr 1;omega,hx⟩
   clear hx;obtain ⟨v,hv,rfl,rfl,hx⟩:=hrel;have aX:=qqz v 32;have aI:=qqz (T k) 32
   by_cases hz:v=0
   ·subst hz
    rw [qxz];clear aX hv;go_wp2_with fail;go_roundw
    case rel=>exact ⟨k+1,by omega,by go_num,by rw [HS.out];congr 1;omega,hx⟩
    case measure=>simp [intOf];omega
   have bM:((v:Int) !=0)=true:=by simpa using hz
   obtain ⟨v1,fH⟩:=ex1 (v&&& (v - 1));have HL:=hid (show qki v1 32+1=qki v 32 by rw [fH];exact jap v hz hv);have e4:bits .and .u32 (v:Int) (((v:Int) - 1) % 4294967296)=(v1:Int):=by rw [fH,show ((v:Int) - 1) % 4294967296=((v - 1:Nat):Int) by omega];exact u32_and_nat v (v - 1) hv (by omega)
   have HV:=hid (show v1 < v by rw [fH];exact Nat.lt_of_le_of_lt Nat.and_le_right (by omega));clear fH;have HZ:=hid hz;clear hz;go_wp2_with fail;go_roundw
   case rel=>exact ⟨v1,Nat.lt_trans HV.out hv,by go_num,by congr 1;have:=HL.out;omega,hx⟩
   case measure=>have:=HV.out;simp [intOf];omega
  obtain rfl:k=16:=by omega
  go_wp2_with fail;go_ret2;exact ⟨by simp [HN.out,H0.out],hx⟩
 have aV:(qa0 f !=0)=true:=by simpa using h0
 have HN:=hid (show qc9 f=0 by rw [qc9,if_neg h0]);clear h0;go_wp2_with fail;go_ret2;exact ⟨by simp [HN.out],aE⟩
theorem jcb (b:Box) (h:qaq b.cube=0) (t:Nat) (ht:t < 16) (w:World):Calls Tryz.prog 144 #[.agg #[.int .i64 b.cube.yes,.int .i64 b.cube.no],.int .i64 t] w fun e w'=>e=.returned (.bool (qd9 b t))∧Ext w w':=by
 obtain ⟨y,n,hc⟩:=qnk h;rw [show qd9 b t=qce y n t by rw [qd9,hc.yes,hc.no,Int.toNat_natCast,Int.toNat_natCast]];exact qnl b.cube y n t hc ht w
theorem qxa (B b0:Nat) (b:Box) (A':Option Addr) (c' t:Nat) (num:Int) (w:World) (ht:t < 16) (hb:qgl b) (hl:b.spans.length≤maxLen) (hs:qh5 B w A' b.spans)
  (h0:w.cell? ⟨b0,0,none⟩=some (.int .i64 t)) (h1:w.cell? ⟨b0,1,none⟩=some (.int .i64 num)) :
  Calls Tryz.prog 143 #[.agg #[.int .i64 b.cube.yes,.int .i64 b.cube.no,.slice A' b.spans.length c'],.pointer (some ⟨b0,0,none⟩)] w fun e w'=>e=.returned (.bool (qd9 b t&&qai b.spans num))∧Ext w w':=by
 have hz:b0 < w.heap.size:=World.block_lt_of_cell? _ _ h0;have HB:=hid hb.1;clear hb;go_enter Tryz.func143, Tryz.ntmps143;go_wp2_with fail;refine (jcb b HB.out t ht _).mono ?_;rintro e w1 ⟨rfl,aE⟩;have g2:w1.cell? ⟨w.heap.size,2,none⟩=some (.slice A' b.spans.length c'):=aE.cell (by go_simp);have aC:=((Ext.refl w).alloc (.cells #[.int .i64 b.cube.yes,.int .i64 b.cube.no,.slice A' b.spans.length c'] 142)).trans aE;replace h1:=aC.cell h1;clear aE
 cases hI:qd9 b t
 ·have HI:=hid hI
  clear hI;go_wp2_with fail;go_ret;exact ⟨qa7 (by rw [HI.out];rfl),aC⟩
 have HI:=hid hI;clear hI;go_wp2_with fail;refine (jfk B A' c' b.spans num _ hl (hs.ext RPair.mono aC)).mono ?_;rintro e w2 ⟨rfl,aH⟩;go_wp2_with fail;go_ret;exact ⟨qa7 (by rw [HI.out];rfl),aC.trans aH⟩
theorem jc5 (p:Box→Bool) (f:List Box) (k:Nat) (hk:k < f.length):(f.take (k+1)).any p=((f.take k).any p||p f[k]):=by
 rw [List.take_succ_eq_append_getElem hk,List.any_append];simp
theorem qud (B:Nat) (fn:FuncId) (cap:Array Value) (A:Option Addr) (c:Nat) (f:List Box) (p:Box→Bool) (w:World) (hl:f.length≤maxLen) (h:qaw B w A f)
  (hc:∀ (args:Array Value) (wn:World),(callFunc fn args).run Tryz.prog wn=.ok (.enter fn args) wn)
  (hf:∀ (k:Nat) (hk:k < f.length) (A':Option Addr) (c':Nat) (wn:World),Ext w wn→f[k].spans.length≤maxLen→qh5 B wn A' f[k].spans→
   Calls Tryz.prog fn (#[.agg #[.int .i64 f[k].cube.yes,.int .i64 f[k].cube.no,.slice A' f[k].spans.length c']]++cap) wn fun e w'=>e=.returned (.bool (p f[k]))∧Ext wn w') :
  Calls Tryz.prog 189 #[.slice A f.length c,.func (.func fn) #[] cap] w fun e w'=>∃ i:Int,e=.returned (.int .i64 i)∧decide (0≤i)=f.any p∧Ext w w':=by
 unfold maxLen at hl;have HF:=hid hf;clear hf;go_enter Tryz.func189, Tryz.ntmps189;go_wp2_with fail;go_loopw [8] (fun i wr=>∃ k:Nat,k≤f.length∧i=.int .i64 k∧(f.take k).any p=false∧Ext w wr) (fun i _=>f.length - (intOf i).toNat)
 case atStart=>exact ⟨0,Nat.zero_le _,rfl,rfl,Ext.refl _⟩
 obtain ⟨k,hk,rfl,hG,hx⟩:=hrel;have HG:=hid hG;clear hG
 by_cases aD:k < f.length
 ·obtain ⟨b,off,A',c',rfl,hb,g0,g1,g2,bW,hs⟩:=(h.ext RBox.monoE hx).box aD
  have HS:=hid (jc5 p f k aD);go_wp2_with fail;refine (HF.out k aD A' c' _ hx bW hs).mono ?_;rintro e w1 ⟨rfl,aE⟩
  cases hp:p f[k]
  ·have HP:=hid hp
   clear hp;go_wp2_with fail;go_roundw
   case rel=>exact ⟨k+1,aD,by go_num,by rw [HS.out,HG.out,HP.out];rfl,hx.trans aE⟩
   case measure=>simp [intOf];omega
  have HP:=hid hp;clear hp;go_wp2_with fail;go_ret;exact ⟨k,rfl,by rw [List.any_eq_true.2 ⟨f[k],List.getElem_mem aD,HP.out⟩];simp,hx.trans aE⟩
 obtain rfl:k=f.length:=by omega
 rw [List.take_length] at HG;go_wp2_with fail;go_ret;exact ⟨-1,rfl,by rw [HG.out];rfl,hx⟩
theorem qpa (B:Nat) (fn:FuncId) (cap:Array Value) (A:Option Addr) (c:Nat) (f:List Box) (p:Box→Bool) (w:World) (hl:f.length≤maxLen) (h:qaw B w A f)
  (hc:∀ (args:Array Value) (wn:World),(callFunc fn args).run Tryz.prog wn=.ok (.enter fn args) wn)
  (hf:∀ (k:Nat) (hk:k < f.length) (A':Option Addr) (c':Nat) (wn:World),Ext w wn→f[k].spans.length≤maxLen→qh5 B wn A' f[k].spans→
   Calls Tryz.prog fn (#[.agg #[.int .i64 f[k].cube.yes,.int .i64 f[k].cube.no,.slice A' f[k].spans.length c']]++cap) wn fun e w'=>e=.returned (.bool (p f[k]))∧Ext wn w') :
  Calls Tryz.prog 142 #[.slice A f.length c,.func (.func fn) #[] cap] w fun e w'=>e=.returned (.bool (f.any p))∧Ext w w':=by
 have HF:=hid hf;clear hf;go_enter Tryz.func142, Tryz.ntmps142;go_wp2_with fail;refine (qud B fn cap A c f p _ hl h hc HF.out).mono ?_;rintro e w1 ⟨i,rfl,hi,hx⟩;go_wp2_with fail;go_ret;exact ⟨qa7 rfl,hx⟩
theorem qnx (B:Nat) (A:Option Addr) (c:Nat) (f:List Box) (p:Point) (w:World) (hl:f.length≤maxLen) (aO:∀ b∈f,qgl b) (hp:qaz p=true) (h:qaw B w A f) :
  Calls Tryz.prog 87 #[.slice A f.length c,.agg #[.int .i64 p.tags,.int .i64 p.num]] w fun e w'=>e=.returned (.bool (qbd f p))∧Ext w w':=by
 obtain ⟨h1,h2,h3,h4⟩:=qfy.1 hp;obtain ⟨tags,num⟩:=p;obtain ⟨t,rfl⟩:=Int.eq_ofNat_of_zero_le h1;have ht:t < 16:=by simp at h2;omega
 have aZ:=hid aO;have HE:=hid (show qbd f ⟨t,num⟩=f.any fun b=>qd9 b t&&qai b.spans num by simp [qbd]);clear aO hp h1 h2 h3 h4;go_enter Tryz.func87, Tryz.ntmps87;go_wp2_with fail;have aY:=(Ext.refl w).alloc (.cells #[.int .i64 t,.int .i64 num] 40);refine (qpa B 143 #[.pointer (some ⟨w.heap.size,0,none⟩)] A c f (fun b=>qd9 b t&&qai b.spans num) _ hl (h.ext RBox.monoE aY) Tryz.call143 (fun k hk A' c' wn dQ bW hs=>qxa B w.heap.size f[k] A' c' t num wn ht (aZ.out _ (List.getElem_mem hk)) bW hs (dQ.cell (by go_simp)) (dQ.cell (by go_simp)))).mono ?_;rintro e w1 ⟨rfl,hx⟩;go_wp2_with fail;go_ret;exact ⟨qa7 HE.out.symm,aY.trans hx⟩
theorem qpm (B1 B2:Nat) (A1:Option Addr) (c1:Nat) (A2:Option Addr) (c2:Nat) (l m:List Int) (w:World) (h:qg4 B1 w A1 l) (g:qg4 B2 w A2 m) (f8:l.length≤maxLen) :
  Calls Tryz.prog 107 #[.slice A1 l.length c1,.slice A2 m.length c2] w fun e w'=>e=.returned (.bool (decide (l=m)))∧Ext w w':=by
 have hmx:(l.length:Int)≤9223372036854775807:=by unfold maxLen at f8;omega
 clear f8
 by_cases ag:l.length=m.length
 ·have aV:((l.length:Int) !=(m.length:Int))=false:=by simp [ag]
  have HL:=hid ag;clear ag;go_enter Tryz.func107, Tryz.ntmps107;go_wp2_with fail;go_loopw [13] (fun i wr=>∃ j:Nat,j≤l.length∧i=.int .i64 j∧l.take j=m.take j∧Ext w wr) (fun i _=>l.length - (intOf i).toNat)
  case atStart=>exact ⟨0,Nat.zero_le _,rfl,rfl,Ext.refl w⟩
  obtain ⟨j,hj,rfl,ht,hx⟩:=hrel;have HT:=hid ht;clear ht
  by_cases aD:j < l.length
  ·have hmt:j < m.length:=by have:=HL.out;omega
   have HX:=hid hx;have j0:(0:Int)≤j:=by omega
   have j1:(j:Int) < l.length:=by omega
   have j2:(j:Int) < m.length:=by omega
   have HT1:=hid (List.take_append_getElem aD);have HT2:=hid (List.take_append_getElem hmt);have HLT:=hid aD;have HNE:=hid (show l[j]≠m[j]→l≠m from fun hn he=>hn (by subst he;rfl));obtain ⟨b1,o1,rfl,_,g0⟩:=(h.ext RInt.mono hx).int aD;obtain ⟨b2,o2,rfl,_,p0⟩:=(g.ext RInt.mono hx).int hmt;generalize l[j]=x at *;generalize m[j]=y at *;clear hx aD hmt
   by_cases he:x=y
   ·subst he
    go_upto_region 6 with fail;go_quiet (fail);go_wp2_with fail;go_roundw
    case rel=>exact ⟨j+1,HLT.out,by go_num,by rw [← HT1.out,← HT2.out,HT.out],HX.out.drewN _⟩
    case measure=>have:=HLT.out;simp [intOf];omega
   have hne':(x !=y)=true:=by simpa using he
   have HD:=hid he;clear he;go_upto_region 6 with fail;go_quiet (fail);go_wp2_with fail;go_ret;exact ⟨qa7 (decide_eq_false (HNE.out HD.out)).symm,HX.out.drewN _⟩
  obtain rfl:j=l.length:=by omega
  have HE:=hid (show l=m by
   have h1:=HT.out;rwa [List.take_length,HL.out,List.take_length] at h1)
  clear aD hj;go_wp2_with fail;go_ret;exact ⟨qa7 (by rw [HE.out];simp),hx⟩
 have aV:((l.length:Int) !=(m.length:Int))=true:=by simp;omega
 have HE:=hid (show l≠m from fun e=>ag (by rw [e]));clear ag;go_enter Tryz.func107, Tryz.ntmps107;go_wp2_with fail;go_ret;exact ⟨qa7 (decide_eq_false HE.out).symm,Ext.refl w⟩
theorem qpl (B1 B2:Nat) (A1:Option Addr) (c1:Nat) (A2:Option Addr) (c2:Nat) (l m:List Dot) (w:World) (h:qgm B1 w A1 l) (g:qgm B2 w A2 m) (f8:l.length≤maxLen) :
  Calls Tryz.prog 108 #[.slice A1 l.length c1,.slice A2 m.length c2] w fun e w'=>e=.returned (.bool (decide (l=m)))∧Ext w w':=by
 have hmx:(l.length:Int)≤9223372036854775807:=by unfold maxLen at f8;omega
 clear f8
 by_cases ag:l.length=m.length
 ·have aV:((l.length:Int) !=(m.length:Int))=false:=by simp [ag]
  have HL:=hid ag;clear ag;go_enter Tryz.func108, Tryz.ntmps108;go_wp2_with fail;go_loopw [13] (fun i wr=>∃ j:Nat,j≤l.length∧i=.int .i64 j∧l.take j=m.take j∧Ext w wr) (fun i _=>l.length - (intOf i).toNat)
  case atStart=>exact ⟨0,Nat.zero_le _,rfl,rfl,Ext.refl w⟩
  obtain ⟨j,hj,rfl,ht,hx⟩:=hrel;have HT:=hid ht;clear ht
  by_cases aD:j < l.length
  ·have hmt:j < m.length:=by have:=HL.out;omega
   have HX:=hid hx;have j0:(0:Int)≤j:=by omega
   have j1:(j:Int) < l.length:=by omega
   have j2:(j:Int) < m.length:=by omega
   have HT1:=hid (List.take_append_getElem aD);have HT2:=hid (List.take_append_getElem hmt);have HLT:=hid aD;have HNE:=hid (show l[j]≠m[j]→l≠m from fun hn he=>hn (by subst he;rfl));obtain ⟨b1,o1,rfl,_,g0,g1⟩:=(h.ext RPair.mono hx).pair aD;obtain ⟨b2,o2,rfl,_,p0,p1⟩:=(g.ext RPair.mono hx).pair hmt;generalize l[j]=x at *;generalize m[j]=y at *;clear hx aD hmt;obtain ⟨x1,x2⟩:=x;obtain ⟨y1,y2⟩:=y;simp only at g0 g1 p0 p1
   by_cases he:x1=y1
   ·subst he
    by_cases hf:x2=y2
    ·subst hf
     go_upto_region 6 with fail;go_quiet (fail);go_wp2_with fail;go_roundw
     case rel=>exact ⟨j+1,HLT.out,by go_num,by rw [← HT1.out,← HT2.out,HT.out],HX.out.drewN _⟩
     case measure=>have:=HLT.out;simp [intOf];omega
    have hne':(x2==y2)=false:=by simpa using hf
    have HD:=hid (show (⟨x1,x2⟩:Dot)≠⟨x1,y2⟩ from fun e=>hf (by injection e));clear hf;go_upto_region 6 with fail;go_quiet (fail);go_wp2_with fail;go_ret;exact ⟨qa7 (decide_eq_false (HNE.out HD.out)).symm,HX.out.drewN _⟩
   have hne':(x1==y1)=false:=by simpa using he
   have HD:=hid (show (⟨x1,x2⟩:Dot)≠⟨y1,y2⟩ from fun e=>he (by injection e));clear he;go_upto_region 6 with fail;go_quiet (fail);go_wp2_with fail;go_ret;exact ⟨qa7 (decide_eq_false (HNE.out HD.out)).symm,HX.out.drewN _⟩
  obtain rfl:j=l.length:=by omega
  have HE:=hid (show l=m by
   have h1:=HT.out;rwa [List.take_length,HL.out,List.take_length] at h1)
  clear aD hj;go_wp2_with fail;go_ret;exact ⟨qa7 (by rw [HE.out];simp),hx⟩
 have aV:((l.length:Int) !=(m.length:Int))=true:=by simp;omega
 have HE:=hid (show l≠m from fun e=>ag (by rw [e]));clear ag;go_enter Tryz.func108, Tryz.ntmps108;go_wp2_with fail;go_ret;exact ⟨qa7 (decide_eq_false HE.out).symm,Ext.refl w⟩
theorem qid (B1 B2:Nat) (k l:Know) (Av:Option Addr) (cv:Nat) (Am:Option Addr) (cm:Nat) (Bv:Option Addr) (dv:Nat) (Bm:Option Addr) (dm:Nat) (w:World) (h:InK B1 w Av Am k) (g:InK B2 w Bv Bm l) :
  Calls Tryz.prog 49 #[.agg #[.slice Av k.vec.length cv, .slice Am k.more.length cm],.agg #[.slice Bv l.vec.length dv, .slice Bm l.more.length dm]] w fun e w'=>e=.returned (.bool (decide (k=l)))∧Ext w w':=by
 have hx:=((Ext.refl w).alloc (.cells #[.slice Av k.vec.length cv,.slice Am k.more.length cm] 101)).alloc (.cells #[.slice Bv l.vec.length dv,.slice Bm l.more.length dm] 101);have HF:=hid (show decide (k=l)=(decide (k.vec=l.vec)&&decide (k.more=l.more)) by
  rw [← Bool.decide_and];congr 1;obtain ⟨a,b⟩:=k;obtain ⟨c,d⟩:=l;simp)
 have HC:=hid (fun w' (a:qg4 B1 w' Av k.vec) (b:qg4 B2 w' Bv l.vec)=>qpm B1 B2 Av cv Bv dv k.vec l.vec w' a b h.lv);generalize hb:decide (k.vec=l.vec)=b at *;clear hb
 cases b
 ·go_enter Tryz.func49, Tryz.ntmps49
  go_wp2_with fail;refine (HC.out _ (h.ext hx).sv (g.ext hx).sv).mono ?_;rintro e w1 ⟨rfl,aE⟩;go_wp2_with fail;go_ret;exact ⟨qa7 HF.out.symm,hx.trans aE⟩
 go_enter Tryz.func49, Tryz.ntmps49;go_wp2_with fail;refine (HC.out _ (h.ext hx).sv (g.ext hx).sv).mono ?_;rintro e w1 ⟨rfl,aE⟩;have q0:w1.cell? ⟨w.heap.size,1,none⟩=some (.slice Am k.more.length cm):=aE.cell (by go_simp);have q1:w1.cell? ⟨w.heap.size+1,1,none⟩=some (.slice Bm l.more.length dm):=aE.cell (by go_simp);go_wp2_with fail;refine (qpl B1 B2 Am cm Bm dm k.more l.more w1 (h.ext (hx.trans aE)).sm (g.ext (hx.trans aE)).sm h.lm).mono ?_;rintro e w2 ⟨rfl,aH⟩;generalize decide (k.more=l.more)=bb at *;go_wp2_with fail;go_ret;exact ⟨qa7 HF.out.symm,(hx.trans aE).trans aH⟩
theorem quu (d:Dot) (w:World):Calls Tryz.prog 67 #[.agg #[.int .i64 d.site,.int .i64 d.count]] w fun e w'=>e=.returned (.bool (qb8 d))∧Ext w w':=by
 have hx:=(Ext.refl w).alloc (.cells #[.int .i64 d.site,.int .i64 d.count] 35);have HF:=hid (show qb8 d=(betw d.site 0 4&&betw d.count 1 1000) by
  rw [Bool.eq_iff_iff,qar,Bool.and_eq_true];simp only [betw,decide_eq_true_eq];omega)
 have HC:=hid (fun w'=>qb5 d.site 0 4 w');generalize betw d.site 0 4=b at *
 cases b
 ·go_enter Tryz.func67, Tryz.ntmps67
  go_wp2_with fail;refine (HC.out _).mono ?_;rintro e w1 ⟨rfl,rfl⟩;go_wp2_with fail;go_ret;exact ⟨qa7 HF.out.symm,hx⟩
 go_enter Tryz.func67, Tryz.ntmps67;go_wp2_with fail;refine (HC.out _).mono ?_;rintro e w1 ⟨rfl,rfl⟩;go_wp2_with fail;refine (qb5 d.count 1 1000 _).mono ?_;rintro e w2 ⟨rfl,rfl⟩;generalize betw d.count 1 1000=bb at *;go_wp2_with fail;go_ret;exact ⟨qa7 HF.out.symm,hx⟩
end Go.Proofs.YtngbfdogiciahaaGreat
