/- Texts joined. -/
import Derived.Test.YtngbfdogiciahaaGreatJoinFewB
set_option maxRecDepth 100000
set_option maxHeartbeats 40000000
namespace Go.Proofs.YtngbfdogiciahaaGreat
open Go Go.RowKit
theorem jcv:(Tryz.prog.info? 143).isSome=true:=by kernel_rfl
theorem jcu:(Tryz.prog.info? 182).isSome=true:=by kernel_rfl
theorem qwb (S:DSet) {i:Nat}:(rowF 16 fun k=>(Value.int .u64 ((qb3 S ((i*16+k) / 16) ((i*16+k) % 16):Nat):Int)))=rowF 16 fun k=>.int .u64 ((qb3 S i k:Nat):Int):=
 qgw fun k hk=>by rw [show (i*16+k) / 16=i by omega,show (i*16+k) % 16=k by omega]
theorem qpk (S T:DSet) (w:World):(Op.equalIn 10000 184 (.agg (rowD S)) (.agg (rowD T))).run Tryz.prog w=.ok (eqD S T) w:=by
 obtain ⟨i,hi⟩:=Option.isSome_iff_exists.1 jcv;obtain ⟨r,hr⟩:=Option.isSome_iff_exists.1 jcu;refine qor (m:=5) (s:=16) Tryz.underlying184 hr (by kernel_rfl) (fun _=>by kernel_rfl) (fun _=>by kernel_rfl) 9999 (fun j hj w=>?_) w;rw [qwb S,qwb T];exact qil Tryz.underlying182 hi (by kernel_rfl) (fun _=>by kernel_rfl) 9998 (fun k _ w=>run_equalIn_int w 9997 143 .u64 .u64 _ _ Tryz.underlying143) w
section
variable {P:Program} {ops:Array Oper} {C:World→Prop} {Q:Act→Prop} {rest:List Oper} {a:Act} {dst:Option Tmp} {ty:TypeId} {pos:String} {after:Array Edge}
theorem qet {t:TypeId} {n:Nat} (ri:qc0 P t n) {x:Operand} {b i:Nat} {cs:Array Value} (hx:a.eval x=.pointer (some ⟨b,i,none⟩)) (hC:∀ w,C w→w.rangeAt b i cs.toList) (hn:cs.size=n)
  (h:WQ P ops C Q rest (a.put dst (.agg cs))):WQ P ops C Q (⟨dst,.load t x,ty,pos,after,none⟩::rest) a:=by
 obtain ⟨⟨d,hu,hd⟩,hi⟩:=ri;exact ⟨qeg (cs:=cs.toList) hu hd (by rw [hi,Array.length_toList,hn]) rfl hx hC (by rw [Array.toArray_toList];exact h.out)⟩
theorem qip {t:TypeId} {n:Nat} (ri:qc0 P t n) {x:Operand} {b i:Nat} {cs:Array Value} {j:Nat} {g:Bool} (hg:yielded ops a.tmps j=some g) (hx:a.eval x=.pointer (some ⟨b,i,none⟩)) (hC:∀ w,C w→w.rangeAt b i cs.toList) (hn:cs.size=n)
  (h:WQ P ops C Q rest (a.put dst (.agg cs))):WQ P ops C Q (⟨dst,.load t x,ty,pos,after,some (j,g)⟩::rest) a:=by
 obtain ⟨⟨d,hu,hd⟩,hi⟩:=ri;exact ⟨qeg (cs:=cs.toList) hu hd (by rw [hi,Array.length_toList,hn]) (by simp [Region.wanted,hg]) hx hC (by rw [Array.toArray_toList];exact h.out)⟩
end
theorem qw7 (B:Nat) (A:Option Addr) (c:Nat) (l:List Part) (w:World) (hl:l.length≤30) (aO:∀ x∈l,PartOk x) (h:qcg B w A l) :
  Calls Tryz.prog 46 #[.slice A l.length c] w fun e w'=>∃ v,e=.returned v∧Own RRef 592 186 w' w.heap.size v (l.map qd1)∧Ext w w':=by
 have aZ:=hid aO;clear aO;go_enter Tryz.func46, Tryz.ntmps46;go_wp2_with fail;go_loopw [8,3] (fun i v wr=>∃ k:Nat,k≤l.length∧i=.int .i64 k∧Own RRef 592 186 wr w.heap.size v ((l.take k).map qd1)∧Ext w wr) (fun i _ _=>l.length - (intOf i).toNat)
 case atStart=>exact ⟨0,Nat.zero_le _,rfl,Own.nil,Ext.refl _⟩
 obtain ⟨k,hk,rfl,aQ,hx⟩:=hrel
 rename_i v _
 by_cases aD:k < l.length
 ·obtain ⟨b,off,Af,cf,Av,cv,Am,cm,rfl,hb,g0,g1,g2,hp⟩:=(h.ext RPart.monoE hx).part aD
  have HO:=hid (aZ.out _ (List.getElem_mem aD));have HP:=hid hp;have am:=hid (show ((l.take k).map qd1).length+1≤30 by rw [List.length_map,List.length_take];omega);have fX:=hid (show (l.take (k+1)).map qd1=(l.take k).map qd1++[qd1 l[k]] by rw [List.take_succ_eq_append_getElem aD,List.map_append];rfl);clear hp;go_wp2_with fail;have q0:(wr.alloc (.cells #[.slice Af l[k].filter.length cf,.slice Av l[k].know.vec.length cv,.slice Am l[k].know.more.length cm] 181)).cell? ⟨wr.heap.size,0,none⟩=some (.slice Af l[k].filter.length cf):=by go_simp
  have q1:(wr.alloc (.cells #[.slice Af l[k].filter.length cf,.slice Av l[k].know.vec.length cv,.slice Am l[k].know.more.length cm] 181)).cell? ⟨wr.heap.size,1,none⟩=some (.slice Av l[k].know.vec.length cv):=by go_simp
  have q2:(wr.alloc (.cells #[.slice Af l[k].filter.length cf,.slice Av l[k].know.vec.length cv,.slice Am l[k].know.more.length cm] 181)).cell? ⟨wr.heap.size,2,none⟩=some (.slice Am l[k].know.more.length cm):=by go_simp
  have ht:tyAt (wr.alloc (.cells #[.slice Af l[k].filter.length cf,.slice Av l[k].know.vec.length cv,.slice Am l[k].know.more.length cm] 181)) wr.heap.size=some 181:=by unfold tyAt;rw [heap_alloc_new]
  have hz:wr.heap.size < (wr.alloc (.cells #[.slice Af l[k].filter.length cf,.slice Av l[k].know.vec.length cv,.slice Am l[k].know.more.length cm] 181)).heap.size:=by simp
  have aK:=(Ext.refl wr).alloc (.cells #[.slice Af l[k].filter.length cf,.slice Av l[k].know.vec.length cv,.slice Am l[k].know.more.length cm] 181);obtain ⟨wa,cD⟩:=ex1 (wr.alloc (.cells #[.slice Af l[k].filter.length cf,.slice Av l[k].know.vec.length cv,.slice Am l[k].know.more.length cm] 181));obtain ⟨r,hr⟩:=ex1 wr.heap.size;rw [← cD] at q0 q1 q2 ht hz aK ⊢;rw [← hr] at q0 q1 q2 ht hz ⊢;clear cD hr g0 g1 g2;have HPn:=hid (fun w' (x:Ext wa w')=>HP.out.ext (aK.trans x));have eM:=hid (show w.heap.size≤wa.heap.size from (hx.trans aK).size);have dS:=hid (hx.trans aK);replace aQ:=aQ.ext (RRef.mono (B:=0)) aK;have aB:=hid (fun w' (x:Ext wa w')=>show w'.cell? ⟨r,0,none⟩=some (.slice Af l[k].filter.length cf)∧w'.cell? ⟨r,1,none⟩=some (.slice Av l[k].know.vec.length cv)∧w'.cell? ⟨r,2,none⟩=some (.slice Am l[k].know.more.length cm) from ⟨x.cell q0,x.cell q1,x.cell q2⟩);have HT:=hid (fun w' (x:Ext wa w')=>(qep (x.blockAt hz)).trans ht)
  clear q0 q1 q2 ht hz aK hx;have aA:=(Ext.refl wa).drew;replace aQ:=aQ.ext (RRef.mono (B:=0)) aA;refine wp_region_held_drew (S:=fun w'=>w'.cell? ⟨r,0,none⟩=some (.slice Af l[k].filter.length cf)∧w'.cell? ⟨r,1,none⟩=some (.slice Av l[k].know.vec.length cv)∧w'.cell? ⟨r,2,none⟩=some (.slice Am l[k].know.more.length cm)) (by kernel_rfl) (aB.out _ aA) (fun hHeld=>?_);obtain ⟨wc,aS⟩:=ex1 wa.drew;rw [← aS] at hHeld aA aQ ⊢;clear aS;refine tkA 0 _ rfl ?_;(try simp only [gq,pq]);refine tkA 1 _ rfl ?_;(try simp only [gq,pq]);refine tkA 2 _ rfl ?_;(try simp only [gq,pq]);refine tkA 4 _ rfl ?_;(try simp only [gq,pq]);refine tkA 5 _ rfl ?_;(try simp only [gq,pq]);refine rd1 3 rfl fun K hK=>?_;simp only [gq];go_simp;refine (qsv B Af cf l[k].filter wc HP.out.lf (qah HO.out.f).2 (HPn.out wc aA).sf).mono ?_;rintro e wn ⟨rfl,aC⟩;dsimp only;replace aQ:=aQ.ext (RRef.mono (B:=0)) aC;replace aA:=aA.trans aC;clear aC
  obtain ⟨wc,rfl⟩:=ex1 wn;refine hK.out _ _ (aB.out _ aA) (fun hHeld=>?_);clear hK K;(try simp only [pq]);refine rd1 6 rfl fun K hK=>?_;simp only [gq];go_simp;refine (qlk B l[k].know Av cv Am cm wc (HPn.out wc aA).k HO.out.k).mono ?_;rintro e wn ⟨rfl,aC⟩;dsimp only;replace aQ:=aQ.ext (RRef.mono (B:=0)) aC;replace aA:=aA.trans aC;clear aC;obtain ⟨wc,rfl⟩:=ex1 wn;refine hK.out _ _ (aB.out _ aA) (fun hHeld=>?_);clear hK K;(try simp only [pq]);refine rd1 7 rfl fun K hK=>?_;simp only [gq];simp only [Region.wanted,if_true];refine qp5 jai (.tmp 15) (.tmp 18) rfl (by rfl) (by rfl) (qa6 _ _) (qad _) ?_;generalize bK:rowB 512 (pts l[k].filter)++rowD (hasK l[k].know)=cs;have HCS:=hid bK.symm;clear bK;refine hK.out _ _ (aB.out _ aA) (fun hHeld=>?_);clear hK K;(try simp only [pq]);refine rd1 8 rfl fun K hK=>?_;simp only [gq];simp only [Region.wanted,if_true];refine qhp Tryz.underlying75 qi5 ⟨by omega,by omega⟩ (.tmp 19) rfl (by rfl) (by rw [HCS.out];exact qa5 (qd1 l[k])) ?_
  have aC:=(Ext.refl wc).alloc (.cells cs 186);obtain ⟨wn,aP⟩:=ex1 (wc.alloc (.cells cs 186));have hL8:qe3 0 wn (some ⟨wc.heap.size,0,none⟩) [qd1 l[k]]:=Sl.one (cs:=cs.toList) (by rw [aP,Array.toArray_toList]) (by rw [HCS.out,Array.length_toList];exact qa5 (qd1 l[k])) (by unfold RRef;rw [HCS.out];rfl);obtain ⟨a8,ha8⟩:=ex1 (some (⟨wc.heap.size,0,none⟩:Addr));rw [← aP] at aC;rw [← aP,← ha8];rw [← ha8] at hL8;replace aQ:=aQ.ext (RRef.mono (B:=0)) aC;replace aA:=aA.trans aC;clear aC aP ha8;obtain ⟨wc,rfl⟩:=ex1 wn;refine hK.out _ _ (aB.out _ aA) (fun hHeld=>?_);clear hK K;(try simp only [pq]);refine rd1 9 rfl fun K hK=>?_;simp only [gq];simp only [Region.wanted,if_true];refine qh2 (.tmp 12) (.tmp 20) rfl qz4 rfl aQ (B:=0) (Nat.zero_le _) (Nat.le_trans eM.out aA.size) (ys:=[qd1 l[k]]) (c:=1) rfl hL8 RRef.oneC RRef.mono (by have:=am.out;simp [maxLen];omega) (by have:=am.out;simp;omega) ?_
  intro v9 wn hL9 ah aw _;have aV:r < 0∨∀ t∈[186],tyAt wc r≠some t:=.inr fun t ht=>by rw [HT.out wc aA,List.mem_singleton.1 ht];decide
  have hq:=aB.out wc aA;have al:=(dS.out.trans aA).below aw (Nat.le_refl _);refine hK.out _ _ ⟨ah.cell aV hq.1,ah.cell aV hq.2.1,ah.cell aV hq.2.2⟩ (fun hHeld=>?_);clear ah aw aV hq aQ hL8 aA;clear hK K;(try simp only [pq]);refine tkA 10 _ rfl ?_;(try simp only [gq,pq]);refine wpAnyH_done (by kernel_rfl) ?_ _;go_wp2_with fail;go_roundw
  case rel=>
   refine ⟨k+1,aD,by go_num,?_,al⟩;rw [fX.out];exact hL9
  case measure=>simp [intOf];omega
 obtain rfl:k=l.length:=by omega
 rw [List.take_length] at aQ;go_wp2_with fail;go_ret;exact ⟨_,rfl,aQ,hx⟩
theorem jat (B:Nat) (A:Option Addr) (c:Nat) (l:List RP) (p:Point) (s n:Nat) (w:World) (hp:qaz p=true) (hs:s < 5) (hn:n < 1024) (hl:l.length≤maxLen) (h:qe3 B w A l) :
  Calls Tryz.prog 68 #[.slice A l.length c,.agg #[.int .i64 p.tags,.int .i64 p.num],.agg #[.int .i64 (s:Int),.int .i64 (n:Int)]] w fun e w'=>e=.returned (.bool (qkb l (32*p.tags+p.num).toNat s n))∧Ext w w':=by
 unfold maxLen at hl;have HP:=hid hp;clear hp;obtain ⟨i,hi⟩:=ex1 ((32*p.tags+p.num).toNat);have HI:=hid hi;rw [← hi];clear hi;have aY:=((Ext.refl w).alloc (.cells #[.int .i64 p.tags,.int .i64 p.num] 40)).alloc (.cells #[.int .i64 (s:Int),.int .i64 (n:Int)] 35);go_enter Tryz.func68, Tryz.ntmps68;go_wp2_with fail;go_loopw [11] (fun j wr=>∃ k:Nat,k≤l.length∧j=.int .i64 k∧qkb (l.take k) i s n=false∧wr.cell? ⟨w.heap.size,0,none⟩=some (.int .i64 p.tags)∧wr.cell? ⟨w.heap.size,1,none⟩=some (.int .i64 p.num)∧wr.cell? ⟨w.heap.size+1,0,none⟩=some (.int .i64 (s:Int))∧wr.cell? ⟨w.heap.size+1,1,none⟩=some (.int .i64 (n:Int))∧Ext w wr) (fun j _=>l.length - (intOf j).toNat)
 case atStart=>exact ⟨0,Nat.zero_le _,rfl,rfl,by go_simp,by go_simp,by go_simp,by go_simp,aY⟩
 clear aY;obtain ⟨k,hk,rfl,hG,p0,p1,d0,d1,hx⟩:=hrel;have HG:=hid hG;clear hG
 by_cases aD:k < l.length
 ·obtain ⟨b,off,rfl,hb,hr⟩:=(h.ext RRef.mono hx).ref aD
  have HS:=hid (show qkb (l.take (k+1)) i s n=(qkb (l.take k) i s n||(l[k].P i&&l[k].K s n)) from qjr _ l k aD);obtain ⟨X,hX⟩:=ex1 (l[k]);rw [← hX] at hr HS;have HXL:=hid hX;clear hX;go_wp2_with (first
   | ((with_reducible refine qa1 (o:=⟨some 14,_,_,_,_,_⟩) qc7 _ rfl rfl rfl hr (qa5 _) ?_))
   | ((with_reducible refine qa2 (o:=⟨some 8,_,_,_,_,_⟩) qj9 rfl rfl ?_);intro w1 aE aX bX)
   | ((with_reducible refine qa3 (o:=⟨none,_,_,_,_,_⟩) qc7 _ _ rfl rfl rfl rfl aX (qa5 _) (qa5 ⟨fun _=>false,fun _ _=>false⟩) (qcq _) ?_);intro w2 aH aI bC aR;have al:=aE.below aH (Nat.le_refl _);replace p0:=al.cell p0;replace p1:=al.cell p1;replace d0:=al.cell d0;replace d1:=al.cell d1;clear aE aH hr)
   | ((with_reducible refine qd4 (o:=⟨some 16,_,_,_,_,_⟩) qbb _ rfl rfl (qsw aI) (qa6 _ _) ?_))
   | ((with_reducible refine qa1 (o:=⟨some 16,_,_,_,_,_⟩) qbb _ rfl rfl rfl (qsw aI) (qa6 _ _) ?_)))
  replace hx:=hx.trans al;clear al;refine (jar X.P p HP.out _).mono ?_;rintro e w3 ⟨rfl,aM⟩;rw [← HI.out];replace hx:=hx.trans aM;replace aI:=aI.ext aM;replace p0:=aM.cell p0;replace p1:=aM.cell p1;replace d0:=aM.cell d0;replace d1:=aM.cell d1;clear aM
  cases hA:X.P i
  ·have HA:=hid (show (X.P i&&X.K s n)=false by rw [hA];rfl)
   clear hA;go_wp2_with fail;go_roundw
   case rel=>exact ⟨k+1,aD,by go_num,by rw [HS.out,HG.out,HA.out];rfl,p0,p1,d0,d1,hx⟩
   case measure=>simp [intOf];omega
  have HA:=hid (show (X.P i&&X.K s n)=X.K s n by rw [hA];rfl);clear hA;go_wp2_with fail;refine qd4 (o:=⟨some 21,_,_,_,_,_⟩) qe9 _ rfl rfl (qr4 aI) (qad _) ?_;go_wp2_with fail;refine (qg5 X.K s n _ hs hn).mono ?_;rintro e w4 ⟨rfl,aj⟩;replace hx:=hx.trans aj;replace p0:=aj.cell p0;replace p1:=aj.cell p1;replace d0:=aj.cell d0;replace d1:=aj.cell d1;clear aj
  cases hB:X.K s n
  ·have HB:=hid hB
   clear hB;go_wp2_with fail;go_roundw
   case rel=>exact ⟨k+1,aD,by go_num,by rw [HS.out,HG.out,HA.out,HB.out];rfl,p0,p1,d0,d1,hx⟩
   case measure=>simp [intOf];omega
  have HB:=hid hB;clear hB;have HT:=hid (show qkb l i s n=true from List.any_eq_true.2 ⟨l[k],List.getElem_mem aD,by rw [← HXL.out,HA.out,HB.out]⟩);go_wp2_with fail;go_ret;exact ⟨qa7 HT.out.symm,hx⟩
 obtain rfl:k=l.length:=by omega
 rw [List.take_length] at HG;go_wp2_with fail;go_ret;exact ⟨qa7 HG.out.symm,hx⟩
theorem qb9 {w w':World} {b o:Nat} {cs:List Value} (x:Ext w w') (h:w.rangeAt b o cs):w'.rangeAt b o cs:=fun j v hv=>x.cell (h j v hv)
theorem Blk.range {w:World} {b:Nat} {e:TypeId} {cs:Array Value} (h:Blk w b e cs):w.rangeAt b 0 cs.toList:=fun j v hv=>by
 rw [Nat.zero_add];exact h.cell (by rwa [Array.getElem?_toList] at hv)
theorem qzm:(Tryz.prog.info? 4).isSome=true:=by kernel_rfl
theorem qns (p q:Nat→Bool) (w:World):(Op.equalIn 10000 73 (.agg (rowB 512 p)) (.agg (rowB 512 q))).run Tryz.prog w=.ok (qds (fun i=>p i==q i) 512) w:=by
 obtain ⟨i,hi⟩:=Option.isSome_iff_exists.1 qzm;exact qil Tryz.underlying73 hi (by kernel_rfl) (fun _=>by kernel_rfl) 9999 (fun i _ w=>run_equalIn_bool w 9998 4 _ _ Tryz.underlying4) w
theorem qon (B:Nat) (A:Option Addr) (c:Nat) (f:List Box) (p:Nat→Bool) (w:World) (hl:f.length≤16) (h0:qa0 f=0) (hp:∀ i,i < 512→pts f i=p i) (h:qaw B w A f) :
  Calls Tryz.prog 40 #[.slice A f.length c,.agg (rowB 512 p)] w fun e w'=>e=.returned (.bool true)∧Ext w w':=by
 have hlm:f.length≤maxLen:=by unfold maxLen;omega
 have aO:=(qah h0).2;have e16:decide ((f.length:Int)≤16)=true:=by simp;omega
 obtain ⟨cs,bK⟩:∃ cs:List Value,cs=(rowB 512 p).toList:=⟨_,rfl⟩
 have hu:=Tryz.underlying73;have hi:(Tryz.prog.info? 73).map (·.size)=some cs.length:=by rw [bK,Array.length_toList,qa6];exact qfp.2
 have heq:∀ w,(Op.equalIn 10000 73 (.agg (rowB 512 (pts f))) (.agg cs.toArray)).run Tryz.prog w=.ok true w:=fun w=>by
  rw [bK,Array.toArray_toList,qns];congr 1;rw [qcy];intro i hi;simp [hp i hi]
 have HFil:=hid (fun w (hs:qaw B w A f)=>show Calls Tryz.prog 31 #[.slice A f.length c] w fun e w'=>e=.returned (.int .i64 0)∧Ext w w' by have:=qfm B A c f w hlm hs;rwa [h0] at this);have HOf:=hid (fun w (hs:qaw B w A f)=>qsv B A c f w hlm aO hs);clear aO hp h0 hlm;generalize pts f=q at *;go_enter Tryz.func40, Tryz.ntmps40;go_upto_region 1 with ((with_reducible refine qbr (o:=⟨some 3,_,_,_,_,_⟩) _ rfl rfl rfl ?_);intro w1 aE aX bX)
 have hr:w1.rangeAt w.heap.size 0 cs:=by rw [bK];exact aX.range
 clear bK;have HX:=hid aE;have HS:=hid h;clear aE aX h;go_region_held3 (fun w'=>w'.rangeAt w.heap.size 0 cs) (first | go_keep | (exact qb9 ac (by assumption)) | (exact qb9 a7 (by assumption)))
  (first
   | (go_at_call 31;refine (HFil.out _ (HS.out.ext RBox.monoE HX.out.drew)).mono ?_;rintro e w7 ⟨rfl,ac⟩;have hy7:=HX.out.drew.trans ac)
   | (go_at_call 32;refine (HOf.out _ (HS.out.ext RBox.monoE hy7)).mono ?_;rintro e w8 ⟨rfl,a7⟩;have hy8:=hy7.trans a7))
 all_goals
  go_wp2_with fail;go_ret;exact ⟨rfl,hy8⟩
def qb4 (a b:RP):Bool:=eqD (andD a.K b.K) a.K&&qds (fun i=>(a.P i&&b.P i)==a.P i) 512
def qlg (p:RP):Bool:=qds (fun i=>p.P i==false) 512||eqD p.K (fun _ _=>false)
theorem jgl (a b:Bool) (w:World):Calls Tryz.prog 205 #[.bool a,.bool b] w fun e w'=>e=.returned (.bool (a&&b))∧w=w':=by
 cases a
 ·go_enter Tryz.func205, Tryz.ntmps205
  go_wp2_with fail;go_ret;exact ⟨rfl,rfl⟩
 go_enter Tryz.func205, Tryz.ntmps205;go_wp2_with fail;go_ret;exact ⟨rfl,rfl⟩
theorem qkl (a b:RP) (w:World) :
  Calls Tryz.prog 172 #[.agg (rowB 512 a.P++rowD a.K),.agg (rowB 512 b.P++rowD b.K)] w fun e w'=>e=.returned (.bool (qb4 a b))∧Ext w w':=by
 obtain ⟨W,hW⟩:∃ W:Bool,W=eqD (andD a.K b.K) a.K:=⟨_,rfl⟩
 obtain ⟨V,hV⟩:∃ V:Bool,V=qds (fun i=>(a.P i&&b.P i)==a.P i) 512:=⟨_,rfl⟩
 have HU:=hid (show qb4 a b=(W&&V) by rw [hW,hV,qb4]);have HW:=hid hW;have HV:=hid hV;have heq1:∀ w,(Op.equalIn 10000 184 (.agg (rowD (andD a.K b.K))) (.agg (rowD a.K))).run Tryz.prog w=.ok W w:=fun w=>by rw [HW.out];exact qpk _ _ w
 have heq2:∀ w,(Op.equalIn 10000 73 (.agg (rowB 512 fun i=>a.P i&&b.P i)) (.agg (rowB 512 a.P))).run Tryz.prog w=.ok V w:=fun w=>by rw [HV.out,qns]
 have HE:=hid (fun w'=>qr3 205 (fun a b=>a&&b) a.P b.P w' Tryz.call205 jgl);clear hW hV;go_enter Tryz.func172, Tryz.ntmps172;go_wp2_with (first
  | ((with_reducible refine qbr (o:=⟨some 2,_,_,_,_,_⟩) _ rfl rfl rfl ?_);intro w1 aE aX bX)
  | ((with_reducible refine qbr (o:=⟨some 3,_,_,_,_,_⟩) _ rfl rfl rfl ?_);intro w2 aH aI bC))
 have hx:=aE.trans aH;rw [bX] at aI;have H2:=hid (fun w' (x:Ext w2 w')=>(aX.ext aH).ext x);have H3:=hid (fun w' (x:Ext w2 w')=>aI.ext x);clear aE aH aX aI bC
 cases W
 ·refine qaj (fun w'=>Ext w2 w') (by kernel_rfl) (by kernel_rfl) (Ext.refl _).drew ?_
  refine qio (v:=?_) (fun w' hw'=>?_) ?_
  rotate_left
  ·go_simp <;> with_reducible rfl
  (try simp only [pq]);refine qet qe9 (by rfl) (fun w' x=>qr4 (H2.out w' x)) (qad _) ?_;(try simp only [pq]);refine qio (v:=?_) (fun w' hw'=>?_) ?_
  rotate_left
  ·go_simp <;> with_reducible rfl
  (try simp only [pq]);refine qet qe9 (by rfl) (fun w' x=>qr4 (H3.out w' x)) (qad _) ?_;(try simp only [pq]);refine qgk Tryz.call204 (by rfl) (fun w' x=>(qru a.K b.K w').mono fun _ _ h=>⟨h.1,x.trans h.2⟩) ?_;(try simp only [pq]);refine qio (v:=?_) (fun w' hw'=>?_) ?_
  rotate_left
  ·go_simp <;> with_reducible rfl
  (try simp only [pq]);refine qet qe9 (by rfl) (fun w' x=>qr4 (H2.out w' x)) (qad _) ?_;try simp only [pq]
  iterate 2
   refine qio (v:=?_) (fun w' hw'=>?_) ?_
   rotate_left
   ·go_simp <;> with_reducible rfl
   try simp only [pq]
  iterate 8
   refine qhq (qa9 rfl rfl rfl) ?_;try simp only [pq]
  iterate 2
   refine qio (v:=?_) (fun w' hw'=>?_) ?_
   rotate_left
   ·go_simp <;> with_reducible rfl
   try simp only [pq]
  refine qcf ?_;intro w8 aA;go_wp2_with fail;go_ret;exact ⟨qa7 (by rw [HU.out];rfl),hx.trans aA⟩
 refine qaj (fun w'=>Ext w2 w') (by kernel_rfl) (by kernel_rfl) (Ext.refl _).drew ?_;refine qio (v:=?_) (fun w' hw'=>?_) ?_
 rotate_left
 ·go_simp <;> with_reducible rfl
 (try simp only [pq]);refine qet qe9 (by rfl) (fun w' x=>qr4 (H2.out w' x)) (qad _) ?_;(try simp only [pq]);refine qio (v:=?_) (fun w' hw'=>?_) ?_
 rotate_left
 ·go_simp <;> with_reducible rfl
 (try simp only [pq]);refine qet qe9 (by rfl) (fun w' x=>qr4 (H3.out w' x)) (qad _) ?_;(try simp only [pq]);refine qgk Tryz.call204 (by rfl) (fun w' x=>(qru a.K b.K w').mono fun _ _ h=>⟨h.1,x.trans h.2⟩) ?_;(try simp only [pq]);refine qio (v:=?_) (fun w' hw'=>?_) ?_
 rotate_left
 ·go_simp <;> with_reducible rfl
 (try simp only [pq]);refine qet qe9 (by rfl) (fun w' x=>qr4 (H2.out w' x)) (qad _) ?_;try simp only [pq]
 iterate 2
  refine qio (v:=?_) (fun w' hw'=>?_) ?_
  rotate_left
  ·go_simp <;> with_reducible rfl
  try simp only [pq]
 refine qkx (v:=?_) (qa9 rfl rfl rfl) (fun w' hw'=>?_) ?_
 rotate_left
 ·go_simp <;> with_reducible rfl
 (try simp only [pq]);refine qip qbb (qa9 rfl rfl rfl) (by rfl) (fun w' x=>qsw (H2.out w' x)) (qa6 _ _) ?_;(try simp only [pq]);refine qkx (v:=?_) (qa9 rfl rfl rfl) (fun w' hw'=>?_) ?_
 rotate_left
 ·go_simp <;> with_reducible rfl
 (try simp only [pq]);refine qip qbb (qa9 rfl rfl rfl) (by rfl) (fun w' x=>qsw (H3.out w' x)) (qa6 _ _) ?_;(try simp only [pq]);refine qg2 Tryz.call164 (qa9 rfl rfl rfl) (by rfl) (fun w' x=>(HE.out w').mono fun _ _ h=>⟨h.1,x.trans h.2⟩) ?_;(try simp only [pq]);refine qkx (v:=?_) (qa9 rfl rfl rfl) (fun w' hw'=>?_) ?_
 rotate_left
 ·go_simp <;> with_reducible rfl
 (try simp only [pq]);refine qip qbb (qa9 rfl rfl rfl) (by rfl) (fun w' x=>qsw (H2.out w' x)) (qa6 _ _) ?_;(try simp only [pq]);refine qkx (v:=?_) (qa9 rfl rfl rfl) (fun w' hw'=>?_) ?_
 rotate_left
 ·go_simp <;> with_reducible rfl
 try simp only [pq]
 iterate 2
  refine qio (v:=?_) (fun w' hw'=>?_) ?_
  rotate_left
  ·go_simp <;> with_reducible rfl
  try simp only [pq]
 refine qcf ?_;intro w8 aA;go_wp2_with fail;go_ret;exact ⟨qa7 (by rw [HU.out];rfl),hx.trans aA⟩
end Go.Proofs.YtngbfdogiciahaaGreat
