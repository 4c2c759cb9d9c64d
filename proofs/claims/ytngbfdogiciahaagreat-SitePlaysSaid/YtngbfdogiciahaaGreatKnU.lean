/- The walks of the reference's sets of dots as words of bits: With, Has. -/
import Derived.Test.YtngbfdogiciahaaGreatJoinKnPl
import Derived.Laws.Bits64b
import Derived.Deep.RegionHeld3
set_option maxRecDepth 100000
set_option maxHeartbeats 40000000
namespace Go.Proofs.YtngbfdogiciahaaGreat
open Go Go.RowKit
def rowD (S:DSet):Array Value:=rowF 80 fun i=>.int .u64 ((qb3 S (i / 16) (i % 16):Nat):Int)
theorem qad (S:DSet):(rowD S).size=80:=qii _ _
theorem jdj (S:DSet) {i:Nat} (h:i < 80):(rowD S)[i]?=some (.int .u64 ((qb3 S (i / 16) (i % 16):Nat):Int)):=qgd _ h
theorem qjk (S:DSet) {s k:Nat} (hs:s < 5) (hk:k < 16):(rowD S)[s*16+k]?=some (.int .u64 ((qb3 S s k:Nat):Int)):=by
 rw [jdj S (by omega),show (s*16+k) / 16=s by omega,show (s*16+k) % 16=k by omega]
theorem qgc (S:DSet):(rowD S).all (·.oneCell')=true:=qr5 fun _=>rfl
theorem qwc {S T:DSet} {s k n:Nat} (hk:k < 16) (h:n=qb3 T s k) (ho:∀ t j,¬ (t=s∧j=k)→qb3 T t j=qb3 S t j):(rowD S).setIfInBounds (s*16+k) (.int .u64 ((n:Nat):Int))=rowD T:=by
 unfold rowD;rw [qr6];apply qgw;intro i _
 by_cases hi:i=s*16+k
 ·rw [if_pos hi,h,hi,show (s*16+k) / 16=s by omega,show (s*16+k) % 16=k by omega]
 rw [if_neg hi,ho (i / 16) (i % 16) (by omega)]
theorem qsz (S:DSet) {s c:Nat} (hc:c < 1024):(rowD S).setIfInBounds (s*16+c / 64) (.int .u64 ((qb3 S s (c / 64)||| 2 ^ (c % 64):Nat):Int))=rowD (qh1 S s c):=
 qwc (by omega) (je5 S s c) fun t j h=>qp2 S s c t j h
theorem qiw {S T:DSet} (h:qn6 S T):rowD S=rowD T:=qgw fun i hi=>by rw [h (i / 16) (by omega) (i % 16) (by omega)]
theorem qc8:qht Tryz.prog 184 80:=⟨⟨_,_,Tryz.underlying184⟩,by kernel_rfl⟩
theorem qjp:qcm Tryz.prog 184 (rowD fun _ _=>false):=fun w=>by kernel_rfl
theorem qnm (S:DSet) (s c:Nat) (w:World) (hs:s < 5) (hc:c < 1024) :
  Calls Tryz.prog 117 #[.agg (rowD S),.agg #[.int .i64 (s:Int),.int .i64 (c:Int)]] w fun e w'=>e=.returned (.agg (rowD (qh1 S s c)))∧Ext w w':=by
 obtain ⟨k,hk⟩:=ex1 (c / 64);obtain ⟨r,hr⟩:=ex1 (c % 64);obtain ⟨p,hp⟩:=ex1 (2 ^ r);obtain ⟨wo,ft⟩:=ex1 (qb3 S s k);have x1:Int.tdiv (c:Int) 64=(k:Int):=by rw [hk];exact qn2 c 64
 have x2:Int.tmod (c:Int) 64=(r:Int):=by rw [hr];exact qn3 c 64
 have s0:(0:Int)≤s:=by omega
 have s1:(s:Int) < 5:=by omega
 have c0:(0:Int)≤k:=by omega
 have c1:(k:Int) < 16:=by omega
 have r0:(0:Int)≤r:=by omega
 have r1:(r:Int) < 64:=by omega
 have ek:IntKind.i64.wrap (k:Int)=(k:Int):=by rw [IntKind.wrap_i64];omega
 have HK:=hid hk;have HR:=hid hr;have HC:=hid hc;have HS:=hid hs;have HP:=hid hp;have HWO:=hid ft;have fq:p < 18446744073709551616:=by
  rw [hp];exact Nat.lt_of_lt_of_eq (Nat.pow_lt_pow_right (by omega) (show r < 64 by omega)) rfl
 have eS:IntKind.u64.wrap ((2:Int) ^ r)=(p:Int):=by
  rw [show ((2:Int) ^ r)=((2 ^ r:Nat):Int) by simp,← hp];rw [IntKind.wrap_u64];omega
 obtain ⟨v,hv⟩:=ex1 (wo||| p);have eO:bits .or .u64 (wo:Int) (p:Int)=(v:Int):=by rw [hv];exact bits_or_u64_nat _ _ (by rw [ft];exact qf2 _ _ _) fq
 have HV:=hid hv;clear hs hc hk hr hp ft hv fq;go_enter Tryz.func117, Tryz.ntmps117;go_upto_region 1 with ((with_reducible refine qa2 (o:=⟨some 4,_,_,_,_,_⟩) qjp rfl rfl ?_);intro w3 aM aL bv)
 simp only [Act.put,List.setIfInBounds_toArray,List.set_cons_zero,List.set_cons_succ,World.size_alloc];simp only [World.size_alloc] at aL;obtain ⟨wc,aS⟩:=ex1 w3.drew;have aA:Ext w3 wc:=by rw [aS];exact (Ext.refl _).drew
 have hx:=((((Ext.refl w).alloc (.cells (rowD S) 184)).alloc (.cells #[.int .i64 (s:Int),.int .i64 (c:Int)] 35)).trans aM).trans aA;have aG:=(((Blk.new w 184 (rowD S)).alloc (.cells #[.int .i64 (s:Int),.int .i64 (c:Int)] 35)).ext aM).ext aA;have d0:wc.cell? ⟨w.heap.size+1,0,none⟩=some (.int .i64 (s:Int)):=aA.cell (aM.cell (by go_simp));have d1:wc.cell? ⟨w.heap.size+1,1,none⟩=some (.int .i64 (c:Int)):=aA.cell (aM.cell (by go_simp));have q:=aG.cell (qjk S HS.out (show k < 16 by omega));rw [← HWO.out] at q;have z:=aG.frozen (s*16+k);have aq:=aL.ext aA;have HX:=hid hx;clear aM hx aL aA;refine wp_region_held_drew (S:=fun w'=>w'.cell? ⟨w.heap.size+1,0,none⟩=some (.int .i64 (s:Int))∧w'.cell? ⟨w.heap.size+1,1,none⟩=some (.int .i64 (c:Int))) (by kernel_rfl) (by rw [← aS];exact ⟨d0,d1⟩) (fun hHeld=>?_);rw [← aS] at hHeld ⊢;clear aS;refine tkA 0 _ rfl ?_;try simp only [gq,pq]
 refine tkA 1 _ rfl ?_;(try simp only [gq,pq]);refine tkA 2 _ rfl ?_;(try simp only [gq,pq]);refine tkA 3 _ rfl ?_;(try simp only [gq,pq]);refine tkA 4 _ rfl ?_;(try simp only [gq,pq]);refine tkA 5 _ rfl ?_;(try simp only [gq,pq]);refine tkA 6 _ rfl ?_;(try simp only [gq,pq]);refine tkA 8 _ rfl ?_;(try simp only [gq,pq]);refine tkA 9 _ rfl ?_;(try simp only [gq,pq]);refine tkA 10 _ rfl ?_;(try simp only [gq,pq]);refine tkA 11 _ rfl ?_;(try simp only [gq,pq]);refine tkA 13 _ rfl ?_;(try simp only [gq,pq]);refine rd1 7 rfl fun K hK=>?_;simp only [gq];go_simp;refine hK.out _ _ hHeld (fun hHeld=>?_);clear hK K;(try simp only [pq]);refine tkA 12 _ rfl ?_;(try simp only [gq,pq]);refine tkA 14 _ rfl ?_;(try simp only [gq,pq]);refine rd1 15 rfl fun K hK=>?_;simp only [gq];go_simp;refine hK.out _ _ ⟨qag (by omega) d0,qag (by omega) d1⟩ (fun hHeld=>?_);clear hK K;(try simp only [pq]);refine wpAnyH_done (by kernel_rfl) ?_ _
 have eF:=aG.set (s*16+k) (.int .u64 (v:Int));rw [HV.out,HWO.out,HP.out,HR.out,HK.out,qsz S HC.out,← HK.out,← HR.out,← HP.out,← HWO.out,← HV.out] at eF;replace aq:=aq.far (p:=⟨w.heap.size,s*16+k,none⟩) (by dsimp only;omega) (.int .u64 (v:Int));have hxz:=HX.out.setCell (p:=⟨w.heap.size,s*16+k,none⟩) (Nat.le_refl _) (.int .u64 (v:Int));obtain ⟨wz,eK⟩:=ex1 (wc.setCell ⟨w.heap.size,s*16+k,none⟩ (.int .u64 (v:Int)));rw [← eK] at eF aq hxz ⊢;clear eK aG q z d0 d1 hHeld;go_wp2_with (first
   | ((with_reducible refine qap (o:=⟨some 20,_,_,_,_,_⟩) qc8 _ rfl rfl rfl eF (qad _) ?_))
   | ((with_reducible refine qau (o:=⟨none,_,_,_,_,_⟩) qc8 _ _ rfl rfl rfl rfl aq (qad _) (qad _) (qgc _) ?_);intro w9 bY ao bw bk))
 exact qif rfl qc8 rfl ao (qad _) rfl ⟨rfl,hxz.below bY (by omega)⟩
theorem qg5 (S:DSet) (s c:Nat) (w:World) (hs:s < 5) (hc:c < 1024) :
  Calls Tryz.prog 121 #[.agg (rowD S),.agg #[.int .i64 (s:Int),.int .i64 (c:Int)]] w fun e w'=>e=.returned (.bool (S s c))∧Ext w w':=by
 obtain ⟨k,hk⟩:=ex1 (c / 64);obtain ⟨r,hr⟩:=ex1 (c % 64);obtain ⟨p,hp⟩:=ex1 (2 ^ r);obtain ⟨wo,ft⟩:=ex1 (qb3 S s k);have x1:Int.tdiv (c:Int) 64=(k:Int):=by rw [hk];exact qn2 c 64
 have x2:Int.tmod (c:Int) 64=(r:Int):=by rw [hr];exact qn3 c 64
 have s0:(0:Int)≤s:=by omega
 have s1:(s:Int) < 5:=by omega
 have c0:(0:Int)≤k:=by omega
 have c1:(k:Int) < 16:=by omega
 have r0:(0:Int)≤r:=by omega
 have r1:(r:Int) < 64:=by omega
 have ek:IntKind.i64.wrap (k:Int)=(k:Int):=by rw [IntKind.wrap_i64];omega
 have HK:=hid hk;have HR:=hid hr;have HC:=hid hc;have HS:=hid hs;have HP:=hid hp;have HWO:=hid ft;have HE:=hid (show (bits .and .u64 ((wo:Int) / 2 ^ r) 1==1)=S s c by
  rw [show ((wo:Int) / 2 ^ r)=((wo / 2 ^ r:Nat):Int) by simp,show (1:Int)=((1:Nat):Int) from rfl,bits_and_u64_nat _ _ (Nat.lt_of_le_of_lt (Nat.div_le_self _ _) (by rw [ft];exact qf2 _ _ _)) (by omega),Nat.and_one_is_mod,ft,hk,hr,je4]
  cases S s c <;> rfl)
 clear hs hc hk hr hp ft HP;go_enter Tryz.func121, Tryz.ntmps121;go_upto_region 1 with fail;obtain ⟨w3,dY⟩:=ex1 ((w.alloc (.cells (rowD S) 184)).alloc (.cells #[.int .i64 (s:Int),.int .i64 (c:Int)] 35));have hx:Ext w w3:=by rw [dY];exact ((Ext.refl w).alloc _).alloc _
 have aG:Blk w3 w.heap.size 184 (rowD S):=by rw [dY];exact (Blk.new w 184 (rowD S)).alloc _
 have d0:w3.cell? ⟨w.heap.size+1,0,none⟩=some (.int .i64 (s:Int)):=by rw [dY];go_simp
 have d1:w3.cell? ⟨w.heap.size+1,1,none⟩=some (.int .i64 (c:Int)):=by rw [dY];go_simp
 have q:=aG.cell (qjk S HS.out (show k < 16 by omega));rw [← HWO.out] at q;rw [← dY];clear dY aG;go_quiet (fail);go_wp2_with fail;go_ret;exact ⟨qa7 HE.out,hx.drewN nq⟩
def mixD (f:Bool→Bool→Bool) (S T:DSet) (i k:Nat):DSet:=fun s c=>if s < i∨(s=i∧c / 64 < k) then f (S s c) (T s c) else S s c
theorem ja2 (f:Bool→Bool→Bool) (S T:DSet) (i k:Nat):qb3 (mixD f S T i k) i k=qb3 S i k:=
 qct fun b hb=>if_neg (by omega)
theorem jf2 (f:Bool→Bool→Bool) (S T:DSet) (i k:Nat):qb3 (mixD f S T i (k+1)) i k=qb3 (fun s c=>f (S s c) (T s c)) i k:=
 qct fun b hb=>if_pos (by omega)
theorem ja3 (f:Bool→Bool→Bool) (S T:DSet) (i k t j:Nat) (h:¬ (t=i∧j=k)):qb3 (mixD f S T i (k+1)) t j=qb3 (mixD f S T i k) t j:=by
 apply qct;intro b hb;unfold mixD
 by_cases h1:t < i∨(t=i∧(64*j+b) / 64 < k)
 ·rw [if_pos h1,if_pos (by omega)]
 rw [if_neg h1,if_neg (by omega)]
theorem qw2 (f:Bool→Bool→Bool) (S T:DSet) {i k v:Nat} (hk:k < 16) (h:v=qb3 (fun s c=>f (S s c) (T s c)) i k):(rowD (mixD f S T i k)).setIfInBounds (i*16+k) (.int .u64 (v:Int))=rowD (mixD f S T i (k+1)):=
 qwc hk (h.trans (jf2 f S T i k).symm) fun t j h=>ja3 f S T i k t j h
theorem qse (f:Bool→Bool→Bool) (S T:DSet):rowD (mixD f S T 0 0)=rowD S:=
 qiw fun s _ k _=>qct fun b _=>if_neg (by omega)
theorem qw1 (f:Bool→Bool→Bool) (S T:DSet) (i:Nat):rowD (mixD f S T i 16)=rowD (mixD f S T (i+1) 0):=
 qiw fun s _ k hk=>qct fun b hb=>by
  unfold mixD
  by_cases h1:s < i∨(s=i∧(64*k+b) / 64 < 16)
  ·rw [if_pos h1,if_pos (by omega)]
  rw [if_neg h1,if_neg (by omega)]
theorem ja1 (f:Bool→Bool→Bool) (S T:DSet):rowD (mixD f S T 5 0)=rowD (fun s c=>f (S s c) (T s c)):=
 qiw fun s hs k _=>qct fun b _=>if_pos (by omega)
theorem qz0 (S T:DSet) (w:World) :
  Calls Tryz.prog 158 #[.agg (rowD S),.agg (rowD T)] w fun e w'=>e=.returned (.agg (rowD (orD S T)))∧Ext w w':=by
 go_enter Tryz.func158, Tryz.ntmps158;go_wp2_with ((with_reducible refine qa2 (o:=⟨some 4,_,_,_,_,_⟩) qjp rfl rfl ?_);intro w3 aM aL bv);simp only [World.size_alloc] at aL;have hx:=(((Ext.refl w).alloc (.cells (rowD S) 184)).alloc (.cells (rowD T) 184)).trans aM;have bV:=((Blk.new w 184 (rowD S)).alloc (.cells (rowD T) 184)).ext aM;have aX:=(Blk.new (w.alloc (.cells (rowD S) 184)) 184 (rowD T)).ext aM;simp only [World.size_alloc] at aX;rw [← qse (fun a b=>a||b) S T] at bV;clear aM;go_loopw [7] (fun i wr=>∃ j:Nat,j≤5∧i=.int .i64 j∧Blk wr w.heap.size 184 (rowD (mixD (fun a b=>a||b) S T j 0))∧Blk wr (w.heap.size+1) 184 (rowD T)∧Blk wr (w.heap.size+1+1) 184 (rowD fun _ _=>false)∧Ext w wr) (fun i _=>5 - (intOf i).toNat)
 case atStart=>exact ⟨0,Nat.zero_le _,rfl,bV,aX,aL,hx⟩
 clear bV aX aL hx;obtain ⟨j,hj,rfl,bV,aX,aL,hx⟩:=hrel
 by_cases aD:j < 5
 ·have j0:(0:Int)≤j:=by omega
  have j5:(j:Int) < 5:=by omega
  have HJ:=hid aD;clear aD hj;go_wp2_with fail;obtain ⟨wo,rfl⟩:=ex1 wr;go_loopw [10] (fun i wr=>∃ k:Nat,k≤16∧i=.int .i64 k∧Blk wr w.heap.size 184 (rowD (mixD (fun a b=>a||b) S T j k))∧Blk wr (w.heap.size+1) 184 (rowD T)∧Blk wr (w.heap.size+1+1) 184 (rowD fun _ _=>false)∧Ext w wr) (fun i _=>16 - (intOf i).toNat)
  case atStart=>exact ⟨0,Nat.zero_le _,rfl,bV,aX,aL,hx⟩
  clear bV aX aL hx;obtain ⟨k,hk,rfl,bV,aX,aL,hx⟩:=hrel
  by_cases dC:k < 16
  ·have k0:(0:Int)≤k:=by omega
   have k5:(k:Int) < 16:=by omega
   obtain ⟨x,aY⟩:=ex1 (qb3 S j k);obtain ⟨y,fV⟩:=ex1 (qb3 T j k);obtain ⟨v,hv⟩:=ex1 (x||| y);have eO:bits .or .u64 (x:Int) (y:Int)=(v:Int):=by rw [hv];exact bits_or_u64_nat _ _ (by rw [aY];exact qf2 _ _ _) (by rw [fV];exact qf2 _ _ _)
   have HM:=hid (qw2 (fun a b=>a||b) S T dC (show v=_ by rw [hv,aY,fV];exact jfr S T j k));have q0:=bV.cell (qjk _ HJ.out dC);rw [ja2,← aY] at q0;have q1:=aX.cell (qjk _ HJ.out dC);rw [← fV] at q1;have z0:=bV.frozen (j*16+k);have aA:Ext wr wr.drew:=(Ext.refl _).drew;clear aY fV hv;go_upto_region 7 with fail;obtain ⟨wc,aS⟩:=ex1 wr.drew;rw [← aS] at aA;replace bV:=bV.ext aA;replace aX:=aX.ext aA;replace aL:=aL.ext aA;replace q0:=aA.cell q0;replace q1:=aA.cell q1;replace z0:=bV.frozen (j*16+k);replace hx:=hx.trans aA;refine wp_region_held_drew (S:=fun w'=>w'.cell? ⟨w.heap.size+1,j*16+k,none⟩=some (.int .u64 (y:Int))) (by kernel_rfl) (by rw [← aS];exact q1) (fun hHeld=>?_);rw [← aS] at hHeld ⊢;clear aS aA;refine tkA 0 _ rfl ?_;(try simp only [gq,pq]);refine tkA 1 _ rfl ?_;(try simp only [gq,pq]);refine tkA 2 _ rfl ?_;(try simp only [gq,pq]);refine tkA 3 _ rfl ?_;(try simp only [gq,pq]);refine tkA 5 _ rfl ?_
   (try simp only [gq,pq]);refine tkA 6 _ rfl ?_;(try simp only [gq,pq]);refine tkA 7 _ rfl ?_;(try simp only [gq,pq]);refine tkA 8 _ rfl ?_;(try simp only [gq,pq]);refine tkA 9 _ rfl ?_;(try simp only [gq,pq]);refine tkA 11 _ rfl ?_;(try simp only [gq,pq]);refine rd1 4 rfl fun K hK=>?_;simp only [gq];go_simp;refine hK.out _ _ hHeld (fun hHeld=>?_);clear hK K;(try simp only [pq]);refine tkA 10 _ rfl ?_;(try simp only [gq,pq]);refine tkA 12 _ rfl ?_;(try simp only [gq,pq]);refine rd1 13 rfl fun K hK=>?_;simp only [gq];go_simp;refine hK.out _ _ (qag (by omega) q1) (fun hHeld=>?_);clear hK K;(try simp only [pq]);refine wpAnyH_done (by kernel_rfl) ?_ _;have eF:=bV.set (j*16+k) (.int .u64 (v:Int));rw [HM.out] at eF;replace aX:=aX.far (p:=⟨w.heap.size,j*16+k,none⟩) (by dsimp only;omega) (.int .u64 (v:Int));replace aL:=aL.far (p:=⟨w.heap.size,j*16+k,none⟩) (by dsimp only;omega) (.int .u64 (v:Int));replace hx:=hx.setCell (p:=⟨w.heap.size,j*16+k,none⟩) (Nat.le_refl _) (.int .u64 (v:Int))
   obtain ⟨wz,eK⟩:=ex1 (wc.setCell ⟨w.heap.size,j*16+k,none⟩ (.int .u64 (v:Int)));rw [← eK] at eF aX aL hx ⊢;clear eK bV q0 q1 z0 hHeld HM;go_wp2_with fail;go_roundw
   case rel=>exact ⟨k+1,dC,by go_num,eF,aX,aL,hx⟩
   case measure=>simp [intOf];omega
  obtain rfl:k=16:=by omega
  rw [qw1] at bV;clear dC hk;go_wp2_with fail;go_roundw
  case rel=>exact ⟨j+1,HJ.out,by go_num,bV,aX,aL,hx⟩
  case measure=>have:=HJ.out;simp [intOf];omega
 ·obtain rfl:j=5:=by omega
  rw [ja1] at bV;have eF:=bV;clear aD hj bV;rw [show ((5:Nat):Int)=5 from rfl];go_wp2_with (first
 | ((with_reducible refine qap (o:=⟨some 28,_,_,_,_,_⟩) qc8 _ rfl rfl rfl eF (qad _) ?_))
 | ((with_reducible refine qau (o:=⟨none,_,_,_,_,_⟩) qc8 _ _ rfl rfl rfl rfl aL (qad _) (qad _) (qgc _) ?_);intro w9 bY ao bw bk))
  exact qif rfl qc8 rfl ao (qad _) rfl ⟨rfl,hx.below bY (by omega)⟩
theorem qru (S T:DSet) (w:World) :
  Calls Tryz.prog 204 #[.agg (rowD S),.agg (rowD T)] w fun e w'=>e=.returned (.agg (rowD (andD S T)))∧Ext w w':=by
 go_enter Tryz.func204, Tryz.ntmps204;go_wp2_with ((with_reducible refine qa2 (o:=⟨some 4,_,_,_,_,_⟩) qjp rfl rfl ?_);intro w3 aM aL bv);simp only [World.size_alloc] at aL;have hx:=(((Ext.refl w).alloc (.cells (rowD S) 184)).alloc (.cells (rowD T) 184)).trans aM;have bV:=((Blk.new w 184 (rowD S)).alloc (.cells (rowD T) 184)).ext aM;have aX:=(Blk.new (w.alloc (.cells (rowD S) 184)) 184 (rowD T)).ext aM;simp only [World.size_alloc] at aX;rw [← qse (fun a b=>a&&b) S T] at bV;clear aM;go_loopw [7] (fun i wr=>∃ j:Nat,j≤5∧i=.int .i64 j∧Blk wr w.heap.size 184 (rowD (mixD (fun a b=>a&&b) S T j 0))∧Blk wr (w.heap.size+1) 184 (rowD T)∧Blk wr (w.heap.size+1+1) 184 (rowD fun _ _=>false)∧Ext w wr) (fun i _=>5 - (intOf i).toNat)
 case atStart=>exact ⟨0,Nat.zero_le _,rfl,bV,aX,aL,hx⟩
 clear bV aX aL hx;obtain ⟨j,hj,rfl,bV,aX,aL,hx⟩:=hrel
 by_cases aD:j < 5
 ·have j0:(0:Int)≤j:=by omega
  have j5:(j:Int) < 5:=by omega
  have HJ:=hid aD;clear aD hj;go_wp2_with fail;obtain ⟨wo,rfl⟩:=ex1 wr;go_loopw [10] (fun i wr=>∃ k:Nat,k≤16∧i=.int .i64 k∧Blk wr w.heap.size 184 (rowD (mixD (fun a b=>a&&b) S T j k))∧Blk wr (w.heap.size+1) 184 (rowD T)∧Blk wr (w.heap.size+1+1) 184 (rowD fun _ _=>false)∧Ext w wr) (fun i _=>16 - (intOf i).toNat)
  case atStart=>exact ⟨0,Nat.zero_le _,rfl,bV,aX,aL,hx⟩
  clear bV aX aL hx;obtain ⟨k,hk,rfl,bV,aX,aL,hx⟩:=hrel
  by_cases dC:k < 16
  ·have k0:(0:Int)≤k:=by omega
   have k5:(k:Int) < 16:=by omega
   obtain ⟨x,aY⟩:=ex1 (qb3 S j k);obtain ⟨y,fV⟩:=ex1 (qb3 T j k);obtain ⟨v,hv⟩:=ex1 (x&&& y);have eO:bits .and .u64 (x:Int) (y:Int)=(v:Int):=by rw [hv];exact bits_and_u64_nat _ _ (by rw [aY];exact qf2 _ _ _) (by rw [fV];exact qf2 _ _ _)
   have HM:=hid (qw2 (fun a b=>a&&b) S T dC (show v=_ by rw [hv,aY,fV];exact je3 S T j k));have q0:=bV.cell (qjk _ HJ.out dC);rw [ja2,← aY] at q0;have q1:=aX.cell (qjk _ HJ.out dC);rw [← fV] at q1;have z0:=bV.frozen (j*16+k);have aA:Ext wr wr.drew:=(Ext.refl _).drew;clear aY fV hv;go_upto_region 7 with fail;obtain ⟨wc,aS⟩:=ex1 wr.drew;rw [← aS] at aA;replace bV:=bV.ext aA;replace aX:=aX.ext aA;replace aL:=aL.ext aA;replace q0:=aA.cell q0;replace q1:=aA.cell q1;replace z0:=bV.frozen (j*16+k);replace hx:=hx.trans aA;refine wp_region_held_drew (S:=fun w'=>w'.cell? ⟨w.heap.size+1,j*16+k,none⟩=some (.int .u64 (y:Int))) (by kernel_rfl) (by rw [← aS];exact q1) (fun hHeld=>?_);rw [← aS] at hHeld ⊢;clear aS aA;refine tkA 0 _ rfl ?_;(try simp only [gq,pq]);refine tkA 1 _ rfl ?_;(try simp only [gq,pq]);refine tkA 2 _ rfl ?_;(try simp only [gq,pq]);refine tkA 3 _ rfl ?_;(try simp only [gq,pq]);refine tkA 5 _ rfl ?_
   (try simp only [gq,pq]);refine tkA 6 _ rfl ?_;(try simp only [gq,pq]);refine tkA 7 _ rfl ?_;(try simp only [gq,pq]);refine tkA 8 _ rfl ?_;(try simp only [gq,pq]);refine tkA 9 _ rfl ?_;(try simp only [gq,pq]);refine tkA 11 _ rfl ?_;(try simp only [gq,pq]);refine rd1 4 rfl fun K hK=>?_;simp only [gq];go_simp;refine hK.out _ _ hHeld (fun hHeld=>?_);clear hK K;(try simp only [pq]);refine tkA 10 _ rfl ?_;(try simp only [gq,pq]);refine tkA 12 _ rfl ?_;(try simp only [gq,pq]);refine rd1 13 rfl fun K hK=>?_;simp only [gq];go_simp;refine hK.out _ _ (qag (by omega) q1) (fun hHeld=>?_);clear hK K;(try simp only [pq]);refine wpAnyH_done (by kernel_rfl) ?_ _;have eF:=bV.set (j*16+k) (.int .u64 (v:Int));rw [HM.out] at eF;replace aX:=aX.far (p:=⟨w.heap.size,j*16+k,none⟩) (by dsimp only;omega) (.int .u64 (v:Int));replace aL:=aL.far (p:=⟨w.heap.size,j*16+k,none⟩) (by dsimp only;omega) (.int .u64 (v:Int));replace hx:=hx.setCell (p:=⟨w.heap.size,j*16+k,none⟩) (Nat.le_refl _) (.int .u64 (v:Int))
   obtain ⟨wz,eK⟩:=ex1 (wc.setCell ⟨w.heap.size,j*16+k,none⟩ (.int .u64 (v:Int)));rw [← eK] at eF aX aL hx ⊢;clear eK bV q0 q1 z0 hHeld HM;go_wp2_with fail;go_roundw
   case rel=>exact ⟨k+1,dC,by go_num,eF,aX,aL,hx⟩
   case measure=>simp [intOf];omega
  obtain rfl:k=16:=by omega
  rw [qw1] at bV;clear dC hk;go_wp2_with fail;go_roundw
  case rel=>exact ⟨j+1,HJ.out,by go_num,bV,aX,aL,hx⟩
  case measure=>have:=HJ.out;simp [intOf];omega
 ·obtain rfl:j=5:=by omega
  rw [ja1] at bV;have eF:=bV;clear aD hj bV;rw [show ((5:Nat):Int)=5 from rfl];go_wp2_with (first
 | ((with_reducible refine qap (o:=⟨some 28,_,_,_,_,_⟩) qc8 _ rfl rfl rfl eF (qad _) ?_))
 | ((with_reducible refine qau (o:=⟨none,_,_,_,_,_⟩) qc8 _ _ rfl rfl rfl rfl aL (qad _) (qad _) (qgc _) ?_);intro w9 bY ao bw bk))
  exact qif rfl qc8 rfl ao (qad _) rfl ⟨rfl,hx.below bY (by omega)⟩
end Go.Proofs.YtngbfdogiciahaaGreat
