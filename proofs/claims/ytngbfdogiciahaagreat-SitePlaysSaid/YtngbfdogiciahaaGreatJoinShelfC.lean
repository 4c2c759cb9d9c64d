/- Texts joined. -/
import Derived.Test.YtngbfdogiciahaaGreatJoinShelfD
import Derived.Lib.Walk
set_option maxRecDepth 100000
set_option maxHeartbeats 40000000
namespace Go.Proofs.YtngbfdogiciahaaGreat
open Go Go.RowKit
theorem qnd (a b:ByteArray) (w:World) :
  Calls Tryz.prog 211 #[.string a,.string b] w fun e w'=>e=.returned (.int .i64 (cmpS a b))∧w'=w:=by
 have hcf:∀ w:World,(callFunc 237 #[.string a,.string b]).run Tryz.prog w=.ok (.value (.int .i64 (cmpS a b))) w:=fun w=>by
  rw [run_callFunc_extern Tryz.func237 (by kernel_rfl) (by kernel_rfl) (by kernel_rfl) (e:=Extern.BytealgCompare.compare) (by kernel_rfl),Lib.run_compareString];rfl
 go_enter Tryz.func211, Tryz.ntmps211;go_wp2_with fail;go_ret;exact ⟨rfl,rfl⟩
theorem qow (a b:ByteArray) (w:World) :
  Calls Tryz.prog 193 #[.string a,.string b] w fun e w'=>e=.returned (.int .i64 (cmpS a b))∧w'=w:=by
 go_enter Tryz.func193, Tryz.ntmps193;go_wp2_with fail;refine (qnd a b _).mono ?_;rintro e w1 ⟨rfl,rfl⟩;go_wp2_with fail;go_ret;exact ⟨rfl,rfl⟩
theorem jfy {a b:Version} (h:cmpS a.id b.id≠0):qbw a b=cmpS a.id b.id:=by unfold qbw;rw [if_pos h]
theorem jca {a b:Version} (h:cmpS a.id b.id=0) (h2:a.dot.site≠b.dot.site):qbw a b=a.dot.site - b.dot.site:=by unfold qbw;rw [if_neg (by simp [h]),if_pos h2]
theorem qyt {a b:Version} (h:cmpS a.id b.id=0) (h2:a.dot.site=b.dot.site):qbw a b=a.dot.count - b.dot.count:=by unfold qbw;rw [if_neg (by simp [h]),if_neg (by simp [h2])]
theorem jgx {a b:Version} (h:sEq a.id b.id=false):qbi a b=Op.bytesLess a.id.toList b.id.toList:=by unfold qbi;rw [h];rfl
theorem jf1 {a b:Version} (h:sEq a.id b.id=true) (h2:a.dot.site≠b.dot.site):qbi a b=decide (a.dot.site < b.dot.site):=by unfold qbi;rw [if_pos h,if_neg h2]
theorem jcz {a b:Version} (h:sEq a.id b.id=true) (h2:a.dot.site=b.dot.site):qbi a b=decide (a.dot.count < b.dot.count):=by unfold qbi;rw [if_pos h,if_pos h2]
theorem qkn (a b:Version) (Aa:Option Addr) (ca:Nat) (Ma:Option Addr) (da:Nat) (Ab:Option Addr) (cb:Nat) (Mb:Option Addr) (db:Nat) (w:World) (ha:qb8 a.dot=true) (hb:qb8 b.dot=true) :
  Calls Tryz.prog 151 #[.agg #[.string a.id, .int .i64 a.dot.site, .int .i64 a.dot.count, .int .i64 a.pt.tags, .int .i64 a.pt.num, .int .i64 a.body, .slice Aa a.past.vec.length ca, .slice Ma a.past.more.length da],.agg #[.string b.id, .int .i64 b.dot.site, .int .i64 b.dot.count, .int .i64 b.pt.tags, .int .i64 b.pt.num, .int .i64 b.body, .slice Ab b.past.vec.length cb, .slice Mb b.past.more.length db]] w fun e w'=>e=.returned (.int .i64 (qbw a b))∧Ext w w':=by
 obtain ⟨a1,a2,a3,a4⟩:=qar.1 ha;obtain ⟨b1,b2,b3,b4⟩:=qar.1 hb;clear ha hb;have aY:=((Ext.refl w).alloc (.cells #[.string a.id, .int .i64 a.dot.site, .int .i64 a.dot.count, .int .i64 a.pt.tags, .int .i64 a.pt.num, .int .i64 a.body, .slice Aa a.past.vec.length ca, .slice Ma a.past.more.length da] 151)).alloc (.cells #[.string b.id, .int .i64 b.dot.site, .int .i64 b.dot.count, .int .i64 b.pt.tags, .int .i64 b.pt.num, .int .i64 b.body, .slice Ab b.past.vec.length cb, .slice Mb b.past.more.length db] 151);have H1:=hid (jfy (a:=a) (b:=b));have H2:=hid (jca (a:=a) (b:=b));have H3:=hid (qyt (a:=a) (b:=b));go_enter Tryz.func151, Tryz.ntmps151;go_wp2_with fail;refine (qow a.id b.id _).mono ?_;rintro e w1 ⟨rfl,rfl⟩
 by_cases h1:cmpS a.id b.id=0
 ·rw [h1]
  have E1:=hid h1;clear h1
  by_cases h2:a.dot.site=b.dot.site
  ·have aV:(a.dot.site !=b.dot.site)=false:=by simpa using h2
   have HE:=hid (H3.out E1.out h2);clear h2;go_wp2_with fail;go_ret;exact ⟨qa8 (by rw [HE.out]),aY⟩
  have aV:(a.dot.site !=b.dot.site)=true:=by simpa using h2
  have HE:=hid (H2.out E1.out h2);clear h2;go_wp2_with fail;go_ret;exact ⟨qa8 (by rw [HE.out]),aY⟩
 have aV:(cmpS a.id b.id !=0)=true:=by simpa using h1
 have HE:=hid (H1.out h1);clear h1;go_wp2_with fail;go_ret;exact ⟨qa8 HE.out.symm,aY⟩
theorem jax (a b:Version) (Aa:Option Addr) (ca:Nat) (Ma:Option Addr) (da:Nat) (Ab:Option Addr) (cb:Nat) (Mb:Option Addr) (db:Nat) (w:World) :
  Calls Tryz.prog 163 #[.agg #[.string a.id, .int .i64 a.dot.site, .int .i64 a.dot.count, .int .i64 a.pt.tags, .int .i64 a.pt.num, .int .i64 a.body, .slice Aa a.past.vec.length ca, .slice Ma a.past.more.length da],.agg #[.string b.id, .int .i64 b.dot.site, .int .i64 b.dot.count, .int .i64 b.pt.tags, .int .i64 b.pt.num, .int .i64 b.body, .slice Ab b.past.vec.length cb, .slice Mb b.past.more.length db]] w fun e w'=>e=.returned (.bool (qbi a b))∧Ext w w':=by
 have aY:=((Ext.refl w).alloc (.cells #[.string a.id, .int .i64 a.dot.site, .int .i64 a.dot.count, .int .i64 a.pt.tags, .int .i64 a.pt.num, .int .i64 a.body, .slice Aa a.past.vec.length ca, .slice Ma a.past.more.length da] 151)).alloc (.cells #[.string b.id, .int .i64 b.dot.site, .int .i64 b.dot.count, .int .i64 b.pt.tags, .int .i64 b.pt.num, .int .i64 b.body, .slice Ab b.past.vec.length cb, .slice Mb b.past.more.length db] 151);have H1:=hid (jgx (a:=a) (b:=b));have H2:=hid (jf1 (a:=a) (b:=b));have H3:=hid (jcz (a:=a) (b:=b))
 cases h1:sEq a.id b.id
 ·have h1':(a.id.toList==b.id.toList)=false:=h1
  have HE:=hid (H1.out h1);clear h1;go_enter Tryz.func163, Tryz.ntmps163;go_wp2_with fail;go_ret;exact ⟨qa7 HE.out.symm,aY⟩
 have h1':(a.id.toList==b.id.toList)=true:=h1;have E1:=hid h1;clear h1
 by_cases h2:a.dot.site=b.dot.site
 ·have aV:(a.dot.site !=b.dot.site)=false:=by simpa using h2
  have HE:=hid (H3.out E1.out h2);clear h2;go_enter Tryz.func163, Tryz.ntmps163;go_wp2_with fail;go_ret;exact ⟨qa7 HE.out.symm,aY⟩
 have aV:(a.dot.site !=b.dot.site)=true:=by simpa using h2
 have HE:=hid (H2.out E1.out h2);clear h2;go_enter Tryz.func163, Tryz.ntmps163;go_wp2_with fail;go_ret;exact ⟨qa7 HE.out.symm,aY⟩
theorem qll (B:Nat) (a b:Version) (Aa:Option Addr) (ca:Nat) (Ma:Option Addr) (da:Nat) (Ab:Option Addr) (cb:Nat) (Mb:Option Addr) (db:Nat) (w:World) (hi:InV B w Aa ca Ma da a) (hk:KnowOk a.past) (hb:qb8 b.dot=true) :
  Calls Tryz.prog 154 #[.agg #[.string a.id, .int .i64 a.dot.site, .int .i64 a.dot.count, .int .i64 a.pt.tags, .int .i64 a.pt.num, .int .i64 a.body, .slice Aa a.past.vec.length ca, .slice Ma a.past.more.length da],.agg #[.string b.id, .int .i64 b.dot.site, .int .i64 b.dot.count, .int .i64 b.pt.tags, .int .i64 b.pt.num, .int .i64 b.body, .slice Ab b.past.vec.length cb, .slice Mb b.past.more.length db]] w fun e w'=>e=.returned (.bool (over a b))∧Ext w w':=by
 have aY:=((Ext.refl w).alloc (.cells #[.string a.id, .int .i64 a.dot.site, .int .i64 a.dot.count, .int .i64 a.pt.tags, .int .i64 a.pt.num, .int .i64 a.body, .slice Aa a.past.vec.length ca, .slice Ma a.past.more.length da] 151)).alloc (.cells #[.string b.id, .int .i64 b.dot.site, .int .i64 b.dot.count, .int .i64 b.pt.tags, .int .i64 b.pt.num, .int .i64 b.body, .slice Ab b.past.vec.length cb, .slice Mb b.past.more.length db] 151);have HI:=hid hi;have HK:=hid hk;have HB:=hid hb;have HO:=hid (show over a b=(sEq a.id b.id&&inK a.past b.dot) from rfl);clear hi hk hb
 cases h1:sEq a.id b.id
 ·have h1':(a.id.toList==b.id.toList)=false:=h1
  rw [h1] at HO;clear h1;go_enter Tryz.func154, Tryz.ntmps154;go_wp2_with fail;go_ret;exact ⟨qa7 HO.out.symm,aY⟩
 have h1':(a.id.toList==b.id.toList)=true:=h1;rw [h1] at HO;clear h1;go_enter Tryz.func154, Tryz.ntmps154;go_wp2_with fail;refine (qqq B a.past Aa ca Ma da b.dot _ (HI.out.k.ext aY) HK.out HB.out).mono ?_;rintro e w1 ⟨rfl,aE⟩;go_wp2_with fail;go_ret;exact ⟨qa7 HO.out.symm,aY.trans aE⟩
theorem qiv (B:Nat) (a b:Version) (Aa:Option Addr) (ca:Nat) (Ma:Option Addr) (da:Nat) (Ab:Option Addr) (cb:Nat) (Mb:Option Addr) (db:Nat) (w:World) (hi:InV B w Aa ca Ma da a) (hk:KnowOk a.past) (hb:qb8 b.dot=true) :
  Calls Tryz.prog 160 #[.agg #[.string a.id, .int .i64 a.dot.site, .int .i64 a.dot.count, .int .i64 a.pt.tags, .int .i64 a.pt.num, .int .i64 a.body, .slice Aa a.past.vec.length ca, .slice Ma a.past.more.length da],.agg #[.string b.id, .int .i64 b.dot.site, .int .i64 b.dot.count, .int .i64 b.pt.tags, .int .i64 b.pt.num, .int .i64 b.body, .slice Ab b.past.vec.length cb, .slice Mb b.past.more.length db]] w fun e w'=>e=.returned (.bool (over a b))∧Ext w w':=by
 have aY:=((Ext.refl w).alloc (.cells #[.string a.id, .int .i64 a.dot.site, .int .i64 a.dot.count, .int .i64 a.pt.tags, .int .i64 a.pt.num, .int .i64 a.body, .slice Aa a.past.vec.length ca, .slice Ma a.past.more.length da] 151)).alloc (.cells #[.string b.id, .int .i64 b.dot.site, .int .i64 b.dot.count, .int .i64 b.pt.tags, .int .i64 b.pt.num, .int .i64 b.body, .slice Ab b.past.vec.length cb, .slice Mb b.past.more.length db] 151);have HI:=hid hi;have HK:=hid hk;have HO:=hid (show over a b=(sEq a.id b.id&&inK a.past b.dot) from rfl);obtain ⟨s,c,hsd,hsc,eG,eY,hhas⟩:=qqh hb a.past;have HDS:=hid eG;have HDC:=hid eY;have HHas:=hid hhas;have HSD:=hid hsd;have HSC:=hid hsc;clear hi hk hb hsd hsc eG eY hhas
 cases h1:sEq a.id b.id
 ·have h1':(a.id.toList==b.id.toList)=false:=h1
  rw [h1] at HO;clear h1;go_enter Tryz.func160, Tryz.ntmps160;go_wp2_with fail;obtain ⟨wa,cD⟩:=ex1 ((w.alloc (.cells #[.string a.id,.int .i64 a.dot.site,.int .i64 a.dot.count,.int .i64 a.pt.tags,.int .i64 a.pt.num,.int .i64 a.body,.slice Aa a.past.vec.length ca,.slice Ma a.past.more.length da] 151)).alloc (.cells #[.string b.id,.int .i64 b.dot.site,.int .i64 b.dot.count,.int .i64 b.pt.tags,.int .i64 b.pt.num,.int .i64 b.body,.slice Ab b.past.vec.length cb,.slice Mb b.past.more.length db] 151));have q0:wa.cell? ⟨w.heap.size,0,none⟩=some (.string a.id):=by rw [cD];go_simp
  have q1:wa.cell? ⟨w.heap.size+1,0,none⟩=some (.string b.id):=by rw [cD];go_simp
  rw [← cD] at aY ⊢;clear cD;have HX:=hid aY;have aB:=hid (fun w' (x:Ext wa w')=>show w'.cell? ⟨w.heap.size,0,none⟩=some (.string a.id)∧w'.cell? ⟨w.heap.size+1,0,none⟩=some (.string b.id) from ⟨x.cell q0,x.cell q1⟩);clear q0 q1 aY;have aA:=(Ext.refl wa).drew;refine wp_region_held_drew (S:=fun w'=>w'.cell? ⟨w.heap.size,0,none⟩=some (.string a.id)∧w'.cell? ⟨w.heap.size+1,0,none⟩=some (.string b.id)) (by kernel_rfl) (aB.out _ aA) (fun hHeld=>?_);obtain ⟨wc,aS⟩:=ex1 wa.drew;rw [← aS] at hHeld aA ⊢;clear aS;refine tkA 0 _ rfl ?_;(try simp only [gq,pq]);refine tkA 1 _ rfl ?_;(try simp only [gq,pq]);refine tkA 2 _ rfl ?_;(try simp only [gq,pq]);refine tkA 3 _ rfl ?_;(try simp only [gq,pq]);refine tkA 4 _ rfl ?_;(try simp only [gq,pq]);refine tkA 5 _ rfl ?_;(try simp only [gq,pq]);refine wpAnyH_take (i:=6) (oi:=_) (v:=undef) rfl (by kernel_rfl) (by kernel_rfl) (by kernel_rfl) (fun _ _ _ h=>h) (Or.inr ⟨by rfl,rfl⟩) (by assumption) ?_
  (try simp only [gq,pq]);refine wpAnyH_take (i:=7) (oi:=_) (v:=undef) rfl (by kernel_rfl) (by kernel_rfl) (by kernel_rfl) (fun _ _ _ h=>h) (Or.inr ⟨by rfl,rfl⟩) (by assumption) ?_;(try simp only [gq,pq]);refine wpAnyH_take (i:=8) (oi:=_) (v:=undef) rfl (by kernel_rfl) (by kernel_rfl) (by kernel_rfl) (fun _ _ _ h=>h) (Or.inr ⟨by rfl,rfl⟩) (by assumption) ?_;(try simp only [gq,pq]);refine wpAnyH_take (i:=9) (oi:=_) (v:=undef) rfl (by kernel_rfl) (by kernel_rfl) (by kernel_rfl) (fun _ _ _ h=>h) (Or.inr ⟨by rfl,rfl⟩) (by assumption) ?_;(try simp only [gq,pq]);refine wpAnyH_take (i:=10) (oi:=_) (v:=undef) rfl (by kernel_rfl) (by kernel_rfl) (by kernel_rfl) (fun _ _ _ h=>h) (Or.inr ⟨by rfl,rfl⟩) (by assumption) ?_;(try simp only [gq,pq]);refine wpAnyH_take (i:=11) (oi:=_) (v:=undef) rfl (by kernel_rfl) (by kernel_rfl) (by kernel_rfl) (fun _ _ _ h=>h) (Or.inr ⟨by rfl,rfl⟩) (by assumption) ?_;try simp only [gq,pq]
  refine tkA 12 _ rfl ?_;(try simp only [gq,pq]);refine tkA 13 _ rfl ?_;(try simp only [gq,pq]);refine wpAnyH_done (by kernel_rfl) ?_ _;go_wp2_with fail;go_ret;exact ⟨qa7 HO.out.symm,HX.out.trans aA⟩
 have h1':(a.id.toList==b.id.toList)=true:=h1;rw [h1] at HO;clear h1;rw [HSD.out,HSC.out] at aY;go_enter Tryz.func160, Tryz.ntmps160;rw [HSD.out,HSC.out];go_wp2_with fail;obtain ⟨wa,cD⟩:=ex1 ((w.alloc (.cells #[.string a.id,.int .i64 a.dot.site,.int .i64 a.dot.count,.int .i64 a.pt.tags,.int .i64 a.pt.num,.int .i64 a.body,.slice Aa a.past.vec.length ca,.slice Ma a.past.more.length da] 151)).alloc (.cells #[.string b.id,.int .i64 (s:Int),.int .i64 (c:Int),.int .i64 b.pt.tags,.int .i64 b.pt.num,.int .i64 b.body,.slice Ab b.past.vec.length cb,.slice Mb b.past.more.length db] 151));have q0:wa.cell? ⟨w.heap.size,0,none⟩=some (.string a.id):=by rw [cD];go_simp
 have q1:wa.cell? ⟨w.heap.size,6,none⟩=some (.slice Aa a.past.vec.length ca):=by rw [cD];go_simp
 have q2:wa.cell? ⟨w.heap.size,7,none⟩=some (.slice Ma a.past.more.length da):=by rw [cD];go_simp
 have q3:wa.cell? ⟨w.heap.size+1,0,none⟩=some (.string b.id):=by rw [cD];go_simp
 have q4:wa.cell? ⟨w.heap.size+1,1,none⟩=some (.int .i64 (s:Int)):=by rw [cD];go_simp
 have q5:wa.cell? ⟨w.heap.size+1,2,none⟩=some (.int .i64 (c:Int)):=by rw [cD];go_simp
 rw [← cD] at aY ⊢;clear cD;have HX:=hid aY;have aB:=hid (fun w' (x:Ext wa w')=>show w'.cell? ⟨w.heap.size,0,none⟩=some (.string a.id)∧w'.cell? ⟨w.heap.size,6,none⟩=some (.slice Aa a.past.vec.length ca)∧w'.cell? ⟨w.heap.size,7,none⟩=some (.slice Ma a.past.more.length da)∧w'.cell? ⟨w.heap.size+1,0,none⟩=some (.string b.id)∧w'.cell? ⟨w.heap.size+1,1,none⟩=some (.int .i64 (s:Int))∧w'.cell? ⟨w.heap.size+1,2,none⟩=some (.int .i64 (c:Int)) from ⟨x.cell q0,x.cell q1,x.cell q2,x.cell q3,x.cell q4,x.cell q5⟩);clear q0 q1 q2 q3 q4 q5 aY;have aA:=(Ext.refl wa).drew;refine wp_region_held_drew (S:=fun w'=>w'.cell? ⟨w.heap.size,0,none⟩=some (.string a.id)∧w'.cell? ⟨w.heap.size,6,none⟩=some (.slice Aa a.past.vec.length ca)∧w'.cell? ⟨w.heap.size,7,none⟩=some (.slice Ma a.past.more.length da)∧w'.cell? ⟨w.heap.size+1,0,none⟩=some (.string b.id)∧w'.cell? ⟨w.heap.size+1,1,none⟩=some (.int .i64 (s:Int))∧w'.cell? ⟨w.heap.size+1,2,none⟩=some (.int .i64 (c:Int))) (by kernel_rfl) (aB.out _ aA) (fun hHeld=>?_)
 obtain ⟨wc,aS⟩:=ex1 wa.drew;rw [← aS] at hHeld aA ⊢;clear aS;refine tkA 0 _ rfl ?_;(try simp only [gq,pq]);refine tkA 1 _ rfl ?_;(try simp only [gq,pq]);refine tkA 2 _ rfl ?_;(try simp only [gq,pq]);refine tkA 3 _ rfl ?_;(try simp only [gq,pq]);refine tkA 4 _ rfl ?_;(try simp only [gq,pq]);refine tkA 5 _ rfl ?_;(try simp only [gq,pq]);refine tkA 6 _ rfl ?_;(try simp only [gq,pq]);refine tkA 7 _ rfl ?_;(try simp only [gq,pq]);refine tkA 9 _ rfl ?_;(try simp only [gq,pq]);refine tkA 10 _ rfl ?_;(try simp only [gq,pq]);refine rd1 8 rfl fun K hK=>?_;simp only [gq];go_simp;refine (qlk B a.past Aa ca Ma da wc (HI.out.k.ext (HX.out.trans aA)) HK.out).mono ?_;rintro e wn ⟨rfl,aC⟩;dsimp only;replace aA:=aA.trans aC;clear aC;obtain ⟨wc,rfl⟩:=ex1 wn;refine hK.out _ _ (aB.out _ aA) (fun hHeld=>?_);clear hK K;(try simp only [pq]);refine rd1 11 rfl fun K hK=>?_;simp only [gq];go_simp;refine (qg5 (hasK a.past) s c wc HDS.out HDC.out).mono ?_
 rintro e wn ⟨rfl,aC⟩;dsimp only;replace aA:=aA.trans aC;clear aC;obtain ⟨wc,rfl⟩:=ex1 wn;refine hK.out _ _ (aB.out _ aA) (fun hHeld=>?_);clear hK K;(try simp only [pq]);refine tkA 12 _ rfl ?_;(try simp only [gq,pq]);refine tkA 13 _ rfl ?_;(try simp only [gq,pq]);refine wpAnyH_done (by kernel_rfl) ?_ _;rw [HHas.out];have hx:=HX.out.trans aA;clear aA hHeld;go_wp2_with fail;go_ret;exact ⟨qa7 HO.out.symm,hx⟩
theorem qfr:ElemInfo Tryz.prog 48 151 8 104:=ElemInfo.mk_ (z:=.agg #[.string ⟨#[]⟩,.int .i64 0,.int .i64 0,.int .i64 0,.int .i64 0,.int .i64 0,.slice none 0 0,.slice none 0 0]) Tryz.underlying48 (by kernel_rfl) rfl (by decide)
theorem qs8 (B:Nat) (ob:Option Nat) (fn:FuncId) (cap:Array Value) (A:Option Addr) (c:Nat) (l:List Version) (p:Version→Bool) (w:World) (hl:l.length≤maxLen) (h:Sl B 151 (RVer B) 8 w A l)
  (hc:∀ (args:Array Value) (wn:World),(callFunc fn args).run Tryz.prog wn=.ok (.enter fn args) wn)
  (hf:∀ (k:Nat) (hk:k < l.length) (cs:List Value) (wn:World),w.grownBy wn ob→cs.length=8→(RVer B) wn cs l[k]→Calls Tryz.prog fn (#[.agg cs.toArray]++cap) wn fun e w'=>e=.returned (.bool (p l[k]))∧Ext wn w') :
  Calls Tryz.prog 141 #[.slice A l.length c,.func (.func fn) #[] cap] w fun e w'=>e=.returned (.int .i64 (qo5 p l))∧Ext w w':=by
 unfold maxLen at hl;have HF:=hid hf;clear hf;go_enter Tryz.func141, Tryz.ntmps141;go_wp2_with fail;go_loopw [8] (fun i wr=>∃ k:Nat,k≤l.length∧i=.int .i64 k∧(∀ q x,q < k→l[q]?=some x→p x=false)∧Ext w wr) (fun i _=>l.length - (intOf i).toNat)
 case atStart=>exact ⟨0,Nat.zero_le _,rfl,by intro q x hq;omega,Ext.refl _⟩
 obtain ⟨k,hk,rfl,hG,hx⟩:=hrel;have HG:=hid hG;clear hG
 by_cases aD:k < l.length
 ·obtain ⟨b,off,cs,rfl,hb,bD,bK,hR⟩:=(h.ext RVer.monoE hx).at_ aD
  have hr:wr.rangeAt b (off+k*8) cs:=bK;clear bK;go_wp2_with ((with_reducible refine qaa (o:=⟨some 15,_,_,_,_,_⟩) qam _ rfl rfl rfl hr bD ?_));refine (HF.out k aD cs wr (qgr hx) bD hR).mono ?_;rintro e w1 ⟨rfl,aE⟩
  cases hp:p l[k]
  ·have HP:=hid hp
   clear hp;go_wp2_with fail;go_roundw
   case rel=>
    refine ⟨k+1,aD,by go_num,fun q x hq hxq=>?_,hx.trans aE⟩
    by_cases hqk:q=k
    ·subst hqk
     rw [List.getElem?_eq_getElem aD] at hxq;injection hxq with hxq;rw [← hxq];exact HP.out
    exact HG.out q x (by omega) hxq
   case measure=>simp [intOf];omega
  have HI:=hid (qvs aD hp HG.out);clear hp;go_wp2_with fail;go_ret;exact ⟨qa8 HI.out.symm,hx.trans aE⟩
 obtain rfl:k=l.length:=by omega
 have HI:=hid (qvr (p:=p) (l:=l) fun x hx=>by
  obtain ⟨q,hq⟩:=List.mem_iff_getElem?.1 hx;exact HG.out q x (List.getElem?_eq_some_iff.1 hq).1 hq)
 go_wp2_with fail;go_ret;exact ⟨qa8 HI.out.symm,hx⟩
theorem qlx (B:Nat) (ob:Option Nat) (fn:FuncId) (cap:Array Value) (A:Option Addr) (c:Nat) (l:List Version) (p:Version→Bool) (w:World) (hl:l.length≤maxLen) (h:Sl B 151 (RVer B) 8 w A l)
  (hc:∀ (args:Array Value) (wn:World),(callFunc fn args).run Tryz.prog wn=.ok (.enter fn args) wn)
  (hf:∀ (k:Nat) (hk:k < l.length) (cs:List Value) (wn:World),w.grownBy wn ob→cs.length=8→(RVer B) wn cs l[k]→Calls Tryz.prog fn (#[.agg cs.toArray]++cap) wn fun e w'=>e=.returned (.bool (p l[k]))∧Ext wn w') :
  Calls Tryz.prog 152 #[.slice A l.length c,.func (.func fn) #[] cap] w fun e w'=>e=.returned (.bool (l.any p))∧Ext w w':=by
 have HF:=hid hf;have HA:=hid (qzk (p:=p) (l:=l));clear hf;go_enter Tryz.func152, Tryz.ntmps152;go_wp2_with fail;refine (qs8 B ob fn cap A c l p _ hl h hc HF.out).mono ?_;rintro e w1 ⟨rfl,hx⟩;go_wp2_with fail;go_ret;exact ⟨qa7 HA.out,hx⟩
theorem qgn (B base:Nat) (fn:FuncId) (cap:Array Value) (v:Value) (l:List Version) (p:Version→Bool) (w:World) (hB:B≤base) (hl:l.length≤1000000) (ay:Own (RVer B) 8 151 w base v l)
  (hc:∀ (args:Array Value) (wn:World),(callFunc fn args).run Tryz.prog wn=.ok (.enter fn args) wn)
  (hf:∀ (k:Nat) (hk:k < l.length) (cs:List Value) (wn:World),w.grownBy wn v.ownBlock→cs.length=8→(RVer B) wn cs l[k]→Calls Tryz.prog fn (#[.agg cs.toArray]++cap) wn fun e w'=>e=.returned (.bool (p l[k]))∧Ext wn w') :
  Calls Tryz.prog 85 #[v,.func (.func fn) #[] cap] w fun e w'=>∃ v',e=.returned v'∧Own (RVer B) 8 151 w' base v' (l.filter fun x=>!p x)∧w.grownBy w' v.ownBlock∧v'.ownBlock=v.ownBlock:=by
 have HF:=hid hf;have HB:=hid hB;clear hf hB;obtain ⟨A,c,rfl,hlc,hcm⟩:=ay.len;have hSl:=ay.sl B;have HOWN:=hid ay;clear ay;go_enter Tryz.func85, Tryz.ntmps85;go_wp2_with fail;refine (qs8 B (Value.slice A l.length c).ownBlock fn cap A c l p _ (by unfold maxLen;omega) hSl hc HF.out).mono ?_;rintro e w1 ⟨rfl,aE⟩;rcases qs6 p l with ⟨hi,hn⟩ | ⟨k0,hk0,hi,hp0,hn⟩
 ·rw [hi]
  have HN:=hid (show l.filter (fun x=>!p x)=l from List.filter_eq_self.2 fun x hx=>by rw [hn x hx];rfl);clear hi hn;go_wp2_with fail;go_ret;exact ⟨.slice A l.length c,rfl,by rw [HN.out];exact HOWN.out.ext RVer.monoE aE,qgr aE,rfl⟩
 rcases (HOWN.out.ext RVer.monoE aE).at_ with ⟨_,rfl⟩ | ⟨g,c',hv,_⟩
 ·simp at hk0
 injection hv with hA _ eW;subst hA eW;obtain ⟨an,bS,hat⟩:=(HOWN.out.ext RVer.monoE aE).rowAt;have HAT:=hid hat;have HL:=hid hl;have e5:=hid (qm4 hn);have HP0:=hid hp0;have HK0:=hid hk0;have HGB:=hid an;rw [hi];have k00:(0:Int)≤(k0:Int):=by omega
 have ei:((k0:Int)==-1)=false:=by rw [beq_eq_false_iff_ne];omega
 have ew:IntKind.i64.wrap ((k0:Int)+1)=((k0+1:Nat):Int):=by rw [IntKind.wrap_i64];omega
 clear hi hn hat;go_wp2_with fail;go_loopw [5,6] (fun i j wr=>∃ k:Nat,k≤l.length∧j=.int .i64 k∧i=.int .i64 ((l.take k).filter fun x=>!p x).length∧k0 < k∧RowOwn wr g 151 (c*8)∧(∀ q x,((l.take k).filter fun x=>!p x)[q]?=some x→At (RVer B) 8 wr g q x)∧(∀ q x,k≤q→l[q]?=some x→At (RVer B) 8 wr g q x)∧(∀ q x,l[q]?=some x→∃ y,At (RVer B) 8 wr g q y)∧w.grownBy wr (some g)) (fun _ j _=>l.length - (intOf j).toNat)
 case atStart=>
  refine ⟨k0+1,HK0.out,by go_num,?_,by omega,bS,?_,fun q x _ hq=>HAT.out q x hq,fun q x hq=>⟨x,HAT.out q x hq⟩,qgr aE⟩
  ·rw [qda _ l k0 HK0.out,e5.out,HP0.out]
   simp only [List.append_nil,List.length_take,Bool.not_true,Bool.false_eq_true,if_false];rw [Nat.min_eq_left (by have:=HK0.out;omega)]
  intro q x hq;rw [qda _ l k0 HK0.out,e5.out,HP0.out] at hq;simp only [List.append_nil,Bool.not_true,Bool.false_eq_true,if_false] at hq;rw [List.getElem?_take] at hq;split at hq
  ·exact HAT.out q x hq
  cases hq
 clear bS aE;obtain ⟨k,hk,rfl,rfl,f7,bS,hlow,hhigh,bL,cJ⟩:=hrel;have dO:=qpn (fun x=>!p x) l k;obtain ⟨i,hi⟩:=ex1 (((l.take k).filter fun x=>!p x).length);rw [← hi] at dO;rw [← hi];have HI:=hid hi;have HLow:=hid hlow;have e6:=hid hhigh;have aB:=hid bL;have dL:=hid bS;have HKK:=hid f7;clear hi hlow hhigh bL bS f7;have i0:(0:Int)≤i:=by omega
 have il:(i:Int)≤l.length:=by omega
 by_cases aD:k < l.length
 ·have k1:(0:Int)≤k:=by omega
  have k2:(k:Int) < l.length:=by omega
  have i2:(i:Int) < l.length:=by omega
  obtain ⟨cs,bD,hr,hR⟩:=e6.out k l[k] (Nat.le_refl _) (List.getElem?_eq_getElem aD);have ewk:IntKind.i64.wrap ((k:Int)+1)=((k+1:Nat):Int):=by have:=HL.out;rw [IntKind.wrap_i64];omega
  have ewi:IntKind.i64.wrap ((i:Int)+1)=((i+1:Nat):Int):=by have:=HL.out;rw [IntKind.wrap_i64];omega
  have HLt:=hid aD;have hsz3:cs.toArray.size=8:=by simp [bD]
  have aN:∀ u∈cs,u.oneCell'=true:=RVer.oneC _ _ _ hR;have hall1:=all_oneCell_toArray aN;have HFL:=hid dO;clear dO hk;go_wp2_with (first
   | ((with_reducible refine qaa (o:=⟨some 25,_,_,_,_,_⟩) qam _ rfl rfl rfl hr bD ?_))
   | ((with_reducible refine qa2 (o:=⟨some 7,_,_,_,_,_⟩) jc1 rfl rfl ?_);intro w2 aH aI bC)
   | ((with_reducible refine qa3 (o:=⟨none,_,_,_,_,_⟩) qam _ _ rfl rfl rfl rfl aI hsz3 jgt hall1 ?_);intro w3 aM aL bv cE)
   | ((with_reducible refine qa1 (o:=⟨some 27,_,_,_,_,_⟩) qam _ rfl rfl rfl (aL.whole) hsz3 ?_)))
  have aC:Ext wr w3:=aH.below aM (Nat.le_refl _);refine (HF.out k HLt.out cs w3 (qhd cJ aC) bD (RVer.monoE _ _ _ _ (.of_ext aC) hR)).mono ?_;rintro e w4 ⟨rfl,aj⟩;have aa:=aC.trans aj;have bo:=aL.ext aj;have bU:=dL.out.ext aa;have HF1:=hid (qda (fun x=>!p x) l k HLt.out);have HG4:=hid (qhd cJ aa);have HX:=hid aa;have hgb:g≠wr.heap.size:=by have:=dL.out.lt;omega
  clear aH aM aL aj aC aa cJ bC bv cE
  cases hp:p l[k]
  ·have HP:=hid hp
   clear hp;obtain ⟨y,hy⟩:=aB.out i _ (List.getElem?_eq_getElem (show i < l.length by omega));have f9:=(hy.ext RVer.monoE HX.out).there bU;have hR4:=RVer.monoE _ _ _ _ (.of_ext HX.out) hR;go_wp2_with (first
    | ((with_reducible refine qa1 (o:=⟨some 32,_,_,_,_,_⟩) qam _ rfl rfl rfl (bo.whole) hsz3 ?_))
    | (with_reducible refine qho (o:=⟨none,_,_,_,_,_⟩) qam _ _ rfl rfl rfl rfl f9 bD aN ?_))
   have hBg:B≤g:=Nat.le_trans HB.out HGB.out;have hF2:(l.take (k+1)).filter (fun x=>!p x)=(l.take k).filter (fun x=>!p x)++[l[k]'HLt.out]:=by
    have e:p (l[k]'HLt.out)=false:=HP.out;rw [HF1.out,e];rfl
   have aW:(l.take k).length=k:=by rw [List.length_take];have:=HLt.out;omega
   go_roundw
   case rel=>
    refine ⟨k+1,HLt.out,by go_num,?_,by have:=HKK.out;omega,bU.setCells _ _,?_,?_,?_,qd3 HG4.out _ _⟩
    ·rw [hF2,List.length_append,← HI.out];go_num
    ·intro q x hq
     rw [hF2] at hq
     by_cases hqi:q < i
     ·rw [List.getElem?_append_left (by rw [← HI.out];exact hqi)] at hq
      exact ((HLow.out q x hq).ext RVer.monoE HX.out).setCells (RVer.mono (by decide) (by decide)) bU.ty hBg _ _ (.inl (by omega))
     have hqe:q=i:=by
      have:=(List.getElem?_eq_some_iff.1 hq).1;rw [List.length_append,← HI.out] at this;simp at this;omega
     subst hqe;rw [List.getElem?_append_right (by rw [← HI.out];exact Nat.le_refl _),← HI.out,Nat.sub_self] at hq;simp at hq;subst hq;exact At.put (RVer.mono (by decide) (by decide)) bD hR4 f9 bU.ty hBg
    ·intro q x hq hx
     exact ((e6.out q x (by omega) hx).ext RVer.monoE HX.out).setCells (RVer.mono (by decide) (by decide)) bU.ty hBg _ _ (.inr (by rw [bD];have:=HFL.out;omega))
    intro q x hx
    by_cases hqi:q=i
    ·subst hqi
     exact ⟨_,At.put (RVer.mono (by decide) (by decide)) bD hR4 f9 bU.ty hBg⟩
    obtain ⟨y',hy'⟩:=aB.out q x hx;refine ⟨y',(hy'.ext RVer.monoE HX.out).setCells (RVer.mono (by decide) (by decide)) bU.ty hBg _ _ ?_⟩;rw [bD];rcases Nat.lt_or_gt_of_ne hqi with h | h
    ·left;omega
    right;omega
   case measure=>simp [intOf];omega
  have HP:=hid hp;clear hp;have hF2:(l.take (k+1)).filter (fun x=>!p x)=(l.take k).filter (fun x=>!p x):=by
   have e:p (l[k]'HLt.out)=true:=HP.out;rw [HF1.out,e];simp
  go_wp2_with fail;go_roundw
  case rel=>
   refine ⟨k+1,HLt.out,by go_num,?_,by have:=HKK.out;omega,bU,?_,?_,?_,HG4.out⟩
   ·rw [hF2,← HI.out]
   ·intro q x hq
    rw [hF2] at hq;exact (HLow.out q x hq).ext RVer.monoE HX.out
   ·intro q x hq hx
    exact (e6.out q x (by omega) hx).ext RVer.monoE HX.out
   intro q x hx;obtain ⟨y',hy'⟩:=aB.out q x hx;exact ⟨y',hy'.ext RVer.monoE HX.out⟩
  case measure=>simp [intOf];omega
 obtain rfl:k=l.length:=by omega
 have HTk:=hid (show l.take l.length=l from List.take_length);have lc:(l.length:Int)≤c:=by omega
 have hBg:B≤g:=Nat.le_trans HB.out HGB.out;have fc:=hid (show ∀ q x,(l.filter fun x=>!p x)[q]?=some x→At (RVer B) 8 wr g q x by rw [← HTk.out];exact HLow.out);have HIl:=hid (show (l.filter fun x=>!p x).length=i by rw [HI.out,HTk.out]);have f9:∀ q,q < l.length→wr.there g (q*8) 8:=fun q hq=>by
  obtain ⟨y,hy⟩:=aB.out q _ (List.getElem?_eq_getElem hq);exact hy.there dL.out
 have hthr:wr.there g (i*8) ((l.length - i)*8):=by
  intro j hj;have hq:i+j / 8 < l.length:=by omega
  have:=f9 _ hq (j % 8) (Nat.mod_lt _ (by omega));rwa [show (i+j / 8)*8+j % 8=i*8+j by omega] at this
 have hthz:wr.there g 0 (0*(#[.string ⟨#[]⟩,.int .i64 0,.int .i64 0,.int .i64 0,.int .i64 0,.int .i64 0,.slice none 0 0,.slice none 0 0]:Array Value).size):=by intro j hj;omega
 have hthr':wr.there g (i*8) ((l.length - i)*(#[.string ⟨#[]⟩,.int .i64 0,.int .i64 0,.int .i64 0,.int .i64 0,.int .i64 0,.slice none 0 0,.slice none 0 0]:Array Value).size):=hthr
 by_cases hic:c=i
 ·subst hic
  obtain rfl:c=l.length:=by omega
  go_wp2_with ((with_reducible refine qgf (o:=⟨none,_,_,_,_,_⟩) Tryz.underlying48 jc1 jel _ rfl rfl rfl hthz ?_);intro zs hzs);go_ret;have ho:=Own.ofAt (base:=base) (l:=l.filter fun x=>!p x) (by omega) (dL.out.setCells _ _) HGB.out (by rw [HIl.out];exact Nat.le_refl _) hcm fun q x hq=>(fc.out q x hq).setCells (RVer.mono (by decide) (by decide)) dL.out.ty hBg 0 zs (.inr (by rw [hzs];simp));rw [HIl.out] at ho;exact ⟨.slice (some ⟨g,0,none⟩) l.length l.length,rfl,ho,qd3 cJ _ _,rfl⟩
 have hic1:¬ (c:Int)=i:=by omega
 go_wp2_with ((with_reducible refine qgf (o:=⟨none,_,_,_,_,_⟩) Tryz.underlying48 jc1 jel _ rfl rfl rfl hthr' ?_);intro zs hzs);go_ret;have ho:=Own.ofAt (base:=base) (l:=l.filter fun x=>!p x) (by omega) (dL.out.setCells _ _) HGB.out (by rw [HIl.out];omega) hcm fun q x hq=>(fc.out q x hq).setCells (RVer.mono (by decide) (by decide)) dL.out.ty hBg (i*8) zs (.inl (by have:=(List.getElem?_eq_some_iff.1 hq).1;rw [HIl.out] at this;omega));rw [HIl.out] at ho;exact ⟨.slice (some ⟨g,0,none⟩) i c,rfl,ho,qd3 cJ _ _,rfl⟩
theorem qiq (B:Nat) (A:Option Addr) (c:Nat) (l:List Version) (w:World) (hB:B≤w.heap.size) (hl:l.length≤1000000) (h:Sl B 151 (RVer B) 8 w A l) :
  Calls Tryz.prog 156 #[.slice A l.length c] w fun e w'=>∃ v,e=.returned v∧Own (RVer B) 8 151 w' w.heap.size v l∧Ext w w':=by
 cases A with
 | none=>
  obtain rfl:l=[]:=Sl.none_nil h;have he:∀ w:World,(binOp .eql 48 (.slice none 0 c) (.slice none 0 0)).run Tryz.prog w=.ok (.bool true) w:=fun _=>rfl;go_enter Tryz.func156, Tryz.ntmps156;go_wp2_with fail;go_ret;exact ⟨_,rfl,Own.nil,Ext.refl _⟩
 | some a=>
  have he:∀ w:World,(binOp .eql 48 (.slice (some a) l.length c) (.slice none 0 0)).run Tryz.prog w=.ok (.bool false) w:=fun _=>rfl;have aY:=(Ext.refl w).alloc (.cells #[] 151);go_enter Tryz.func156, Tryz.ntmps156;go_wp2_with (at_builtin;refine qaf (ys:=l) (B:=B) rfl _ _ rfl qfr rfl (Own.empty (Nat.le_refl _)) hB aY.size rfl (h.ext RVer.monoE aY) RVer.oneC (RVer.mono (by decide) (by decide)) ?_ ?_ ?_)
  ·simp [maxLen];omega
  ·simp;omega
  intro v w2 ho hc hb _;have hx:=aY.below hb (Nat.le_refl _);clear hc hb;go_wp2_with fail;go_ret;exact ⟨_,rfl,ho,hx⟩
end Go.Proofs.YtngbfdogiciahaaGreat
