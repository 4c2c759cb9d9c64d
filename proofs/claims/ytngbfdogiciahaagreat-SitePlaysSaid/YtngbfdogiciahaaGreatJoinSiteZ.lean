/- Texts joined. -/
import Derived.Test.YtngbfdogiciahaaGreatPutW
set_option maxRecDepth 100000
set_option maxHeartbeats 40000000
namespace Go.Proofs.YtngbfdogiciahaaGreat
open Go Go.RowKit
theorem qen {s:SiteS} {id:ByteArray} {p:Point} {body e:Int} (h:qdb s id p body=e) (he:e≠0):qdb s id p body=e∧qhe s id p body=⟨0,0⟩∧qke s id p body=s:=by
 have h0:qdb s id p body≠0:=by rw [h];exact he
 unfold qhe qke;rw [if_neg h0,if_neg h0];exact ⟨h,rfl,rfl⟩
theorem qvz {s:SiteS} {id:ByteArray} {p:Point} {body:Int} (h:qdb s id p body=0):qhe s id p body=⟨s.me,s.made+1⟩∧qke s id p body={ s with shelf:=qbk s.shelf (qgh s id p body),made:=s.made+1 }:=by
 unfold qhe qke;rw [if_pos h,if_pos h];exact ⟨rfl,rfl⟩
theorem qgb {w:World} {v:Value} {b:Nat} {x y:Value} {tmps:Array Value} (h8:tmps.getD 8 undef=.pointer (some ⟨b,0,none⟩)) (h9:tmps.getD 9 undef=v) (c1:w.cell? ⟨b,0,none⟩=some x) (c2:w.cell? ⟨b,1,none⟩=some y) :
  (results Tryz.f35 tmps).run Tryz.prog w=.ok (.tuple #[.agg #[x,y],v]) w:=by
 have h8':tmps[8]?.getD undef=.pointer (some ⟨b,0,none⟩):=by simpa using h8
 have h9':tmps[9]?.getD undef=v:=by simpa using h9
 simp [results,Tryz.results35,go_sem,h8',h9',c1,c2]
structure Z8 (B:Nat) (w w':World) (b:Nat):Prop where
 blk:Blk w b 35 #[.int .i64 0,.int .i64 0]
 other:∀ k,k≠b→w'.heap[k]?=w.heap[k]?
 size:w.heap.size≤w'.heap.size
 hB:B≤b
theorem qf4 {B:Nat} {w:World} {b:Nat} (h:Blk w b 35 #[.int .i64 0,.int .i64 0]) (hB:B≤b) (x y:Value):Z8 B w ((w.setCell ⟨b,0,none⟩ x).setCell ⟨b,1,none⟩ y) b:=
 ⟨h,fun k hk=>(Below.heap_setCell _ _ _ k hk).trans (Below.heap_setCell _ _ _ k hk),by simp [World.setCell],hB⟩
theorem qft {r b:Nat} {a w:World} (h:Fr r a w) (hb:a.heap.size≤b) (x y:Value):Fr r a ((w.setCell ⟨b,0,none⟩ x).setCell ⟨b,1,none⟩ y):=(h.setCell (p:=⟨b,0,none⟩) hb x).setCell (p:=⟨b,1,none⟩) hb y
theorem jge {α:Type} {B:Nat} {e:TypeId} {R:World→List Value→α→Prop} {sz:Nat} {w w':World} {b8:Nat} {A:Option Addr} {l:List α} (h:Sl B e R sz w A l) (z:Z8 B w w' b8)
  (hn:∀ (i:Nat) (y:α) (off:Nat) (cs:List Value),l[i]?=some y→cs.length=sz→CellsAt w b8 (off+i*sz) cs→R w cs y→(b8 < B∨tyAt w b8=some e)→False) (hR:∀ y∈l,∀ cs,R w cs y→R w' cs y):Sl B e R sz w' A l:=by
 intro i y hy;obtain ⟨b,off,cs,hA,hb,hk,hl,hc,hr⟩:=h i y hy;have aV:b≠b8:=by
  rintro rfl;exact hn i y off cs hy hl hc hr hk
 have hblk:=z.other b aV;refine ⟨b,off,cs,hA,Nat.lt_of_lt_of_le hb z.size,hk.imp id (fun ht=>by rw [qep hblk];exact ht),hl,fun j u hu=>(World.cell?_of_block (w:=w) hblk).trans (hc j u hu),hR y (List.mem_of_getElem? hy) cs hr⟩
theorem qt9 {α:Type} {B:Nat} {e:TypeId} {R:World→List Value→α→Prop} {sz:Nat} {w w':World} {b8:Nat} {A:Option Addr} {l:List α} (h:Sl B e R sz w A l) (z:Z8 B w w' b8) (he:e≠35) (hR:∀ y∈l,∀ cs,R w cs y→R w' cs y):Sl B e R sz w' A l:=
 jge h z (fun i y off cs _ _ _ _ hk=>by
  rcases hk with hk | hk
  ·exact absurd z.hB (by omega)
  rw [z.blk.ty] at hk;injection hk with hk;exact he hk.symm) hR
theorem jer {B:Nat} {w w':World} {b8:Nat} {A:Option Addr} {l:List Dot} (h:qgm B w A l) (z:Z8 B w w' b8) (hl:∀ d∈l,qb8 d=true):qgm B w' A l:=by
 refine jge h z (fun i y off cs hy ag hc hr _=>?_) (fun _ _ _ h=>h);have hd:=(qar.1 (hl y (List.mem_of_getElem? hy))).2.2.1;rw [hr] at hc;have h1:=hc 1 (.int .i64 y.count) rfl;rw [World.cell?,z.blk] at h1;have h2:∀ k:Nat,(#[.int .i64 0,.int .i64 0]:Array Value)[k]?=some (.int .i64 y.count)→y.count=0:=by
  intro k hk
  match k,hk with
  | 0,hk=>simp at hk;exact hk.symm
  | 1,hk=>simp at hk;exact hk.symm
  | k+2,hk=>simp at hk
 have:=h2 _ h1;omega
theorem IsSl.z8t {α:Type} {B:Nat} {e:TypeId} {R:World→List Value→α→Prop} {sz:Nat} {w w':World} {b8:Nat} {v:Value} {l:List α} (h:IsSl B e R sz w v l) (z:Z8 B w w' b8) (he:e≠35) (hR:∀ y∈l,∀ cs,R w cs y→R w' cs y):IsSl B e R sz w' v l:=by
 obtain ⟨A,c,h1,h2,h3,h4⟩:=h;exact ⟨A,c,h1,h2,h3,qt9 h4 z he hR⟩
theorem IsDots.z8 {B:Nat} {w w':World} {b8:Nat} {v:Value} {l:List Dot} (h:IsDots B w v l) (z:Z8 B w w' b8) (hl:∀ d∈l,qb8 d=true):IsDots B w' v l:=by
 obtain ⟨A,c,h1,h2,h3,h4⟩:=h;exact ⟨A,c,h1,h2,h3,jer h4 z hl⟩
theorem qvh {B:Nat} {w w':World} {b8:Nat} {A:Option Addr} {l:List Box} (h:qaw B w A l) (z:Z8 B w w' b8):qaw B w' A l:=by
 refine qt9 h z (by decide) ?_;rintro y _ cs ⟨v,rfl,hv⟩;exact ⟨v,rfl,hv.z8t z (by decide) (fun _ _ _ h=>h)⟩
theorem jbs {B:Nat} {w w':World} {b8:Nat} {A:Option Addr} {l:List Version} (h:qb6 B w A l) (z:Z8 B w w' b8) (hl:∀ v∈l,VerOk v):qb6 B w' A l:=by
 refine qt9 h z (by decide) ?_;rintro y hy cs ⟨a,m,rfl,ha,hm,hz⟩;exact ⟨a,m,rfl,ha.z8t z (by decide) (fun _ _ _ h=>h),hm.z8 z (fun d hd=>((hl y hy).k.more d hd).1),hz⟩
theorem jd5 {B:Nat} {w w':World} {b8:Nat} {A:Option Addr} {l:List Part} (h:qcg B w A l) (z:Z8 B w w' b8) (hl:∀ v∈l,PartOk v):qcg B w' A l:=by
 refine qt9 h z (by decide) ?_;rintro y hy cs ⟨f,a,m,rfl,hf,ha,hm⟩;refine ⟨f,a,m,rfl,?_,ha.z8t z (by decide) (fun _ _ _ h=>h),hm.z8 z (fun d hd=>((hl y hy).k.more d hd).1)⟩;obtain ⟨A',c',h1,h2,h3,h4⟩:=hf;exact ⟨A',c',h1,h2,h3,qvh h4 z⟩
theorem SiteAt.z8 {B:Nat} {w w':World} {r b8:Nat} {Af:Option Addr} {cf:Nat} {Ax:Option Addr} {cx:Nat} {Ap:Option Addr} {cp:Nat} {s:SiteS} (h:SiteAt B w r Af cf Ax cx Ap cp s) (aO:SiteOk s) (z:Z8 B w w' b8) (aV:r≠b8):SiteAt B w' r Af cf Ax cx Ap cp s:=
 ⟨(z.other r aV).trans h.blk,qvh h.sf z,jbs h.sx z aO.shelf.all,jd5 h.sp z aO.parts⟩
theorem InK.old {B:Nat} {w:World} {Av Am:Option Addr} {k:Know} (h:InK 0 w Av Am k):InK B w Av Am k:=⟨h.lv,h.lm,h.sv.old (fun _ _ h=>h) (Nat.zero_le _),h.sm.old (fun _ _ h=>h) (Nat.zero_le _)⟩
theorem jb7 (B:Nat) (r:Nat) (s:SiteS) (id:ByteArray) (p:Point) (body:Int) (w:World) (hB:B≤w.heap.size) (fj:B≤r) (aO:SiteOk s) (hz:id.size≤maxLen) (h:IsSite B w r s) :
  Calls Tryz.prog 35 #[.pointer (some ⟨r,0,none⟩),.string id,.agg #[.int .i64 p.tags,.int .i64 p.num],.int .i64 body] w fun e w'=>e=.returned (.tuple #[.agg #[.int .i64 (qhe s id p body).site,.int .i64 (qhe s id p body).count],.int .i64 (qdb s id p body)])∧IsSite B w' r (qke s id p body)∧Fr r w w':=by
 have hrl0:=h.lt;obtain ⟨Af,cf,Ax,cx,Ap,cp,aF⟩:=h;have HB:=hid hB;have cT:=hid fj;have aZ:=hid aO;have hx:=((Ext.refl w).alloc (.cells #[.int .i64 p.tags,.int .i64 p.num] 40)).alloc (.cells #[.int .i64 0,.int .i64 0] 35);have bH:=(Blk.new w 40 #[.int .i64 p.tags,.int .i64 p.num]).alloc (.cells #[.int .i64 0,.int .i64 0] 35);have aJ:=Blk.new (w.alloc (.cells #[.int .i64 p.tags,.int .i64 p.num] 40)) 35 #[.int .i64 0,.int .i64 0];rw [show (w.alloc (.cells #[.int .i64 p.tags,.int .i64 p.num] 40)).heap.size=w.heap.size+1 by simp] at aJ;replace aF:=aF.ext hx;have m0:=aO.made0;have m1:=aO.made1;have hmw:IntKind.i64.wrap (s.made+1)=s.made+1:=by rw [IntKind.wrap_i64];omega
 have HMD:=hid (show qdb s id p body=if idOk id=true then (if (qaz p&&qdu body)=true then (if s.made=1000 then 2 else if qbs s.shelf id=0 then qb7 s.shelf (qgh s id p body) else qbs s.shelf id) else 1) else 3 from rfl);have eD:=hid (qml body);clear hB fj aO;go_enter Tryz.func35, Tryz.ntmps35;go_wp2_with fail;refine (qn0 id _).mono ?_;rintro e w1 ⟨rfl,aE⟩;replace bH:=bH.ext aE;replace aJ:=aJ.ext aE;replace aF:=aF.ext aE;replace hx:=hx.trans aE;clear aE;obtain ⟨b6,hb6d⟩:=ex1 w.heap.size;obtain ⟨b8,fP⟩:=ex1 (w.heap.size+1);have cU:=hid (show b8≠r by omega);have HW8:=hid (show w.heap.size≤b8 by omega);have dE:=hid (show B≤b8 by have:=HB.out;omega);rw [← fP,← hb6d];rw [← hb6d] at bH;rw [← fP] at aJ;clear hb6d fP
 cases hi1:idOk id
 ·have ak:=hid (qen (e:=3) (by rw [HMD.out,hi1];rfl) (by decide))
  clear hi1;have y0:=aJ.ce 0 (.int .i64 0) rfl;have y1:=aJ.ce 1 (.int .i64 0) rfl;have z0:=aJ.frozen 0;have z1:=aJ.frozen 1;go_wp2_with fail;refine bodyPost_ret (v:=.tuple #[.agg #[.int .i64 0,.int .i64 0],.int .i64 3]) (qgb (b:=b8) rfl rfl ?_ ?_) rfl ⟨by rw [ak.out.1,ak.out.2.1] <;> rfl,?_,?_⟩
  ·go_simp
  ·go_simp
  ·rw [ak.out.2.2];exact (aF.z8 aZ.out (qf4 aJ dE.out _ _) cU.out.symm).is
  exact qft (Fr.of_ext hx) HW8.out _ _
 have HID:=hid hi1;clear hi1;have p0:=bH.ce 0 (.int .i64 p.tags) rfl;have p1:=bH.ce 1 (.int .i64 p.num) rfl;have hb6l:=bH.lt;go_wp2_with fail;refine (qm2 p _).mono ?_;rintro e w2 ⟨rfl,aH⟩;replace bH:=bH.ext aH;replace aJ:=aJ.ext aH;replace aF:=aF.ext aH;replace hx:=hx.trans aH;clear aH p0 p1 hb6l
 cases hp1:qaz p
 ·have ak:=hid (qen (e:=1) (by rw [HMD.out,if_pos HID.out,hp1];rfl) (by decide))
  clear hp1;have y0:=aJ.ce 0 (.int .i64 0) rfl;have y1:=aJ.ce 1 (.int .i64 0) rfl;have z0:=aJ.frozen 0;have z1:=aJ.frozen 1;go_wp2_with fail;refine bodyPost_ret (v:=.tuple #[.agg #[.int .i64 0,.int .i64 0],.int .i64 1]) (qgb (b:=b8) rfl rfl ?_ ?_) rfl ⟨by rw [ak.out.1,ak.out.2.1] <;> rfl,?_,?_⟩
  ·go_simp
  ·go_simp
  ·rw [ak.out.2.2];exact (aF.z8 aZ.out (qf4 aJ dE.out _ _) cU.out.symm).is
  exact qft (Fr.of_ext hx) HW8.out _ _
 have HP:=hid hp1;clear hp1
 by_cases fG:body < 0
 ·have hbn':decide (body < 0)=true:=decide_eq_true fG
  have ak:=hid (qen (e:=1) (by rw [HMD.out,if_pos HID.out,HP.out,eD.out,hbn'];rfl) (by decide));clear fG;have y0:=aJ.ce 0 (.int .i64 0) rfl;have y1:=aJ.ce 1 (.int .i64 0) rfl;have z0:=aJ.frozen 0;have z1:=aJ.frozen 1;go_wp2_with fail;refine bodyPost_ret (v:=.tuple #[.agg #[.int .i64 0,.int .i64 0],.int .i64 1]) (qgb (b:=b8) rfl rfl ?_ ?_) rfl ⟨by rw [ak.out.1,ak.out.2.1] <;> rfl,?_,?_⟩
  ·go_simp
  ·go_simp
  ·rw [ak.out.2.2];exact (aF.z8 aZ.out (qf4 aJ dE.out _ _) cU.out.symm).is
  exact qft (Fr.of_ext hx) HW8.out _ _
 have hbn':decide (body < 0)=false:=decide_eq_false fG
 by_cases hbm:1000000 < body
 ·have hbm':decide (1000000 < body)=true:=decide_eq_true hbm
  have ak:=hid (qen (e:=1) (by rw [HMD.out,if_pos HID.out,HP.out,eD.out,hbn',hbm'];rfl) (by decide));clear fG hbm;have y0:=aJ.ce 0 (.int .i64 0) rfl;have y1:=aJ.ce 1 (.int .i64 0) rfl;have z0:=aJ.frozen 0;have z1:=aJ.frozen 1;go_wp2_with fail;refine bodyPost_ret (v:=.tuple #[.agg #[.int .i64 0,.int .i64 0],.int .i64 1]) (qgb (b:=b8) rfl rfl ?_ ?_) rfl ⟨by rw [ak.out.1,ak.out.2.1] <;> rfl,?_,?_⟩
  ·go_simp
  ·go_simp
  ·rw [ak.out.2.2];exact (aF.z8 aZ.out (qf4 aJ dE.out _ _) cU.out.symm).is
  exact qft (Fr.of_ext hx) HW8.out _ _
 have hbm':decide (1000000 < body)=false:=decide_eq_false hbm;have HBK:=hid (show (qaz p&&qdu body)=true by rw [HP.out,eD.out,hbn',hbm'];rfl);clear fG hbm;have q1:=aF.blk.ce 1 (.int .i64 s.made) rfl;have cR:=aF.blk.lt
 by_cases hmd:s.made=1000
 ·have hmd':(s.made==1000)=true:=by rw [hmd];rfl
  have ak:=hid (qen (e:=2) (by rw [HMD.out,if_pos HID.out,if_pos HBK.out,if_pos hmd]) (by decide));clear hmd;have y0:=aJ.ce 0 (.int .i64 0) rfl;have y1:=aJ.ce 1 (.int .i64 0) rfl;have z0:=aJ.frozen 0;have z1:=aJ.frozen 1;go_wp2_with fail;refine bodyPost_ret (v:=.tuple #[.agg #[.int .i64 0,.int .i64 0],.int .i64 2]) (qgb (b:=b8) rfl rfl ?_ ?_) rfl ⟨by rw [ak.out.1,ak.out.2.1] <;> rfl,?_,?_⟩
  ·go_simp
  ·go_simp
  ·rw [ak.out.2.2];exact (aF.z8 aZ.out (qf4 aJ dE.out _ _) cU.out.symm).is
  exact qft (Fr.of_ext hx) HW8.out _ _
 have hmd':(s.made==1000)=false:=by rw [beq_eq_false_iff_ne];exact hmd
 have HMM:=hid (show qdb s id p body=if qbs s.shelf id=0 then qb7 s.shelf (qgh s id p body) else qbs s.shelf id by rw [HMD.out,if_pos HID.out,if_pos HBK.out,if_neg hmd]);clear hmd;have q4:=aF.blk.ce 4 (.slice Ax s.shelf.length cx) rfl;go_wp2_with fail;refine (qy5 B Ax cx s.shelf id _ (Nat.le_trans HB.out hx.size) (by have:=aZ.out.shelf.len;unfold maxLen;omega) aF.sx).mono ?_;rintro e w2b ⟨x2,rfl,hk,aH⟩;obtain ⟨A2,c2,A3,c3,rfl,k1,k2,k3,k4,hk⟩:=hk;have HCK:=hid (show ((qgh s id p body).past.vec.length≤c2∧c2≤maxLen)∧((qgh s id p body).past.more.length≤c3∧c3≤maxLen)∧(qgh s id p body).id.size≤maxLen from ⟨⟨k1,k2⟩,⟨k3,k4⟩,hz⟩);replace hk:=hk.old (B:=B);replace bH:=bH.ext aH;replace aJ:=aJ.ext aH;replace aF:=aF.ext aH;replace hx:=hx.trans aH;clear aH q1 q4 cR k1 k2 k3 k4
 by_cases hpe:qbs s.shelf id=0
 ·rw [hpe]
  have HME:=hid (show qdb s id p body=qb7 s.shelf (qgh s id p body) by rw [HMM.out,if_pos hpe]);clear hpe;have ar:=(Ext.refl w2b).alloc (.cells #[.slice A2 (qbj s.shelf id).vec.length c2,.slice A3 (qbj s.shelf id).more.length c3] 101);have b9:=Blk.new w2b 101 #[.slice A2 (qbj s.shelf id).vec.length c2,.slice A3 (qbj s.shelf id).more.length c3];obtain ⟨w3,dY⟩:=ex1 (w2b.alloc (.cells #[.slice A2 (qbj s.shelf id).vec.length c2,.slice A3 (qbj s.shelf id).more.length c3] 101));obtain ⟨b10,eh⟩:=ex1 w2b.heap.size;have HW3:=hid dY;have HB10D:=hid eh;rw [← dY] at ar b9;rw [← eh] at b9;replace bH:=bH.ext ar;replace aJ:=aJ.ext ar;replace aF:=aF.ext ar;replace hk:=hk.ext ar;replace hx:=hx.trans ar;clear ar dY eh;have aN:(#[.slice A2 (qbj s.shelf id).vec.length c2,.slice A3 (qbj s.shelf id).more.length c3]:Array Value).size=2:=rfl;go_wp2_with fail;rw [← HW3.out,← HB10D.out];obtain ⟨w10,hw10⟩:=ex1 w3
  rw [← hw10] at aF bH aJ b9 hk hx ⊢;clear hw10;have aB:=hid (fun w' (x:Ext w10 w')=>show w'.cell? ⟨r,0,none⟩=some (.int .i64 s.me)∧w'.cell? ⟨r,1,none⟩=some (.int .i64 s.made) from ⟨(aF.ext x).blk.cell rfl,(aF.ext x).blk.cell rfl⟩);have HRL:=hid (Nat.lt_of_lt_of_le hrl0 hx.size);have HS:=hid aF;have fJ:=hid bH;have HB8:=hid aJ;have fb:=hid b9;have HK:=hid hk;have HX:=hid hx;clear aF bH aJ b9 hk hx;go_wp2_with fail;have aA:=(Ext.refl w10).drew;refine wp_region_held_drew (S:=fun w'=>w'.cell? ⟨r,0,none⟩=some (.int .i64 s.me)∧w'.cell? ⟨r,1,none⟩=some (.int .i64 s.made)) (by kernel_rfl) (aB.out _ aA) (fun hHeld=>?_);obtain ⟨wc,aS⟩:=ex1 w10.drew;rw [← aS] at hHeld aA ⊢;clear aS;refine tkA 0 _ rfl ?_;(try simp only [gq,pq]);refine tkA 1 _ rfl ?_;(try simp only [gq,pq]);refine tkA 2 _ rfl ?_;(try simp only [gq,pq]);refine tkA 3 _ rfl ?_;(try simp only [gq,pq]);refine tkA 4 _ rfl ?_;try simp only [gq,pq]
  refine tkA 5 _ rfl ?_;(try simp only [gq,pq]);refine tkA 6 _ rfl ?_;(try simp only [gq,pq]);refine tkA 7 _ rfl ?_;(try simp only [gq,pq]);refine tkA 8 _ rfl ?_;(try simp only [gq,pq]);refine tkA 9 _ rfl ?_;(try simp only [gq,pq]);refine rd1 10 rfl fun K hK=>?_;simp only [gq];go_simp;have bc:=Blk.new wc 35 #[.int .i64 0,.int .i64 0];have aC:=(Ext.refl wc).alloc (.cells #[.int .i64 0,.int .i64 0] 35);have hge:=aA.size;replace aA:=aA.trans aC;obtain ⟨wn,aP⟩:=ex1 (wc.alloc (.cells #[.int .i64 0,.int .i64 0] 35));obtain ⟨b12,ej⟩:=ex1 wc.heap.size;rw [← aP] at aA bc;rw [← aP,← ej];rw [← ej] at bc hge;clear aC aP ej;obtain ⟨wc,rfl⟩:=ex1 wn;refine hK.out _ _ (aB.out _ aA) (fun hHeld=>?_);clear hK K;(try simp only [pq]);refine rd1 11 rfl fun K hK=>?_;simp only [gq];have y0:=bc.ce 0 (.int .i64 0) rfl;have y1:=bc.ce 1 (.int .i64 0) rfl;have z0:=bc.frozen 0;have z1:=bc.frozen 1
  go_simp;have br:=(aA.setCell (p:=⟨b12,0,none⟩) hge (.int .i64 s.me)).setCell (p:=⟨b12,1,none⟩) hge (.int .i64 (s.made+1));have ao:Blk ((wc.setCell ⟨b12,0,none⟩ (.int .i64 s.me)).setCell ⟨b12,1,none⟩ (.int .i64 (s.made+1))) b12 35 #[.int .i64 s.me,.int .i64 (s.made+1)]:=by simpa using (bc.set 0 (.int .i64 s.me)).set 1 (.int .i64 (s.made+1))
  clear y0 y1 z0 z1;obtain ⟨wn,aP⟩:=ex1 ((wc.setCell ⟨b12,0,none⟩ (.int .i64 s.me)).setCell ⟨b12,1,none⟩ (.int .i64 (s.made+1)));rw [← aP] at br ao ⊢;clear aP aA bc;refine hK.out _ _ (aB.out _ br) (fun hHeld=>?_);clear hK K;(try simp only [pq]);refine wpAnyH_done (by kernel_rfl) ?_ _;clear hHeld aB;have aF:=HS.out.ext br;have bH:=fJ.out.ext br;have aJ:=HB8.out.ext br;have b9:=fb.out.ext br;have hk:=HK.out.ext br;have hx:=HX.out.trans br;have hg12:=hge;clear HS fJ HB8 fb HK HX br hge;obtain ⟨w11,hw11⟩:=ex1 wn;rw [← hw11] at aF bH aJ b9 ao hk hx ⊢;clear hw11;have HN12:=hid (show b12≠r by have:=HRL.out;omega);have HB11:=hid (Nat.le_trans HB.out hx.size);have aB:=hid (fun w' (x:Ext w11 w')=>show w'.cell? ⟨r,4,none⟩=some (.slice Ax s.shelf.length cx)∧w'.cell? ⟨b12,0,none⟩=some (.int .i64 s.me)∧w'.cell? ⟨b12,1,none⟩=some (.int .i64 (s.made+1))∧w'.cell? ⟨b6,0,none⟩=some (.int .i64 p.tags)∧w'.cell? ⟨b6,1,none⟩=some (.int .i64 p.num)∧w'.cell? ⟨b10,0,none⟩=some (.slice A2 (qbj s.shelf id).vec.length c2)∧w'.cell? ⟨b10,1,none⟩=some (.slice A3 (qbj s.shelf id).more.length c3) from ⟨(aF.ext x).blk.cell rfl,(ao.ext x).cell rfl,(ao.ext x).cell rfl,(bH.ext x).cell rfl,(bH.ext x).cell rfl,(b9.ext x).cell rfl,(b9.ext x).cell rfl⟩)
  have HS:=hid aF;have fJ:=hid bH;have HB8:=hid aJ;have fb:=hid b9;have HB12:=hid ao;have HK:=hid hk;have HX:=hid hx;clear aF bH aJ b9 ao hk hx hg12;go_wp2_with fail;have aA:=(Ext.refl w11).drew;refine wp_region_held_drew (S:=fun w'=>w'.cell? ⟨r,4,none⟩=some (.slice Ax s.shelf.length cx)∧w'.cell? ⟨b12,0,none⟩=some (.int .i64 s.me)∧w'.cell? ⟨b12,1,none⟩=some (.int .i64 (s.made+1))∧w'.cell? ⟨b6,0,none⟩=some (.int .i64 p.tags)∧w'.cell? ⟨b6,1,none⟩=some (.int .i64 p.num)∧w'.cell? ⟨b10,0,none⟩=some (.slice A2 (qbj s.shelf id).vec.length c2)∧w'.cell? ⟨b10,1,none⟩=some (.slice A3 (qbj s.shelf id).more.length c3)) (by kernel_rfl) (aB.out _ aA) (fun hHeld=>?_);obtain ⟨wc,aS⟩:=ex1 w11.drew;rw [← aS] at hHeld aA ⊢;clear aS;refine tkA 0 _ rfl ?_;(try simp only [gq,pq]);refine tkA 1 _ rfl ?_;(try simp only [gq,pq]);refine tkA 2 _ rfl ?_;(try simp only [gq,pq]);refine tkA 3 _ rfl ?_;try simp only [gq,pq]
  refine tkA 4 _ rfl ?_;(try simp only [gq,pq]);refine tkA 5 _ rfl ?_;(try simp only [gq,pq]);refine tkA 6 _ rfl ?_;(try simp only [gq,pq]);refine tkA 7 _ rfl ?_;(try simp only [gq,pq]);refine tkA 8 _ rfl ?_;(try simp only [gq,pq]);refine tkA 9 _ rfl ?_;(try simp only [gq,pq]);refine rd1 10 rfl fun K hK=>?_;simp only [gq];go_simp;refine (qt4 B Ax cx s.shelf (qgh s id p body) A2 c2 A3 c3 wc (Nat.le_trans HB11.out aA.size) (by have:=aZ.out.shelf.len;unfold maxLen;omega) ((HS.out.ext aA).sx) ⟨HCK.out.1,HCK.out.2.1,HCK.out.2.2,HK.out.ext aA⟩).mono ?_;rintro e wn ⟨v10,rfl,hv10,aC⟩;dsimp only;obtain ⟨A10,c10,rfl,_,_,hv10⟩:=hv10;replace aA:=aA.trans aC;clear aC;obtain ⟨wc,rfl⟩:=ex1 wn;refine hK.out _ _ (aB.out _ aA) (fun hHeld=>?_);clear hK K;(try simp only [pq]);refine tkA 11 _ rfl ?_;(try simp only [gq,pq]);refine tkA 12 _ rfl ?_;(try simp only [gq,pq]);refine tkA 13 _ rfl ?_;try simp only [gq,pq]
  refine tkA 14 _ rfl ?_;(try simp only [gq,pq]);refine tkA 15 _ rfl ?_;(try simp only [gq,pq]);refine wpAnyH_done (by kernel_rfl) ?_ _;clear hHeld aB;have aF:=HS.out.ext aA;have aJ:=HB8.out.ext aA;have bc:=HB12.out.ext aA;have hx:=HX.out.trans aA;clear HS fJ HB8 fb HB12 HK HX aA;obtain ⟨E,hE⟩:=ex1 (qb7 s.shelf (qgh s id p body));obtain ⟨L,hL⟩:=ex1 (qbk s.shelf (qgh s id p body));rw [← hL] at hv10;rw [← hE,← hL];have y0:=aJ.ce 0 (.int .i64 0) rfl;have y1:=aJ.ce 1 (.int .i64 0) rfl;have z0:=aJ.frozen 0;have z1:=aJ.frozen 1;have HR:=hid hL;have bT:=hid hE;clear hL hE
  by_cases h0:E=0
  ·subst h0
   have fh:=hid (HME.out.trans bT.out.symm);have u0:=bc.ce 0 (.int .i64 s.me) rfl;have u1:=bc.ce 1 (.int .i64 (s.made+1)) rfl;have q1:=aF.blk.ce 1 (.int .i64 s.made) rfl;have q4:=aF.blk.ce 4 (.slice Ax s.shelf.length cx) rfl;have f1:=aF.blk.frozen 1;have f4:=aF.blk.frozen 4;have cG:=(aF.setShelf cT.out (c:=c10) hv10).setMade cT.out (s.made+1);have hf8:=((Fr.of_ext (r:=r) hx).setR 4 (.slice A10 L.length c10)).setR 1 (.int .i64 (s.made+1));have hb88:=(aJ.far (p:=⟨r,4,none⟩) cU.out (.slice A10 L.length c10)).far (p:=⟨r,1,none⟩) cU.out (.int .i64 (s.made+1));have hn8:=cU.out;have hn12:=HN12.out;go_wp2_with fail;have cV:=hid (qvz fh.out);refine bodyPost_ret (v:=.tuple #[.agg #[.int .i64 s.me,.int .i64 (s.made+1)],.int .i64 0]) (qgb (b:=b8) rfl rfl ?_ ?_) rfl ⟨by rw [cV.out.1,fh.out] <;> rfl,?_,?_⟩
   ·go_simp
   ·go_simp
   ·rw [cV.out.2,← HR.out]
    have hok9:SiteOk { s with shelf:=L,made:=s.made+1 }:=by have:=qqu aZ.out id p body;rw [cV.out.2,← HR.out] at this;exact this
    exact (cG.z8 hok9 (qf4 hb88 dE.out _ _) cU.out.symm).is
   exact qft hf8 HW8.out _ _
  have aV:(E !=0)=true:=by simpa using h0
  have fh:=hid (qen (HME.out.trans bT.out.symm) h0);clear h0;go_wp2_with fail;refine bodyPost_ret (v:=.tuple #[.agg #[.int .i64 0,.int .i64 0],.int .i64 E]) (qgb (b:=b8) rfl rfl ?_ ?_) rfl ⟨by rw [fh.out.1,fh.out.2.1] <;> rfl,?_,?_⟩
  ·go_simp
  ·go_simp
  ·rw [fh.out.2.2];exact (aF.z8 aZ.out (qf4 aJ dE.out _ _) cU.out.symm).is
  exact qft (Fr.of_ext hx) HW8.out _ _
 have aV:(qbs s.shelf id !=0)=true:=by simpa using hpe
 have ak:=hid (qen (by rw [HMM.out,if_neg hpe]) hpe);have ar:=(Ext.refl w2b).alloc (.cells #[.slice A2 (qbj s.shelf id).vec.length c2,.slice A3 (qbj s.shelf id).more.length c3] 101);replace aJ:=aJ.ext ar;replace aF:=aF.ext ar;replace hx:=hx.trans ar;clear hpe ar;have y0:=aJ.ce 0 (.int .i64 0) rfl;have y1:=aJ.ce 1 (.int .i64 0) rfl;have z0:=aJ.frozen 0;have z1:=aJ.frozen 1;go_wp2_with fail;refine bodyPost_ret (v:=.tuple #[.agg #[.int .i64 0,.int .i64 0],.int .i64 (qbs s.shelf id)]) (qgb (b:=b8) rfl rfl ?_ ?_) rfl ⟨by rw [ak.out.1,ak.out.2.1] <;> rfl,?_,?_⟩
 ·go_simp
 ·go_simp
 ·rw [ak.out.2.2];exact (aF.z8 aZ.out (qf4 aJ dE.out _ _) cU.out.symm).is
 exact qft (Fr.of_ext hx) HW8.out _ _
theorem qy8 (B:Nat) (b:Batch) (Ax:Option Addr) (cx:Nat) (Ag:Option Addr) (cg:Nat) (Ap:Option Addr) (cp:Nat) (w:World) (hi:InB B w Ax cx Ag cg Ap cp b) :
  Calls Tryz.prog 109 #[.agg #[.int .i64 b.site, .int .i64 b.stamp, .slice Ax b.vers.length cx, .slice Ag b.gone.length cg, .slice Ap b.parts.length cp]] w fun e w'=>e=.returned (.int .i64 (qan b))∧Ext w w':=by
 have HI:=hid hi;have hx:=(Ext.refl w).alloc (.cells #[.int .i64 b.site, .int .i64 b.stamp, .slice Ax b.vers.length cx, .slice Ag b.gone.length cg, .slice Ap b.parts.length cp] 90);clear hi
 by_cases aO:0≤b.site∧b.site≤4∧0≤b.stamp
 ·have HE:=hid (show qan b=qe7 b from if_pos aO)
  have e1:decide (b.site < 0)=false:=decide_eq_false (by omega);have e2:decide (5≤b.site)=false:=decide_eq_false (by omega);have e3:decide (b.stamp < 0)=false:=decide_eq_false (by omega);clear aO
  by_cases hl:b.vers.length≤60∧b.gone.length≤60
  ·have ae:=Blk.new w 90 #[.int .i64 b.site, .int .i64 b.stamp, .slice Ax b.vers.length cx, .slice Ag b.gone.length cg, .slice Ap b.parts.length cp]
   have HT:=hid (show qe7 b=qcz b from if_pos hl);have l1:decide ((60:Int) < b.vers.length)=false:=decide_eq_false (by omega);have l2:decide ((60:Int) < b.gone.length)=false:=decide_eq_false (by omega);have dz:b.vers.length≤60:=hl.1;have hg60:b.gone.length≤60:=hl.2;clear hl;go_enter Tryz.func109, Tryz.ntmps109;go_wp2_with fail;go_loopw [35] (fun i wr=>∃ k:Nat,k≤b.vers.length∧i=.int .i64 k∧qak qas (b.vers.drop k)=qak qas b.vers∧Ext w wr∧Blk wr w.heap.size 90 #[.int .i64 b.site, .int .i64 b.stamp, .slice Ax b.vers.length cx, .slice Ag b.gone.length cg, .slice Ap b.parts.length cp]) (fun i _=>b.vers.length - (intOf i).toNat)
   case atStart=>exact ⟨0,Nat.zero_le _,rfl,rfl,hx,ae⟩
   clear hx ae;obtain ⟨k,hk,rfl,hG,hx,ae⟩:=hrel;have HG:=hid hG;clear hG
   by_cases aD:k < b.vers.length
   ·obtain ⟨r0,off,Av,cv,Am,cm,rfl,hb,hr,hI⟩:=(HI.out.sx.ext RVer.monoE hx).ver aD
    have HV:=hid hI;clear hI;have aW:([.string b.vers[k].id, .int .i64 b.vers[k].dot.site, .int .i64 b.vers[k].dot.count, .int .i64 b.vers[k].pt.tags, .int .i64 b.vers[k].pt.num, .int .i64 b.vers[k].body, .slice Av b.vers[k].past.vec.length cv, .slice Am b.vers[k].past.more.length cm]:List Value).length=8:=rfl;go_wp2_with ((with_reducible refine qaa (o:=⟨some 38,_,_,_,_,_⟩) qam _ rfl rfl rfl hr aW ?_));clear hr aW hb;refine (qou B b.vers[k] Av cv Am cm _ (HV.out.ext ((Ext.refl wr).alloc _))).mono ?_;rintro e w1 ⟨rfl,aE⟩;have aK:=((Ext.refl wr).alloc (.cells #[.string b.vers[k].id, .int .i64 b.vers[k].dot.site, .int .i64 b.vers[k].dot.count, .int .i64 b.vers[k].pt.tags, .int .i64 b.vers[k].pt.num, .int .i64 b.vers[k].body, .slice Av b.vers[k].past.vec.length cv, .slice Am b.vers[k].past.more.length cm] 151)).trans aE;replace ae:=ae.ext aK;replace hx:=hx.trans aK;clear aE aK HV
    by_cases bM:qas b.vers[k]=0
    ·rw [bM]
     have HS:=hid (show qak qas (b.vers.drop (k+1))=qak qas b.vers by rw [← HG.out,qbp _ _ k aD,if_pos bM]);clear bM;go_wp2_with fail;go_roundw
     case rel=>exact ⟨k+1,aD,by go_num,HS.out,hx,ae⟩
     case measure=>simp [intOf];omega
    have aV:(qas b.vers[k] !=0)=true:=by simpa using bM
    have cH:=hid (show qan b=qas b.vers[k] by
     have h2:qak qas b.vers=qas b.vers[k]:=by rw [← HG.out,qbp _ _ k aD,if_neg bM]
     rw [HE.out,HT.out,qcz,if_neg (by rw [h2];exact bM),h2])
    clear bM;go_wp2_with fail;go_ret;exact ⟨qa8 cH.out.symm,hx⟩
   obtain rfl:k=b.vers.length:=by omega
   have HF:=hid (show qak qas b.vers=0 by rw [← HG.out,List.drop_length];rfl);have y3:=ae.ce 3 (.slice Ag b.gone.length cg) rfl;clear hk aD HG;go_wp2_with fail;clear y3;go_loopw [48] (fun i wr=>∃ k:Nat,k≤b.gone.length∧i=.int .i64 k∧qak qax (b.gone.drop k)=qak qax b.gone∧Ext w wr∧Blk wr w.heap.size 90 #[.int .i64 b.site, .int .i64 b.stamp, .slice Ax b.vers.length cx, .slice Ag b.gone.length cg, .slice Ap b.parts.length cp]) (fun i _=>b.gone.length - (intOf i).toNat)
   case atStart=>exact ⟨0,Nat.zero_le _,rfl,rfl,hx,ae⟩
   clear hx ae;obtain ⟨k,hk,rfl,hG,hx,ae⟩:=hrel;have HG:=hid hG;clear hG
   by_cases aD:k < b.gone.length
   ·obtain ⟨r0,off,Av,cv,Am,cm,rfl,hb,hr,hI⟩:=(HI.out.sg.ext RGone.monoE hx).gone aD
    have HV:=hid hI;clear hI;have aW:([.string b.gone[k].id, .slice Av b.gone[k].past.vec.length cv, .slice Am b.gone[k].past.more.length cm]:List Value).length=3:=rfl;go_wp2_with ((with_reducible refine qaa (o:=⟨some 51,_,_,_,_,_⟩) qih _ rfl rfl rfl hr aW ?_));clear hr aW hb;refine (qn0 b.gone[k].id _).mono ?_;rintro e w1 ⟨rfl,aE⟩;have aK:=((Ext.refl wr).alloc (.cells #[.string b.gone[k].id, .slice Av b.gone[k].past.vec.length cv, .slice Am b.gone[k].past.more.length cm] 103)).trans aE;have an:=(Blk.new wr 103 #[.string b.gone[k].id, .slice Av b.gone[k].past.vec.length cv, .slice Am b.gone[k].past.more.length cm]).ext aE;replace ae:=ae.ext aK;replace hx:=hx.trans aK;have e9:=hid (HV.out.k.ext aK);clear aE aK HV
    cases h1:idOk b.gone[k].id
    ·have cH:=hid (show qan b=3 by
      have h2:qak qax b.gone=3:=by
       have h3:qax b.gone[k]=3:=by rw [qax,if_neg (by rw [h1];simp)]
       rw [← HG.out,qbp _ _ k aD,if_neg (by rw [h3];decide),h3]
      rw [HE.out,HT.out,qcz,if_pos HF.out,if_neg (by rw [h2];decide),h2])
     clear h1 an;go_wp2_with fail;go_ret;exact ⟨qa8 cH.out.symm,hx⟩
    have y1:=an.ce 1 (.slice Av b.gone[k].past.vec.length cv) rfl;have y2:=an.ce 2 (.slice Am b.gone[k].past.more.length cm) rfl;have H1:=hid h1;clear h1 an;go_wp2_with fail;refine (qem B b.gone[k].past Av cv Am cm _ e9.out).mono ?_;rintro e w2 ⟨rfl,aH⟩;replace ae:=ae.ext aH;replace hx:=hx.trans aH;clear aH y1 y2
    by_cases bM:qa4 b.gone[k].past=0
    ·rw [bM]
     have HS:=hid (show qak qax (b.gone.drop (k+1))=qak qax b.gone by
      rw [← HG.out,qbp _ _ k aD,if_pos (by rw [qax,if_pos H1.out,bM])])
     clear bM;go_wp2_with fail;go_roundw
     case rel=>exact ⟨k+1,aD,by go_num,HS.out,hx,ae⟩
     case measure=>simp [intOf];omega
    have aV:(qa4 b.gone[k].past !=0)=true:=by simpa using bM
    have cH:=hid (show qan b=qa4 b.gone[k].past by
     have h2:qak qax b.gone=qa4 b.gone[k].past:=by
      have h3:qax b.gone[k]=qa4 b.gone[k].past:=by rw [qax,if_pos H1.out]
      rw [← HG.out,qbp _ _ k aD,if_neg (by rw [h3];exact bM),h3]
     rw [HE.out,HT.out,qcz,if_pos HF.out,if_neg (by rw [h2];exact bM),h2])
    clear bM;go_wp2_with fail;go_ret;exact ⟨qa8 cH.out.symm,hx⟩
   obtain rfl:k=b.gone.length:=by omega
   have fd:=hid (show qak qax b.gone=0 by rw [← HG.out,List.drop_length];rfl);have cH:=hid (show qan b=qac b.parts by rw [HE.out,HT.out,qcz,if_pos HF.out,if_pos fd.out]);have y4:=ae.ce 4 (.slice Ap b.parts.length cp) rfl;go_wp2_with fail;refine (qgu B Ap cp b.parts _ HI.out.mx.2.2 (HI.out.sp.ext RPart.monoE hx)).mono ?_;rintro e w1 ⟨rfl,aE⟩;go_wp2_with fail;go_ret;exact ⟨qa8 cH.out.symm,hx.trans aE⟩
  have HT:=hid (show qe7 b=2 from if_neg hl)
  by_cases a1:b.vers.length≤60
  ·have l1:decide ((60:Int) < b.vers.length)=false:=decide_eq_false (by omega)
   have l2:decide ((60:Int) < b.gone.length)=true:=decide_eq_true (by omega);clear hl a1;go_enter Tryz.func109, Tryz.ntmps109;go_wp2_with fail;go_ret;exact ⟨qa8 (HE.out.trans HT.out).symm,hx⟩
  have l1:decide ((60:Int) < b.vers.length)=true:=decide_eq_true (by omega);clear hl a1;go_enter Tryz.func109, Tryz.ntmps109;go_wp2_with fail;go_ret;exact ⟨qa8 (HE.out.trans HT.out).symm,hx⟩
 by_cases a0:b.site < 0
 ·have e1:decide (b.site < 0)=true:=decide_eq_true (by omega)
  have HE:=hid (show qan b=1 from if_neg (by omega));clear aO a0;go_enter Tryz.func109, Tryz.ntmps109;go_wp2_with fail;go_ret;exact ⟨qa8 HE.out.symm,hx⟩
 skip
 by_cases a1:5≤b.site
 ·have e1:decide (b.site < 0)=false:=decide_eq_false (by omega)
  have e2:decide (5≤b.site)=true:=decide_eq_true (by omega);have HE:=hid (show qan b=1 from if_neg (by omega));clear aO a0 a1;go_enter Tryz.func109, Tryz.ntmps109;go_wp2_with fail;go_ret;exact ⟨qa8 HE.out.symm,hx⟩
 skip;have e1:decide (b.site < 0)=false:=decide_eq_false (by omega);have e2:decide (5≤b.site)=false:=decide_eq_false (by omega);have e3:decide (b.stamp < 0)=true:=decide_eq_true (by omega);have HE:=hid (show qan b=1 from if_neg (by omega));clear aO a0 a1;go_enter Tryz.func109, Tryz.ntmps109;go_wp2_with fail;go_ret;exact ⟨qa8 HE.out.symm,hx⟩
end Go.Proofs.YtngbfdogiciahaaGreat
