/- The walk of the document's Site.Make. -/
import Derived.Test.YtngbfdogiciahaaGreatDocN
set_option maxRecDepth 100000
set_option maxHeartbeats 40000000
namespace Go.Proofs.YtngbfdogiciahaaGreat
open Go Go.RowKit
theorem qg0 {w:World} {v:Value} {b:Nat} {x y:Value} {tmps:Array Value} (h8:tmps.getD 8 undef=.pointer (some ⟨b,0,none⟩)) (h9:tmps.getD 9 undef=v) (c1:w.cell? ⟨b,0,none⟩=some x) (c2:w.cell? ⟨b,1,none⟩=some y) :
  (results Tryz.f36 tmps).run Tryz.prog w=.ok (.tuple #[.agg #[x,y],v]) w:=by
 have h8':tmps[8]?.getD undef=.pointer (some ⟨b,0,none⟩):=by simpa using h8
 have h9':tmps[9]?.getD undef=v:=by simpa using h9
 simp [results,Tryz.results36,go_sem,h8',h9',c1,c2]
section
variable {B:Nat} {w w':World} {r b8:Nat} {AL:Option Addr} {cL:Nat} {AP:Option Addr} {cP:Nat} {s:SiteS} {F:Nat→Bool} {J:List RP}
theorem DocAt.frz (h:DocAt B w r AL cL AP cP s F J) (o:Nat):w.frozen? ⟨r,o,none⟩=false:=let ⟨_,hb,_⟩:=h.blk;hb.frozen o
theorem DocAt.setMade (h:DocAt B w r AL cL AP cP s F J) (n:Int):DocAt B (w.setCell ⟨r,1,none⟩ (.int .i64 n)) r AL cL AP cP { s with made:=n } F J:=by
 obtain ⟨cs,hb,hs⟩:=h.blk;have hc:=h.chgS 1 (.int .i64 n);refine ⟨h.hB,⟨_,hb.set 1 _,by simpa using hs⟩,?_,?_,?_,fun j v hv=>?_,?_,?_,h.sL.chg (RVer.mono (by decide) (by decide)) (by decide) hc,h.sP.chg RRef.mono (by decide) hc⟩
 ·rw [qao hb (by decide)];exact h.c0
 ·exact (hb.set 1 _).cell (by rw [Array.getElem?_setIfInBounds_self_of_lt (by omega)])
 ·rw [qao hb (by decide)];exact h.c2
 ·rw [qao hb (by omega)];exact h.cF j v hv
 ·rw [qao hb (by decide)];exact h.cL
 rw [qao hb (by decide)];exact h.cP
theorem DocAt.z8 (h:DocAt B w r AL cL AP cP s F J) (aO:SiteOk s) (z:Z8 B w w' b8) (aV:r≠b8):DocAt B w' r AL cL AP cP s F J:=by
 obtain ⟨cs,hb,hs⟩:=h.blk;have hr:=z.other r aV;have hc:∀ {o:Nat} {u:Value},w.cell? ⟨r,o,none⟩=some u→w'.cell? ⟨r,o,none⟩=some u:=fun g=>(World.cell?_of_block (w:=w) hr).trans g;exact ⟨h.hB,⟨cs,hr.trans hb,hs⟩,hc h.c0,hc h.c1,hc h.c2,fun j v hv=>hc (h.cF j v hv),hc h.cL,hc h.cP,jbs h.sL z aO.shelf.all,qt9 h.sP z (by decide) (fun _ _ _ g=>g)⟩
end
theorem jam {l:List Version} (h:ShelfOk l) (id:ByteArray):qbm (qb2 (qc3 (getL l id)))=qbs l id∧qcs (qb2 (qc3 (getL l id)))=qbj l id:=by
 have hg:∀ v∈getL l id,VerOk v:=fun v hv=>h.all v (List.mem_filter.1 hv).1;unfold qbs qbj;rw [if_pos (qc5 h),if_pos (qc5 h),jan hg];exact ⟨rfl,rfl⟩
theorem qyn (body:Int):qdu body=betw body 0 1000000:=by
 unfold qdu betw;simp
theorem jce (B:Nat) (r:Nat) (s:SiteS) (F:Nat→Bool) (J:List RP) (id:ByteArray) (p:Point) (body:Int) (w:World) (hB:B≤w.heap.size) (aO:SiteOk s) (hz:id.size≤maxLen) (h:IsDoc B w r s F J) :
  Calls Tryz.prog 36 #[.pointer (some ⟨r,0,none⟩),.string id,.agg #[.int .i64 p.tags,.int .i64 p.num],.int .i64 body] w fun e w'=>e=.returned (.tuple #[.agg #[.int .i64 (qhe s id p body).site,.int .i64 (qhe s id p body).count],.int .i64 (qdb s id p body)])∧IsDoc B w' r (qke s id p body) F J∧Fr r w w':=by
 obtain ⟨Ax,cx,Ap,cp,aF⟩:=h;have hrl0:=aF.lt;have HB:=hid hB;have aZ:=hid aO;have hx:=((Ext.refl w).alloc (.cells #[.int .i64 p.tags,.int .i64 p.num] 40)).alloc (.cells #[.int .i64 0,.int .i64 0] 35);have bH:=(Blk.new w 40 #[.int .i64 p.tags,.int .i64 p.num]).alloc (.cells #[.int .i64 0,.int .i64 0] 35);have aJ:=Blk.new (w.alloc (.cells #[.int .i64 p.tags,.int .i64 p.num] 40)) 35 #[.int .i64 0,.int .i64 0];rw [show (w.alloc (.cells #[.int .i64 p.tags,.int .i64 p.num] 40)).heap.size=w.heap.size+1 by simp] at aJ;replace aF:=aF.ext hx;have m0:=aO.made0;have m1:=aO.made1;have hmw:IntKind.i64.wrap (s.made+1)=s.made+1:=by rw [IntKind.wrap_i64];omega
 have HMD:=hid (show qdb s id p body=if idOk id=true then (if (qaz p&&qdu body)=true then (if s.made=1000 then 2 else if qbs s.shelf id=0 then qb7 s.shelf (qgh s id p body) else qbs s.shelf id) else 1) else 3 from rfl);have eD:=hid (qyn body);clear hB aO;go_enter Tryz.func36, Tryz.ntmps36;go_wp2_with fail;refine (qw6 id hz _).mono ?_;rintro e w1 ⟨rfl,aE⟩;replace bH:=bH.ext aE;replace aJ:=aJ.ext aE;replace aF:=aF.ext aE;replace hx:=hx.trans aE;clear aE;obtain ⟨b6,hb6d⟩:=ex1 w.heap.size;obtain ⟨b8,fP⟩:=ex1 (w.heap.size+1);have cU:=hid (show b8≠r by omega);have HW8:=hid (show w.heap.size≤b8 by omega);have dE:=hid (show B≤b8 by have:=HB.out;omega);rw [← fP,← hb6d];rw [← hb6d] at bH;rw [← fP] at aJ;clear hb6d fP
 cases hi1:idOk id
 ·have ak:=hid (qen (e:=3) (by rw [HMD.out,hi1];rfl) (by decide))
  clear hi1;have y0:=aJ.ce 0 (.int .i64 0) rfl;have y1:=aJ.ce 1 (.int .i64 0) rfl;have z0:=aJ.frozen 0;have z1:=aJ.frozen 1;go_wp2_with fail;refine bodyPost_ret (v:=.tuple #[.agg #[.int .i64 0,.int .i64 0],.int .i64 3]) (qg0 (b:=b8) rfl rfl ?_ ?_) rfl ⟨by rw [ak.out.1,ak.out.2.1] <;> rfl,?_,?_⟩
  ·go_simp
  ·go_simp
  ·rw [ak.out.2.2];exact (aF.z8 aZ.out (qf4 aJ dE.out _ _) cU.out.symm).is
  exact qft (Fr.of_ext hx) HW8.out _ _
 have HID:=hid hi1;clear hi1;have p0:=bH.ce 0 (.int .i64 p.tags) rfl;have p1:=bH.ce 1 (.int .i64 p.num) rfl;have hb6l:=bH.lt;go_wp2_with fail;refine (qsy p _).mono ?_;rintro e w2 ⟨rfl,aH⟩;replace bH:=bH.ext aH;replace aJ:=aJ.ext aH;replace aF:=aF.ext aH;replace hx:=hx.trans aH;clear aH p0 p1 hb6l
 cases hp1:qaz p
 ·have ak:=hid (qen (e:=1) (by rw [HMD.out,if_pos HID.out,hp1];rfl) (by decide))
  clear hp1;have y0:=aJ.ce 0 (.int .i64 0) rfl;have y1:=aJ.ce 1 (.int .i64 0) rfl;have z0:=aJ.frozen 0;have z1:=aJ.frozen 1;go_wp2_with fail;refine bodyPost_ret (v:=.tuple #[.agg #[.int .i64 0,.int .i64 0],.int .i64 1]) (qg0 (b:=b8) rfl rfl ?_ ?_) rfl ⟨by rw [ak.out.1,ak.out.2.1] <;> rfl,?_,?_⟩
  ·go_simp
  ·go_simp
  ·rw [ak.out.2.2];exact (aF.z8 aZ.out (qf4 aJ dE.out _ _) cU.out.symm).is
  exact qft (Fr.of_ext hx) HW8.out _ _
 have HP:=hid hp1;clear hp1;go_wp2_with fail;refine (qb5 body 0 1000000 _).mono ?_;rintro e w2c ⟨rfl,hw2c⟩;subst hw2c
 cases ae:betw body 0 1000000
 ·have ak:=hid (qen (e:=1) (by rw [HMD.out,if_pos HID.out,HP.out,eD.out,ae];rfl) (by decide))
  clear ae;have y0:=aJ.ce 0 (.int .i64 0) rfl;have y1:=aJ.ce 1 (.int .i64 0) rfl;have z0:=aJ.frozen 0;have z1:=aJ.frozen 1;go_wp2_with fail;refine bodyPost_ret (v:=.tuple #[.agg #[.int .i64 0,.int .i64 0],.int .i64 1]) (qg0 (b:=b8) rfl rfl ?_ ?_) rfl ⟨by rw [ak.out.1,ak.out.2.1] <;> rfl,?_,?_⟩
  ·go_simp
  ·go_simp
  ·rw [ak.out.2.2];exact (aF.z8 aZ.out (qf4 aJ dE.out _ _) cU.out.symm).is
  exact qft (Fr.of_ext hx) HW8.out _ _
 have HBK:=hid (show (qaz p&&qdu body)=true by rw [HP.out,eD.out,ae];rfl);clear ae;have q1:=aF.c1;have cR:=aF.lt
 by_cases hmd:s.made=1000
 ·have hmd':decide (999 < s.made)=true:=decide_eq_true (by omega)
  have ak:=hid (qen (e:=2) (by rw [HMD.out,if_pos HID.out,if_pos HBK.out,if_pos hmd]) (by decide));clear hmd;have y0:=aJ.ce 0 (.int .i64 0) rfl;have y1:=aJ.ce 1 (.int .i64 0) rfl;have z0:=aJ.frozen 0;have z1:=aJ.frozen 1;go_wp2_with fail;refine bodyPost_ret (v:=.tuple #[.agg #[.int .i64 0,.int .i64 0],.int .i64 2]) (qg0 (b:=b8) rfl rfl ?_ ?_) rfl ⟨by rw [ak.out.1,ak.out.2.1] <;> rfl,?_,?_⟩
  ·go_simp
  ·go_simp
  ·rw [ak.out.2.2];exact (aF.z8 aZ.out (qf4 aJ dE.out _ _) cU.out.symm).is
  exact qft (Fr.of_ext hx) HW8.out _ _
 have hmd':decide (999 < s.made)=false:=decide_eq_false (by omega);have HMM:=hid (show qdb s id p body=if qbs s.shelf id=0 then qb7 s.shelf (qgh s id p body) else qbs s.shelf id by rw [HMD.out,if_pos HID.out,if_pos HBK.out,if_neg hmd]);clear hmd;have q4:=aF.cL;go_wp2_with fail;refine (jdf B Ax cx s.shelf id _ (Nat.le_trans HB.out hx.size) aZ.out.shelf.len aZ.out.shelf.all aF.sL).mono ?_;rw [(jam aZ.out.shelf id).1,(jam aZ.out.shelf id).2];rintro e w2b ⟨x2,rfl,hk,aH⟩;obtain ⟨A2,c2,A3,c3,rfl,k1,k2,k3,k4,hk⟩:=hk;have HCK:=hid (show ((qgh s id p body).past.vec.length≤c2∧c2≤maxLen)∧((qgh s id p body).past.more.length≤c3∧c3≤maxLen)∧(qgh s id p body).id.size≤maxLen from ⟨⟨k1,k2⟩,⟨k3,k4⟩,hz⟩);replace hk:=hk.old (B:=B);replace bH:=bH.ext aH;replace aJ:=aJ.ext aH;replace aF:=aF.ext aH;replace hx:=hx.trans aH;clear aH q1 q4 cR k1 k2 k3 k4
 by_cases hpe:qbs s.shelf id=0
 ·rw [hpe]
  have HME:=hid (show qdb s id p body=qb7 s.shelf (qgh s id p body) by rw [HMM.out,if_pos hpe]);clear hpe;have ar:=(Ext.refl w2b).alloc (.cells #[.slice A2 (qbj s.shelf id).vec.length c2,.slice A3 (qbj s.shelf id).more.length c3] 101);have b9:=Blk.new w2b 101 #[.slice A2 (qbj s.shelf id).vec.length c2,.slice A3 (qbj s.shelf id).more.length c3];obtain ⟨w3,dY⟩:=ex1 (w2b.alloc (.cells #[.slice A2 (qbj s.shelf id).vec.length c2,.slice A3 (qbj s.shelf id).more.length c3] 101));obtain ⟨b10,eh⟩:=ex1 w2b.heap.size;have HW3:=hid dY;have HB10D:=hid eh;rw [← dY] at ar b9;rw [← eh] at b9;replace bH:=bH.ext ar;replace aJ:=aJ.ext ar;replace aF:=aF.ext ar;replace hk:=hk.ext ar;replace hx:=hx.trans ar;clear ar dY eh;have aN:(#[.slice A2 (qbj s.shelf id).vec.length c2,.slice A3 (qbj s.shelf id).more.length c3]:Array Value).size=2:=rfl;go_wp2_with fail;rw [← HW3.out,← HB10D.out];obtain ⟨w10,hw10⟩:=ex1 w3
  rw [← hw10] at aF bH aJ b9 hk hx ⊢;clear hw10;have aB:=hid (fun w' (x:Ext w10 w')=>show w'.cell? ⟨r,0,none⟩=some (.int .i64 s.me)∧w'.cell? ⟨r,1,none⟩=some (.int .i64 s.made) from ⟨(aF.ext x).c0,(aF.ext x).c1⟩);have HRL:=hid (Nat.lt_of_lt_of_le hrl0 hx.size);have HS:=hid aF;have fJ:=hid bH;have HB8:=hid aJ;have fb:=hid b9;have HK:=hid hk;have HX:=hid hx;clear aF bH aJ b9 hk hx;go_wp2_with fail;have aA:=(Ext.refl w10).drew;refine wp_region_held_drew (S:=fun w'=>w'.cell? ⟨r,0,none⟩=some (.int .i64 s.me)∧w'.cell? ⟨r,1,none⟩=some (.int .i64 s.made)) (by kernel_rfl) (aB.out _ aA) (fun hHeld=>?_);obtain ⟨wc,aS⟩:=ex1 w10.drew;rw [← aS] at hHeld aA ⊢;clear aS;refine tkA 0 _ rfl ?_;(try simp only [gq,pq]);refine tkA 1 _ rfl ?_;(try simp only [gq,pq]);refine tkA 2 _ rfl ?_;(try simp only [gq,pq]);refine tkA 3 _ rfl ?_;(try simp only [gq,pq]);refine tkA 4 _ rfl ?_;(try simp only [gq,pq]);refine tkA 5 _ rfl ?_
  (try simp only [gq,pq]);refine tkA 6 _ rfl ?_;(try simp only [gq,pq]);refine tkA 7 _ rfl ?_;(try simp only [gq,pq]);refine tkA 8 _ rfl ?_;(try simp only [gq,pq]);refine tkA 9 _ rfl ?_;(try simp only [gq,pq]);refine rd1 10 rfl fun K hK=>?_;simp only [gq];go_simp;have bc:=Blk.new wc 35 #[.int .i64 0,.int .i64 0];have aC:=(Ext.refl wc).alloc (.cells #[.int .i64 0,.int .i64 0] 35);have hge:=aA.size;replace aA:=aA.trans aC;obtain ⟨wn,aP⟩:=ex1 (wc.alloc (.cells #[.int .i64 0,.int .i64 0] 35));obtain ⟨b12,ej⟩:=ex1 wc.heap.size;rw [← aP] at aA bc;rw [← aP,← ej];rw [← ej] at bc hge;clear aC aP ej;obtain ⟨wc,rfl⟩:=ex1 wn;refine hK.out _ _ (aB.out _ aA) (fun hHeld=>?_);clear hK K;(try simp only [pq]);refine rd1 11 rfl fun K hK=>?_;simp only [gq];have y0:=bc.ce 0 (.int .i64 0) rfl;have y1:=bc.ce 1 (.int .i64 0) rfl;have z0:=bc.frozen 0;have z1:=bc.frozen 1;go_simp;have br:=(aA.setCell (p:=⟨b12,0,none⟩) hge (.int .i64 s.me)).setCell (p:=⟨b12,1,none⟩) hge (.int .i64 (s.made+1))
  have ao:Blk ((wc.setCell ⟨b12,0,none⟩ (.int .i64 s.me)).setCell ⟨b12,1,none⟩ (.int .i64 (s.made+1))) b12 35 #[.int .i64 s.me,.int .i64 (s.made+1)]:=by simpa using (bc.set 0 (.int .i64 s.me)).set 1 (.int .i64 (s.made+1))
  clear y0 y1 z0 z1;obtain ⟨wn,aP⟩:=ex1 ((wc.setCell ⟨b12,0,none⟩ (.int .i64 s.me)).setCell ⟨b12,1,none⟩ (.int .i64 (s.made+1)));rw [← aP] at br ao ⊢;clear aP aA bc;refine hK.out _ _ (aB.out _ br) (fun hHeld=>?_);clear hK K;(try simp only [pq]);refine wpAnyH_done (by kernel_rfl) ?_ _;clear hHeld aB;have aF:=HS.out.ext br;have bH:=fJ.out.ext br;have aJ:=HB8.out.ext br;have b9:=fb.out.ext br;have hk:=HK.out.ext br;have hx:=HX.out.trans br;have hg12:=hge;clear HS fJ HB8 fb HK HX br hge;obtain ⟨w11,hw11⟩:=ex1 wn;rw [← hw11] at aF bH aJ b9 ao hk hx ⊢;clear hw11;have HN12:=hid (show b12≠r by have:=HRL.out;omega);have HB11:=hid (Nat.le_trans HB.out hx.size);have aB:=hid (fun w' (x:Ext w11 w')=>show w'.cell? ⟨r,515,none⟩=some (.slice Ax s.shelf.length cx)∧w'.cell? ⟨b12,0,none⟩=some (.int .i64 s.me)∧w'.cell? ⟨b12,1,none⟩=some (.int .i64 (s.made+1))∧w'.cell? ⟨b6,0,none⟩=some (.int .i64 p.tags)∧w'.cell? ⟨b6,1,none⟩=some (.int .i64 p.num)∧w'.cell? ⟨b10,0,none⟩=some (.slice A2 (qbj s.shelf id).vec.length c2)∧w'.cell? ⟨b10,1,none⟩=some (.slice A3 (qbj s.shelf id).more.length c3) from ⟨(aF.ext x).cL,(ao.ext x).cell rfl,(ao.ext x).cell rfl,(bH.ext x).cell rfl,(bH.ext x).cell rfl,(b9.ext x).cell rfl,(b9.ext x).cell rfl⟩)
  have HS:=hid aF;have fJ:=hid bH;have HB8:=hid aJ;have fb:=hid b9;have HB12:=hid ao;have HK:=hid hk;have HX:=hid hx;clear aF bH aJ b9 ao hk hx hg12;go_wp2_with fail;have aA:=(Ext.refl w11).drew;refine wp_region_held_drew (S:=fun w'=>w'.cell? ⟨r,515,none⟩=some (.slice Ax s.shelf.length cx)∧w'.cell? ⟨b12,0,none⟩=some (.int .i64 s.me)∧w'.cell? ⟨b12,1,none⟩=some (.int .i64 (s.made+1))∧w'.cell? ⟨b6,0,none⟩=some (.int .i64 p.tags)∧w'.cell? ⟨b6,1,none⟩=some (.int .i64 p.num)∧w'.cell? ⟨b10,0,none⟩=some (.slice A2 (qbj s.shelf id).vec.length c2)∧w'.cell? ⟨b10,1,none⟩=some (.slice A3 (qbj s.shelf id).more.length c3)) (by kernel_rfl) (aB.out _ aA) (fun hHeld=>?_);obtain ⟨wc,aS⟩:=ex1 w11.drew;rw [← aS] at hHeld aA ⊢;clear aS;refine tkA 0 _ rfl ?_;(try simp only [gq,pq]);refine tkA 1 _ rfl ?_;(try simp only [gq,pq]);refine tkA 2 _ rfl ?_;(try simp only [gq,pq]);refine tkA 3 _ rfl ?_;try simp only [gq,pq]
  refine tkA 4 _ rfl ?_;(try simp only [gq,pq]);refine tkA 5 _ rfl ?_;(try simp only [gq,pq]);refine tkA 6 _ rfl ?_;(try simp only [gq,pq]);refine tkA 7 _ rfl ?_;(try simp only [gq,pq]);refine tkA 8 _ rfl ?_;(try simp only [gq,pq]);refine tkA 9 _ rfl ?_;(try simp only [gq,pq]);refine rd1 10 rfl fun K hK=>?_;simp only [gq];go_simp;refine (jav B Ax cx s.shelf (qgh s id p body) A2 c2 A3 c3 wc (Nat.le_trans HB11.out aA.size) (qc5 aZ.out.shelf) ((HS.out.ext aA).sL) ⟨HCK.out.1,HCK.out.2.1,HCK.out.2.2,HK.out.ext aA⟩).mono ?_;rintro e wn ⟨A10,c10,rfl,hv10,aC⟩;dsimp only;replace aA:=aA.trans aC;clear aC;obtain ⟨wc,rfl⟩:=ex1 wn;refine hK.out _ _ (aB.out _ aA) (fun hHeld=>?_);clear hK K;(try simp only [pq]);refine tkA 11 _ rfl ?_;(try simp only [gq,pq]);refine tkA 12 _ rfl ?_;(try simp only [gq,pq]);refine tkA 13 _ rfl ?_;(try simp only [gq,pq]);refine tkA 14 _ rfl ?_;(try simp only [gq,pq]);refine tkA 15 _ rfl ?_
  (try simp only [gq,pq]);refine wpAnyH_done (by kernel_rfl) ?_ _;clear hHeld aB;have aF:=HS.out.ext aA;have aJ:=HB8.out.ext aA;have bc:=HB12.out.ext aA;have hx:=HX.out.trans aA;clear HS fJ HB8 fb HB12 HK HX aA;obtain ⟨E,hE⟩:=ex1 (qb7 s.shelf (qgh s id p body));obtain ⟨L,hL⟩:=ex1 (qbk s.shelf (qgh s id p body));rw [← hL] at hv10;rw [← hE,← hL];have y0:=aJ.ce 0 (.int .i64 0) rfl;have y1:=aJ.ce 1 (.int .i64 0) rfl;have z0:=aJ.frozen 0;have z1:=aJ.frozen 1;have HR:=hid hL;have bT:=hid hE;clear hL hE
  by_cases h0:E=0
  ·subst h0
   have fh:=hid (HME.out.trans bT.out.symm);have u0:=bc.ce 0 (.int .i64 s.me) rfl;have u1:=bc.ce 1 (.int .i64 (s.made+1)) rfl;have q1:=aF.c1;have q4:=aF.cL;have f1:=aF.frz 1;have f4:=aF.frz 515;have cG:=(aF.setL (c:=c10) hv10).setMade (s.made+1);have hf8:=((Fr.of_ext (r:=r) hx).setR 515 (.slice A10 L.length c10)).setR 1 (.int .i64 (s.made+1));have hb88:=(aJ.far (p:=⟨r,515,none⟩) cU.out (.slice A10 L.length c10)).far (p:=⟨r,1,none⟩) cU.out (.int .i64 (s.made+1));have hn8:=cU.out;have hn12:=HN12.out;have hrl9:=aF.lt;go_wp2_with fail;have cV:=hid (qvz fh.out);refine bodyPost_ret (v:=.tuple #[.agg #[.int .i64 s.me,.int .i64 (s.made+1)],.int .i64 0]) (qg0 (b:=b8) rfl rfl ?_ ?_) rfl ⟨by rw [cV.out.1,fh.out] <;> rfl,?_,?_⟩
   ·go_simp
   ·go_simp
   ·rw [cV.out.2,← HR.out]
    have hok9:SiteOk { s with shelf:=L,made:=s.made+1 }:=by have:=qqu aZ.out id p body;rw [cV.out.2,← HR.out] at this;exact this
    exact (cG.z8 hok9 (qf4 hb88 dE.out _ _) cU.out.symm).is
   exact qft hf8 HW8.out _ _
  have aV:(E !=0)=true:=by simpa using h0
  have fh:=hid (qen (HME.out.trans bT.out.symm) h0);clear h0;go_wp2_with fail;refine bodyPost_ret (v:=.tuple #[.agg #[.int .i64 0,.int .i64 0],.int .i64 E]) (qg0 (b:=b8) rfl rfl ?_ ?_) rfl ⟨by rw [fh.out.1,fh.out.2.1] <;> rfl,?_,?_⟩
  ·go_simp
  ·go_simp
  ·rw [fh.out.2.2];exact (aF.z8 aZ.out (qf4 aJ dE.out _ _) cU.out.symm).is
  exact qft (Fr.of_ext hx) HW8.out _ _
 have aV:(qbs s.shelf id !=0)=true:=by simpa using hpe
 have ak:=hid (qen (by rw [HMM.out,if_neg hpe]) hpe);have ar:=(Ext.refl w2b).alloc (.cells #[.slice A2 (qbj s.shelf id).vec.length c2,.slice A3 (qbj s.shelf id).more.length c3] 101);replace aJ:=aJ.ext ar;replace aF:=aF.ext ar;replace hx:=hx.trans ar;clear hpe ar;have y0:=aJ.ce 0 (.int .i64 0) rfl;have y1:=aJ.ce 1 (.int .i64 0) rfl;have z0:=aJ.frozen 0;have z1:=aJ.frozen 1;go_wp2_with fail;refine bodyPost_ret (v:=.tuple #[.agg #[.int .i64 0,.int .i64 0],.int .i64 (qbs s.shelf id)]) (qg0 (b:=b8) rfl rfl ?_ ?_) rfl ⟨by rw [ak.out.1,ak.out.2.1] <;> rfl,?_,?_⟩
 ·go_simp
 ·go_simp
 ·rw [ak.out.2.2];exact (aF.z8 aZ.out (qf4 aJ dE.out _ _) cU.out.symm).is
 exact qft (Fr.of_ext hx) HW8.out _ _
end Go.Proofs.YtngbfdogiciahaaGreat
