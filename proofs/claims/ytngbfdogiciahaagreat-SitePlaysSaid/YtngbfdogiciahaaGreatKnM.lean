/- The walks of slices.Clone at dots and at ints, of know.Made. -/
import Derived.Test.YtngbfdogiciahaaGreatJoinPartD
set_option maxRecDepth 100000
set_option maxHeartbeats 40000000
namespace Go.Proofs.YtngbfdogiciahaaGreat
open Go Go.RowKit
theorem qi2:ElemInfo Tryz.prog 99 35 2 16:=ElemInfo.mk_ (z:=.agg #[.int .i64 0,.int .i64 0]) Tryz.underlying99 (by kernel_rfl) rfl (by decide)
theorem qrw:ElemInfo Tryz.prog 32 3 1 8:=ElemInfo.mk_ (z:=.int .i64 0) Tryz.underlying32 (by kernel_rfl) rfl (by decide)
theorem jgn:(Tryz.prog.info? 3).bind (·.zero)=some (.int .i64 0):=by kernel_rfl
theorem qpj (B:Nat) (A:Option Addr) (c:Nat) (l:List Dot) (w:World) (hl:l.length≤1000000) (h:Sl B 35 RDot 2 w A l) :
  Calls Tryz.prog 179 #[.slice A l.length c] w fun e w'=>∃ v,e=.returned v∧Own RDot 2 35 w' w.heap.size v l∧Ext w w':=by
 cases A with
 | none=>
  obtain rfl:l=[]:=Sl.none_nil h;have he:∀ w:World,(binOp .eql 99 (.slice none 0 c) (.slice none 0 0)).run Tryz.prog w=.ok (.bool true) w:=fun _=>rfl;go_enter Tryz.func179, Tryz.ntmps179;go_wp2_with fail;go_ret;exact ⟨_,rfl,Own.nil,Ext.refl _⟩
 | some a=>
  have he:∀ w:World,(binOp .eql 99 (.slice (some a) l.length c) (.slice none 0 0)).run Tryz.prog w=.ok (.bool false) w:=fun _=>rfl;have aY:=(Ext.refl w).alloc (.cells #[] 35);go_enter Tryz.func179, Tryz.ntmps179;go_wp2_with (at_builtin;refine qaf (ys:=l) (B:=w.heap.size) rfl _ _ rfl qi2 rfl (Own.empty (Nat.le_refl _)) (Nat.le_refl _) aY.size rfl (h.ext RPair.mono aY) RPair.oneC RPair.mono ?_ ?_ ?_)
  ·simp [maxLen];omega
  ·simp;omega
  intro v w2 ho hc hb _;have hx:=aY.below hb (Nat.le_refl _);clear hc hb;go_wp2_with fail;go_ret;exact ⟨_,rfl,ho,hx⟩
theorem ql4 (B:Nat) (A:Option Addr) (c:Nat) (l:List Int) (w:World) (hl:l.length≤1000000) (h:Sl B 3 RInt 1 w A l) :
  Calls Tryz.prog 178 #[.slice A l.length c] w fun e w'=>∃ v,e=.returned v∧Own RInt 1 3 w' w.heap.size v l∧Ext w w':=by
 cases A with
 | none=>
  obtain rfl:l=[]:=Sl.none_nil h;have he:∀ w:World,(binOp .eql 32 (.slice none 0 c) (.slice none 0 0)).run Tryz.prog w=.ok (.bool true) w:=fun _=>rfl;go_enter Tryz.func178, Tryz.ntmps178;go_wp2_with fail;go_ret;exact ⟨_,rfl,Own.nil,Ext.refl _⟩
 | some a=>
  have he:∀ w:World,(binOp .eql 32 (.slice (some a) l.length c) (.slice none 0 0)).run Tryz.prog w=.ok (.bool false) w:=fun _=>rfl;have aY:=(Ext.refl w).alloc (.cells #[] 3);go_enter Tryz.func178, Tryz.ntmps178;go_wp2_with (at_builtin;refine qaf (ys:=l) (B:=w.heap.size) rfl _ _ rfl qrw rfl (Own.empty (Nat.le_refl _)) (Nat.le_refl _) aY.size rfl (h.ext RInt.mono aY) RInt.oneC RInt.mono ?_ ?_ ?_)
  ·simp [maxLen];omega
  ·simp;omega
  intro v w2 ho hc hb _;have hx:=aY.below hb (Nat.le_refl _);clear hc hb;go_wp2_with fail;go_ret;exact ⟨_,rfl,ho,hx⟩
def RVec (B:Nat) (w:World) (cs:List Value) (l:List Int):Prop:=∃ v,cs=[v]∧qhu B w v l
theorem RVec.monoE {B:Nat}:Mono B [] (RVec B):=by
 rintro w w' cs l x ⟨v,rfl,h⟩;exact ⟨v,rfl,h.chg RInt.mono (by simp) x⟩
abbrev qjq (B:Nat):=Sl B 32 (RVec B) 1
theorem Sl.vec {B:Nat} {w:World} {A:Option Addr} {l:List (List Int)} (h:qjq B w A l) {i:Nat} (hi:i < l.length) :
  ∃ b off A' c,A=some ⟨b,off,none⟩∧b < w.heap.size∧w.cell? ⟨b,off+i,none⟩=some (.slice A' l[i].length c)∧qg4 B w A' l[i]:=by
 obtain ⟨b,off,cs,hA,hb,_,hc,v,rfl,A',c,rfl,_,_,hs⟩:=h.at_ hi;have:=hc 0 _ rfl;simp only [Nat.mul_one,Nat.add_zero] at this;exact ⟨b,off,A',c,hA,hb,this,hs⟩
theorem qjv {w:World} {g:Nat} {u:List Int} (h:Blk w g 3 (rowI u)) {i:Nat} (hi:i < u.length):w.cell? ⟨g,i,none⟩=some (.int .i64 u[i]):=h.cell (qr7 hi)
theorem qra {w:World} {g:Nat} {u:List Int} (h:Blk w g 3 (rowI u)) (i:Nat) (x:Int):Blk (w.setCell ⟨g,i,none⟩ (.int .i64 x)) g 3 (rowI (u.set i x)):=by
 rw [← qwd];exact h.set i _
theorem jaz:rowF 5 (fun _=>Value.int .i64 0)=rowI [0,0,0,0,0]:=by simp [rowF,rowI,Array.ofFn_succ]
theorem jb9 {w:World} {g n:Nat} {u:List Int} (B:Nat) (h:Blk w g 3 (rowI u)) (hn:n≤u.length):qg4 B w (some ⟨g,0,none⟩) (u.take n):=by
 intro i x hx;have hi:i < n:=by have:=(List.getElem?_eq_some_iff.1 hx).1;rw [List.length_take] at this;omega
 rw [List.getElem?_take,if_pos hi,List.getElem?_eq_getElem (by omega)] at hx;refine ⟨g,0,[.int .i64 x],rfl,h.lt,.inr h.ty,rfl,?_,rfl⟩;intro j v hj
 match j,hj with
 | 0,hj=>
  simp at hj hx;have:=qjv h (i:=i) (by omega);rw [hx] at this;simp only [Nat.zero_add,Nat.mul_one,Nat.add_zero];rw [this,hj]
theorem qw9 {w:World} {b:Nat} {x y:Value} {tmps:Array Value} (h4:tmps.getD 4 undef=.pointer (some ⟨b,0,none⟩)) (c1:w.cell? ⟨b,0,none⟩=some x) (c2:w.cell? ⟨b,1,none⟩=some y) :
  (results Tryz.f148 tmps).run Tryz.prog w=.ok (.agg #[x,y]) w:=by
 have h4':tmps[4]?.getD undef=.pointer (some ⟨b,0,none⟩):=by simpa using h4
 simp [results,Tryz.results148,go_sem,h4',c1,c2]
theorem qk9 (B:Nat) (A:Option Addr) (c:Nat) (vs:List (List Int)) (Ad:Option Addr) (cd:Nat) (ds:List Dot) (w:World) (_hB:B≤w.heap.size)
  (hv:qjq B w A vs) (fU:vs.length≤1000) (dh:∀ l∈vs,l.length≤5) (fD:∀ l∈vs,∀ n∈l,0≤n∧n≤1000) (hd:qgm B w Ad ds) (hdl:ds.length≤10000) (hdo:∀ d∈ds,qb8 d=true) :
  Calls Tryz.prog 148 #[.slice A vs.length c,.slice Ad ds.length cd] w fun e w'=>∃ v,e=.returned v∧IsK 0 w' v (qb2 (qjl vs ds))∧Ext w w':=by
 have HV5:=hid dh;have HVB:=hid fD;have HDO:=hid hdo;clear dh fD hdo;have aY:=(Ext.refl w).alloc (.cells #[.slice none 0 0,.slice none 0 0] 101);go_enter Tryz.func148, Tryz.ntmps148;go_wp2_with ((with_reducible refine qdt (some 13) (.makeSlice _ _ _) ?_);refine qj8 qrw jgn rfl _ _ rfl rfl 5 rfl rfl (by omega) (by unfold maxLen;omega) ?_;intro g w3 hbi aM aL bv);have hgw:w.heap.size < g:=by rw [← hbi];simp
 have q0:w3.cell? ⟨w.heap.size,0,none⟩=some (.slice none 0 0):=aM.cell (by go_simp);have q1:w3.cell? ⟨w.heap.size,1,none⟩=some (.slice none 0 0):=aM.cell (by go_simp);obtain ⟨wa,cD⟩:=ex1 (w.alloc (.cells #[.slice none 0 0,.slice none 0 0] 101));rw [← cD] at aY aM;have hx:=aM;have HWS:=hid (show wa.heap.size=w.heap.size+1 by rw [cD];simp);have hwag:wa.heap.size≤g:=by rw [HWS.out];omega
 have HF0:=hid (show wa.frozen? ⟨w.heap.size,0,none⟩=false by rw [cD];go_simp);have HF1:=hid (show wa.frozen? ⟨w.heap.size,1,none⟩=false by rw [cD];go_simp);have HX0:=hid aY;replace hv:=hv.ext RVec.monoE aY;replace hd:=hd.ext RPair.mono aY;rw [jaz] at aL;clear aY aM hbi bv cD;go_wp2_with fail;go_loopw [16] (fun i wr=>∃ j:Nat,j≤vs.length∧i=.int .i64 j∧(∃ u,VOk vs j u∧Blk wr g 3 (rowI u))∧Ext wa wr∧wr.cell? ⟨w.heap.size,0,none⟩=some (.slice none 0 0)∧wr.cell? ⟨w.heap.size,1,none⟩=some (.slice none 0 0)) (fun i _=>vs.length - (intOf i).toNat)
 case atStart=>exact ⟨0,Nat.zero_le _,rfl,⟨_,VOk.start vs,aL⟩,hx,q0,q1⟩
 clear aL hx q0 q1;obtain ⟨j,hj,rfl,⟨u,hu,aG⟩,hx,q0,q1⟩:=hrel
 by_cases aD:j < vs.length
 ·obtain ⟨b,off,A',c',rfl,_,g0,bW⟩:=hv.vec aD
  have HU:=hid hu;have h5:=HV5.out _ (List.getElem_mem aD);obtain ⟨l,hl⟩:=ex1 (vs[j]);have HL:=hid hl;rw [← hl] at g0 bW h5;replace g0:=hx.cell g0;clear hu hl;go_wp2_with fail;obtain ⟨wo,rfl⟩:=ex1 wr;go_loopw [22] (fun i wr=>∃ k:Nat,k≤l.length∧i=.int .i64 k∧(∃ u,VOk2 vs j l k u∧Blk wr g 3 (rowI u))∧Ext wa wr∧wr.cell? ⟨w.heap.size,0,none⟩=some (.slice none 0 0)∧wr.cell? ⟨w.heap.size,1,none⟩=some (.slice none 0 0)) (fun i _=>l.length - (intOf i).toNat)
  case atStart=>exact ⟨0,Nat.zero_le _,rfl,⟨_,HU.out.enter l,aG⟩,hx,q0,q1⟩
  clear aG q0 q1 hx g0 HU;obtain ⟨k,hk,rfl,⟨u,hu,aG⟩,hx,q0,q1⟩:=hrel
  by_cases dC:k < l.length
  ·obtain ⟨b2,off2,rfl,_,g1⟩:=(bW.ext RInt.mono hx).int dC
   have hul:=hu.1;have hku:k < u.length:=by omega
   have cQ:=qjv aG hku;have hz:=aG.frozen k;have bF:=aG.lt;have k0:(0:Int)≤k:=by omega
   have k5:(k:Int) < 5:=by omega
   have HU:=hid hu;clear hu hul;go_wp2_with fail;go_roundw
   case rel=>exact ⟨k+1,dC,by go_num,⟨_,HU.out.step dC (by omega) hku,qra aG k _⟩,hx.setCell (by show _≤g;exact hwag) _,qag (by omega) q0,qag (by omega) q1⟩
   case measure=>simp [intOf];omega
  obtain rfl:k=l.length:=by omega
  have HU:=hid hu;clear hu dC hk;go_wp2_with fail;go_roundw
  case rel=>exact ⟨j+1,aD,by go_num,⟨u,by have h:=HU.out;rw [HL.out] at h;exact h.leave aD,aG⟩,hx,q0,q1⟩
  case measure=>simp [intOf];omega
 ·obtain rfl:j=vs.length:=by omega
  have HU:=hid hu;have HUB:=hid (jbt hu HVB.out);have bF:=aG.lt;clear hu aD hj;go_wp2_with fail;refine (qpj B Ad cd ds wr (by omega) (hd.ext RPair.mono hx)).mono ?_;rintro e w4 ⟨v,rfl,ay,aj⟩;obtain ⟨Av,cv,rfl,hvc,hvm⟩:=ay.len;replace aG:=aG.ext aj;replace q0:=aj.cell q0;replace q1:=aj.cell q1;replace hx:=hx.trans aj;go_wp2_with fail;refine (jbb (w.heap.size+1) wr.heap.size w4 _ ds ay (by omega) HDO.out hdl).mono ?_;rintro e w5 ⟨rfl,l,hp,ho,hl,bj⟩;obtain ⟨A5,c5,hA,_,_,bP⟩:=hl;have hll:=hp.length_eq;injection hA with hA1 hA2 hA3;subst hA1 hA3;rw [hA2];have HP:=hid hp;have HO:=hid ho;have HLO:=hid (fun d (h:d∈l)=>HDO.out d (hp.mem_iff.1 h));have hl5:l.length≤10000:=by omega
  have dB:=hid ((Chg.of_ext (B:=w.heap.size+1) (ts:=[35]) hx).trans bj);replace aG:=aG.chg bj (by decide);replace q0:=bj.cell (.inl (Nat.lt_succ_self _)) q0;replace q1:=bj.cell (.inl (Nat.lt_succ_self _)) q1;replace hx:=dB.out.ext (Nat.le_of_eq HWS.out);clear hwag hp ho ay bj aj hvc hvm hll hA2 bF hdl;have HM:=hid (fun j=>quk HU.out.1 HUB.out HLO.out HO.out j);have dd:=aG.lt;have hw5:w.heap.size < w5.heap.size:=by omega
  go_wp2_with fail;go_loopw [44] (fun i wr=>∃ j:Nat,j≤l.length∧i=.int .i64 j∧Blk wr g 3 (rowI (qbq u (l.take j)).1)∧(∃ m,Own RDot 2 35 wr (w5.heap.size+1) m (qbq u (l.take j)).2∧wr.cell? ⟨w5.heap.size,1,none⟩=some m)∧wr.cell? ⟨w5.heap.size,0,none⟩=some (.slice none 0 0)∧Chg (w.heap.size+1) [3] w5 wr∧wr.cell? ⟨w.heap.size,0,none⟩=some (.slice none 0 0)∧wr.cell? ⟨w.heap.size,1,none⟩=some (.slice none 0 0)∧wr.frozen? ⟨w5.heap.size,1,none⟩=false∧wr.frozen? ⟨w5.heap.size,0,none⟩=false) (fun i _=>l.length - (intOf i).toNat)
  case atStart=>exact ⟨0,Nat.zero_le _,rfl,aG.alloc _,⟨_,Own.nil,by go_simp⟩,by go_simp,(Chg.refl _).alloc _,((Ext.refl _).alloc _).cell q0,((Ext.refl _).alloc _).cell q1,by go_simp,by go_simp⟩
  clear aG q0 q1;obtain ⟨j,hj,rfl,aG,⟨m,hm,q3⟩,q2,hc,q0,q1,z3,z2⟩:=hrel
  by_cases aD:j < l.length
  ·obtain ⟨b,off,rfl,_,g0,g1⟩:=(bP.chg RPair.mono (by decide) hc).pair aD
   have HS:=hid (qkd u l j aD);have dZ:=hid (qm8 u l j hj).2;have HMj:=hid (HM.out j);generalize qbq u (l.take j)=st at *;obtain ⟨v1,m1⟩:=st;simp only at aG hm;have hdj:=qar.1 (HLO.out _ (List.getElem_mem aD));obtain ⟨s,hs⟩:=Int.eq_ofNat_of_zero_le hdj.1;have bP:s < 5:=by omega
   have dh:s < v1.length:=by have:=HMj.out.len;simp only at this;omega
   have HV5:=hid (show (v1.length:Int)=5 by have:=HMj.out.len;simp only at this;omega);have cQ:=qjv aG dh;have hz:=aG.frozen s;have hva:qab v1 s=v1[s]:=by simp [qab,dh]
   have d9:=HMj.out.le s bP;simp only [hva] at d9;have e8:=hid (show ∀ st,qbn (v1,m1) l[j]=st→qbq u (l.take (j+1))=st from fun st h=>HS.out.trans h);obtain ⟨dj,hdjj⟩:=ex1 (l[j]);rw [← hdjj] at g0 g1 hdj hs e8;obtain ⟨ds0,ct⟩:=dj;simp only at g0 g1 hdj hs;subst hs;obtain ⟨X,hX⟩:=ex1 (v1[s]);rw [← hX] at cQ d9 hva;have HVA:=hid hva;have bF:=aG.lt;have s0:(0:Int)≤s:=by omega
   have s5:(s:Int) < 5:=by omega
   obtain ⟨hd1,hd2,hd3,hd4⟩:=hdj;obtain ⟨x0,x1⟩:=d9;have eX:IntKind.i64.wrap (X+1)=X+1:=by rw [IntKind.wrap_i64];omega
   have hwr:=hc.size;have HX:=hid hX;clear hX hva hdjj HS bP hd1 hd2 hd3
   by_cases c1:ct≤X
   ·have HN:=hid (e8.out (v1,m1) (by unfold qbn;rw [if_pos (by show ct≤qab v1 s;rw [HVA.out];exact c1)]))
    go_upto_region 17 with fail;go_quiet (fail);obtain ⟨w6,cM⟩:=ex1 ((wr.alloc (.cells #[.int .i64 (s:Int),.int .i64 ct] 35)).drewN nq);rw [← cM];have aT:Ext wr w6:=by rw [cM];exact ((Ext.refl wr).alloc _).drewN _
    have d0:w6.cell? ⟨wr.heap.size,0,none⟩=some (.int .i64 (s:Int)):=by rw [cM];go_simp
    have d1:w6.cell? ⟨wr.heap.size,1,none⟩=some (.int .i64 ct):=by rw [cM];go_simp
    replace aG:=aG.ext aT;replace cQ:=aT.cell cQ;replace hz:=aG.frozen s;replace hm:=hm.ext (B:=0) RPair.mono aT;replace q0:=aT.cell q0;replace q1:=aT.cell q1;replace q2:=aT.cell q2;replace z3:=(aT.frozenAt (World.block_lt_of_cell? _ _ q3)).trans z3;replace z2:=(aT.frozenAt (World.block_lt_of_cell? _ _ q3)).trans z2;replace q3:=aT.cell q3;replace hc:=hc.ext' aT;have eT:wr.heap.size < w6.heap.size:=World.block_lt_of_cell? _ _ d0;have fZ:=aG.lt;clear cM aT hwr bF;go_wp2_with fail;go_roundw
    case rel=>exact ⟨j+1,aD,by go_num,by rw [HN.out];exact aG,⟨_,by rw [HN.out];exact hm,q3⟩,q2,hc,q0,q1,z3,z2⟩
    case measure=>simp [intOf];omega
   ·by_cases c2:ct=X+1
    ·have HN:=hid (e8.out (v1.set s (X+1),m1) (by unfold qbn;rw [if_neg (by show ¬ ct≤qab v1 s;rw [HVA.out];exact c1),if_pos (by show ct=qab v1 s+1;rw [HVA.out];exact c2)];show (v1.set (s:Int).toNat (qab v1 s+1),m1)=_;rw [HVA.out,Int.toNat_natCast]))
     have c1':decide (ct≤X)=false:=decide_eq_false c1;have c2':(ct==X+1)=true:=by simp [c2]
     clear c1 c2;go_upto_region 17 with fail;go_quiet (fail);obtain ⟨w6,cM⟩:=ex1 ((wr.alloc (.cells #[.int .i64 (s:Int),.int .i64 ct] 35)).drewN nq);rw [← cM];have aT:Ext wr w6:=by rw [cM];exact ((Ext.refl wr).alloc _).drewN _
     have d0:w6.cell? ⟨wr.heap.size,0,none⟩=some (.int .i64 (s:Int)):=by rw [cM];go_simp
     have d1:w6.cell? ⟨wr.heap.size,1,none⟩=some (.int .i64 ct):=by rw [cM];go_simp
     replace aG:=aG.ext aT;replace cQ:=aT.cell cQ;replace hz:=aG.frozen s;replace hm:=hm.ext (B:=0) RPair.mono aT;replace q0:=aT.cell q0;replace q1:=aT.cell q1;replace q2:=aT.cell q2;replace z3:=(aT.frozenAt (World.block_lt_of_cell? _ _ q3)).trans z3;replace z2:=(aT.frozenAt (World.block_lt_of_cell? _ _ q3)).trans z2;replace q3:=aT.cell q3;replace hc:=hc.ext' aT;have eT:wr.heap.size < w6.heap.size:=World.block_lt_of_cell? _ _ d0;have fZ:=aG.lt;clear cM aT hwr bF;go_upto_region 18 with fail;go_quiet (fail);obtain ⟨w7,hw7⟩:=ex1 (w6.drewN nq);rw [← hw7];have ac:Ext w6 w7:=by rw [hw7];exact (Ext.refl _).drewN _
     replace d0:=ac.cell d0;replace d1:=ac.cell d1;replace aG:=aG.ext ac;replace cQ:=ac.cell cQ;replace hz:=aG.frozen s;replace hm:=hm.ext (B:=0) RPair.mono ac;replace q0:=ac.cell q0;replace q1:=ac.cell q1;replace q2:=ac.cell q2;replace z3:=(ac.frozenAt (World.block_lt_of_cell? _ _ q3)).trans z3;replace z2:=(ac.frozenAt (World.block_lt_of_cell? _ _ q3)).trans z2;replace q3:=ac.cell q3;replace hc:=hc.ext' ac;replace eT:=Nat.lt_of_lt_of_le eT ac.size;replace fZ:=aG.lt;clear hw7 ac;go_wp2_with fail;go_roundw
     case rel=>exact ⟨j+1,aD,by go_num,by rw [HN.out];exact qra aG s _,⟨_,by rw [HN.out];exact hm.farPair (by show g < _;omega) _,qag (by omega) q3⟩,qag (by omega) q2,hc.setCell (p:=⟨g,s,none⟩) aG.ty (by simp) _ (by show _≤g;omega),qag (by omega) q0,qag (by omega) q1,(World.frozen?_setCell ..).trans z3,(World.frozen?_setCell ..).trans z2⟩
     case measure=>simp [intOf];omega
    ·have c1':decide (ct≤X)=false:=decide_eq_false c1
     have c2':(ct==X+1)=false:=by simp [c2]
     by_cases c3:m1=[]
     ·have HN:=hid (e8.out ([]++[⟨s,ct⟩] |> fun m=>(v1,m)) (by unfold qbn;rw [if_neg (by show ¬ ct≤qab v1 s;rw [HVA.out];exact c1),if_neg (by show ¬ ct=qab v1 s+1;rw [HVA.out];exact c2),if_neg (by rw [c3];simp),c3]))
      subst c3;clear c1 c2;obtain ⟨Am,cm,rfl,hmc,hmm⟩:=hm.len;simp only [List.length_nil] at q3;go_upto_region 17 with fail;go_quiet (fail);obtain ⟨w6,cM⟩:=ex1 ((wr.alloc (.cells #[.int .i64 (s:Int),.int .i64 ct] 35)).drewN nq);rw [← cM];have aT:Ext wr w6:=by rw [cM];exact ((Ext.refl wr).alloc _).drewN _
      have d0:w6.cell? ⟨wr.heap.size,0,none⟩=some (.int .i64 (s:Int)):=by rw [cM];go_simp
      have d1:w6.cell? ⟨wr.heap.size,1,none⟩=some (.int .i64 ct):=by rw [cM];go_simp
      replace aG:=aG.ext aT;replace cQ:=aT.cell cQ;replace hz:=aG.frozen s;replace hm:=hm.ext (B:=0) RPair.mono aT;replace q0:=aT.cell q0;replace q1:=aT.cell q1;replace q2:=aT.cell q2;replace z3:=(aT.frozenAt (World.block_lt_of_cell? _ _ q3)).trans z3;replace z2:=(aT.frozenAt (World.block_lt_of_cell? _ _ q3)).trans z2;replace q3:=aT.cell q3;replace hc:=hc.ext' aT;have eT:wr.heap.size < w6.heap.size:=World.block_lt_of_cell? _ _ d0;have fZ:=aG.lt;clear cM aT hwr bF;go_upto_region 18 with fail;go_quiet (fail);obtain ⟨w7,hw7⟩:=ex1 (w6.drewN nq);rw [← hw7];have ac:Ext w6 w7:=by rw [hw7];exact (Ext.refl _).drewN _
      replace d0:=ac.cell d0;replace d1:=ac.cell d1;replace aG:=aG.ext ac;replace cQ:=ac.cell cQ;replace hz:=aG.frozen s;replace hm:=hm.ext (B:=0) RPair.mono ac;replace q0:=ac.cell q0;replace q1:=ac.cell q1;replace q2:=ac.cell q2;replace z3:=(ac.frozenAt (World.block_lt_of_cell? _ _ q3)).trans z3;replace z2:=(ac.frozenAt (World.block_lt_of_cell? _ _ q3)).trans z2;replace q3:=ac.cell q3;replace hc:=hc.ext' ac;replace eT:=Nat.lt_of_lt_of_le eT ac.size;replace fZ:=aG.lt;clear hw7 ac;go_upto_region 20 with fail;go_quiet (fail);obtain ⟨w8,hw8⟩:=ex1 (w7.drewN nq);rw [← hw8];have a7:Ext w7 w8:=by rw [hw8];exact (Ext.refl _).drewN _
      replace d0:=a7.cell d0;replace d1:=a7.cell d1;replace aG:=aG.ext a7;replace cQ:=a7.cell cQ;replace hz:=aG.frozen s;replace hm:=hm.ext (B:=0) RPair.mono a7;replace q0:=a7.cell q0;replace q1:=a7.cell q1;replace q2:=a7.cell q2;replace z3:=(a7.frozenAt (World.block_lt_of_cell? _ _ q3)).trans z3;replace z2:=(a7.frozenAt (World.block_lt_of_cell? _ _ q3)).trans z2;replace q3:=a7.cell q3;replace hc:=hc.ext' a7;replace eT:=Nat.lt_of_lt_of_le eT a7.size;replace fZ:=aG.lt;clear hw8 a7;have h58:w5.heap.size < w8.heap.size:=World.block_lt_of_cell? _ _ q3;have aN:qgm 0 (w8.alloc (.cells #[.int .i64 (s:Int),.int .i64 ct] 35)) (some ⟨w8.heap.size,0,none⟩) [(⟨(s:Int),ct⟩:Dot)]:=Sl.one (cs:=[.int .i64 (s:Int),.int .i64 ct]) rfl rfl rfl;have hm8:=hm.ext (B:=0) RPair.mono ((Ext.refl _).alloc (.cells #[.int .i64 (s:Int),.int .i64 ct] 35));have aJ:w5.heap.size+1≤(w8.alloc (.cells #[.int .i64 (s:Int),.int .i64 ct] 35)).heap.size:=by rw [World.size_alloc];omega
      have hml8:=dZ.out;simp only [List.length_nil] at hml8;have cO:([]:List Dot).length+[(⟨(s:Int),ct⟩:Dot)].length≤maxLen:=by simp [maxLen]
      have cI:(([]:List Dot).length+[(⟨(s:Int),ct⟩:Dot)].length)*16≤140737488355328:=by simp
      go_wp2_with (at_builtin;refine qaf (c:=1) (ys:=[(⟨(s:Int),ct⟩:Dot)]) (B:=w5.heap.size+1) rfl _ _ rfl qi2 rfl hm8 (Nat.le_refl _) aJ rfl aN RPair.oneC RPair.mono cO cI ?_);intro v2 w9 aR _ aI _;have aC:=(Ext.refl w8).alloc (.cells #[.int .i64 (s:Int),.int .i64 ct] 35);replace aG:=(aG.ext aC).below aI (by omega);replace q0:=(Below.cell aI (by show w.heap.size < _;omega)).trans (aC.cell q0);replace q1:=(Below.cell aI (by show w.heap.size < _;omega)).trans (aC.cell q1);replace q2:=(Below.cell aI (by show w5.heap.size < _;omega)).trans (aC.cell q2);replace q3:=(Below.cell aI (by show w5.heap.size < _;omega)).trans (aC.cell q3);have hz3:=(Below.frozen (p:=⟨w5.heap.size,1,none⟩) aI (by show w5.heap.size < _;omega)).trans ((aC.frozenAt h58).trans z3);have hz2:=(Below.frozen (p:=⟨w5.heap.size,0,none⟩) aI (by show w5.heap.size < _;omega)).trans ((aC.frozenAt h58).trans z2);replace hc:=(hc.ext' aC).under aI (Nat.le_succ _)
      obtain ⟨A2,c2',rfl,_,_⟩:=aR.len;have bw:w5.heap.size < w9.heap.size:=World.block_lt_of_cell? _ _ q3;clear aI aC hm8 aJ aN cO cI hml8 d0 d1 eT hm cQ hz fZ;go_wp2_with fail;go_roundw
      case rel=>exact ⟨j+1,aD,by go_num,by rw [HN.out];exact aG.far (by show g≠w5.heap.size;omega) _,⟨_,by rw [HN.out];exact aR.farPair (by show w5.heap.size < _;omega) _,by go_simp⟩,qh8 (by omega) q2,hc.setNew (Nat.le_refl _) _,qag (by omega) q0,qag (by omega) q1,(World.frozen?_setCell ..).trans hz3,(World.frozen?_setCell ..).trans hz2⟩
      case measure=>simp [intOf];omega
     ·have hm0:0 < m1.length:=List.length_pos_iff.2 c3
      clear c3;have hmle:=dZ.out;simp only at hmle;have hm1k:m1.length≤10000:=by omega
      obtain ⟨Am,cm,rfl,hmc,hmm⟩:=hm.len;go_upto_region 17 with fail;go_quiet (fail);obtain ⟨w6,cM⟩:=ex1 ((wr.alloc (.cells #[.int .i64 (s:Int),.int .i64 ct] 35)).drewN nq);rw [← cM];have aT:Ext wr w6:=by rw [cM];exact ((Ext.refl wr).alloc _).drewN _
      have d0:w6.cell? ⟨wr.heap.size,0,none⟩=some (.int .i64 (s:Int)):=by rw [cM];go_simp
      have d1:w6.cell? ⟨wr.heap.size,1,none⟩=some (.int .i64 ct):=by rw [cM];go_simp
      replace aG:=aG.ext aT;replace cQ:=aT.cell cQ;replace hz:=aG.frozen s;replace hm:=hm.ext (B:=0) RPair.mono aT;replace q0:=aT.cell q0;replace q1:=aT.cell q1;replace q2:=aT.cell q2;replace z3:=(aT.frozenAt (World.block_lt_of_cell? _ _ q3)).trans z3;replace z2:=(aT.frozenAt (World.block_lt_of_cell? _ _ q3)).trans z2;replace q3:=aT.cell q3;replace hc:=hc.ext' aT;have eT:wr.heap.size < w6.heap.size:=World.block_lt_of_cell? _ _ d0;have fZ:=aG.lt;clear cM aT hwr bF;go_upto_region 18 with fail;go_quiet (fail);obtain ⟨w7,hw7⟩:=ex1 (w6.drewN nq);rw [← hw7];have ac:Ext w6 w7:=by rw [hw7];exact (Ext.refl _).drewN _
      replace d0:=ac.cell d0;replace d1:=ac.cell d1;replace aG:=aG.ext ac;replace cQ:=ac.cell cQ;replace hz:=aG.frozen s;replace hm:=hm.ext (B:=0) RPair.mono ac;replace q0:=ac.cell q0;replace q1:=ac.cell q1;replace q2:=ac.cell q2;replace z3:=(ac.frozenAt (World.block_lt_of_cell? _ _ q3)).trans z3;replace z2:=(ac.frozenAt (World.block_lt_of_cell? _ _ q3)).trans z2;replace q3:=ac.cell q3;replace hc:=hc.ext' ac;replace eT:=Nat.lt_of_lt_of_le eT ac.size;replace fZ:=aG.lt;clear hw7 ac;obtain ⟨A',c',hv',_,_,bW⟩:=hm.isSl 0;injection hv' with hA' _ hC';subst hA' hC';obtain ⟨bm,om,rfl,_,p0,p1⟩:=bW.pair (i:=m1.length - 1) (by omega);have HLast0:=hid (qgq hm0);generalize m1[m1.length - 1]=dl at *;obtain ⟨es,ec⟩:=dl;simp only at p0 p1;have en:IntKind.i64.wrap ((m1.length:Int) - 1)=((m1.length - 1:Nat):Int):=by rw [IntKind.wrap_i64];omega
      have et:((m1.length:Int)==0)=false:=beq_eq_false_iff_ne.2 (by omega);have ez:(0:Int)≤((m1.length - 1:Nat):Int):=by omega
      have el:((m1.length - 1:Nat):Int) < m1.length:=by omega
      clear bW
      by_cases c4:es=(s:Int)∧ec=ct
      ·have HN:=hid (e8.out (v1,m1) (by unfold qbn;rw [if_neg (by show ¬ ct≤qab v1 s;rw [HVA.out];exact c1),if_neg (by show ¬ ct=qab v1 s+1;rw [HVA.out];exact c2),if_pos (by rw [HLast0.out,c4.1,c4.2])]))
       obtain ⟨rfl,rfl⟩:=c4;clear c1 c2;go_upto_region 20 with fail;go_quiet (fail);obtain ⟨w8,hw8⟩:=ex1 (w7.drewN nq);rw [← hw8];have a7:Ext w7 w8:=by rw [hw8];exact (Ext.refl _).drewN _
       replace d0:=a7.cell d0;replace d1:=a7.cell d1;replace aG:=aG.ext a7;replace cQ:=a7.cell cQ;replace hz:=aG.frozen s;replace hm:=hm.ext (B:=0) RPair.mono a7;replace q0:=a7.cell q0;replace q1:=a7.cell q1;replace q2:=a7.cell q2;replace z3:=(a7.frozenAt (World.block_lt_of_cell? _ _ q3)).trans z3;replace z2:=(a7.frozenAt (World.block_lt_of_cell? _ _ q3)).trans z2;replace q3:=a7.cell q3;replace hc:=hc.ext' a7;replace eT:=Nat.lt_of_lt_of_le eT a7.size;replace fZ:=aG.lt;clear hw8 a7;go_wp2_with fail;go_roundw
       case rel=>exact ⟨j+1,aD,by go_num,by rw [HN.out];exact aG,⟨_,by rw [HN.out];exact hm,q3⟩,q2,hc,q0,q1,z3,z2⟩
       case measure=>simp [intOf];omega
      ·have HN:=hid (e8.out (v1,m1++[⟨s,ct⟩]) (by unfold qbn;rw [if_neg (by show ¬ ct≤qab v1 s;rw [HVA.out];exact c1),if_neg (by show ¬ ct=qab v1 s+1;rw [HVA.out];exact c2),if_neg (by rw [HLast0.out];intro e;injection e with e;injection e with e1 e2;exact c4 ⟨e1,e2⟩)]))
       have c5:(es=(s:Int)∧(ec==ct)=false)∨(es==(s:Int))=false:=by
        by_cases e1:es=(s:Int)
        ·exact .inl ⟨e1,by rw [beq_eq_false_iff_ne];exact fun e2=>c4 ⟨e1,e2⟩⟩
        exact .inr (by rw [beq_eq_false_iff_ne];exact e1)
       clear c1 c2 c4;rcases c5 with ⟨rfl,c5⟩ | c5
       focus
        go_upto_region 20 with fail
       rotate_left
       focus
        go_upto_region 20 with fail
       all_goals
        go_quiet (fail);obtain ⟨w8,hw8⟩:=ex1 (w7.drewN nq);rw [← hw8];have a7:Ext w7 w8:=by rw [hw8];exact (Ext.refl _).drewN _
        replace d0:=a7.cell d0;replace d1:=a7.cell d1;replace aG:=aG.ext a7;replace cQ:=a7.cell cQ;replace hz:=aG.frozen s;replace hm:=hm.ext (B:=0) RPair.mono a7;replace q0:=a7.cell q0;replace q1:=a7.cell q1;replace q2:=a7.cell q2;replace z3:=(a7.frozenAt (World.block_lt_of_cell? _ _ q3)).trans z3;replace z2:=(a7.frozenAt (World.block_lt_of_cell? _ _ q3)).trans z2;replace q3:=a7.cell q3;replace hc:=hc.ext' a7;replace eT:=Nat.lt_of_lt_of_le eT a7.size;replace fZ:=aG.lt;clear hw8 a7;have h58:w5.heap.size < w8.heap.size:=World.block_lt_of_cell? _ _ q3;have aN:qgm 0 (w8.alloc (.cells #[.int .i64 (s:Int),.int .i64 ct] 35)) (some ⟨w8.heap.size,0,none⟩) [(⟨(s:Int),ct⟩:Dot)]:=Sl.one (cs:=[.int .i64 (s:Int),.int .i64 ct]) rfl rfl rfl;have hm8:=hm.ext (B:=0) RPair.mono ((Ext.refl _).alloc (.cells #[.int .i64 (s:Int),.int .i64 ct] 35));have aJ:w5.heap.size+1≤(w8.alloc (.cells #[.int .i64 (s:Int),.int .i64 ct] 35)).heap.size:=by rw [World.size_alloc];omega
        have hml8:=dZ.out;simp only at hml8;have cO:m1.length+[(⟨(s:Int),ct⟩:Dot)].length≤maxLen:=by simp [maxLen];omega
        have cI:(m1.length+[(⟨(s:Int),ct⟩:Dot)].length)*16≤140737488355328:=by simp;omega
        go_wp2_with (at_builtin;refine qaf (c:=1) (ys:=[(⟨(s:Int),ct⟩:Dot)]) (B:=w5.heap.size+1) rfl _ _ rfl qi2 rfl hm8 (Nat.le_refl _) aJ rfl aN RPair.oneC RPair.mono cO cI ?_);intro v2 w9 aR _ aI _;have aC:=(Ext.refl w8).alloc (.cells #[.int .i64 (s:Int),.int .i64 ct] 35);replace aG:=(aG.ext aC).below aI (by omega);replace q0:=(Below.cell aI (by show w.heap.size < _;omega)).trans (aC.cell q0);replace q1:=(Below.cell aI (by show w.heap.size < _;omega)).trans (aC.cell q1);replace q2:=(Below.cell aI (by show w5.heap.size < _;omega)).trans (aC.cell q2);replace q3:=(Below.cell aI (by show w5.heap.size < _;omega)).trans (aC.cell q3);have hz3:=(Below.frozen (p:=⟨w5.heap.size,1,none⟩) aI (by show w5.heap.size < _;omega)).trans ((aC.frozenAt h58).trans z3);have hz2:=(Below.frozen (p:=⟨w5.heap.size,0,none⟩) aI (by show w5.heap.size < _;omega)).trans ((aC.frozenAt h58).trans z2);replace hc:=(hc.ext' aC).under aI (Nat.le_succ _)
        obtain ⟨A2,c2',rfl,_,_⟩:=aR.len;have bw:w5.heap.size < w9.heap.size:=World.block_lt_of_cell? _ _ q3;clear aI aC hm8 aJ aN cO cI hml8 d0 d1 eT hm cQ hz fZ;go_wp2_with fail;go_roundw
        case rel=>exact ⟨j+1,aD,by go_num,by rw [HN.out];exact aG.far (by show g≠w5.heap.size;omega) _,⟨_,by rw [HN.out];exact aR.farPair (by show w5.heap.size < _;omega) _,by go_simp⟩,qh8 (by omega) q2,hc.setNew (Nat.le_refl _) _,qag (by omega) q0,qag (by omega) q1,(World.frozen?_setCell ..).trans hz3,(World.frozen?_setCell ..).trans hz2⟩
        case measure=>simp [intOf];omega
  obtain rfl:j=l.length:=by omega
  rw [qkc] at aG hm;have hmk:=jd0 HU.out HUB.out HP.out HO.out HLO.out;have hv1l:=(HM.out l.length).len;rw [qkc] at hv1l;unfold made at hmk;generalize qbq u l=st at *;obtain ⟨v1,m1⟩:=st;simp only at aG hm hmk hv1l;have fh:=hid hmk;have HV1:=hid hv1l;have bF:=aG.lt;have HX:=hid ((((Chg.of_ext hx).trans (hc)).ext (Nat.le_of_eq HWS.out):Ext wa wr));obtain ⟨Am,cm,rfl,hmc,hmm⟩:=hm.len;clear hmk hv1l hx aD hj;go_wp2_with fail;obtain ⟨wx,rfl⟩:=ex1 wr;go_loopw [5] (fun o wr=>∃ n:Nat,n≤5∧o=.slice (some ⟨g,0,none⟩) n 5∧trim (v1.take n)=trim v1∧wr=wx) (fun o _=>match o with | .slice _ n _=>n | _=>0)
  case atStart=>exact ⟨5,Nat.le_refl _,rfl,by rw [← HV1.out,List.take_length],rfl⟩
  obtain ⟨n,hn,rfl,ht,rfl⟩:=hrel;have cQ:∀ k,k < v1.length→wr.cell? ⟨g,k,none⟩=some (.int .i64 v1[k]!):=fun k hk=>by rw [getElem!_pos v1 k hk];exact qjv aG hk
  have fU:v1.length=5:=HV1.out
  by_cases hn0:n=0
  ·have HT:=hid (show trim v1=v1.take n by rw [← ht,hn0];rfl)
   have ep:decide ((0:Int) < n)=false:=decide_eq_false (by omega);have en0:decide (0 < n)=false:=decide_eq_false (by omega);clear cQ fU hn0;go_wp2_with fail;have bD:=ql4 w.heap.size (some ⟨g,0,none⟩) 5 (v1.take n) wr (by rw [List.length_take];omega) (jb9 _ aG (by rw [show v1.length=5 from HV1.out];exact hn));rw [show (v1.take n).length=n by rw [List.length_take,show v1.length=5 from HV1.out];omega] at bD;refine bD.mono ?_;rintro e w10 ⟨va,rfl,hva,bQ⟩;obtain ⟨A10,c10,rfl,_,_⟩:=hva.len;have f0:w10.frozen? ⟨w.heap.size,0,none⟩=false:=((HX.out.trans bQ).frozenAt (by rw [HWS.out];omega)).trans HF0.out;have f1:w10.frozen? ⟨w.heap.size,1,none⟩=false:=((HX.out.trans bQ).frozenAt (by rw [HWS.out];omega)).trans HF1.out;replace z2:=(bQ.frozenAt (World.block_lt_of_cell? _ _ q2)).trans z2;have h510:w5.heap.size < wr.heap.size:=World.block_lt_of_cell? _ _ q2;have hw10:=bQ.size;replace q0:=bQ.cell q0;replace q1:=bQ.cell q1
   replace q2:=bQ.cell q2;replace q3:=bQ.cell q3;replace hm:=hm.ext (B:=0) RPair.mono bQ;have HXX:=hid (HX0.out.trans (HX.out.trans bQ));generalize v1.take n=vt at *;clear bD bQ aG z3 hc;go_wp2_with fail;refine bodyPost_ret (v:=.agg #[.slice A10 vt.length c10,.slice Am m1.length cm]) ?_ rfl ⟨_,rfl,?_,?_⟩
   ·refine qw9 (b:=w.heap.size) rfl ?_ ?_ <;> go_simp
   ·rw [← fh.out,HT.out]
    exact IsK.of ((((hva.far (fun _ _ _ _ h=>h) (by dsimp only;omega) _).far (fun _ _ _ _ h=>h) (by dsimp only;omega) _).far (fun _ _ _ _ h=>h) (by dsimp only;omega) _).isSl _) ((((hm.farPair (by dsimp only;omega) _).farPair (by dsimp only;omega) _).farPair (by dsimp only;omega) _).isSl _)
   exact ((HXX.out.setCell (by dsimp only;omega) _).setCell (by dsimp only;omega) _).setCell (by dsimp only;omega) _
  have HL:=hid (show n - 1 < v1.length by omega);have hk:=cQ (n - 1) HL.out;have eH:=getElem!_pos v1 (n - 1) HL.out;have hkt:n - 1+1=n:=by omega
  have HK:=hid hkt;have HKV:=hid eH;generalize v1[n - 1]! = y at *;have en:((n:Int) - 1)=((n - 1:Nat):Int):=by omega
  have ez:(0:Int)≤(n:Int) - 1:=by omega
  have ep:(0:Int) < n:=by omega
  clear cQ fU hkt eH
  by_cases h0:y=0
  ·have HT:=hid (show trim (v1.take (n - 1))=trim v1 by
    have h:=qtg HL.out (by rw [← HKV.out];exact h0);rw [HK.out] at h;rw [← h];exact ht)
   subst h0;go_wp2_with fail;go_roundw
   case rel=>exact ⟨n - 1,by omega,by go_num,HT.out,trivial⟩
   case measure=>show n - 1 < n;omega
  have h0':(y==0)=false:=beq_eq_false_iff_ne.2 h0;have HT:=hid (show trim v1=v1.take n by
   have h:=qte HL.out (by rw [← HKV.out];exact h0);rw [HK.out] at h;rw [← ht];exact h)
  clear h0;go_wp2_with fail;have bD:=ql4 w.heap.size (some ⟨g,0,none⟩) 5 (v1.take n) wr (by rw [List.length_take];omega) (jb9 _ aG (by rw [show v1.length=5 from HV1.out];exact hn));rw [show (v1.take n).length=n by rw [List.length_take,show v1.length=5 from HV1.out];omega] at bD;refine bD.mono ?_;rintro e w10 ⟨va,rfl,hva,bQ⟩;obtain ⟨A10,c10,rfl,_,_⟩:=hva.len;have f0:w10.frozen? ⟨w.heap.size,0,none⟩=false:=((HX.out.trans bQ).frozenAt (by rw [HWS.out];omega)).trans HF0.out;have f1:w10.frozen? ⟨w.heap.size,1,none⟩=false:=((HX.out.trans bQ).frozenAt (by rw [HWS.out];omega)).trans HF1.out;replace z2:=(bQ.frozenAt (World.block_lt_of_cell? _ _ q2)).trans z2;have h510:w5.heap.size < wr.heap.size:=World.block_lt_of_cell? _ _ q2;have hw10:=bQ.size;replace q0:=bQ.cell q0;replace q1:=bQ.cell q1;replace q2:=bQ.cell q2;replace q3:=bQ.cell q3;replace hm:=hm.ext (B:=0) RPair.mono bQ;have HXX:=hid (HX0.out.trans (HX.out.trans bQ))
  generalize v1.take n=vt at *;clear bD bQ aG z3 hc;go_wp2_with fail;refine bodyPost_ret (v:=.agg #[.slice A10 vt.length c10,.slice Am m1.length cm]) ?_ rfl ⟨_,rfl,?_,?_⟩
  ·refine qw9 (b:=w.heap.size) rfl ?_ ?_ <;> go_simp
  ·rw [← fh.out,HT.out]
   exact IsK.of ((((hva.far (fun _ _ _ _ h=>h) (by dsimp only;omega) _).far (fun _ _ _ _ h=>h) (by dsimp only;omega) _).far (fun _ _ _ _ h=>h) (by dsimp only;omega) _).isSl _) ((((hm.farPair (by dsimp only;omega) _).farPair (by dsimp only;omega) _).farPair (by dsimp only;omega) _).isSl _)
  exact ((HXX.out.setCell (by dsimp only;omega) _).setCell (by dsimp only;omega) _).setCell (by dsimp only;omega) _
end Go.Proofs.YtngbfdogiciahaaGreat
