/- The walks of the reference's Form and Formed. -/
import Derived.Test.YtngbfdogiciahaaGreatJoinKnT
set_option maxRecDepth 100000
set_option maxHeartbeats 40000000
namespace Go.Proofs.YtngbfdogiciahaaGreat
open Go Go.RowKit
def vecL (S:DSet) (j:Nat):List Int:=(List.range j).map fun s=>(pre S s:Int)
def qez (S:DSet) (j:Nat):List Dot:=(List.range j).flatMap fun s=>qm9 S s
def qd2 (S:DSet) (s c:Nat):List Dot:=((List.range c).filter fun c=>decide (pre S s+2≤c)&&S s c).map fun (c:Nat)=>⟨(s:Int),(c:Int)⟩
theorem qtj (S:DSet) (j:Nat):vecL S (j+1)=vecL S j++[(pre S j:Int)]:=by simp [vecL,List.range_succ]
theorem qrg (S:DSet) (j:Nat):(vecL S j).length=j:=by simp [vecL]
theorem qlc (S:DSet) (j:Nat):qez S (j+1)=qez S j++qm9 S j:=by simp [qez,List.range_succ]
theorem qi8 (S:DSet) (s:Nat):qd2 S s (pre S s+2)=[]:=by
 unfold qd2;rw [List.map_eq_nil_iff,List.filter_eq_nil_iff];intro c hc;rw [List.mem_range] at hc;simp;omega
theorem qpt (S:DSet) (s c:Nat) (hc:pre S s+2≤c) (h:S s c=true):qd2 S s (c+1)=qd2 S s c++[⟨(s:Int),(c:Int)⟩]:=by
 unfold qd2;rw [List.range_succ,List.filter_append,List.map_append];simp [hc,h]
theorem qsh (S:DSet) (s c:Nat) (h:S s c=false):qd2 S s (c+1)=qd2 S s c:=by
 unfold qd2;rw [List.range_succ,List.filter_append,List.map_append];simp [h]
theorem qld (S:DSet) (s c:Nat) (h:c=1001∨(c=pre S s+2∧1001 < c)):qd2 S s c=qm9 S s:=by
 rcases h with rfl | ⟨rfl,h⟩
 ·rfl
 rw [qi8];unfold qm9;symm;rw [List.map_eq_nil_iff,List.filter_eq_nil_iff];intro c hc;rw [List.mem_range] at hc;simp;omega
theorem qle (S:DSet) (s c:Nat):(qd2 S s c).length≤c:=by
 unfold qd2;rw [List.length_map];exact Nat.le_trans (List.length_filter_le _ _) (by simp)
theorem qkh (S:DSet):∀ j,(qez S j).length≤1001*j
 | 0=>by simp [qez]
 | j+1=>by
  rw [qlc,List.length_append];have h1:=qkh S j;have h2:=qle S j 1001;rw [qld S j 1001 (.inl rfl)] at h2;omega
theorem Own.chgT {α:Type} {R:World→List Value→α→Prop} {sz B:Nat} {e:TypeId} {ts:List TypeId} {w w':World} {base:Nat} {v:Value} {l:List α} (m:Mono B ts R) (h:Own R sz e w base v l) (he:e∉ts) (x:Chg B ts w w'):Own R sz e w' base v l:=by
 refine h.chg m x fun g hg=>x.block g (h.lt hg).2 (.inr fun t ht h2=>?_);rcases h.at_ with ⟨rfl,_⟩ | ⟨g',c,rfl,_,_,fa,_⟩
 ·simp [Value.ownBlock] at hg
 simp [Value.ownBlock] at hg;subst hg;rw [fa] at h2;injection h2 with h2;exact he (h2 ▸ ht)
structure FormEnv (S:DSet) (w wr:World) (vl:List Int) (ml:List Dot):Prop where
 blk:Blk wr w.heap.size 184 (rowD S)
 r0:wr.cell? ⟨w.heap.size+1,0,none⟩=some (.slice none 0 0)
 r1:wr.cell? ⟨w.heap.size+1,1,none⟩=some (.slice none 0 0)
 y0:wr.frozen? ⟨w.heap.size+1,0,none⟩=false
 y1:wr.frozen? ⟨w.heap.size+1,1,none⟩=false
 z0:wr.frozen? ⟨w.heap.size+1+1,0,none⟩=false
 z1:wr.frozen? ⟨w.heap.size+1+1,1,none⟩=false
 x:Ext w wr
 vec:∃ v,wr.cell? ⟨w.heap.size+1+1,0,none⟩=some v∧Own RInt 1 3 wr (w.heap.size+1+1+1) v vl
 more:∃ m,wr.cell? ⟨w.heap.size+1+1,1,none⟩=some m∧Own RDot 2 35 wr (w.heap.size+1+1+1) m ml
theorem FormEnv.lt {S:DSet} {w wr:World} {vl:List Int} {ml:List Dot} (h:FormEnv S w wr vl ml):w.heap.size+1+1 < wr.heap.size:=by
 obtain ⟨v,hv,_⟩:=h.vec;exact World.block_lt_of_cell? _ _ hv
theorem FormEnv.ext {S:DSet} {w wr w':World} {vl:List Int} {ml:List Dot} (h:FormEnv S w wr vl ml) (x:Ext wr w'):FormEnv S w w' vl ml:=by
 have aD:=h.lt;refine ⟨h.blk.ext x,x.cell h.r0,x.cell h.r1,(x.frozenAt (by show w.heap.size+1 < _;omega)).trans h.y0,(x.frozenAt (by show w.heap.size+1 < _;omega)).trans h.y1,(x.frozenAt aD).trans h.z0,(x.frozenAt aD).trans h.z1,h.x.trans x,?_,?_⟩
 ·obtain ⟨v,h1,h2⟩:=h.vec
  exact ⟨v,x.cell h1,h2.ext (B:=0) RInt.mono x⟩
 obtain ⟨m,h1,h2⟩:=h.more;exact ⟨m,x.cell h1,h2.ext (B:=0) RPair.mono x⟩
theorem FormEnv.setVec {S:DSet} {w wr w1 w2:World} {vl vl':List Int} {ml:List Dot} {v:Value} (h:FormEnv S w wr vl ml) (x:Ext wr w1) (b:Below (w.heap.size+1+1+1) w1 w2) (c:Chg (w.heap.size+1+1+1) [3] w1 w2) (ho:Own RInt 1 3 w2 (w.heap.size+1+1+1) v vl'):FormEnv S w (w2.setCell ⟨w.heap.size+1+1,0,none⟩ v) vl' ml:=by
 have h1:=h.ext x;obtain ⟨m,g1,g2⟩:=h1.more;have aD:=h1.lt;refine ⟨(h1.blk.below b (by omega)).far (by dsimp only;omega) _,qag (by omega) ((Below.cell b (by show w.heap.size+1 < _;omega)).trans h1.r0),qag (by omega) ((Below.cell b (by show w.heap.size+1 < _;omega)).trans h1.r1),(World.frozen?_setCell ..).trans ((Below.frozen b (by show w.heap.size+1 < _;omega)).trans h1.y0),(World.frozen?_setCell ..).trans ((Below.frozen b (by show w.heap.size+1 < _;omega)).trans h1.y1),(World.frozen?_setCell ..).trans ((Below.frozen b (by show w.heap.size+1+1 < _;omega)).trans h1.z0),(World.frozen?_setCell ..).trans ((Below.frozen b (by show w.heap.size+1+1 < _;omega)).trans h1.z1),(h1.x.below b (by omega)).setCell (by dsimp only;omega) _,⟨v,?_,ho.far (fun _ _ _ _ h=>h) (by dsimp only;omega) _⟩,⟨m,qh8 (by omega) ((Below.cell b (by show w.heap.size+1+1 < _;omega)).trans g1),(g2.chgT RPair.mono (by decide) c).farPair (by dsimp only;omega) _⟩⟩
 obtain ⟨v0,g3,_⟩:=h1.vec;exact World.cell?_setCell_same _ _ _ ((Below.cell b (by show w.heap.size+1+1 < _;omega)).trans g3)
theorem FormEnv.setMore {S:DSet} {w wr w1 w2:World} {vl:List Int} {ml ml':List Dot} {m:Value} (h:FormEnv S w wr vl ml) (x:Ext wr w1) (b:Below (w.heap.size+1+1+1) w1 w2) (c:Chg (w.heap.size+1+1+1) [35] w1 w2) (ho:Own RDot 2 35 w2 (w.heap.size+1+1+1) m ml'):FormEnv S w (w2.setCell ⟨w.heap.size+1+1,1,none⟩ m) vl ml':=by
 have h1:=h.ext x;obtain ⟨v,g1,g2⟩:=h1.vec;have aD:=h1.lt;refine ⟨(h1.blk.below b (by omega)).far (by dsimp only;omega) _,qag (by omega) ((Below.cell b (by show w.heap.size+1 < _;omega)).trans h1.r0),qag (by omega) ((Below.cell b (by show w.heap.size+1 < _;omega)).trans h1.r1),(World.frozen?_setCell ..).trans ((Below.frozen b (by show w.heap.size+1 < _;omega)).trans h1.y0),(World.frozen?_setCell ..).trans ((Below.frozen b (by show w.heap.size+1 < _;omega)).trans h1.y1),(World.frozen?_setCell ..).trans ((Below.frozen b (by show w.heap.size+1+1 < _;omega)).trans h1.z0),(World.frozen?_setCell ..).trans ((Below.frozen b (by show w.heap.size+1+1 < _;omega)).trans h1.z1),(h1.x.below b (by omega)).setCell (by dsimp only;omega) _,⟨v,qh8 (by omega) ((Below.cell b (by show w.heap.size+1+1 < _;omega)).trans g1),(g2.chgT RInt.mono (by decide) c).far (fun _ _ _ _ h=>h) (by dsimp only;omega) _⟩,⟨m,?_,ho.farPair (by dsimp only;omega) _⟩⟩
 obtain ⟨m0,g3,_⟩:=h1.more;exact World.cell?_setCell_same _ _ _ ((Below.cell b (by show w.heap.size+1+1 < _;omega)).trans g3)
theorem Sl.take {α:Type} {R:World→List Value→α→Prop} {sz B:Nat} {e:TypeId} {w:World} {A:Option Addr} {l:List α} (h:Sl B e R sz w A l) (n:Nat):Sl B e R sz w A (l.take n):=by
 intro i x hx;refine h i x ?_;rw [List.getElem?_take] at hx;split at hx
 ·exact hx
 cases hx
structure FormEnd (S:DSet) (w wr:World) (Av:Option Addr) (cv:Nat) (Am:Option Addr) (cm:Nat) (vl:List Int) (ml:List Dot) (n:Nat):Prop where
 r0:wr.cell? ⟨w.heap.size+1,0,none⟩=some (.slice none 0 0)
 r1:wr.cell? ⟨w.heap.size+1,1,none⟩=some (.slice none 0 0)
 y0:wr.frozen? ⟨w.heap.size+1,0,none⟩=false
 y1:wr.frozen? ⟨w.heap.size+1,1,none⟩=false
 z0:wr.frozen? ⟨w.heap.size+1+1,0,none⟩=false
 x:Ext w wr
 k0:wr.cell? ⟨w.heap.size+1+1,0,none⟩=some (.slice Av n cv)
 k1:wr.cell? ⟨w.heap.size+1+1,1,none⟩=some (.slice Am ml.length cm)
 ov:Own RInt 1 3 wr (w.heap.size+1+1+1) (.slice Av 5 cv) vl
 om:Own RDot 2 35 wr (w.heap.size+1+1+1) (.slice Am ml.length cm) ml
theorem FormEnd.start {S:DSet} {w wr:World} {Av Am:Option Addr} {cv cm n:Nat} {vl vl':List Int} {ml ml':List Dot} (h:FormEnv S w wr vl' ml') (k0:wr.cell? ⟨w.heap.size+1+1,0,none⟩=some (.slice Av n cv)) (k1:wr.cell? ⟨w.heap.size+1+1,1,none⟩=some (.slice Am ml.length cm)) (ov:Own RInt 1 3 wr (w.heap.size+1+1+1) (.slice Av 5 cv) vl) (om:Own RDot 2 35 wr (w.heap.size+1+1+1) (.slice Am ml.length cm) ml):FormEnd S w wr Av cv Am cm vl ml n:=
 ⟨h.r0,h.r1,h.y0,h.y1,h.z0,h.x,k0,k1,ov,om⟩
theorem FormEnd.ext {S:DSet} {w wr w':World} {Av Am:Option Addr} {cv cm n:Nat} {vl:List Int} {ml:List Dot} (h:FormEnd S w wr Av cv Am cm vl ml n) (x:Ext wr w'):FormEnd S w w' Av cv Am cm vl ml n:=by
 have aD:w.heap.size+1+1 < wr.heap.size:=World.block_lt_of_cell? _ _ h.k0;exact ⟨x.cell h.r0,x.cell h.r1,(x.frozenAt (by show w.heap.size+1 < _;omega)).trans h.y0,(x.frozenAt (by show w.heap.size+1 < _;omega)).trans h.y1,(x.frozenAt aD).trans h.z0,h.x.trans x,x.cell h.k0,x.cell h.k1,h.ov.ext (B:=0) RInt.mono x,h.om.ext (B:=0) RPair.mono x⟩
theorem FormEnd.done {S:DSet} {w wr:World} {Av Am:Option Addr} {cv cm n:Nat} {vl:List Int} {ml:List Dot} (h:FormEnd S w wr Av cv Am cm vl ml n) (hl:vl.length=5) (hn:n≤5) (ht:trim vl=vl.take n) (hv:vl=vecL S 5) (hm:ml=qez S 5) :
  let w':=(wr.setCell ⟨w.heap.size+1,0,none⟩ (.slice Av n cv)).setCell ⟨w.heap.size+1,1,none⟩ (.slice Am ml.length cm)
  w'.cell? ⟨w.heap.size+1,0,none⟩=some (.slice Av n cv)∧w'.cell? ⟨w.heap.size+1,1,none⟩=some (.slice Am ml.length cm)∧IsK 0 w' (.agg #[.slice Av n cv,.slice Am ml.length cm]) (qb2 S)∧Ext w w'∧w'.cell? ⟨w.heap.size+1+1,0,none⟩=some (.slice Av n cv)∧w'.cell? ⟨w.heap.size+1+1,1,none⟩=some (.slice Am ml.length cm):=by
 intro w';have e:qb2 S=⟨vl.take n,ml⟩:=by rw [← ht,hv,hm];rfl
 have el:(vl.take n).length=n:=by rw [List.length_take];omega
 obtain ⟨A,c,hA,dH,ad⟩:=h.ov.len;injection hA with _ _ hA;subst hA;refine ⟨qh8 (by omega) (World.cell?_setCell_same _ _ _ h.r0),World.cell?_setCell_same _ _ _ (qh8 (by omega) h.r1),?_,(h.x.setCell (by dsimp only;omega) _).setCell (by dsimp only;omega) _,qag (by omega) (qag (by omega) h.k0),qag (by omega) (qag (by omega) h.k1)⟩;rw [e];have ov:=(h.ov.far (p:=⟨w.heap.size+1,0,none⟩) (fun _ _ _ _ h=>h) (by dsimp only;omega) (.slice Av n cv)).far (p:=⟨w.heap.size+1,1,none⟩) (fun _ _ _ _ h=>h) (by dsimp only;omega) (.slice Am ml.length cm);have om:=(h.om.farPair (p:=⟨w.heap.size+1,0,none⟩) (by dsimp only;omega) (.slice Av n cv)).farPair (p:=⟨w.heap.size+1,1,none⟩) (by dsimp only;omega) (.slice Am ml.length cm);exact IsK.of ⟨Av,cv,by rw [el],by rw [el];omega,ad,(ov.sl 0).take n⟩ (om.isSl 0)
theorem FormEnd.cut {S:DSet} {w wr:World} {Av Am:Option Addr} {cv cm n:Nat} {vl:List Int} {ml:List Dot} (h:FormEnd S w wr Av cv Am cm vl ml n) (k:Nat):FormEnd S w (wr.setCell ⟨w.heap.size+1+1,0,none⟩ (.slice Av k cv)) Av cv Am cm vl ml k:=
 ⟨qag (by omega) h.r0,qag (by omega) h.r1,(World.frozen?_setCell ..).trans h.y0,(World.frozen?_setCell ..).trans h.y1,(World.frozen?_setCell ..).trans h.z0,h.x.setCell (by dsimp only;omega) _,World.cell?_setCell_same _ _ _ h.k0,qh8 (by omega) h.k1,h.ov.far (fun _ _ _ _ h=>h) (by dsimp only;omega) _,h.om.farPair (by dsimp only;omega) _⟩
theorem qw8 {w:World} {v:Value} {b:Nat} {x y:Value} {tmps:Array Value} (h4:tmps.getD 2 undef=.pointer (some ⟨b,0,none⟩)) (h5:tmps.getD 3 undef=v) (c1:w.cell? ⟨b,0,none⟩=some x) (c2:w.cell? ⟨b,1,none⟩=some y) :
  (results Tryz.f102 tmps).run Tryz.prog w=.ok (.tuple #[.agg #[x,y],v]) w:=by
 have h4':tmps[2]?.getD undef=.pointer (some ⟨b,0,none⟩):=by simpa using h4
 have h5':tmps[3]?.getD undef=v:=by simpa using h5
 simp [results,Tryz.results102,go_sem,h4',h5',c1,c2]
theorem qq2 {w:World} {v:Value} {b:Nat} {x y:Value} {tmps:Array Value} (h4:tmps.getD 2 undef=.pointer (some ⟨b,0,none⟩)) (h5:tmps.getD 3 undef=v) (c1:w.cell? ⟨b,0,none⟩=some x) (c2:w.cell? ⟨b,1,none⟩=some y) :
  (results Tryz.f159 tmps).run Tryz.prog w=.ok (.tuple #[.agg #[x,y],v]) w:=by
 have h4':tmps[2]?.getD undef=.pointer (some ⟨b,0,none⟩):=by simpa using h4
 have h5':tmps[3]?.getD undef=v:=by simpa using h5
 simp [results,Tryz.results159,go_sem,h4',h5',c1,c2]
theorem qw5 (S:DSet) (w:World) :
  Calls Tryz.prog 102 #[.agg (rowD S)] w fun e w'=>∃ x,e=.returned (.tuple #[x,.bool (decide ((qb2 S).more.length≤60))])∧IsK 0 w' x (qb2 S)∧Ext w w':=by
 have aU:FormEnv S w (((w.alloc (.cells (rowD S) 184)).alloc (.cells #[.slice none 0 0,.slice none 0 0] 101)).alloc (.cells #[.slice none 0 0,.slice none 0 0] 101)) (vecL S 0) (qez S 0):=
  ⟨((Blk.new w _ _).alloc _).alloc _,by go_simp,by go_simp,by go_simp,by go_simp,by go_simp,by go_simp,(((Ext.refl w).alloc _).alloc _).alloc _,⟨.slice none 0 0,by go_simp,Own.nil⟩,⟨.slice none 0 0,by go_simp,Own.nil⟩⟩
 go_enter Tryz.func102, Tryz.ntmps102;go_wp2_with fail;go_loopw [9] (fun i wr=>∃ j:Nat,j≤5∧i=.int .i64 j∧FormEnv S w wr (vecL S j) (qez S j)) (fun i _=>5 - (intOf i).toNat)
 case atStart=>exact ⟨0,Nat.zero_le _,rfl,aU⟩
 clear aU;obtain ⟨j,hj,rfl,aU⟩:=hrel
 by_cases aD:j < 5
 ·have j0:(0:Int)≤j:=by omega
  have j5:(j:Int) < 5:=by omega
  have HJ:=hid aD;clear hj;go_wp2_with fail;obtain ⟨wo,rfl⟩:=ex1 wr;go_loopw [6] (fun i wr=>∃ n:Nat,n≤1000∧i=.int .i64 n∧(∀ c,1≤c→c≤n→S j c=true)∧FormEnv S w wr (vecL S j) (qez S j)) (fun i _=>1000 - (intOf i).toNat)
  case atStart=>exact ⟨0,Nat.zero_le _,rfl,fun c h1 h2=>absurd h1 (by omega),aU⟩
  clear aU;obtain ⟨n,hn,rfl,hpre,aU⟩:=hrel;have HPre:=hid hpre;clear hpre;have hgo:n < 1000∧S j (n+1)=true∨pre S j=n:=by
   by_cases h1:n < 1000
   ·cases h2:S j (n+1)
    ·exact .inr (qfl S j n HPre.out hn fun _=>h2)
    exact .inl ⟨h1,rfl⟩
   exact .inr (qfl S j n HPre.out hn fun h=>absurd h h1)
  by_cases h1:n < 1000
  ·have hn1:(n:Int) < 1000:=by omega
   have HN1:=hid h1;have aG:=aU.blk
   cases h2:S j (n+1)
   ·have HP:=hid (show pre S j=n from qfl S j n HPre.out hn fun _=>h2)
    have H2:=hid h2;clear hgo h1 h2 HPre;go_wp2_with ((with_reducible refine qap (o:=⟨some 15,_,_,_,_,_⟩) qc8 _ rfl rfl rfl aG (qad _) ?_));refine (qg5 S j (n+1) wr HJ.out (by have:=HN1.out;omega)).mono ?_;rintro e w1 ⟨rfl,aE⟩;rw [H2.out];replace aU:=aU.ext aE;clear aG aE;obtain ⟨v0,k0,aQ⟩:=aU.vec;obtain ⟨A0,c0,rfl,_,_⟩:=aQ.len;have fU:=qrg S j;have z0:=aU.z0;have ev:=aU.lt;have aC:=(Ext.refl w1).alloc (.cells #[.int .i64 (n:Int)] 3);have fC:=aQ.ext (B:=0) RInt.mono aC;have aN:qg4 0 (w1.alloc (.cells #[.int .i64 (n:Int)] 3)) (some ⟨w1.heap.size,0,none⟩) [(n:Int)]:=Sl.one (cs:=[.int .i64 (n:Int)]) rfl rfl rfl;have k0a:=aC.cell k0;have z0a:=(aC.frozenAt ev).trans z0;have cO:(vecL S j).length+[(n:Int)].length≤maxLen:=by rw [fU];simp [maxLen];omega
    have cI:((vecL S j).length+[(n:Int)].length)*8≤140737488355328:=by rw [fU];simp;omega
    have aW:w.heap.size+1+1+1≤(w1.alloc (.cells #[.int .i64 (n:Int)] 3)).heap.size:=by rw [World.size_alloc];omega
    have HVN:=hid (show vecL S j++[(n:Int)]=vecL S (j+1) by rw [qtj,HP.out]);clear fU z0;go_wp2_with (at_builtin;refine qaf (c:=1) (ys:=[(n:Int)]) (B:=w.heap.size+1+1+1) rfl _ _ rfl qrw rfl fC (Nat.le_refl _) aW rfl aN RInt.oneC RInt.mono cO cI ?_;intro v2 w2 aR er aI _;rw [HVN.out] at aR;generalize dA:vecL S (j+1)=vl' at aR;obtain ⟨A2,c2,rfl,_,_⟩:=aR.len;have k0b:=(Below.cell aI (by show w.heap.size+1+1 < _;omega)).trans k0a;have z0b:=(Below.frozen aI (by show w.heap.size+1+1 < _;omega)).trans z0a);have cW:=aU.setVec aC aI er aR;clear aU;have aU:=cW;obtain ⟨w3,dY⟩:=ex1 (w2.setCell ⟨w.heap.size+1+1,0,none⟩ (.slice A2 vl'.length c2));rw [← dY] at aU ⊢;have HV3:=hid dA.symm;clear dA;clear cW k0 aQ k0a z0a k0b z0b aC fC aN er aI aR aW cO cI dY ev;obtain ⟨wo,rfl⟩:=ex1 w3;rw [show vl'=vl' from rfl] at aU;go_loopw [7] (fun i wr=>∃ c:Nat,n+2≤c∧(c≤1001∨c=n+2)∧i=.int .i64 c∧FormEnv S w wr vl' (qez S j++qd2 S j c)) (fun i _=>1001 - (intOf i).toNat)
    case atStart=>exact ⟨n+2,Nat.le_refl _,.inr rfl,by go_num,by rw [← HP.out,qi8,List.append_nil];exact aU⟩
    clear aU;obtain ⟨c,dH,ad,rfl,aU⟩:=hrel
    by_cases bD:c≤1000
    ·have hci:(c:Int)≤1000:=by omega
     have HC:=hid bD;have HC1:=hid dH;have dZ:=hid (show (qez S j++qd2 S j c).length≤7000 by
      rw [List.length_append];have h1:=qkh S j;have h2:=qle S j c;have:=HJ.out;omega)
     have aa:=(Ext.refl wr).alloc (.cells #[.int .i64 (j:Int),.int .i64 (c:Int)] 35);have eu:=aU.ext aa;have aG:=eu.blk;clear dH ad;go_wp2_with ((with_reducible refine qap (o:=⟨some 39,_,_,_,_,_⟩) qc8 _ rfl rfl rfl aG (qad _) ?_));refine (qg5 S j c _ HJ.out (by have:=HC.out;omega)).mono ?_;rintro e w4 ⟨rfl,aj⟩;replace aU:=eu.ext aj;have p0:w4.cell? ⟨wr.heap.size,0,none⟩=some (.int .i64 (j:Int)):=aj.cell (by go_simp);have p1:w4.cell? ⟨wr.heap.size,1,none⟩=some (.int .i64 (c:Int)):=aj.cell (by go_simp);clear aa eu aG aj
     cases hS:S j c
     ·have HM1:=hid (qsh S j c hS)
      rw [← HM1.out] at aU;clear hS;go_wp2_with fail;go_roundw
      case rel=>exact ⟨c+1,by have:=HC1.out;omega,.inl (by have:=HC.out;omega),by go_num,aU⟩
      case measure=>have:=HC.out;simp [intOf];omega
     have HM1:=hid (show (qez S j++qd2 S j c)++[(⟨(j:Int),(c:Int)⟩:Dot)]=qez S j++qd2 S j (c+1) by rw [qpt S j c (by rw [HP.out];exact HC1.out) hS,List.append_assoc]);generalize qez S j++qd2 S j c=ml at *;clear hS;obtain ⟨v0,k0,aQ⟩:=aU.more;obtain ⟨A0,c0,rfl,_,_⟩:=aQ.len;have z0:=aU.z1;have ev:=aU.lt;have aC:=(Ext.refl w4).alloc (.cells #[.int .i64 (j:Int),.int .i64 (c:Int)] 35);have fC:=aQ.ext (B:=0) RPair.mono aC;have aN:qgm 0 (w4.alloc (.cells #[.int .i64 (j:Int),.int .i64 (c:Int)] 35)) (some ⟨w4.heap.size,0,none⟩) [(⟨(j:Int),(c:Int)⟩:Dot)]:=Sl.one (cs:=[.int .i64 (j:Int),.int .i64 (c:Int)]) rfl rfl rfl;have k0a:=aC.cell k0;have z0a:=(aC.frozenAt ev).trans z0;have aW:w.heap.size+1+1+1≤(w4.alloc (.cells #[.int .i64 (j:Int),.int .i64 (c:Int)] 35)).heap.size:=by rw [World.size_alloc];omega
     have cO:ml.length+[(⟨(j:Int),(c:Int)⟩:Dot)].length≤maxLen:=by have:=dZ.out;simp [maxLen];omega
     have cI:(ml.length+[(⟨(j:Int),(c:Int)⟩:Dot)].length)*16≤140737488355328:=by have:=dZ.out;simp;omega
     clear z0;go_wp2_with (at_builtin;refine qaf (c:=1) (ys:=[(⟨(j:Int),(c:Int)⟩:Dot)]) (B:=w.heap.size+1+1+1) rfl _ _ rfl qi2 rfl fC (Nat.le_refl _) aW rfl aN RPair.oneC RPair.mono cO cI ?_;intro v2 w5 aR er aI _;rw [HM1.out] at aR;generalize hm3:qez S j++qd2 S j (c+1)=ml' at aR;obtain ⟨A2,c2,rfl,_,_⟩:=aR.len;have k0b:=(Below.cell aI (by show w.heap.size+1+1 < _;omega)).trans k0a;have z0b:=(Below.frozen aI (by show w.heap.size+1+1 < _;omega)).trans z0a);have cW:=aU.setMore aC aI er aR;have HM3:=hid hm3.symm;clear hm3;clear aU;have aU:=cW;clear cW k0 aQ k0a z0a k0b z0b aC fC aN er aI aR aW cO cI ev;go_wp2_with fail;go_roundw
     case rel=>exact ⟨c+1,by have:=HC1.out;omega,.inl (by have:=HC.out;omega),by go_num,HM3.out ▸ aU⟩
     case measure=>have:=HC.out;simp [intOf];omega
    have HE:=hid (show qez S j++qd2 S j c=qez S (j+1) by rw [qld S j c (by rw [HP.out];omega),qlc]);rw [HE.out] at aU;have hci:decide ((c:Int)≤1000)=false:=decide_eq_false (by omega);clear dH ad bD;go_wp2_with fail;go_roundw
    case rel=>exact ⟨j+1,HJ.out,by go_num,HV3.out ▸ aU⟩
    case measure=>have:=HJ.out;simp [intOf];omega
   have H2:=hid h2;have hnn:(n:Int)+1≤1000:=by omega
   clear hgo h1 h2;go_wp2_with ((with_reducible refine qap (o:=⟨some 15,_,_,_,_,_⟩) qc8 _ rfl rfl rfl aG (qad _) ?_));refine (qg5 S j (n+1) wr HJ.out (by have:=HN1.out;omega)).mono ?_;rintro e w1 ⟨rfl,aE⟩;rw [H2.out];replace aU:=aU.ext aE;clear aG aE;go_wp2_with fail;go_roundw
   case rel=>exact ⟨n+1,by have:=HN1.out;omega,by go_num,fun c h1 h2=>by (by_cases h:c=n+1);(rw [h];exact H2.out);exact HPre.out c h1 (by omega),aU⟩
   case measure=>have:=HN1.out;simp [intOf];omega
  have HP:=hid (show pre S j=n from qfl S j n HPre.out hn fun h=>absurd h h1);have hn1:decide ((n:Int) < 1000)=false:=decide_eq_false (by omega);have hn2:decide (n < 1000)=false:=decide_eq_false (by omega);clear hgo h1 HPre;obtain ⟨w1,rfl⟩:=ex1 wr;obtain ⟨v0,k0,aQ⟩:=aU.vec;obtain ⟨A0,c0,rfl,_,_⟩:=aQ.len;have fU:=qrg S j;have z0:=aU.z0;have ev:=aU.lt;have aC:=(Ext.refl w1).alloc (.cells #[.int .i64 (n:Int)] 3);have fC:=aQ.ext (B:=0) RInt.mono aC;have aN:qg4 0 (w1.alloc (.cells #[.int .i64 (n:Int)] 3)) (some ⟨w1.heap.size,0,none⟩) [(n:Int)]:=Sl.one (cs:=[.int .i64 (n:Int)]) rfl rfl rfl;have k0a:=aC.cell k0;have z0a:=(aC.frozenAt ev).trans z0;have cO:(vecL S j).length+[(n:Int)].length≤maxLen:=by rw [fU];simp [maxLen];omega
  have cI:((vecL S j).length+[(n:Int)].length)*8≤140737488355328:=by rw [fU];simp;omega
  have aW:w.heap.size+1+1+1≤(w1.alloc (.cells #[.int .i64 (n:Int)] 3)).heap.size:=by rw [World.size_alloc];omega
  have HVN:=hid (show vecL S j++[(n:Int)]=vecL S (j+1) by rw [qtj,HP.out]);clear fU z0;go_wp2_with (at_builtin;refine qaf (c:=1) (ys:=[(n:Int)]) (B:=w.heap.size+1+1+1) rfl _ _ rfl qrw rfl fC (Nat.le_refl _) aW rfl aN RInt.oneC RInt.mono cO cI ?_;intro v2 w2 aR er aI _;rw [HVN.out] at aR;generalize dA:vecL S (j+1)=vl' at aR;obtain ⟨A2,c2,rfl,_,_⟩:=aR.len;have k0b:=(Below.cell aI (by show w.heap.size+1+1 < _;omega)).trans k0a;have z0b:=(Below.frozen aI (by show w.heap.size+1+1 < _;omega)).trans z0a);have cW:=aU.setVec aC aI er aR;clear aU;have aU:=cW;obtain ⟨w3,dY⟩:=ex1 (w2.setCell ⟨w.heap.size+1+1,0,none⟩ (.slice A2 vl'.length c2));rw [← dY] at aU ⊢;have HV3:=hid dA.symm;clear dA;clear cW k0 aQ k0a z0a k0b z0b aC fC aN er aI aR aW cO cI dY ev;obtain ⟨wo,rfl⟩:=ex1 w3;rw [show vl'=vl' from rfl] at aU;go_loopw [7] (fun i wr=>∃ c:Nat,n+2≤c∧(c≤1001∨c=n+2)∧i=.int .i64 c∧FormEnv S w wr vl' (qez S j++qd2 S j c)) (fun i _=>1001 - (intOf i).toNat)
  case atStart=>exact ⟨n+2,Nat.le_refl _,.inr rfl,by go_num,by rw [← HP.out,qi8,List.append_nil];exact aU⟩
  clear aU;obtain ⟨c,dH,ad,rfl,aU⟩:=hrel
  by_cases bD:c≤1000
  ·have hci:(c:Int)≤1000:=by omega
   have HC:=hid bD;have HC1:=hid dH;have dZ:=hid (show (qez S j++qd2 S j c).length≤7000 by
    rw [List.length_append];have h1:=qkh S j;have h2:=qle S j c;have:=HJ.out;omega)
   have aa:=(Ext.refl wr).alloc (.cells #[.int .i64 (j:Int),.int .i64 (c:Int)] 35);have eu:=aU.ext aa;have aG:=eu.blk;clear dH ad;go_wp2_with ((with_reducible refine qap (o:=⟨some 39,_,_,_,_,_⟩) qc8 _ rfl rfl rfl aG (qad _) ?_));refine (qg5 S j c _ HJ.out (by have:=HC.out;omega)).mono ?_;rintro e w4 ⟨rfl,aj⟩;replace aU:=eu.ext aj;have p0:w4.cell? ⟨wr.heap.size,0,none⟩=some (.int .i64 (j:Int)):=aj.cell (by go_simp);have p1:w4.cell? ⟨wr.heap.size,1,none⟩=some (.int .i64 (c:Int)):=aj.cell (by go_simp);clear aa eu aG aj
   cases hS:S j c
   ·have HM1:=hid (qsh S j c hS)
    rw [← HM1.out] at aU;clear hS;go_wp2_with fail;go_roundw
    case rel=>exact ⟨c+1,by have:=HC1.out;omega,.inl (by have:=HC.out;omega),by go_num,aU⟩
    case measure=>have:=HC.out;simp [intOf];omega
   have HM1:=hid (show (qez S j++qd2 S j c)++[(⟨(j:Int),(c:Int)⟩:Dot)]=qez S j++qd2 S j (c+1) by rw [qpt S j c (by rw [HP.out];exact HC1.out) hS,List.append_assoc]);generalize qez S j++qd2 S j c=ml at *;clear hS;obtain ⟨v0,k0,aQ⟩:=aU.more;obtain ⟨A0,c0,rfl,_,_⟩:=aQ.len;have z0:=aU.z1;have ev:=aU.lt;have aC:=(Ext.refl w4).alloc (.cells #[.int .i64 (j:Int),.int .i64 (c:Int)] 35);have fC:=aQ.ext (B:=0) RPair.mono aC;have aN:qgm 0 (w4.alloc (.cells #[.int .i64 (j:Int),.int .i64 (c:Int)] 35)) (some ⟨w4.heap.size,0,none⟩) [(⟨(j:Int),(c:Int)⟩:Dot)]:=Sl.one (cs:=[.int .i64 (j:Int),.int .i64 (c:Int)]) rfl rfl rfl;have k0a:=aC.cell k0;have z0a:=(aC.frozenAt ev).trans z0;have aW:w.heap.size+1+1+1≤(w4.alloc (.cells #[.int .i64 (j:Int),.int .i64 (c:Int)] 35)).heap.size:=by rw [World.size_alloc];omega
   have cO:ml.length+[(⟨(j:Int),(c:Int)⟩:Dot)].length≤maxLen:=by have:=dZ.out;simp [maxLen];omega
   have cI:(ml.length+[(⟨(j:Int),(c:Int)⟩:Dot)].length)*16≤140737488355328:=by have:=dZ.out;simp;omega
   clear z0;go_wp2_with (at_builtin;refine qaf (c:=1) (ys:=[(⟨(j:Int),(c:Int)⟩:Dot)]) (B:=w.heap.size+1+1+1) rfl _ _ rfl qi2 rfl fC (Nat.le_refl _) aW rfl aN RPair.oneC RPair.mono cO cI ?_;intro v2 w5 aR er aI _;rw [HM1.out] at aR;generalize hm3:qez S j++qd2 S j (c+1)=ml' at aR;obtain ⟨A2,c2,rfl,_,_⟩:=aR.len;have k0b:=(Below.cell aI (by show w.heap.size+1+1 < _;omega)).trans k0a;have z0b:=(Below.frozen aI (by show w.heap.size+1+1 < _;omega)).trans z0a);have cW:=aU.setMore aC aI er aR;have HM3:=hid hm3.symm;clear hm3;clear aU;have aU:=cW;clear cW k0 aQ k0a z0a k0b z0b aC fC aN er aI aR aW cO cI ev;go_wp2_with fail;go_roundw
   case rel=>exact ⟨c+1,by have:=HC1.out;omega,.inl (by have:=HC.out;omega),by go_num,HM3.out ▸ aU⟩
   case measure=>have:=HC.out;simp [intOf];omega
  have HE:=hid (show qez S j++qd2 S j c=qez S (j+1) by rw [qld S j c (by rw [HP.out];omega),qlc]);rw [HE.out] at aU;have hci:decide ((c:Int)≤1000)=false:=decide_eq_false (by omega);clear dH ad bD;go_wp2_with fail;go_roundw
  case rel=>exact ⟨j+1,HJ.out,by go_num,HV3.out ▸ aU⟩
  case measure=>have:=HJ.out;simp [intOf];omega
 obtain rfl:j=5:=by omega
 clear hj aD;rw [show ((5:Nat):Int)=5 from rfl];obtain ⟨v0,k0,aQ⟩:=aU.vec;obtain ⟨m0,k1,hom⟩:=aU.more;obtain ⟨Av,cv,rfl,hvc,hvm⟩:=aQ.len;obtain ⟨Am,cm,rfl,hmc,hmm⟩:=hom.len;have fU:=qrg S 5;obtain ⟨vl,hvv⟩:=ex1 (vecL S 5);obtain ⟨ml,f8⟩:=ex1 (qez S 5);rw [← hvv] at k0 aQ hvc fU;rw [← f8] at k1 hom hmc;have HVV:=hid hvv;have dZ:=hid f8;have hmlen:ml.length≤5005:=by rw [f8];exact qkh S 5
 have HVL:=hid fU;rw [fU] at k0 aQ hvc;have henv0:=FormEnd.start aU k0 k1 aQ hom;clear aU k0 k1 aQ hom hvv f8 fU;go_wp2_with fail;go_loopw [49] (fun _ wr=>∃ n:Nat,n≤5∧trim (vl.take n)=trim vl∧FormEnd S w wr Av cv Am cm vl ml n) (fun _ wr=>match wr.cell? ⟨w.heap.size+1+1,0,none⟩ with | some (.slice _ n _)=>n | _=>0)
 case atStart=>exact ⟨5,Nat.le_refl _,by rw [← HVL.out,List.take_length],henv0⟩
 clear henv0;obtain ⟨n,hn,ht,aU⟩:=hrel;have HT:=hid ht;have HN:=hid hn;clear ht;have k0:=aU.k0;have z0:=aU.z0;have HE:=hid aU;have hncv:n≤cv:=by omega
 clear aU
 by_cases hn0:n=0
 ·have ep:decide ((0:Int) < n)=false:=decide_eq_false (by omega)
  have ep2:decide (0 < n)=false:=decide_eq_false (by omega);have HTT:=hid (show trim vl=vl.take n by rw [← HT.out,hn0];rfl);clear hn0;go_wp2_with fail;obtain ⟨wc,aS⟩:=ex1 wr.drew;have hec:=HE.out.ext (show Ext wr wc by rw [aS];exact (Ext.refl _).drew);have j0:=hec.k0;have j1:=hec.k1;have r0:=hec.r0;have r1:=hec.r1;have y0:=hec.y0;have y1:=hec.y1;have hdo:=hec.done HVL.out HN.out HTT.out HVV.out dZ.out;obtain ⟨bb,ae⟩:=ex1 (decide (ml.length≤60));have eI:decide ((ml.length:Int)≤60)=bb:=by rw [ae,decide_eq_decide];omega
  have dJ:=hid ae;have HDO:=hid hdo;clear k0 z0 hec hdo ae;refine wp_region_held_drew (S:=fun w'=>w'.cell? ⟨w.heap.size+1+1,0,none⟩=some (.slice Av n cv)∧w'.cell? ⟨w.heap.size+1+1,1,none⟩=some (.slice Am ml.length cm)) (by kernel_rfl) (by rw [← aS];exact ⟨j0,j1⟩) (fun hHeld=>?_);rw [← aS] at hHeld ⊢;clear aS;refine tkA 0 _ rfl ?_;(try simp only [gq,pq]);refine tkA 1 _ rfl ?_;(try simp only [gq,pq]);refine tkA 2 _ rfl ?_;(try simp only [gq,pq]);refine tkA 3 _ rfl ?_;(try simp only [gq,pq]);refine tkA 4 _ rfl ?_;(try simp only [gq,pq]);refine rd1 5 rfl fun K hK=>?_;simp only [gq];go_simp;obtain ⟨f0,f1,hik,al,i0,i1⟩:=HDO.out;refine hK.out _ _ ⟨i0,i1⟩ (fun hHeld=>?_);clear hK K;(try simp only [pq]);refine tkA 6 _ rfl ?_;(try simp only [gq,pq]);refine wpAnyH_done (by kernel_rfl) ?_ _;go_wp2_with fail;refine bodyPost_ret (v:=.tuple #[.agg #[.slice Av n cv,.slice Am ml.length cm],.bool bb]) (qw8 (b:=w.heap.size+1) rfl rfl f0 f1) rfl ⟨_,?_,hik,al⟩
  rw [dJ.out,dZ.out];rfl
 have hl5:=HVL.out;obtain ⟨b,off,rfl,_,g0⟩:=(HE.out.ov.sl 0).int (i:=n - 1) (by omega);have hk:n - 1 < vl.length:=by omega
 have HL:=hid hk;have HK:=hid (show n - 1+1=n by omega);generalize hy:vl[n - 1]=y at g0;have HY:=hid hy;have en:((n:Int) - 1)=((n - 1:Nat):Int):=by omega
 have ez:(0:Int)≤((n - 1:Nat):Int):=by omega
 have el:((n - 1:Nat):Int) < n:=by omega
 have ec:((n - 1:Nat):Int)≤cv:=by omega
 have ep:decide ((0:Int) < n)=true:=decide_eq_true (by omega);have ep2:decide (0 < n)=true:=decide_eq_true (by omega);have HN0:=hid hn0;clear hl5 hk hy
 by_cases h0:y=0
 ·have HTT:=hid (show trim (vl.take (n - 1))=trim vl by
   have h:=qtg HL.out (HY.out.trans h0);rw [HK.out] at h;rw [← h];exact HT.out)
  subst h0;clear hn0;go_wp2_with fail;go_roundw
  case rel=>exact ⟨n - 1,by have:=HN.out;omega,HTT.out,HE.out.cut (n - 1)⟩
  case measure=>
   rw [(HE.out.cut (n - 1)).k0,HE.out.k0];have:=HN0.out;show n - 1 < n;omega
 have h0':(y==0)=false:=beq_eq_false_iff_ne.2 h0;have HTT:=hid (show trim vl=vl.take n by
  have h:=qte HL.out (fun e=>h0 (HY.out.symm.trans e));rw [HK.out] at h;rw [← HT.out];exact h)
 clear h0 hn0;go_wp2_with fail;obtain ⟨wc,aS⟩:=ex1 wr.drew;have hec:=HE.out.ext (show Ext wr wc by rw [aS];exact (Ext.refl _).drew);have j0:=hec.k0;have j1:=hec.k1;have r0:=hec.r0;have r1:=hec.r1;have y0:=hec.y0;have y1:=hec.y1;have hdo:=hec.done HVL.out HN.out HTT.out HVV.out dZ.out;obtain ⟨bb,ae⟩:=ex1 (decide (ml.length≤60));have eI:decide ((ml.length:Int)≤60)=bb:=by rw [ae,decide_eq_decide];omega
 have dJ:=hid ae;have HDO:=hid hdo;clear k0 z0 hec hdo ae;refine wp_region_held_drew (S:=fun w'=>w'.cell? ⟨w.heap.size+1+1,0,none⟩=some (.slice (some ⟨b,off,none⟩) n cv)∧w'.cell? ⟨w.heap.size+1+1,1,none⟩=some (.slice Am ml.length cm)) (by kernel_rfl) (by rw [← aS];exact ⟨j0,j1⟩) (fun hHeld=>?_);rw [← aS] at hHeld ⊢;clear aS;refine tkA 0 _ rfl ?_;(try simp only [gq,pq]);refine tkA 1 _ rfl ?_;(try simp only [gq,pq]);refine tkA 2 _ rfl ?_;(try simp only [gq,pq]);refine tkA 3 _ rfl ?_;(try simp only [gq,pq]);refine tkA 4 _ rfl ?_;(try simp only [gq,pq]);refine rd1 5 rfl fun K hK=>?_;simp only [gq];go_simp;obtain ⟨f0,f1,hik,al,i0,i1⟩:=HDO.out;refine hK.out _ _ ⟨i0,i1⟩ (fun hHeld=>?_);clear hK K;(try simp only [pq]);refine tkA 6 _ rfl ?_;(try simp only [gq,pq]);refine wpAnyH_done (by kernel_rfl) ?_ _;go_wp2_with fail;refine bodyPost_ret (v:=.tuple #[.agg #[.slice (some ⟨b,off,none⟩) n cv,.slice Am ml.length cm],.bool bb]) (qw8 (b:=w.heap.size+1) rfl rfl f0 f1) rfl ⟨_,?_,hik,al⟩
 rw [dJ.out,dZ.out];rfl
theorem qy1 (S:DSet) (w:World) :
  Calls Tryz.prog 159 #[.agg (rowD S)] w fun e w'=>∃ x,e=.returned (.tuple #[x,.int .i64 (qbm (qb2 S))])∧IsK 0 w' x (qcs (qb2 S))∧Ext w w':=by
 have hx:=((Ext.refl w).alloc (.cells (rowD S) 184)).alloc (.cells #[.slice none 0 0,.slice none 0 0] 101);have aG:=(Blk.new w 184 (rowD S)).alloc (.cells #[.slice none 0 0,.slice none 0 0] 101);go_enter Tryz.func159, Tryz.ntmps159;go_wp2_with ((with_reducible refine qap (o:=⟨some 7,_,_,_,_,_⟩) qc8 _ rfl rfl rfl aG (qad _) ?_));refine (qw5 S _).mono ?_;rintro e w3 ⟨x,rfl,hk,aM⟩;have HK:=hid hk;obtain ⟨Av,cv,Am,cm,rfl,k1,k2,k3,k4,bZ⟩:=hk;have r0:w3.cell? ⟨w.heap.size+1,0,none⟩=some (.slice none 0 0):=aM.cell (by go_simp);have r1:w3.cell? ⟨w.heap.size+1,1,none⟩=some (.slice none 0 0):=aM.cell (by go_simp);have y0:w3.frozen? ⟨w.heap.size+1,0,none⟩=false:=(aM.frozenAt (by simp)).trans (by go_simp);have y1:w3.frozen? ⟨w.heap.size+1,1,none⟩=false:=(aM.frozenAt (by simp)).trans (by go_simp);have t0:tyAt w3 (w.heap.size+1)=some 101:=by
  rw [qep (aM.blockAt (by simp))];have:=heap_alloc_new (w.alloc (.cells (rowD S) 184)) (.cells #[.slice none 0 0,.slice none 0 0] 101);rw [World.size_alloc] at this;unfold tyAt;rw [this]
 have aD:w.heap.size+1 < w3.heap.size:=World.block_lt_of_cell? _ _ r0;have HX:=hid (hx.trans aM);obtain ⟨f,hf⟩:=ex1 (qb2 S);rw [← hf] at bZ k1 k3 HK;have HFF:=hid hf;rw [← hf];clear hf;clear hx aM aG;have HT0:=hid t0;have HIN:=hid bZ;clear t0 bZ
 by_cases hm:f.more.length≤60
 ·have HE:=hid (show qbm f=0 from if_pos hm)
  have HF:=hid (show qcs f=f from if_pos hm);have hd:decide (f.more.length≤60)=true:=decide_eq_true hm;clear hm;go_wp2_with fail;refine bodyPost_ret (v:=.tuple #[.agg #[.slice Av f.vec.length cv,.slice Am f.more.length cm],.int .i64 0]) ?_ rfl ⟨.agg #[.slice Av f.vec.length cv,.slice Am f.more.length cm],by rw [← HFF.out,HE.out],?_,?_⟩
  ·refine qq2 (b:=w.heap.size+1) rfl rfl ?_ ?_ <;> go_simp
  ·rw [← HFF.out,HF.out]
   exact ⟨Av,cv,Am,cm,rfl,k1,k2,k3,k4,(HIN.out.chg (((Chg.refl (ts:=[101]) _).setCell (p:=⟨w.heap.size+1,0,none⟩) HT0.out (by simp) _ (Nat.zero_le _)).setCell (p:=⟨w.heap.size+1,1,none⟩) (qiz HT0.out) (by simp) _ (Nat.zero_le _)) (by decide) (by decide)).ext ((Ext.refl _).alloc _)⟩
  exact ((HX.out.setCell (by dsimp only;omega) _).setCell (by dsimp only;omega) _).alloc _
 have HE:=hid (show qbm f=2 from if_neg hm);have HF:=hid (show qcs f=⟨[],[]⟩ from if_neg hm);have hd:decide (f.more.length≤60)=false:=decide_eq_false hm;clear hm;go_wp2_with fail;refine bodyPost_ret (v:=.tuple #[.agg #[.slice none 0 0,.slice none 0 0],.int .i64 2]) ?_ rfl ⟨.agg #[.slice none 0 0,.slice none 0 0],by rw [← HFF.out,HE.out],?_,?_⟩
 ·refine qq2 (b:=w.heap.size+1) rfl rfl ?_ ?_ <;> go_simp
 ·rw [← HFF.out,HF.out]
  exact IsK.empty
 exact ((HX.out.setCell (by dsimp only;omega) _).setCell (by dsimp only;omega) _).alloc _
end Go.Proofs.YtngbfdogiciahaaGreat
