/- Texts joined. -/
import Derived.Laws.OwnMore
import Derived.Laws.IdiomCopy
import Derived.Test.YtngbfdogiciahaaGreatJoinShelfC
import Derived.Lib.AppendZerosOnto
import Derived.Lib.Overlaps
set_option maxRecDepth 100000
set_option maxHeartbeats 40000000
namespace Go.Proofs.YtngbfdogiciahaaGreat
open Go Go.RowKit
def setL:List Value→Nat→List Value→List Value
 | l,_,[]=>l
 | l,o,v::r=>setL (l.set o v) (o+1) r
theorem qfh:∀ (Y P X S:List Value),X.length=Y.length→setL (P++(X++S)) P.length Y=P++(Y++S)
 | [],P,X,S,h=>by rw [List.eq_nil_of_length_eq_zero h];rfl
 | y::Y,P,x::X,S,h=>by
  have:=qfh Y (P++[y]) X S (by simpa using h);rw [setL,List.cons_append,List.set_append_right _ _ (Nat.le_refl _),Nat.sub_self,List.set_cons_zero];rw [List.length_append,List.length_singleton,List.append_assoc] at this;rw [show P++y::(X++S)=P++([y]++(X++S)) from rfl,this];simp
theorem qnz {sz:Nat}:∀ (xs:List (List Value)),(∀ cs∈xs,cs.length=sz)→xs.flatten.length=xs.length*sz
 | [],_=>by simp
 | x::r,h=>by
  rw [List.flatten_cons,List.length_append,h x (by simp),qnz r (fun c hc=>h c (by simp [hc])),List.length_cons,Nat.succ_mul,Nat.add_comm]
section
variable {w:World} {base n cap g:Nat} {e:TypeId} {sz:Nat}
theorem qc2:∀ (vs:List Value) (o:Nat) (w:World) (xs:List Value),w.ownsRow base e sz (.slice (some ⟨g,0,none⟩) n cap) n xs→(w.setCells g o vs).ownsRow base e sz (.slice (some ⟨g,0,none⟩) n cap) n (setL xs o vs)∧w.grownBy (w.setCells g o vs) (some g)
 | [],o,w,xs,h=>⟨h,World.grownBy.refl w _⟩
 | v::r,o,w,xs,h=>by
  obtain ⟨h1,g1⟩:=h.stored o v;obtain ⟨h2,g2⟩:=qc2 r (o+1) _ _ h1;exact ⟨h2,g1.trans g2⟩
theorem jea {α:Type} {l:List α} {n:Nat} (h:n≤l.length):∃ x y,l=x++y∧x.length=n:=⟨l.take n,l.drop n,(List.take_append_drop _ _).symm,by rw [List.length_take];omega⟩
theorem jag {α:Type} {R:World→List Value→α→Prop} {v:Value} {P M S:List α} {x y:α} (h:Own R sz e w base v (P++x::(M++y::S))) :
  ∃ (XP:List (List Value)) (X:List Value) (XM:List (List Value)) (Y:List Value) (XS:List (List Value)),XP.length=P.length∧XM.length=M.length∧XS.length=S.length∧
   (∀ (i:Nat) (cs:List Value) (z:α),(XP++X::(XM++Y::XS))[i]?=some cs→(P++x::(M++y::S))[i]?=some z→cs.length=sz∧R w cs z)∧w.ownsRow base e sz v (P++x::(M++y::S)).length (XP++X::(XM++Y::XS)).flatten:=by
 obtain ⟨xs,hx,hR,ho⟩:=h;simp only [List.length_append,List.length_cons] at hx;obtain ⟨XP,r1,rfl,h1⟩:=jea (l:=xs) (n:=P.length) (by omega);rw [List.length_append] at hx
 match r1,hx with
 | X::r2,hx=>
  simp only [List.length_cons] at hx;obtain ⟨XM,r3,rfl,h2⟩:=jea (l:=r2) (n:=M.length) (by omega);rw [List.length_append] at hx
  match r3,hx with
  | Y::XS,hx=>
   simp only [List.length_cons] at hx;exact ⟨XP,X,XM,Y,XS,h1,h2,by omega,hR,ho⟩
  | [],hx=>exact absurd hx (by simp;omega)
 | [],hx=>exact absurd hx (by simp;omega)
theorem qhc {α:Type} (P:List α) (x:α) (S:List α):(P++x::S)[P.length]?=some x:=by simp
theorem qfc {α:Type} (P:List α) (x:α) (M:List α) (y:α) (S:List α):(P++x::(M++y::S))[P.length+1+M.length]?=some y:=by
 rw [List.getElem?_append_right (by omega),show P.length+1+M.length - P.length=M.length+1 by omega,List.getElem?_cons_succ];simp
theorem jdv {α β:Type} {P M S:List α} {x y:α} {XP XM XS:List β} {X Y:β} (h1:XP.length=P.length) (h2:XM.length=M.length) {Q:β→α→Prop}
  (h:∀ (i:Nat) (cs:β) (z:α),(XP++X::(XM++Y::XS))[i]?=some cs→(P++x::(M++y::S))[i]?=some z→Q cs z) :
  ∀ (i:Nat) (cs:β) (z:α),(XP++Y::(XM++X::XS))[i]?=some cs→(P++y::(M++x::S))[i]?=some z→Q cs z:=by
 have hX:Q X x:=h P.length X x (by rw [← h1];exact qhc _ _ _) (qhc _ _ _);have hY:Q Y y:=h (P.length+1+M.length) Y y (by rw [← h1,← h2];exact qfc _ _ _ _ _) (qfc _ _ _ _ _);intro i cs z hc hz
 by_cases e1:i=P.length
 ·subst e1
  rw [qhc] at hz;rw [← h1,qhc] at hc;injection hz with hz;injection hc with hc;subst hz hc;exact hY
 by_cases e2:i=P.length+1+M.length
 ·subst e2
  rw [qfc] at hz;rw [← h1,← h2,qfc] at hc;injection hz with hz;injection hc with hc;subst hz hc;exact hX
 refine h i cs z ?_ ?_
 ·rw [← hc]
  rcases Nat.lt_or_ge i P.length with g | g
  ·rw [List.getElem?_append_left (by omega),List.getElem?_append_left (by omega)]
  obtain ⟨k,rfl⟩:∃ k,i=P.length+1+k:=⟨i - P.length - 1,by omega⟩
  rw [← h1,List.getElem?_append_right (by omega),List.getElem?_append_right (by omega),show XP.length+1+k - XP.length=k+1 by omega,List.getElem?_cons_succ,List.getElem?_cons_succ];rcases Nat.lt_or_ge k M.length with g2 | g2
  ·rw [List.getElem?_append_left (by omega),List.getElem?_append_left (by omega)]
  obtain ⟨j,rfl⟩:∃ j,k=M.length+1+j:=⟨k - M.length - 1,by omega⟩
  rw [← h2,List.getElem?_append_right (by omega),List.getElem?_append_right (by omega),show XM.length+1+j - XM.length=j+1 by omega,List.getElem?_cons_succ,List.getElem?_cons_succ]
 rw [← hz];rcases Nat.lt_or_ge i P.length with g | g
 ·rw [List.getElem?_append_left (by omega),List.getElem?_append_left (by omega)]
 obtain ⟨k,rfl⟩:∃ k,i=P.length+1+k:=⟨i - P.length - 1,by omega⟩
 rw [List.getElem?_append_right (by omega),List.getElem?_append_right (by omega),show P.length+1+k - P.length=k+1 by omega,List.getElem?_cons_succ,List.getElem?_cons_succ];rcases Nat.lt_or_ge k M.length with g2 | g2
 ·rw [List.getElem?_append_left (by omega),List.getElem?_append_left (by omega)]
 obtain ⟨j,rfl⟩:∃ j,k=M.length+1+j:=⟨k - M.length - 1,by omega⟩
 rw [List.getElem?_append_right (by omega),List.getElem?_append_right (by omega),show M.length+1+j - M.length=j+1 by omega,List.getElem?_cons_succ,List.getElem?_cons_succ]
theorem qw4 {α:Type} {R:World→List Value→α→Prop} {B:Nat} (m:Mono B [e] R) (hB:B≤base) {P M S:List α} {x y:α} {c:Nat}
  (h:Own R sz e w base (.slice (some ⟨g,0,none⟩) (P++x::(M++y::S)).length c) (P++x::(M++y::S))) :
  ∃ X Y:List Value,X.length=sz∧Y.length=sz∧R w X x∧R w Y y∧CellsAt w g (P.length*sz) X∧CellsAt w g ((P.length+1+M.length)*sz) Y∧(∀ o,w.frozen? ⟨g,o,none⟩=false)∧
   (Own R sz e ((w.setCells g (P.length*sz) Y).setCells g ((P.length+1+M.length)*sz) X) base (.slice (some ⟨g,0,none⟩) (P++y::(M++x::S)).length c) (P++y::(M++x::S))∧w.grownBy ((w.setCells g (P.length*sz) Y).setCells g ((P.length+1+M.length)*sz) X) (some g))∧
   (Own R sz e ((w.setCells g ((P.length+1+M.length)*sz) X).setCells g (P.length*sz) Y) base (.slice (some ⟨g,0,none⟩) (P++y::(M++x::S)).length c) (P++y::(M++x::S))∧w.grownBy ((w.setCells g ((P.length+1+M.length)*sz) X).setCells g (P.length*sz) Y) (some g)):=by
 obtain ⟨XP,X,XM,Y,XS,h1,h2,h3,hR,ho⟩:=jag h;have hX:=hR P.length X x (by rw [← h1];exact qhc _ _ _) (qhc _ _ _);have hY:=hR (P.length+1+M.length) Y y (by rw [← h1,← h2];exact qfc _ _ _ _ _) (qfc _ _ _ _ _);have bL:∀ cs∈XP++X::(XM++Y::XS),cs.length=sz:=by
  intro cs bK;obtain ⟨i,hi,rfl⟩:=List.getElem_of_mem bK;exact (hR i _ _ (List.getElem?_eq_getElem hi) (List.getElem?_eq_getElem (by simp only [List.length_append,List.length_cons] at hi ⊢;omega))).1
 have hlP:XP.flatten.length=P.length*sz:=by rw [qnz XP (fun cs hc=>bL cs (by simp [hc])),h1]
 have hlM:XM.flatten.length=M.length*sz:=by rw [qnz XM (fun cs hc=>bL cs (by simp [hc])),h2]
 have ag:(P++x::(M++y::S)).length=(P++y::(M++x::S)).length:=by simp
 have fl:∀ U V:List Value,(XP++U::(XM++V::XS)).flatten=XP.flatten++(U++(XM.flatten++(V++XS.flatten))):=fun U V=>by simp
 have hsw:=jdv (P:=P) (M:=M) (S:=S) (x:=x) (y:=y) (XP:=XP) (XM:=XM) (XS:=XS) (X:=X) (Y:=Y) h1 h2 (Q:=fun cs z=>cs.length=sz∧R w cs z) hR;have cell:∀ i cs,(XP++X::(XM++Y::XS))[i]?=some cs→CellsAt w g (i*sz) cs:=by
  intro i cs hi j u hj;have hjs:j < sz:=by
   have:=(List.getElem?_eq_some_iff.1 hj).1;rw [bL cs (List.mem_of_getElem? hi)] at this;exact this
  have:=ho.cells (g:=g) rfl (i*sz+j) u (by rw [qhb sz _ bL i j cs hi hjs];exact hj);have e1:(⟨g,0,none⟩:Addr).add (i*sz+j)=⟨g,i*sz+j,none⟩:=by unfold Addr.add;split <;> simp_all
  rwa [e1] at this
 have hfz:∀ o,w.frozen? ⟨g,o,none⟩=false:=by
  intro o;rcases h.at_ with ⟨h',_⟩ | ⟨g',c',h',_,_,_,hf,_⟩
  ·simp at h'
  injection h' with h' _ _;injection h' with h';injection h' with h' _ _;subst h';exact hf o
 have fin:∀ w' zs,w'.ownsRow base e sz (.slice (some ⟨g,0,none⟩) (P++x::(M++y::S)).length c) (P++x::(M++y::S)).length zs→zs=(XP++Y::(XM++X::XS)).flatten→w.grownBy w' (some g)→Own R sz e w' base (.slice (some ⟨g,0,none⟩) (P++y::(M++x::S)).length c) (P++y::(M++x::S)):=by
  intro w' zs hz hzs hg;have ah:Chg B [e] w w':=h.chg_of hB hg;rw [ag,hzs] at hz;exact ⟨XP++Y::(XM++X::XS),by simp only [List.length_append,List.length_cons];omega,fun i cs z a b=>⟨(hsw i cs z a b).1,m _ _ _ _ ah (hsw i cs z a b).2⟩,hz⟩
 rw [fl] at ho;refine ⟨X,Y,hX.1,hY.1,hX.2,hY.2,?_,?_,hfz,?_,?_⟩
 ·rw [← h1];exact cell _ _ (qhc _ _ _)
 ·rw [← h1,← h2];exact cell _ _ (qfc _ _ _ _ _)
 ·obtain ⟨a1,g1⟩:=qc2 Y (P.length*sz) w _ ho
  rw [← hlP,qfh Y _ X _ (by rw [hX.1,hY.1])] at a1;obtain ⟨a2,g2⟩:=qc2 X ((P.length+1+M.length)*sz) _ _ a1;have e1:(P.length+1+M.length)*sz=(XP.flatten++(Y++XM.flatten)).length:=by
   rw [List.length_append,List.length_append,hlP,hlM,hY.1,Nat.add_mul,Nat.add_mul];omega
  rw [show XP.flatten++(Y++(XM.flatten++(Y++XS.flatten)))=(XP.flatten++(Y++XM.flatten))++(Y++XS.flatten) by simp,e1,qfh X _ Y _ (by rw [hX.1,hY.1])] at a2;rw [← hlP,e1];rw [← hlP] at g1;exact ⟨fin _ _ a2 (by rw [fl];simp) (g1.trans (by rw [e1] at g2;exact g2)),g1.trans (by rw [e1] at g2;exact g2)⟩
 have e1:(P.length+1+M.length)*sz=(XP.flatten++(X++XM.flatten)).length:=by
  rw [List.length_append,List.length_append,hlP,hlM,hX.1,Nat.add_mul,Nat.add_mul];omega
 have aR:=ho;rw [show XP.flatten++(X++(XM.flatten++(Y++XS.flatten)))=(XP.flatten++(X++XM.flatten))++(Y++XS.flatten) by simp] at aR;obtain ⟨a1,g1⟩:=qc2 X ((P.length+1+M.length)*sz) w _ aR;rw [e1,qfh X _ Y _ (by rw [hX.1,hY.1])] at a1;rw [show (XP.flatten++(X++XM.flatten))++(X++XS.flatten)=XP.flatten++(X++(XM.flatten++(X++XS.flatten))) by simp] at a1;obtain ⟨a2,g2⟩:=qc2 Y (P.length*sz) _ _ a1;rw [← hlP,qfh Y _ X _ (by rw [hX.1,hY.1])] at a2;rw [e1,← hlP];rw [e1] at g1;exact ⟨fin _ _ a2 (by rw [fl]) (g1.trans (by rw [← hlP] at g2;exact g2)),g1.trans (by rw [← hlP] at g2;exact g2)⟩
end
section
variable {P:Program}
theorem qkm (w:World) (dT sT ty elem:TypeId) (b o dLen dCap:Nat) (a:Addr) (sLen sCap sz n:Nat) (cs:List Value)
  (hu:P.underlying dT=some (.slice elem)) (hs:(P.info? elem).map (·.size)=some sz) (hn:Nat.min sLen dLen=n) (hl:cs.length=n*sz)
  (hsrc:∀ j v,cs[j]?=some v→w.cell? (a.add j)=some v) (hc:∀ j,j < cs.length→(w.cell? ⟨b,o+j,none⟩).isSome=true) (hf:∀ j,j < cs.length→w.frozen? ⟨b,o+j,none⟩=false) (h1:∀ v∈cs,v.oneCell'=true) :
  (Builtin.copy_ #[dT,sT] ty #[.slice (some ⟨b,o,none⟩) dLen dCap,.slice (some a) sLen sCap]).run P w=.ok (goInt n) (w.setCells b o cs):=by
 have hlo:=run_loadCells_list (P:=P) w a cs hsrc;have hst:=run_storeCells_cells (P:=P) b o cs 0 w (by simpa using hc) (by simpa using hf) h1
 cases hq:P.info? elem with
 | none=>simp [hq] at hs
 | some i=>
  have hi:i.size=sz:=by simpa [hq] using hs
  rw [hl] at hlo;simp [Builtin.copy_,run_underlying hu,Builtin.lenOf,Builtin.firstCells,sizeOf,typeInfo,hq,hi,hn,hlo,hst]
theorem qwp {o:Oper} {a:Act} (w:World) {Q:Exit→Act→World→Prop} {K:Act→World→Prop} (d s:Operand) (t t':TypeId)
  (ho:o.op=.call { callee:=.builtin .copy,args:=#[d,s],argTypes:=#[t,t'] }) (v u:Value) (hd:a.eval d=v) (hs:a.eval s=u) {v':Value} {w':World}
  (hr:(Builtin.copy_ #[t,t'] o.type #[v,u]).run P w=.ok v' w') (h:K (a.put o.dst v') w'):o.wp P a w K Q:=by
 unfold Oper.wp execOp;simp only [ho,resolve,invoke,builtin,Sem.run_bind,Sem.run_pure,Result.andThen_ok,List.map_toArray,List.map_cons,List.map_nil,hd,hs,hr];exact h
theorem qin (w:World) {ops:Array Oper} {rest:List Oper} {o:Oper} {a:Act} {Q:Exit→Act→World→Prop} (hgd:o.guard=none) (d s:Operand) (t t':TypeId)
  (ho:o.op=.call { callee:=.builtin .copy,args:=#[d,s],argTypes:=#[t,t'] }) (v u:Value) (hd:a.eval d=v) (hs:a.eval s=u) {v':Value} {w':World}
  (hr:(Builtin.copy_ #[t,t'] o.type #[v,u]).run P w=.ok v' w') (h:wpList P ops Q rest (a.put o.dst v') w'):wpList P ops Q (o::rest) a w:=
 wpList_plain hgd fun _ hK=>qwp w d s t t' ho v u hd hs hr (hK _ _ h)
theorem qq6 {ops:Array Oper} {o:Oper} {a:Act} {w:World} {K:Act→World→Prop} {Q:Exit→Act→World→Prop} {E:Prop}
  (hg:o.guard=none) (d x:Operand) (dT sT:TypeId) (hop:o.op=Op.call { callee:=Callee.builtin Builtin.copy,args:=#[d,x],argTypes:=#[dT,sT] })
  (v u:Value) (hd:a.eval d=v) (hx:a.eval x=u) {v':Value} {w':World} (hr:(Builtin.copy_ #[dT,sT] o.type #[v,u]).run P w=.ok v' w') (hK:K (a.put o.dst v') w') :
  if Region.wanted o (yielded ops a.tmps)=true then Oper.wp P o a w K Q else E:=by
 have hw:Region.wanted o (yielded ops a.tmps)=true:=by simp [Region.wanted,hg]
 rw [if_pos hw];exact qwp w d x dT sT hop v u hd hx hr hK
theorem jfs {o:Oper} {a:Act} (w:World) {Q:Exit→Act→World→Prop} {K:Act→World→Prop} (d s:Operand) (t t':TypeId)
  (ho:o.op=.call { callee:=.builtin .append,args:=#[d,s],argTypes:=#[t,t'] }) (v u:Value) (hd:a.eval d=v) (hs:a.eval s=u) {v':Value} {w':World}
  (hr:(Builtin.append_ #[t,t'] o.type #[v,u]).run P w=.ok v' w') (h:K (a.put o.dst v') w'):o.wp P a w K Q:=by
 unfold Oper.wp execOp;simp only [ho,resolve,invoke,builtin,Sem.run_bind,Sem.run_pure,Result.andThen_ok,List.map_toArray,List.map_cons,List.map_nil,hd,hs,hr];exact h
theorem qv9 (w:World) {ops:Array Oper} {rest:List Oper} {o:Oper} {a:Act} {Q:Exit→Act→World→Prop} (hgd:o.guard=none) (d s:Operand) (t t':TypeId)
  (ho:o.op=.call { callee:=.builtin .append,args:=#[d,s],argTypes:=#[t,t'] }) (v u:Value) (hd:a.eval d=v) (hs:a.eval s=u) {v':Value} {w':World}
  (hr:(Builtin.append_ #[t,t'] o.type #[v,u]).run P w=.ok v' w') (h:wpList P ops Q rest (a.put o.dst v') w'):wpList P ops Q (o::rest) a w:=
 wpList_plain hgd fun _ hK=>jfs w d s t t' ho v u hd hs hr (hK _ _ h)
end
section
variable {w:World} {base n c g:Nat} {e:TypeId} {sz:Nat} {xs:List Value}
theorem jah (h:w.ownsRow base e sz (.slice (some ⟨g,0,none⟩) n c) n xs) (hc:n+1≤c):∃ E:List Value,E.length=sz∧w.ownsRow base e sz (.slice (some ⟨g,0,none⟩) (n+1) c) (n+1) (xs++E):=by
 obtain ⟨hl,h⟩:=h;rcases h with ⟨h,_⟩ | ⟨g',c',cur,hv,hb,hg,h1,h2,h3,h4⟩
 ·cases h
 injection hv with hA _ eW;subst eW;have hm:(n+1)*sz=n*sz+sz:=by rw [Nat.succ_mul]
 have cZ:(n+1)*sz≤cur.toList.length:=by rw [Array.length_toList,h3];exact Nat.mul_le_mul_right _ hc
 have e1:xs++(cur.toList.take ((n+1)*sz)).drop (n*sz)=cur.toList.take ((n+1)*sz):=by
  have:=List.take_append_drop (n*sz) (cur.toList.take ((n+1)*sz));rw [List.take_take,Nat.min_eq_left (by omega),h4] at this;exact this
 refine ⟨(cur.toList.take ((n+1)*sz)).drop (n*sz),by rw [List.length_drop,List.length_take];omega,?_,.inr ⟨g',c,cur,by rw [hA],hb,hg,hc,h2,h3,e1.symm⟩⟩;rw [e1,List.length_take];omega
theorem qsm (h:w.ownsRow base e sz (.slice (some ⟨g,0,none⟩) n c) n xs) (j:Nat) (u:Value) (hj:xs[j]?=some u):w.cell? ⟨g,j,none⟩=some u:=by
 have:=h.cells (g:=g) rfl j u hj;have e1:(⟨g,0,none⟩:Addr).add j=⟨g,j,none⟩:=by unfold Addr.add;split <;> simp_all
 rwa [e1] at this
theorem qhg (h:w.ownsRow base e sz (.slice (some ⟨g,0,none⟩) n c) n xs) {j:Nat} (hj:j < n*sz):(w.cell? ⟨g,j,none⟩).isSome=true:=by
 rw [qsm h j (xs[j]'(by rw [h.1];exact hj)) (List.getElem?_eq_getElem _)];rfl
theorem qqx (h:w.ownsRow base e sz (.slice (some ⟨g,0,none⟩) n c) n xs) (o:Nat):w.frozen? ⟨g,o,none⟩=false:=by
 obtain ⟨_,h⟩:=h;rcases h with ⟨h,_⟩ | ⟨g',c',cur,hv,hb,hg,_⟩
 ·cases h
 injection hv with hA;injection hA with hA;injection hA with hA;subst hA;simp [World.frozen?,hg]
theorem qxv (h:w.ownsRow base e sz (.slice (some ⟨g,0,none⟩) n c) n xs):w.shape? g=some (e,c*sz):=by
 obtain ⟨_,h⟩:=h;rcases h with ⟨h,_⟩ | ⟨g',c',cur,hv,hb,hg,_,_,h3,_⟩
 ·cases h
 injection hv with hA _ eW;injection hA with hA;injection hA with hA;subst hA eW;unfold World.shape?;rw [hg];simp [h3]
theorem jcx {E X:List Value} {i:Nat} (h:w.ownsRow base e sz (.slice (some ⟨g,0,none⟩) (n+1) c) (n+1) (xs++E)) (hxs:xs.length=n*sz) (hE:E.length=sz) (hX:X.length=sz) (hi:i < n) :
  ((w.setCells g ((i+1)*sz) (xs.drop (i*sz))).setCells g (i*sz) X).ownsRow base e sz (.slice (some ⟨g,0,none⟩) (n+1) c) (n+1) (xs.take (i*sz)++(X++xs.drop (i*sz)))∧
  (w.setCells g ((i+1)*sz) (xs.drop (i*sz))).ownsRow base e sz (.slice (some ⟨g,0,none⟩) (n+1) c) (n+1) (xs.take (i*sz)++((xs.drop (i*sz)).take sz++xs.drop (i*sz)))∧
  w.grownBy ((w.setCells g ((i+1)*sz) (xs.drop (i*sz))).setCells g (i*sz) X) (some g):=by
 have hm:(i+1)*sz=i*sz+sz:=by rw [Nat.succ_mul]
 have hm2:(i+1)*sz≤n*sz:=Nat.mul_le_mul_right _ hi;obtain ⟨a1,g1⟩:=qc2 (xs.drop (i*sz)) ((i+1)*sz) w _ h;have e1:xs++E=(xs.take (i*sz)++(xs.drop (i*sz)).take sz)++(((xs.drop (i*sz)).drop sz++E)++[]):=by
  rw [List.append_nil,← List.append_assoc,List.append_assoc (xs.take (i*sz)),List.take_append_drop,List.take_append_drop]
 have hl1:(xs.take (i*sz)++(xs.drop (i*sz)).take sz).length=(i+1)*sz:=by
  rw [List.length_append,List.length_take,List.length_take,List.length_drop];omega
 rw [e1,← hl1,qfh _ _ _ _ (by rw [List.length_append,List.length_drop,hE,List.length_drop];omega),hl1] at a1;rw [List.append_nil,List.append_assoc] at a1;obtain ⟨a2,g2⟩:=qc2 X (i*sz) _ _ a1;have hl2:(xs.take (i*sz)).length=i*sz:=by rw [List.length_take];omega
 have e2:=qfh X (xs.take (i*sz)) ((xs.drop (i*sz)).take sz) (xs.drop (i*sz)) (by rw [List.length_take,List.length_drop,hX];omega);rw [hl2] at e2;rw [e2] at a2;exact ⟨a2,a1,g1.trans g2⟩
theorem jex {W:World} {N G:Nat} {Z X:List Value} {i:Nat} (h:W.ownsRow base e sz (.slice (some ⟨N,0,none⟩) (n+1) G) (n+1) (xs.take (i*sz)++Z)) (hxs:xs.length=n*sz) (hZ:Z.length=(n+1 - i)*sz) (hX:X.length=sz) (hi:i < n) :
  (W.setCells N (i*sz) X).ownsRow base e sz (.slice (some ⟨N,0,none⟩) (n+1) G) (n+1) (xs.take (i*sz)++(X++Z.drop sz))∧
  ((W.setCells N (i*sz) X).setCells N ((i+1)*sz) (xs.drop (i*sz))).ownsRow base e sz (.slice (some ⟨N,0,none⟩) (n+1) G) (n+1) (xs.take (i*sz)++(X++xs.drop (i*sz))):=by
 have hm:(i+1)*sz=i*sz+sz:=by rw [Nat.succ_mul]
 have hm2:(i+1)*sz≤n*sz:=Nat.mul_le_mul_right _ hi;have hm3:(n+1 - i)*sz+i*sz=n*sz+sz:=by rw [← Nat.add_mul,show n+1 - i+i=n+1 by omega,Nat.succ_mul]
 obtain ⟨a1,_⟩:=qc2 X (i*sz) W _ h;have hl2:(xs.take (i*sz)).length=i*sz:=by rw [List.length_take];omega
 have e1:xs.take (i*sz)++Z=xs.take (i*sz)++(Z.take sz++Z.drop sz):=by rw [List.take_append_drop]
 have e2:=qfh X (xs.take (i*sz)) (Z.take sz) (Z.drop sz) (by rw [List.length_take,hX];omega);rw [hl2] at e2;rw [e1,e2] at a1;obtain ⟨a2,_⟩:=qc2 (xs.drop (i*sz)) ((i+1)*sz) _ _ a1;have e3:=qfh (xs.drop (i*sz)) (xs.take (i*sz)++X) (Z.drop sz) [] (by rw [List.length_drop,List.length_drop];omega);rw [List.append_nil,List.append_nil,List.length_append,hl2,hX,← hm,List.append_assoc,List.append_assoc] at e3;rw [e3] at a2;exact ⟨a1,a2⟩
end
theorem qdy (g:Nat):∀ (vs:List Value) (o:Nat) (w w2:World),w.heap=w2.heap→(w.setCells g o vs).heap=(w2.setCells g o vs).heap
 | [],_,_,_,h=>h
 | v::r,o,w,w2,h=>by
  rw [World.setCells,World.setCells];refine qdy g r (o+1) _ _ ?_;unfold World.setCell;rw [h]
theorem qxu {w w2:World} {base n:Nat} {e:TypeId} {sz:Nat} {v:Value} {xs:List Value} (h:w.heap=w2.heap) (k:w.ownsRow base e sz v n xs):w2.ownsRow base e sz v n xs:=by
 unfold World.ownsRow at k ⊢;rw [← h];exact k
theorem Sl.ofBlkX {α:Type} {R:World→List Value→α→Prop} {B sz:Nat} {e:TypeId} {w:World} {b:Nat} {cs:Array Value} {x:α} (h:Blk w b e cs) (hl:cs.size=sz) (hR:R w cs.toList x):Sl B e R sz w (some ⟨b,0,none⟩) [x]:=by
 intro i y hi
 match i,hi with
 | 0,hi=>
  simp at hi;subst hi;exact ⟨b,0,cs.toList,rfl,h.lt,.inr h.ty,by simp [hl],fun j u hj=>by rw [Nat.zero_mul,Nat.zero_add];exact h.cell (by rwa [Array.getElem?_toList] at hj),hR⟩
theorem jcw {α β:Type} {Q:β→α→Prop} {X:β} {x:α} {xs:List β} {l:List α} {i:Nat} (hl:xs.length=l.length) (hi:i≤l.length) (hX:Q X x) (h:∀ (k:Nat) (cs:β) (y:α),xs[k]?=some cs→l[k]?=some y→Q cs y) :
  ∀ (k:Nat) (cs:β) (y:α),(xs.take i++X::xs.drop i)[k]?=some cs→(l.take i++x::l.drop i)[k]?=some y→Q cs y:=by
 intro k cs y h1 h2;have l1:(xs.take i).length=i:=by rw [List.length_take];omega
 have l2:(l.take i).length=i:=by rw [List.length_take];omega
 rcases Nat.lt_trichotomy k i with g | g | g
 ·rw [List.getElem?_append_left (by omega),List.getElem?_take,if_pos g] at h1 h2
  exact h k cs y h1 h2
 ·subst g
  rw [List.getElem?_append_right (by omega),l1,Nat.sub_self] at h1;rw [List.getElem?_append_right (by omega),l2,Nat.sub_self] at h2;simp at h1 h2;subst h1 h2;exact hX
 obtain ⟨j,rfl⟩:∃ j,k=i+1+j:=⟨k - i - 1,by omega⟩
 rw [List.getElem?_append_right (by omega),l1,show i+1+j - i=j+1 by omega,List.getElem?_cons_succ,List.getElem?_drop] at h1;rw [List.getElem?_append_right (by omega),l2,show i+1+j - i=j+1 by omega,List.getElem?_cons_succ,List.getElem?_drop] at h2;exact h (i+j) cs y h1 h2
theorem qpo {α:Type} {sz:Nat}:∀ (xs:List (List α)) (i:Nat),(∀ cs∈xs,cs.length=sz)→i≤xs.length→(xs.take i).flatten=xs.flatten.take (i*sz)∧(xs.drop i).flatten=xs.flatten.drop (i*sz)
 | xs,0,_,_=>by simp
 | [],i+1,_,h=>by simp at h
 | x::r,i+1,hl,h=>by
  obtain ⟨a,b⟩:=qpo r i (fun c hc=>hl c (by simp [hc])) (by simpa using h);have hx:=hl x (by simp);rw [Nat.succ_mul,Nat.add_comm (i*sz) sz];refine ⟨?_,?_⟩
  ·rw [List.take_succ_cons,List.flatten_cons,List.flatten_cons,List.take_append,a,hx,Nat.add_sub_cancel_left,List.take_of_length_le (l:=x) (by omega)]
  rw [List.drop_succ_cons,List.flatten_cons,List.drop_append,b,hx,Nat.add_sub_cancel_left,show x.drop (sz+i*sz)=[] from List.drop_eq_nil_of_le (by omega),List.nil_append]
theorem qwn:(Tryz.prog.info? 151).map (·.size)=some 8:=by kernel_rfl
theorem qzn:(Tryz.prog.info? 151).map (fun i=>(i.zero,i.size,i.bytes))=some (some (.agg #[.string ⟨#[]⟩,.int .i64 0,.int .i64 0,.int .i64 0,.int .i64 0,.int .i64 0,.slice none 0 0,.slice none 0 0]),8,104):=by kernel_rfl
theorem qpq (B base:Nat) (v:Value) (l:List Version) (i:Nat) (x:Version) (X:List Value) (vb:Nat) (w:World) (hB:B≤base) (hb:base≤w.heap.size) (hl:l.length≤1000) (hi:i≤l.length) (ay:Own (RVer B) 8 151 w base v l)
  (hx:Blk w vb 151 X.toArray) (hX:X.length=8) (hR:RVer B w X x) (aV:∀ g,v.ownBlock=some g→g≠vb) :
  Calls Tryz.prog 155 #[v,.int .i64 (i:Int),.slice (some ⟨vb,0,none⟩) 1 1] w fun e w'=>∃ v',e=.returned v'∧Own (RVer B) 8 151 w' base v' (l.take i++x::l.drop i)∧Below base w w':=by
 have aN:qb6 B w (some ⟨vb,0,none⟩) [x]:=Sl.ofBlkX hx (by simp [hX]) (by simpa using hR);have h1X:∀ u∈X,u.oneCell'=true:=RVer.oneC _ _ _ hR;obtain ⟨A,c,rfl,hlc,hcm⟩:=ay.len
 by_cases bZ:i=l.length
 ·subst bZ
  have HT:=hid (show l.take l.length++x::l.drop l.length=l++[x] by simp)
  cases A with
  | none=>
   rcases ay.at_ with ⟨hv,rfl⟩ | ⟨g,c',hv,_⟩
   ·injection hv with _ _ hv
    subst hv;go_enter Tryz.func155, Tryz.ntmps155;go_wp2_with (at_builtin;refine qaf (ys:=[x]) (c:=1) (B:=B) rfl _ _ rfl qfr rfl ay hB hb rfl aN RVer.oneC (RVer.mono (by decide) (by decide)) (by simp [maxLen]) (by simp) ?_;intro v5 w5 bJ bj au dd);go_ret;exact ⟨v5,rfl,bJ,au⟩
   cases hv
  | some a=>
   rcases ay.at_ with ⟨hv,_⟩ | ⟨g,c',hv,an,hgw,_⟩
   ·cases hv
   ·injection hv with hA _ eW
    injection hA with hA;subst hA eW;have bD:(l.length:Int)≤(c:Int):=by omega
    go_enter Tryz.func155, Tryz.ntmps155
    by_cases hcl2:c=l.length
    focus
     subst hcl2
    rotate_left
    focus
     have hne1:¬ (c:Int)=(l.length:Int):=by omega
    all_goals
     go_wp2_with (at_builtin;refine qaf (ys:=[x]) (c:=1) (B:=B) rfl _ _ rfl qfr rfl ay hB hb rfl aN RVer.oneC (RVer.mono (by decide) (by decide)) (by simp [maxLen];omega) (by simp;omega) ?_;intro v5 w5 bJ bj au dd);go_ret;exact ⟨v5,rfl,by first | exact bJ | (rw [HT.out];exact bJ),au⟩
 have HSelf:=hid (fun w' (hg:w.grownBy w' (Value.slice A l.length c).ownBlock)=>(show Chg B [151] w w'∧Below base w w' from ⟨ay.chg_of hB hg,ay.below_of hg hb⟩));obtain ⟨xs,aK,hxR,ho⟩:=ay;have aD:i < l.length:=by omega
 have bL:∀ cs∈xs,cs.length=8:=by
  intro cs bK;obtain ⟨k,hk,rfl⟩:=List.getElem_of_mem bK;exact (hxR k _ _ (List.getElem?_eq_getElem hk) (List.getElem?_eq_getElem (by omega))).1
 have h1c:∀ u∈xs.flatten,u.oneCell'=true:=by
  intro u hu;obtain ⟨cs,bK,hu⟩:=List.mem_flatten.1 hu;obtain ⟨k,hk,rfl⟩:=List.getElem_of_mem bK;exact RVer.oneC _ _ _ (hxR k _ _ (List.getElem?_eq_getElem hk) (List.getElem?_eq_getElem (by omega))).2 u hu
 obtain ⟨g,rfl,an,hgw⟩:∃ g,A=some ⟨g,0,none⟩∧base≤g∧g < w.heap.size:=by
  rcases ho.2 with ⟨_,hn⟩ | ⟨g,c',cur,hv,an,hg,_⟩
  ·omega
  injection hv with hA;exact ⟨g,hA,an,(Array.getElem?_eq_some_iff.1 hg).1⟩
 have hgv:g≠vb:=aV g rfl;have dO:xs.flatten.length=l.length*8:=ho.1;obtain ⟨hft,hfd⟩:=qpo xs i bL (by omega);have HFlat:=hid (show (xs.take i++X::xs.drop i).flatten=xs.flatten.take (i*8)++(X++xs.flatten.drop (i*8)) by rw [List.flatten_append,List.flatten_cons,hft,hfd]);have am:=hid (show (xs.take i++X::xs.drop i).length=(l.take i++x::l.drop i).length∧(l.take i++x::l.drop i).length=l.length+1 by simp only [List.length_append,List.length_cons,List.length_take,List.length_drop];omega);have HGet:=hid (fun (w':World) (hx':Mono B [151] (RVer B)) (hc':Chg B [151] w w')=>jcw (Q:=fun cs y=>cs.length=8∧RVer B w' cs y) (X:=X) (x:=x) (xs:=xs) (l:=l) (i:=i) aK (by omega) ⟨hX,hx' _ _ _ _ hc' hR⟩ (fun k cs y a b=>⟨(hxR k cs y a b).1,hx' _ _ _ _ hc' (hxR k cs y a b).2⟩));have HFin:=hid (fun (w':World) (N G:Nat) (hc':Chg B [151] w w') (ho':w'.ownsRow base 151 8 (.slice (some ⟨N,0,none⟩) (l.length+1) G) (l.length+1) (xs.flatten.take (i*8)++(X++xs.flatten.drop (i*8))))=>show Own (RVer B) 8 151 w' base (.slice (some ⟨N,0,none⟩) (l.length+1) G) (l.take i++x::l.drop i) from ⟨xs.take i++X::xs.drop i,am.out.1,HGet.out w' (RVer.mono (by decide) (by decide)) hc',by rw [am.out.2,HFlat.out];exact ho'⟩)
 obtain ⟨cs,bK⟩:=ex1 xs.flatten;rw [← bK] at ho h1c dO HFin;have HCS:=hid bK;clear bK;clear HGet am HFlat hft hfd hxR bL aN hR;obtain ⟨n,hn⟩:=ex1 l.length;rw [← hn] at ho dO HFin hlc aD hl;rw [← hn];have HN:=hid hn;clear bZ hi aK hn;have mixed:Tryz.prog.follows .mixedOrders=true:=by kernel_rfl
 have hz2:¬ ((i:Int)=(n:Int)):=by omega
 have bZ:i≤n:=by omega
 have dP:IntKind.i64.wrap ((i:Int)+1)=(i:Int)+1:=by rw [IntKind.wrap_i64];omega
 have aX:(0:Int)≤(i:Int)+1:=by omega
 have htn:((i:Int)+1).toNat=i+1:=by omega
 have hci:¬ (c=i):=by omega
 have hdl:(cs.drop (i*8)).length=(n - i)*8:=by rw [List.length_drop,dO,Nat.sub_mul]
 have hXc:∀ j u,X[j]?=some u→w.cell? ⟨vb,j,none⟩=some u:=fun j u h=>hx.cell (by rw [List.getElem?_toArray];exact h);have hCc:∀ j u,cs[j]?=some u→w.cell? ⟨g,j,none⟩=some u:=fun j u h=>qsm ho j u h
 by_cases hroom:n+1≤c
 ·obtain ⟨E,hE,hom⟩:=jah ho hroom
  obtain ⟨r1,r2,r3⟩:=jcx (w:=w.drew) hom dO hE hX aD;have hsa:w.shape? vb=some (151,X.length):=by unfold World.shape?;rw [hx];simp
  have hsb:=qxv ho;have aQ:∀ lb cb,(callFunc 194 #[.slice (some ⟨vb,0,none⟩) 1 1,.slice (some ⟨g,(i+1)*8,none⟩) lb cb]).run Tryz.prog w=.ok (.value (.bool false)) w:=fun lb cb=>by
   rw [run_callFunc_extern Tryz.func194 (by kernel_rfl) (by kernel_rfl) (by kernel_rfl) (e:=Extern.SlicesOverlaps.overlaps #[48,48] #[4]) (by kernel_rfl),
    Lib.run_overlaps_apart w 48 4 151 Tryz.underlying48 8 (fun w=>by kernel_rfl) ⟨vb,0,none⟩ ⟨g,(i+1)*8,none⟩ 1 1 lb cb (fun e=>hgv e.symm) 151 151 X.length (c*8) hsa hsb (by omega) (hx.frozen _) (hx.frozen _)]
   rfl
  have hroomI:¬ ((c:Int) < (n:Int)+1):=by omega
  have hcp1:∀ ty dc sc,(Builtin.copy_ #[48,48] ty #[.slice (some ⟨g,(i+1)*8,none⟩) (n - i) dc,.slice (some ⟨g,i*8,none⟩) (n+1 - i) sc]).run Tryz.prog w.drew=.ok (goInt ((n - i:Nat):Int)) (w.drew.setCells g ((i+1)*8) (cs.drop (i*8))):=fun ty dc sc=>
   qkm w.drew _ _ ty 151 g ((i+1)*8) (n - i) dc ⟨g,i*8,none⟩ (n+1 - i) sc 8 (n - i) (cs.drop (i*8)) Tryz.underlying48 qwn (by simp only [Nat.min_def];split <;> omega) hdl
    (fun j u hj=>by rw [Addr.add_lit];exact hCc (i*8+j) u (by rwa [List.getElem?_drop] at hj))
    (fun j hj=>by rw [hdl] at hj;exact qhg hom (by omega)) (fun j hj=>qqx ho _) (fun u hu=>h1c u (List.mem_of_mem_drop hu))
  obtain ⟨W1,hW1⟩:=ex1 (w.drew.setCells g ((i+1)*8) (cs.drop (i*8)));have hW1':=hid hW1;rw [← hW1] at hcp1 r1 r2 r3;have hvW:∀ j u,X[j]?=some u→W1.cell? ⟨vb,j,none⟩=some u:=fun j u h=>by
   rw [hW1,World.cell?_setCells_out g _ _ _ _ (fun h _=>absurd h.symm hgv)];exact hXc j u h
  have hcp2:∀ ty dc,(Builtin.copy_ #[48,48] ty #[.slice (some ⟨g,i*8,none⟩) (n+1 - i) dc,.slice (some ⟨vb,0,none⟩) 1 1]).run Tryz.prog W1=.ok (goInt ((1:Nat):Int)) (W1.setCells g (i*8) X):=fun ty dc=>
   qkm W1 _ _ ty 151 g (i*8) (n+1 - i) dc ⟨vb,0,none⟩ 1 1 8 1 X Tryz.underlying48 qwn (by simp only [Nat.min_def];split <;> omega) (by rw [hX])
    (fun j u hj=>by rw [Addr.add_lit,Nat.zero_add];exact hvW j u hj)
    (fun j hj=>qhg r2 (by omega)) (fun j hj=>qqx r2 _) h1X
  have aI:¬ (c=i+1):=by omega
  have aL:(i:Int)≤(n:Int)+1:=by omega
  clear hXc hCc hW1 r2 hom hE;go_enter Tryz.func155, Tryz.ntmps155;go_wp2_with (simp only [aQ]);go_region_law_o (refine qq6 rfl _ _ 48 48 rfl _ _ (by simp [Act.eval,Act.put]) (by simp [Act.eval,Act.put]) (hcp1 _ _ _) ?_);go_wp2_with (at_builtin;refine qin _ rfl _ _ 48 48 rfl _ _ rfl rfl (hcp2 _ _) ?_);go_ret;have cJ:w.grownBy (W1.setCells g (i*8) X) (some g):=⟨r3.os,r3.tape,r3.output,r3.size,r3.block⟩
  obtain ⟨ah,dr⟩:=HSelf.out _ cJ;exact ⟨.slice (some ⟨g,0,none⟩) (n+1) c,rfl,by first | exact HFin.out _ g c ah r1 | (have:=HFin.out _ g c ah r1;rw [hW1'.out] at this;exact this),by first | exact dr | (rw [hW1'.out] at dr;exact dr)⟩
 obtain ⟨i0,hi0,hz0,hzs,hzb⟩:∃ i0,Tryz.prog.info? 151=some i0∧i0.zero=some (.agg #[.string ⟨#[]⟩,.int .i64 0,.int .i64 0,.int .i64 0,.int .i64 0,.int .i64 0,.slice none 0 0,.slice none 0 0])∧i0.size=8∧i0.bytes=104:=by
  have:=qzn
  cases h:Tryz.prog.info? 151 with
  | none=>rw [h] at this;cases this
  | some i0=>
   rw [h] at this;simp only [Option.map_some,Option.some.injEq,Prod.mk.injEq] at this;exact ⟨i0,rfl,this.1,this.2.1,this.2.2⟩
 have hz3:(c:Int) < (n:Int)+1:=by omega
 have f7:(n:Int)+1 - (i:Int)=((n+1 - i:Nat):Int):=by omega
 have hik:i+(n+1 - i)=n+1:=by omega
 have hold:(Builtin.firstCells i0.size i (.slice (some ⟨g,0,none⟩) i c)).run Tryz.prog w.drew=.ok (cs.take (i*8)).toArray w.drew:=by
  rw [hzs];exact run_firstCells_some w.drew 8 i ⟨g,0,none⟩ i c (cs.take (i*8)) (by rw [List.length_take];omega) (fun j u hj=>by
   rw [Addr.add_lit,Nat.zero_add];rw [List.getElem?_take] at hj;split at hj
   ·exact hCc j u hj
   cases hj)
 obtain ⟨G,hG⟩:=ex1 (grownCap w (n+1) c 151);have hGn:n+1≤G:=by rw [hG];exact grownCap_ge w _ _ _
 have hGm:G≤maxLen:=by rw [hG];exact grownCap_le_maxLen w (n+1) c _ (by unfold maxLen;omega)
 obtain ⟨ROW,hROW⟩:∃ ROW:Array Value,ROW=(cs.take (i*8)).toArray++Builtin.zeroCells (.agg #[.string ⟨#[]⟩,.int .i64 0,.int .i64 0,.int .i64 0,.int .i64 0,.int .i64 0,.slice none 0 0,.slice none 0 0]:Value).cells (n+1 - i)++Builtin.zeroCells (.agg #[.string ⟨#[]⟩,.int .i64 0,.int .i64 0,.int .i64 0,.int .i64 0,.int .i64 0,.slice none 0 0,.slice none 0 0]:Value).cells (G - (n+1)):=⟨_,rfl⟩
 have hrz:∀ ty,(Builtin.append_ #[48,3] ty #[.slice (some ⟨g,0,none⟩) i c,.int .i64 ((n:Int)+1 - (i:Int))]).run Tryz.prog w=.ok (.slice (some ⟨w.heap.size,0,none⟩) (n+1) G) (w.drew.alloc (.cells ROW 151)):=fun ty=>by
  have h:=Lib.run_append_grow_zeros w 48 3 ty 151 i0 _ .i64 .i64 Tryz.underlying48 Tryz.underlying3 hi0 hz0 (some ⟨g,0,none⟩) i c (cs.take (i*8)) hold (n+1 - i) (by omega) (by omega) (by omega) (by omega) (by rw [hzb];omega) (by rw [hzb,hik];exact growslice_fits (by omega) (by omega));rw [hik,← hG,← hROW] at h;rw [f7];exact h
 have hzc:(.agg #[.string ⟨#[]⟩,.int .i64 0,.int .i64 0,.int .i64 0,.int .i64 0,.int .i64 0,.slice none 0 0,.slice none 0 0]:Value).cells.size=8:=rfl;have hZ1:(Builtin.zeroCells (.agg #[.string ⟨#[]⟩,.int .i64 0,.int .i64 0,.int .i64 0,.int .i64 0,.int .i64 0,.slice none 0 0,.slice none 0 0]:Value).cells (n+1 - i)).toList.length=(n+1 - i)*8:=by rw [qdk,hzc]
 have hZ2:(Builtin.zeroCells (.agg #[.string ⟨#[]⟩,.int .i64 0,.int .i64 0,.int .i64 0,.int .i64 0,.int .i64 0,.slice none 0 0,.slice none 0 0]:Value).cells (G - (n+1))).toList.length=(G - (n+1))*8:=by rw [qdk,hzc]
 have hP:(cs.take (i*8)).length=i*8:=by rw [List.length_take];omega
 have hRL:ROW.toList=(cs.take (i*8)++(Builtin.zeroCells (.agg #[.string ⟨#[]⟩,.int .i64 0,.int .i64 0,.int .i64 0,.int .i64 0,.int .i64 0,.slice none 0 0,.slice none 0 0]:Value).cells (n+1 - i)).toList)++(Builtin.zeroCells (.agg #[.string ⟨#[]⟩,.int .i64 0,.int .i64 0,.int .i64 0,.int .i64 0,.int .i64 0,.slice none 0 0,.slice none 0 0]:Value).cells (G - (n+1))).toList:=by rw [hROW];simp
 have hRs:ROW.size=G*8:=by
  rw [← Array.length_toList,hRL,List.length_append,List.length_append,hZ1,hZ2,hP];omega
 obtain ⟨Z,hZ⟩:=ex1 ((Builtin.zeroCells (.agg #[.string ⟨#[]⟩,.int .i64 0,.int .i64 0,.int .i64 0,.int .i64 0,.int .i64 0,.slice none 0 0,.slice none 0 0]:Value).cells (n+1 - i)).toList);rw [← hZ] at hZ1 hRL;obtain ⟨W1,hW1⟩:=ex1 (w.drew.alloc (.cells ROW 151));have hoW:W1.ownsRow base 151 8 (.slice (some ⟨w.heap.size,0,none⟩) (n+1) G) (n+1) (cs.take (i*8)++Z):=by
  refine ⟨by rw [List.length_append,hP,hZ1];omega,.inr ⟨w.heap.size,G,ROW,rfl,hb,by rw [hW1];exact heap_alloc_new w.drew _,hGn,hGm,hRs,?_⟩⟩;rw [hRL];exact List.take_left' (by rw [List.length_append,hP,hZ1];omega)
 obtain ⟨n1,n2⟩:=jex (W:=W1) (xs:=cs) hoW dO hZ1 hX aD;have hxW:Ext w W1:=by rw [hW1];exact (Ext.refl w).drew.alloc _
 have hgN:g≠w.heap.size:=by omega
 have hvW:∀ j u,X[j]?=some u→W1.cell? ⟨vb,j,none⟩=some u:=fun j u h=>hxW.cell (hXc j u h);have hcpA:∀ (W:World),(∀ x,W.cell? x=W1.cell? x)→(∀ x,W.frozen? x=W1.frozen? x)→∀ ty dc,(Builtin.copy_ #[48,48] ty #[.slice (some ⟨w.heap.size,i*8,none⟩) (n+1 - i) dc,.slice (some ⟨vb,0,none⟩) 1 1]).run Tryz.prog W=.ok (goInt ((1:Nat):Int)) (W.setCells w.heap.size (i*8) X):=fun W hWc hWf ty dc=>
  qkm W _ _ ty 151 w.heap.size (i*8) (n+1 - i) dc ⟨vb,0,none⟩ 1 1 8 1 X Tryz.underlying48 qwn (by simp only [Nat.min_def];split <;> omega) (by rw [hX])
   (fun j u hj=>by rw [Addr.add_lit,Nat.zero_add,hWc];exact hvW j u hj)
   (fun j hj=>by rw [hWc];exact qhg hoW (by omega)) (fun j hj=>by rw [hWf];exact qqx hoW _) h1X
 have hcpB:∀ (W:World),(∀ x,W.cell? x=(W1.setCells w.heap.size (i*8) X).cell? x)→(∀ x,W.frozen? x=(W1.setCells w.heap.size (i*8) X).frozen? x)→∀ ty dc sc,(Builtin.copy_ #[48,48] ty #[.slice (some ⟨w.heap.size,(i+1)*8,none⟩) (n - i) dc,.slice (some ⟨g,i*8,none⟩) (n - i) sc]).run Tryz.prog W=.ok (goInt ((n - i:Nat):Int)) (W.setCells w.heap.size ((i+1)*8) (cs.drop (i*8))):=fun W hWc hWf ty dc sc=>
  qkm W _ _ ty 151 w.heap.size ((i+1)*8) (n - i) dc ⟨g,i*8,none⟩ (n - i) sc 8 (n - i) (cs.drop (i*8)) Tryz.underlying48 qwn (by simp only [Nat.min_def];split <;> omega) hdl
   (fun j u hj=>by
    rw [Addr.add_lit,hWc,World.cell?_setCells_out w.heap.size _ _ _ _ (fun h _=>absurd h hgN)];exact hxW.cell (hCc (i*8+j) u (by rwa [List.getElem?_drop] at hj)))
   (fun j hj=>by rw [hWc];rw [hdl] at hj;exact qhg n1 (by omega)) (fun j hj=>by rw [hWf];exact qqx n1 _) (fun u hu=>h1c u (List.mem_of_mem_drop hu))
 have hGi:¬ (G=i):=by omega
 have hGi1:¬ (G=i+1):=by omega
 have hGiI:¬ ((G:Int)=(i:Int)+1):=by omega
 have hG63:(G:Int)≤9223372036854775807:=by unfold maxLen at hGm;omega
 have hGb:(i:Int)+1≤(n:Int)+1:=by omega
 have HW1:=hid hW1;rw [hW1] at hcpA hcpB;have hE1:∀ x,((w.alloc (.cells ROW 151)).drew).cell? x=(w.drew.alloc (.cells ROW 151)).cell? x:=fun x=>rfl;have hE2:∀ x,((w.alloc (.cells ROW 151)).drew).frozen? x=(w.drew.alloc (.cells ROW 151)).frozen? x:=fun x=>rfl;have hF1:∀ x,(((w.alloc (.cells ROW 151)).drew.setCells w.heap.size (i*8) X).drew).cell? x=((w.drew.alloc (.cells ROW 151)).setCells w.heap.size (i*8) X).cell? x:=fun x=>rfl;have hF2:∀ x,(((w.alloc (.cells ROW 151)).drew.setCells w.heap.size (i*8) X).drew).frozen? x=((w.drew.alloc (.cells ROW 151)).setCells w.heap.size (i*8) X).frozen? x:=fun x=>rfl;clear f7 hik hold hROW hG hRL hRs hzc hZ1 hZ2 hP hZ hoW n1 hvW hXc hCc hW1;go_enter Tryz.func155, Tryz.ntmps155;go_wp2_with (first
  | (at_builtin;refine qv9 _ rfl _ _ _ _ rfl _ _ rfl rfl (hrz _) ?_)
  | (at_builtin;refine qin _ rfl _ _ 48 48 rfl _ _ rfl rfl (hcpA _ hE1 hE2 _ _) ?_)
  | (at_builtin;refine qin _ rfl _ _ 48 48 rfl _ _ rfl rfl (hcpB _ (fun _=>rfl) (fun _=>rfl) _ _ _) ?_))
 go_region_law_o (refine qq6 rfl _ _ 48 48 rfl (.slice (some ⟨w.heap.size,(i+1)*8,none⟩) (n - i) (G - (i+1))) (.slice (some ⟨g,i*8,none⟩) (n - i) (c - i)) (by simp [Act.eval,Act.put]) (by simp [Act.eval,Act.put]) (hcpB _ hF1 hF2 3 (G - (i+1)) (c - i)) ?_);go_wp2;go_ret;have hxF:Ext w ((((w.alloc (.cells ROW 151)).drew.setCells w.heap.size (i*8) X).drew).setCells w.heap.size ((i+1)*8) (cs.drop (i*8))):=qj5 (Ext.drew (qj5 (((Ext.refl w).alloc _).drew) (Nat.le_refl _) _ _)) (Nat.le_refl _) _ _;refine ⟨.slice (some ⟨w.heap.size,0,none⟩) (n+1) G,rfl,HFin.out _ w.heap.size G (Chg.of_ext hxF) (qxu ?_ n2),Below.mono hxF hb⟩;rw [HW1.out];exact qdy _ _ _ _ _ (qdy _ _ _ _ _ rfl)
end Go.Proofs.YtngbfdogiciahaaGreat
