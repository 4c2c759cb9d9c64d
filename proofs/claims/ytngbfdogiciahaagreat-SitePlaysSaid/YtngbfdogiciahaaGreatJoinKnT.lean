/- Texts joined. -/
import Derived.Test.YtngbfdogiciahaaGreatKnM
set_option maxRecDepth 100000
set_option maxHeartbeats 40000000
namespace Go.Proofs.YtngbfdogiciahaaGreat
open Go Go.RowKit
def qbm (k:Know):Int:=if k.more.length≤60 then 0 else 2
def qcs (k:Know):Know:=if k.more.length≤60 then k else ⟨[],[]⟩
theorem qwa {w:World} {v:Value} {b:Nat} {x y:Value} {tmps:Array Value} (h4:tmps.getD 2 undef=.pointer (some ⟨b,0,none⟩)) (h5:tmps.getD 3 undef=v) (c1:w.cell? ⟨b,0,none⟩=some x) (c2:w.cell? ⟨b,1,none⟩=some y) :
  (results Tryz.f241 tmps).run Tryz.prog w=.ok (.tuple #[.agg #[x,y],v]) w:=by
 have h4':tmps[2]?.getD undef=.pointer (some ⟨b,0,none⟩):=by simpa using h4
 have h5':tmps[3]?.getD undef=v:=by simpa using h5
 simp [results,Tryz.results241,go_sem,h4',h5',c1,c2]
theorem qh2 {P:Program} {α:Type} {R:World→List Value→α→Prop} {t e:TypeId} {sz bytes base B B':Nat} {w:World} {v:Value} {l ys:List α} {A:Option Addr} {c:Nat} {o:Oper} {a:Act} {K:Act→World→Prop} {Q:Exit→Act→World→Prop} (s x:Operand)
  (ho:o.op=.call { callee:=.builtin .append,args:=#[s,x],argTypes:=#[t,t] }) (ei:ElemInfo P t e sz bytes)
  (hs:a.eval s=v) (ay:Own R sz e w base v l) (hB:B≤base) (hb:base≤w.heap.size) {e':TypeId} (hx:a.eval x=.slice A ys.length c) (bW:Sl B' e' R sz w A ys) (h1:OneC R) (m:Mono B [e] R)
  (cO:l.length+ys.length≤maxLen) (cI:(l.length+ys.length)*bytes≤140737488355328)
  (h:∀ v' w',Own R sz e w' base v' (l++ys)→Chg B [e] w w'→Below base w w'→w.grownBy w' v.ownBlock→K (a.put o.dst v') w'):o.wp P a w K Q:=by
 obtain ⟨v',w',hr,h2,h3,h4,h5⟩:=quy (P:=P) (t:=t) (ty:=o.type) (c:=c) ei ay hB hb bW h1 m cO cI;unfold Oper.wp execOp;simp only [ho,resolve,invoke,builtin,Sem.run_bind,Sem.run_pure,Result.andThen_ok,List.map_toArray,List.map_cons,List.map_nil,hs,hx,hr];exact h _ _ h2 h4 h5 h3
theorem qiz {w:World} {b i:Nat} {u:Value} {t:TypeId} (h:tyAt w b=some t):tyAt (w.setCell ⟨b,i,none⟩ u) b=some t:=by
 unfold tyAt at h ⊢
 cases hb:w.heap[b]? with
 | none=>rw [hb] at h;cases h
 | some o=>
  rw [hb] at h
  cases o <;> simp at h
  simp [World.setCell,Array.getElem?_modify,hb,h]
theorem Own.sl {α:Type} {R:World→List Value→α→Prop} {sz:Nat} {e:TypeId} {w:World} {base n c:Nat} {A:Option Addr} {l:List α} (B:Nat) (h:Own R sz e w base (.slice A n c) l):Sl B e R sz w A l:=by
 obtain ⟨A',c',hv,_,_,hs⟩:=h.isSl B;injection hv with h1 _ _;rw [h1];exact hs
theorem qo8 (B:Nat) (v:Value) (k:Know) (w:World) (h:IsK B w v k) :
  Calls Tryz.prog 241 #[v] w fun e w'=>∃ x,e=.returned (.tuple #[x,.int .i64 (qbm k)])∧IsK B w' x (qcs k)∧Ext w w':=by
 obtain ⟨Av,cv,Am,cm,rfl,h1,h2,h3,h4,bZ⟩:=h
 by_cases hm:k.more.length≤60
 ·have HE:=hid (show qbm k=0 from if_pos hm)
  have HK:=hid (show qcs k=k from if_pos hm);have hm':decide ((60:Int) < k.more.length)=false:=decide_eq_false (by omega);clear hm;go_enter Tryz.func241, Tryz.ntmps241;go_wp2_with fail;refine bodyPost_ret (v:=.tuple #[.agg #[.slice Av k.vec.length cv,.slice Am k.more.length cm],.int .i64 0]) ?_ rfl ⟨.agg #[.slice Av k.vec.length cv,.slice Am k.more.length cm],by rw [HE.out],?_,?_⟩
  ·refine qwa (b:=w.heap.size+1) rfl rfl ?_ ?_ <;> go_simp
  ·rw [HK.out]
   exact ⟨Av,cv,Am,cm,rfl,h1,h2,h3,h4,bZ.ext (((Ext.refl w).alloc _).alloc _)⟩
  exact ((Ext.refl w).alloc _).alloc _
 have HE:=hid (show qbm k=2 from if_neg hm);have HK:=hid (show qcs k=⟨[],[]⟩ from if_neg hm);have hm':decide ((60:Int) < k.more.length)=true:=decide_eq_true (by omega);clear hm;go_enter Tryz.func241, Tryz.ntmps241;go_wp2_with fail;refine bodyPost_ret (v:=.tuple #[.agg #[.slice none 0 0,.slice none 0 0],.int .i64 2]) ?_ rfl ⟨.agg #[.slice none 0 0,.slice none 0 0],by rw [HE.out],?_,?_⟩
 ·refine qwa (b:=w.heap.size+1) rfl rfl ?_ ?_ <;> go_simp
 ·rw [HK.out]
  exact IsK.empty
 exact ((Ext.refl w).alloc _).alloc _
theorem qgj:qc0 Tryz.prog 181 3:=⟨⟨_,Tryz.underlying181,rfl⟩,by kernel_rfl⟩
theorem jfu:(#[.slice none 0 0,.slice none 0 0,.slice none 0 0]:Array Value).size=3:=rfl
theorem jbw:(#[.slice none 0 0,.slice none 0 0,.slice none 0 0]:Array Value).all (·.oneCell')=true:=by kernel_rfl
theorem qvb:qcm Tryz.prog 181 #[.slice none 0 0,.slice none 0 0,.slice none 0 0]:=fun w=>by kernel_rfl
theorem qs7 (B:Nat) (ob:Option Nat) (fn:FuncId) (cap:Array Value) (A:Option Addr) (c:Nat) (l:List Part) (p:Part→Bool) (w:World) (hl:l.length≤maxLen) (h:Sl B 181 (RPart B) 3 w A l)
  (hc:∀ (args:Array Value) (wn:World),(callFunc fn args).run Tryz.prog wn=.ok (.enter fn args) wn)
  (hf:∀ (k:Nat) (hk:k < l.length) (cs:List Value) (wn:World),w.grownBy wn ob→cs.length=3→(RPart B) wn cs l[k]→Calls Tryz.prog fn (#[.agg cs.toArray]++cap) wn fun e w'=>e=.returned (.bool (p l[k]))∧Ext wn w') :
  Calls Tryz.prog 201 #[.slice A l.length c,.func (.func fn) #[] cap] w fun e w'=>e=.returned (.int .i64 (qo5 p l))∧Ext w w':=by
 unfold maxLen at hl;have HF:=hid hf;clear hf;go_enter Tryz.func201, Tryz.ntmps201;go_wp2_with fail;go_loopw [8] (fun i wr=>∃ k:Nat,k≤l.length∧i=.int .i64 k∧(∀ q x,q < k→l[q]?=some x→p x=false)∧Ext w wr) (fun i _=>l.length - (intOf i).toNat)
 case atStart=>exact ⟨0,Nat.zero_le _,rfl,by intro q x hq;omega,Ext.refl _⟩
 obtain ⟨k,hk,rfl,hG,hx⟩:=hrel;have HG:=hid hG;clear hG
 by_cases aD:k < l.length
 ·obtain ⟨b,off,cs,rfl,hb,bD,bK,hR⟩:=(h.ext RPart.monoE hx).at_ aD
  have hr:wr.rangeAt b (off+k*3) cs:=bK;clear bK;go_wp2_with ((with_reducible refine qaa (o:=⟨some 15,_,_,_,_,_⟩) qgj _ rfl rfl rfl hr bD ?_));refine (HF.out k aD cs wr (qgr hx) bD hR).mono ?_;rintro e w1 ⟨rfl,aE⟩
  cases hp:p l[k]
  ·have HP:=hid hp
   clear hp;go_wp2_with fail;go_roundw
   case rel=>
    refine ⟨k+1,aD,by go_num,fun q x hq hxq=>?_,hx.trans aE⟩
    by_cases hqk:q=k
    ·subst hqk
     rw [List.getElem?_eq_getElem aD] at hxq;injection hxq with hxq;rw [← hxq];exact HP.out
    exact HG.out q x (by omega) hxq
   case measure=>simp [intOf];omega
  have HI:=hid (qvs aD hp HG.out);clear hp;go_wp2_with fail;go_ret;exact ⟨qa8 HI.out.symm,hx.trans aE⟩
 obtain rfl:k=l.length:=by omega
 have HI:=hid (qvr (p:=p) (l:=l) fun x hx=>by
  obtain ⟨q,hq⟩:=List.mem_iff_getElem?.1 hx;exact HG.out q x (List.getElem?_eq_some_iff.1 hq).1 hq)
 go_wp2_with fail;go_ret;exact ⟨qa8 HI.out.symm,hx⟩
theorem qrs (B:Nat) (ob:Option Nat) (fn:FuncId) (cap:Array Value) (A:Option Addr) (c:Nat) (l:List Part) (p:Part→Bool) (w:World) (hl:l.length≤maxLen) (h:Sl B 181 (RPart B) 3 w A l)
  (hc:∀ (args:Array Value) (wn:World),(callFunc fn args).run Tryz.prog wn=.ok (.enter fn args) wn)
  (hf:∀ (k:Nat) (hk:k < l.length) (cs:List Value) (wn:World),w.grownBy wn ob→cs.length=3→(RPart B) wn cs l[k]→Calls Tryz.prog fn (#[.agg cs.toArray]++cap) wn fun e w'=>e=.returned (.bool (p l[k]))∧Ext wn w') :
  Calls Tryz.prog 167 #[.slice A l.length c,.func (.func fn) #[] cap] w fun e w'=>e=.returned (.bool (l.any p))∧Ext w w':=by
 have HF:=hid hf;have HA:=hid (qzk (p:=p) (l:=l));clear hf;go_enter Tryz.func167, Tryz.ntmps167;go_wp2_with fail;refine (qs7 B ob fn cap A c l p _ hl h hc HF.out).mono ?_;rintro e w1 ⟨rfl,hx⟩;go_wp2_with fail;go_ret;exact ⟨qa7 HA.out,hx⟩
theorem qx4 (B base:Nat) (fn:FuncId) (cap:Array Value) (v:Value) (l:List Part) (p:Part→Bool) (w:World) (hB:B≤base) (hl:l.length≤1000000) (ay:Own (RPart B) 3 181 w base v l)
  (hc:∀ (args:Array Value) (wn:World),(callFunc fn args).run Tryz.prog wn=.ok (.enter fn args) wn)
  (hf:∀ (k:Nat) (hk:k < l.length) (cs:List Value) (wn:World),w.grownBy wn v.ownBlock→cs.length=3→(RPart B) wn cs l[k]→Calls Tryz.prog fn (#[.agg cs.toArray]++cap) wn fun e w'=>e=.returned (.bool (p l[k]))∧Ext wn w') :
  Calls Tryz.prog 185 #[v,.func (.func fn) #[] cap] w fun e w'=>∃ v',e=.returned v'∧Own (RPart B) 3 181 w' base v' (l.filter fun x=>!p x)∧w.grownBy w' v.ownBlock∧v'.ownBlock=v.ownBlock:=by
 have HF:=hid hf;have HB:=hid hB;clear hf hB;obtain ⟨A,c,rfl,hlc,hcm⟩:=ay.len;have hSl:=ay.sl B;have HOWN:=hid ay;clear ay;go_enter Tryz.func185, Tryz.ntmps185;go_wp2_with fail;refine (qs7 B (Value.slice A l.length c).ownBlock fn cap A c l p _ (by unfold maxLen;omega) hSl hc HF.out).mono ?_;rintro e w1 ⟨rfl,aE⟩;rcases qs6 p l with ⟨hi,hn⟩ | ⟨k0,hk0,hi,hp0,hn⟩
 ·rw [hi]
  have HN:=hid (show l.filter (fun x=>!p x)=l from List.filter_eq_self.2 fun x hx=>by rw [hn x hx];rfl);clear hi hn;go_wp2_with fail;go_ret;exact ⟨.slice A l.length c,rfl,by rw [HN.out];exact HOWN.out.ext RPart.monoE aE,qgr aE,rfl⟩
 rcases (HOWN.out.ext RPart.monoE aE).at_ with ⟨_,rfl⟩ | ⟨g,c',hv,_⟩
 ·simp at hk0
 injection hv with hA _ eW;subst hA eW;obtain ⟨an,bS,hat⟩:=(HOWN.out.ext RPart.monoE aE).rowAt;have HAT:=hid hat;have HL:=hid hl;have e5:=hid (qm4 hn);have HP0:=hid hp0;have HK0:=hid hk0;have HGB:=hid an;rw [hi];have k00:(0:Int)≤(k0:Int):=by omega
 have ei:((k0:Int)==-1)=false:=by rw [beq_eq_false_iff_ne];omega
 have ew:IntKind.i64.wrap ((k0:Int)+1)=((k0+1:Nat):Int):=by rw [IntKind.wrap_i64];omega
 clear hi hn hat;go_wp2_with fail;go_loopw [5,6] (fun i j wr=>∃ k:Nat,k≤l.length∧j=.int .i64 k∧i=.int .i64 ((l.take k).filter fun x=>!p x).length∧k0 < k∧RowOwn wr g 181 (c*3)∧(∀ q x,((l.take k).filter fun x=>!p x)[q]?=some x→At (RPart B) 3 wr g q x)∧(∀ q x,k≤q→l[q]?=some x→At (RPart B) 3 wr g q x)∧(∀ q x,l[q]?=some x→∃ y,At (RPart B) 3 wr g q y)∧w.grownBy wr (some g)) (fun _ j _=>l.length - (intOf j).toNat)
 case atStart=>
  refine ⟨k0+1,HK0.out,by go_num,?_,by omega,bS,?_,fun q x _ hq=>HAT.out q x hq,fun q x hq=>⟨x,HAT.out q x hq⟩,qgr aE⟩
  ·rw [qda _ l k0 HK0.out,e5.out,HP0.out]
   simp only [List.append_nil,List.length_take,Bool.not_true,Bool.false_eq_true,if_false];rw [Nat.min_eq_left (by have:=HK0.out;omega)]
  intro q x hq;rw [qda _ l k0 HK0.out,e5.out,HP0.out] at hq;simp only [List.append_nil,Bool.not_true,Bool.false_eq_true,if_false] at hq;rw [List.getElem?_take] at hq;split at hq
  ·exact HAT.out q x hq
  cases hq
 clear bS aE;obtain ⟨k,hk,rfl,rfl,f7,bS,hlow,hhigh,bL,cJ⟩:=hrel;have dO:=qpn (fun x=>!p x) l k;obtain ⟨i,hi⟩:=ex1 (((l.take k).filter fun x=>!p x).length);rw [← hi] at dO;rw [← hi];have HI:=hid hi;have HLow:=hid hlow;have e6:=hid hhigh;have aB:=hid bL;have dL:=hid bS;have HKK:=hid f7;clear hi hlow hhigh bL bS f7;have i0:(0:Int)≤i:=by omega
 have il:(i:Int)≤l.length:=by omega
 by_cases aD:k < l.length
 ·have k1:(0:Int)≤k:=by omega
  have k2:(k:Int) < l.length:=by omega
  have i2:(i:Int) < l.length:=by omega
  obtain ⟨cs,bD,hr,hR⟩:=e6.out k l[k] (Nat.le_refl _) (List.getElem?_eq_getElem aD);have ewk:IntKind.i64.wrap ((k:Int)+1)=((k+1:Nat):Int):=by have:=HL.out;rw [IntKind.wrap_i64];omega
  have ewi:IntKind.i64.wrap ((i:Int)+1)=((i+1:Nat):Int):=by have:=HL.out;rw [IntKind.wrap_i64];omega
  have HLt:=hid aD;have hsz3:cs.toArray.size=3:=by simp [bD]
  have aN:∀ u∈cs,u.oneCell'=true:=RPart.oneC _ _ _ hR;have hall1:=all_oneCell_toArray aN;have HFL:=hid dO;clear dO hk;go_wp2_with (first
   | ((with_reducible refine qaa (o:=⟨some 25,_,_,_,_,_⟩) qgj _ rfl rfl rfl hr bD ?_))
   | ((with_reducible refine qa2 (o:=⟨some 7,_,_,_,_,_⟩) qvb rfl rfl ?_);intro w2 aH aI bC)
   | ((with_reducible refine qa3 (o:=⟨none,_,_,_,_,_⟩) qgj _ _ rfl rfl rfl rfl aI hsz3 jfu hall1 ?_);intro w3 aM aL bv cE)
   | ((with_reducible refine qa1 (o:=⟨some 27,_,_,_,_,_⟩) qgj _ rfl rfl rfl (aL.whole) hsz3 ?_)))
  have aC:Ext wr w3:=aH.below aM (Nat.le_refl _);refine (HF.out k HLt.out cs w3 (qhd cJ aC) bD (RPart.monoE _ _ _ _ (.of_ext aC) hR)).mono ?_;rintro e w4 ⟨rfl,aj⟩;have aa:=aC.trans aj;have bo:=aL.ext aj;have bU:=dL.out.ext aa;have HF1:=hid (qda (fun x=>!p x) l k HLt.out);have HG4:=hid (qhd cJ aa);have HX:=hid aa;have hgb:g≠wr.heap.size:=by have:=dL.out.lt;omega
  clear aH aM aL aj aC aa cJ bC bv cE
  cases hp:p l[k]
  ·have HP:=hid hp
   clear hp;obtain ⟨y,hy⟩:=aB.out i _ (List.getElem?_eq_getElem (show i < l.length by omega));have f9:=(hy.ext RPart.monoE HX.out).there bU;have hR4:=RPart.monoE _ _ _ _ (.of_ext HX.out) hR;go_wp2_with (first
    | ((with_reducible refine qa1 (o:=⟨some 32,_,_,_,_,_⟩) qgj _ rfl rfl rfl (bo.whole) hsz3 ?_))
    | (with_reducible refine qho (o:=⟨none,_,_,_,_,_⟩) qgj _ _ rfl rfl rfl rfl f9 bD aN ?_))
   have hBg:B≤g:=Nat.le_trans HB.out HGB.out;have hF2:(l.take (k+1)).filter (fun x=>!p x)=(l.take k).filter (fun x=>!p x)++[l[k]'HLt.out]:=by
    have e:p (l[k]'HLt.out)=false:=HP.out;rw [HF1.out,e];rfl
   have aW:(l.take k).length=k:=by rw [List.length_take];have:=HLt.out;omega
   go_roundw
   case rel=>
    refine ⟨k+1,HLt.out,by go_num,?_,by have:=HKK.out;omega,bU.setCells _ _,?_,?_,?_,qd3 HG4.out _ _⟩
    ·rw [hF2,List.length_append,← HI.out];go_num
    ·intro q x hq
     rw [hF2] at hq
     by_cases hqi:q < i
     ·rw [List.getElem?_append_left (by rw [← HI.out];exact hqi)] at hq
      exact ((HLow.out q x hq).ext RPart.monoE HX.out).setCells (RPart.mono (by decide) (by decide) (by decide) (by decide)) bU.ty hBg _ _ (.inl (by omega))
     have hqe:q=i:=by
      have:=(List.getElem?_eq_some_iff.1 hq).1;rw [List.length_append,← HI.out] at this;simp at this;omega
     subst hqe;rw [List.getElem?_append_right (by rw [← HI.out];exact Nat.le_refl _),← HI.out,Nat.sub_self] at hq;simp at hq;subst hq;exact At.put (RPart.mono (by decide) (by decide) (by decide) (by decide)) bD hR4 f9 bU.ty hBg
    ·intro q x hq hx
     exact ((e6.out q x (by omega) hx).ext RPart.monoE HX.out).setCells (RPart.mono (by decide) (by decide) (by decide) (by decide)) bU.ty hBg _ _ (.inr (by rw [bD];have:=HFL.out;omega))
    intro q x hx
    by_cases hqi:q=i
    ·subst hqi
     exact ⟨_,At.put (RPart.mono (by decide) (by decide) (by decide) (by decide)) bD hR4 f9 bU.ty hBg⟩
    obtain ⟨y',hy'⟩:=aB.out q x hx;refine ⟨y',(hy'.ext RPart.monoE HX.out).setCells (RPart.mono (by decide) (by decide) (by decide) (by decide)) bU.ty hBg _ _ ?_⟩;rw [bD];rcases Nat.lt_or_gt_of_ne hqi with h | h
    ·left;omega
    right;omega
   case measure=>simp [intOf];omega
  have HP:=hid hp;clear hp;have hF2:(l.take (k+1)).filter (fun x=>!p x)=(l.take k).filter (fun x=>!p x):=by
   have e:p (l[k]'HLt.out)=true:=HP.out;rw [HF1.out,e];simp
  go_wp2_with fail;go_roundw
  case rel=>
   refine ⟨k+1,HLt.out,by go_num,?_,by have:=HKK.out;omega,bU,?_,?_,?_,HG4.out⟩
   ·rw [hF2,← HI.out]
   ·intro q x hq
    rw [hF2] at hq;exact (HLow.out q x hq).ext RPart.monoE HX.out
   ·intro q x hq hx
    exact (e6.out q x (by omega) hx).ext RPart.monoE HX.out
   intro q x hx;obtain ⟨y',hy'⟩:=aB.out q x hx;exact ⟨y',hy'.ext RPart.monoE HX.out⟩
  case measure=>simp [intOf];omega
 obtain rfl:k=l.length:=by omega
 have HTk:=hid (show l.take l.length=l from List.take_length);have lc:(l.length:Int)≤c:=by omega
 have hBg:B≤g:=Nat.le_trans HB.out HGB.out;have fc:=hid (show ∀ q x,(l.filter fun x=>!p x)[q]?=some x→At (RPart B) 3 wr g q x by rw [← HTk.out];exact HLow.out);have HIl:=hid (show (l.filter fun x=>!p x).length=i by rw [HI.out,HTk.out]);have f9:∀ q,q < l.length→wr.there g (q*3) 3:=fun q hq=>by
  obtain ⟨y,hy⟩:=aB.out q _ (List.getElem?_eq_getElem hq);exact hy.there dL.out
 have hthr:wr.there g (i*3) ((l.length - i)*3):=by
  intro j hj;have hq:i+j / 3 < l.length:=by omega
  have:=f9 _ hq (j % 3) (Nat.mod_lt _ (by omega));rwa [show (i+j / 3)*3+j % 3=i*3+j by omega] at this
 have hthz:wr.there g 0 (0*(#[.slice none 0 0,.slice none 0 0,.slice none 0 0]:Array Value).size):=by intro j hj;omega
 have hthr':wr.there g (i*3) ((l.length - i)*(#[.slice none 0 0,.slice none 0 0,.slice none 0 0]:Array Value).size):=hthr
 by_cases hic:c=i
 ·subst hic
  obtain rfl:c=l.length:=by omega
  go_wp2_with ((with_reducible refine qgf (o:=⟨none,_,_,_,_,_⟩) Tryz.underlying66 qvb jbw _ rfl rfl rfl hthz ?_);intro zs hzs);go_ret;have ho:=Own.ofAt (base:=base) (l:=l.filter fun x=>!p x) (by omega) (dL.out.setCells _ _) HGB.out (by rw [HIl.out];exact Nat.le_refl _) hcm fun q x hq=>(fc.out q x hq).setCells (RPart.mono (by decide) (by decide) (by decide) (by decide)) dL.out.ty hBg 0 zs (.inr (by rw [hzs];simp));rw [HIl.out] at ho;exact ⟨.slice (some ⟨g,0,none⟩) l.length l.length,rfl,ho,qd3 cJ _ _,rfl⟩
 have hic1:¬ (c:Int)=i:=by omega
 go_wp2_with ((with_reducible refine qgf (o:=⟨none,_,_,_,_,_⟩) Tryz.underlying66 qvb jbw _ rfl rfl rfl hthr' ?_);intro zs hzs);go_ret;have ho:=Own.ofAt (base:=base) (l:=l.filter fun x=>!p x) (by omega) (dL.out.setCells _ _) HGB.out (by rw [HIl.out];omega) hcm fun q x hq=>(fc.out q x hq).setCells (RPart.mono (by decide) (by decide) (by decide) (by decide)) dL.out.ty hBg (i*3) zs (.inl (by have:=(List.getElem?_eq_some_iff.1 hq).1;rw [HIl.out] at this;omega));rw [HIl.out] at ho;exact ⟨.slice (some ⟨g,0,none⟩) i c,rfl,ho,qd3 cJ _ _,rfl⟩
theorem jgs:∃ i,Tryz.prog.info? 181=some i∧i.zero=some (.agg #[.slice none 0 0,.slice none 0 0,.slice none 0 0])∧i.size=3∧i.bytes=72:=by
 have hi:(Tryz.prog.info? 181).map (fun i=>(i.zero,i.size,i.bytes))=some (some (.agg #[.slice none 0 0,.slice none 0 0,.slice none 0 0]),3,72):=by kernel_rfl
 cases h:Tryz.prog.info? 181 with
 | none=>rw [h] at hi;cases hi
 | some i=>
  rw [h] at hi;simp only [Option.map_some,Option.some.injEq,Prod.mk.injEq] at hi;exact ⟨i,rfl,hi.1,hi.2.1,hi.2.2⟩
theorem qvm:ElemInfo Tryz.prog 66 181 3 72:=ElemInfo.mk_ (z:=.agg #[.slice none 0 0,.slice none 0 0,.slice none 0 0]) Tryz.underlying66 (by kernel_rfl) (by kernel_rfl) (by omega)
theorem jgo:(.agg #[.slice none 0 0,.slice none 0 0,.slice none 0 0]:Value).cells.size=3:=by kernel_rfl
theorem jcs (B n:Nat) (w:World) (hn:n≤100000) :
  Calls Tryz.prog 203 #[.slice none 0 0,.int .i64 (n:Int)] w fun e w'=>∃ v,e=.returned v∧Own (RPart B) 3 181 w' w.heap.size v []∧Ext w w':=by
 have h1:decide ((n:Int) < 0)=false:=decide_eq_false (by omega);have h2:IntKind.i64.wrap (n:Int)=(n:Int):=by rw [IntKind.wrap_i64];omega
 by_cases h0:n=0
 ·subst h0
  go_enter Tryz.func203, Tryz.ntmps203;go_wp2_with fail;go_ret;exact ⟨_,rfl,Own.nil,Ext.refl _⟩
 have h3:decide ((0:Int) < n)=true:=decide_eq_true (by omega);have h4:0 < n:=by omega
 obtain ⟨i,hi,hz,hs,hb⟩:=jgs;have hr:=fun ty=>Lib.run_append_nil_zeros w 66 3 ty 181 i _ .i64 .i64 Tryz.underlying66 Tryz.underlying3 hi hz n h4 (by omega) (by omega) (by rw [hb];omega);have hg:=grownCap_ge w n 0 181;have hgm:=grownCap_le_maxLen w n 0 181 (by unfold maxLen;omega);generalize grownCap w n 0 181=G at *;have aW:(Builtin.zeroCells (.agg #[.slice none 0 0,.slice none 0 0,.slice none 0 0]:Value).cells n++Builtin.zeroCells (.agg #[.slice none 0 0,.slice none 0 0,.slice none 0 0]:Value).cells (G - n)).size=G*3:=by
  rw [Array.size_append,size_zeroCells,size_zeroCells,← Nat.add_mul,jgo];congr 1;omega
 generalize Builtin.zeroCells (.agg #[.slice none 0 0,.slice none 0 0,.slice none 0 0]:Value).cells n++Builtin.zeroCells (.agg #[.slice none 0 0,.slice none 0 0,.slice none 0 0]:Value).cells (G - n)=cells at *;have HS:=hid aW;have HG:=hid hgm;have hG0:(0:Int)≤G:=by omega
 clear hi hz hs hb aW hgm h0;go_enter Tryz.func203, Tryz.ntmps203;go_wp2_with (at_builtin;refine Lib.wpList_append_run _ rfl _ _ _ _ rfl _ _ rfl rfl _ _ (hr _) ?_);go_ret;exact ⟨_,rfl,Own.roomG (w:=w.drew) (Nat.le_refl _) HG.out HS.out,(Ext.refl _).drew.alloc _⟩
theorem qx2 (B:Nat) (A:Option Addr) (c:Nat) (ls:List (List Part)) (w:World) (hB:B≤w.heap.size) (h:Sl B 66 (RL B 181 (RPart B) 3) 1 w A ls) (hl:ls.length≤1000) (hf:ls.flatten.length≤10000) :
  Calls Tryz.prog 171 #[.slice A ls.length c] w fun e w'=>∃ v,e=.returned v∧Own (RPart B) 3 181 w' w.heap.size v ls.flatten∧Ext w w':=by
 have HF:=hid hf;clear hf;go_enter Tryz.func171, Tryz.ntmps171;go_wp2_with fail;go_loopw [11,3] (fun i n wr=>∃ j:Nat,j≤ls.length∧i=.int .i64 j∧n=.int .i64 ((ls.take j).flatten.length:Nat)∧wr=w) (fun i _ _=>ls.length - (intOf i).toNat)
 case atStart=>exact ⟨0,Nat.zero_le _,rfl,rfl,rfl⟩
 obtain ⟨j,hj,rfl,rfl,rfl⟩:=hrel
 by_cases aD:j < ls.length
 ·obtain ⟨b,off,A',c',rfl,_,g0,bW⟩:=h.rl aD
  have dO:=qir ls j aD;have cZ:=qmo ls (j+1);have hfb:=HF.out;have ag:(ls.take (j+1)).flatten.length=(ls.take j).flatten.length+ls[j].length:=by rw [dO,List.length_append]
  rw [ag] at cZ;have HL:=hid ag;generalize (ls.take j).flatten.length=a at *;generalize ls[j].length=x at *;obtain ⟨t,ht⟩:=ex1 (a+x);have htl:t≤1000000:=by omega
  have es:(a:Int)+(x:Int)=(t:Int):=by omega
  have ew:=qtq htl;have hn:decide ((t:Int) < 0)=false:=decide_eq_false (by omega);have HT:=hid ht;clear dO cZ ag bW hfb ht htl;go_wp2_with fail;go_roundw
  case rel=>exact ⟨j+1,aD,by go_num,by rw [HL.out,← HT.out],trivial⟩
  case measure=>simp [intOf];omega
 obtain rfl:j=ls.length:=by omega
 rw [List.take_length];have hfb:=HF.out;generalize hn:ls.flatten.length=n at *;have HN:=hid hn;clear hn aD hj;go_wp2_with fail;refine (jcs B n wr (by omega)).mono ?_;rintro e w1 ⟨v,rfl,aQ,hx⟩;have hB1:=Nat.le_trans hB hx.size;obtain ⟨ws,bz⟩:=ex1 wr.heap.size;rw [← bz] at aQ;have aW:ws≤w1.heap.size:=by rw [bz];exact hx.size
 have HH:=hid h;have HW:=hid (show wr.heap.size≤ws from Nat.le_of_eq bz.symm);obtain ⟨wo,rfl⟩:=ex1 wr;have HQ:=hid (show ws=wo.heap.size from bz);clear bz h;go_wp2_with fail;go_loopw [27,6] (fun i v wr=>∃ j:Nat,j≤ls.length∧i=.int .i64 j∧Own (RPart B) 3 181 wr ws v (ls.take j).flatten∧Ext wo wr∧ws≤wr.heap.size) (fun i _ _=>ls.length - (intOf i).toNat)
 case atStart=>exact ⟨0,Nat.zero_le _,rfl,aQ,hx,aW⟩
 clear aQ hx aW;obtain ⟨j,hj,rfl,aQ,hx,aW⟩:=hrel
 by_cases aD:j < ls.length
 ·obtain ⟨b,off,A',c',rfl,_,g0,bW⟩:=(HH.out.ext (RL.monoE RPart.monoE) hx).rl aD
  have dO:=hid (qir ls j aD);have cZ:=qmo ls (j+1);rw [dO.out,List.length_append] at cZ;have hfb:=HF.out;have hnn:=HN.out;have cO:(ls.take j).flatten.length+ls[j].length≤maxLen:=by unfold maxLen;omega
  have cI:((ls.take j).flatten.length+ls[j].length)*72≤140737488355328:=by omega
  have hBs:B≤ws:=by rw [HQ.out];exact hB
  clear cZ hfb hnn hj;go_wp2_with (at_builtin;refine qaf (c:=c') (ys:=ls[j]) (B:=B) rfl _ _ rfl qvm rfl aQ hBs aW rfl bW RPart.oneC (RPart.mono (by decide) (by decide) (by decide) (by decide)) cO cI ?_;intro v2 w2 aR _ aI _);rw [← dO.out] at aR;have bC:=Nat.le_trans aW (Below.size aI);have aH:=hx.below aI HW.out;clear aQ hx aW aI cO cI hBs bW g0;go_wp2_with fail;go_roundw
  case rel=>exact ⟨j+1,aD,by go_num,aR,aH,bC⟩
  case measure=>simp [intOf];omega
 obtain rfl:j=ls.length:=by omega
 rw [List.take_length] at aQ;clear aD hj;go_wp2_with fail;go_ret;exact ⟨_,rfl,HQ.out ▸ aQ,hx⟩
theorem jh3:∃ i,Tryz.prog.info? 186=some i∧i.zero=some (.agg (rowB 512 (fun _=>false)++rowD fun _ _=>false))∧i.size=592∧i.bytes=1152:=by
 have hi:(Tryz.prog.info? 186).map (fun i=>(i.zero,i.size,i.bytes))=some (some (.agg (rowB 512 (fun _=>false)++rowD fun _ _=>false)),592,1152):=by kernel_rfl
 cases h:Tryz.prog.info? 186 with
 | none=>rw [h] at hi;cases hi
 | some i=>
  rw [h] at hi;simp only [Option.map_some,Option.some.injEq,Prod.mk.injEq] at hi;exact ⟨i,rfl,hi.1,hi.2.1,hi.2.2⟩
theorem qz5:ElemInfo Tryz.prog 75 186 592 1152:=ElemInfo.mk_ (z:=.agg (rowB 512 (fun _=>false)++rowD fun _ _=>false)) Tryz.underlying75 (by kernel_rfl) (by kernel_rfl) (by omega)
theorem jh2:(.agg (rowB 512 (fun _=>false)++rowD fun _ _=>false):Value).cells.size=592:=by kernel_rfl
theorem jeu (_B n:Nat) (w:World) (hn:n≤100000) :
  Calls Tryz.prog 173 #[.slice none 0 0,.int .i64 (n:Int)] w fun e w'=>∃ v,e=.returned v∧Own RRef 592 186 w' w.heap.size v []∧Ext w w':=by
 have h1:decide ((n:Int) < 0)=false:=decide_eq_false (by omega);have h2:IntKind.i64.wrap (n:Int)=(n:Int):=by rw [IntKind.wrap_i64];omega
 by_cases h0:n=0
 ·subst h0
  go_enter Tryz.func173, Tryz.ntmps173;go_wp2_with fail;go_ret;exact ⟨_,rfl,Own.nil,Ext.refl _⟩
 have h3:decide ((0:Int) < n)=true:=decide_eq_true (by omega);have h4:0 < n:=by omega
 obtain ⟨i,hi,hz,hs,hb⟩:=jh3;have hr:=fun ty=>Lib.run_append_nil_zeros w 75 3 ty 186 i _ .i64 .i64 Tryz.underlying75 Tryz.underlying3 hi hz n h4 (by omega) (by omega) (by rw [hb];omega);have hg:=grownCap_ge w n 0 186;have hgm:=grownCap_le_maxLen w n 0 186 (by unfold maxLen;omega);generalize grownCap w n 0 186=G at *;have aW:(Builtin.zeroCells (.agg (rowB 512 (fun _=>false)++rowD fun _ _=>false):Value).cells n++Builtin.zeroCells (.agg (rowB 512 (fun _=>false)++rowD fun _ _=>false):Value).cells (G - n)).size=G*592:=by
  rw [Array.size_append,size_zeroCells,size_zeroCells,← Nat.add_mul,jh2];congr 1;omega
 generalize Builtin.zeroCells (.agg (rowB 512 (fun _=>false)++rowD fun _ _=>false):Value).cells n++Builtin.zeroCells (.agg (rowB 512 (fun _=>false)++rowD fun _ _=>false):Value).cells (G - n)=cells at *;have HS:=hid aW;have HG:=hid hgm;have hG0:(0:Int)≤G:=by omega
 clear hi hz hs hb aW hgm h0;go_enter Tryz.func173, Tryz.ntmps173;go_wp2_with (at_builtin;refine Lib.wpList_append_run _ rfl _ _ _ _ rfl _ _ rfl rfl _ _ (hr _) ?_);go_ret;exact ⟨_,rfl,Own.roomG (w:=w.drew) (Nat.le_refl _) HG.out HS.out,(Ext.refl _).drew.alloc _⟩
theorem qyv (B:Nat) (A:Option Addr) (c:Nat) (ls:List (List RP)) (w:World) (hB:B≤w.heap.size) (h:Sl B 75 (RL B 186 RRef 592) 1 w A ls) (hl:ls.length≤1000) (hf:ls.flatten.length≤10000) :
  Calls Tryz.prog 115 #[.slice A ls.length c] w fun e w'=>∃ v,e=.returned v∧Own RRef 592 186 w' w.heap.size v ls.flatten∧Ext w w':=by
 have HF:=hid hf;clear hf;go_enter Tryz.func115, Tryz.ntmps115;go_wp2_with fail;go_loopw [11,3] (fun i n wr=>∃ j:Nat,j≤ls.length∧i=.int .i64 j∧n=.int .i64 ((ls.take j).flatten.length:Nat)∧wr=w) (fun i _ _=>ls.length - (intOf i).toNat)
 case atStart=>exact ⟨0,Nat.zero_le _,rfl,rfl,rfl⟩
 obtain ⟨j,hj,rfl,rfl,rfl⟩:=hrel
 by_cases aD:j < ls.length
 ·obtain ⟨b,off,A',c',rfl,_,g0,bW⟩:=h.rl aD
  have dO:=qir ls j aD;have cZ:=qmo ls (j+1);have hfb:=HF.out;have ag:(ls.take (j+1)).flatten.length=(ls.take j).flatten.length+ls[j].length:=by rw [dO,List.length_append]
  rw [ag] at cZ;have HL:=hid ag;generalize (ls.take j).flatten.length=a at *;generalize ls[j].length=x at *;obtain ⟨t,ht⟩:=ex1 (a+x);have htl:t≤1000000:=by omega
  have es:(a:Int)+(x:Int)=(t:Int):=by omega
  have ew:=qtq htl;have hn:decide ((t:Int) < 0)=false:=decide_eq_false (by omega);have HT:=hid ht;clear dO cZ ag bW hfb ht htl;go_wp2_with fail;go_roundw
  case rel=>exact ⟨j+1,aD,by go_num,by rw [HL.out,← HT.out],trivial⟩
  case measure=>simp [intOf];omega
 obtain rfl:j=ls.length:=by omega
 rw [List.take_length];have hfb:=HF.out;generalize hn:ls.flatten.length=n at *;have HN:=hid hn;clear hn aD hj;go_wp2_with fail;refine (jeu B n wr (by omega)).mono ?_;rintro e w1 ⟨v,rfl,aQ,hx⟩;have hB1:=Nat.le_trans hB hx.size;obtain ⟨ws,bz⟩:=ex1 wr.heap.size;rw [← bz] at aQ;have aW:ws≤w1.heap.size:=by rw [bz];exact hx.size
 have HH:=hid h;have HW:=hid (show wr.heap.size≤ws from Nat.le_of_eq bz.symm);obtain ⟨wo,rfl⟩:=ex1 wr;have HQ:=hid (show ws=wo.heap.size from bz);clear bz h;go_wp2_with fail;go_loopw [27,6] (fun i v wr=>∃ j:Nat,j≤ls.length∧i=.int .i64 j∧Own RRef 592 186 wr ws v (ls.take j).flatten∧Ext wo wr∧ws≤wr.heap.size) (fun i _ _=>ls.length - (intOf i).toNat)
 case atStart=>exact ⟨0,Nat.zero_le _,rfl,aQ,hx,aW⟩
 clear aQ hx aW;obtain ⟨j,hj,rfl,aQ,hx,aW⟩:=hrel
 by_cases aD:j < ls.length
 ·obtain ⟨b,off,A',c',rfl,_,g0,bW⟩:=(HH.out.ext (RL.monoE (RRef.mono (B:=B))) hx).rl aD
  have dO:=hid (qir ls j aD);have cZ:=qmo ls (j+1);rw [dO.out,List.length_append] at cZ;have hfb:=HF.out;have hnn:=HN.out;have cO:(ls.take j).flatten.length+ls[j].length≤maxLen:=by unfold maxLen;omega
  have cI:((ls.take j).flatten.length+ls[j].length)*1152≤140737488355328:=by omega
  have hBs:B≤ws:=by rw [HQ.out];exact hB
  clear cZ hfb hnn hj;go_wp2_with (at_builtin;refine qaf (c:=c') (ys:=ls[j]) (B:=B) rfl _ _ rfl qz5 rfl aQ hBs aW rfl bW RRef.oneC RRef.mono cO cI ?_;intro v2 w2 aR _ aI _);rw [← dO.out] at aR;have bC:=Nat.le_trans aW (Below.size aI);have aH:=hx.below aI HW.out;clear aQ hx aW aI cO cI hBs bW g0;go_wp2_with fail;go_roundw
  case rel=>exact ⟨j+1,aD,by go_num,aR,aH,bC⟩
  case measure=>simp [intOf];omega
 obtain rfl:j=ls.length:=by omega
 rw [List.take_length] at aQ;clear aD hj;go_wp2_with fail;go_ret;exact ⟨_,rfl,HQ.out ▸ aQ,hx⟩
end Go.Proofs.YtngbfdogiciahaaGreat
