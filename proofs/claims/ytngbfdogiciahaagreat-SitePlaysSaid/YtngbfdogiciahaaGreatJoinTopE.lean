/- Texts joined. -/
import Derived.Deep.Quiet
import Derived.Test.YtngbfdogiciahaaGreatDocM
set_option maxRecDepth 100000
set_option maxHeartbeats 40000000
namespace Go.Proofs.YtngbfdogiciahaaGreat
open Go Go.RowKit
def RBoxes (B:Nat) (w:World) (cs:List Value) (l:List Box):Prop:=∃ v,cs=[v]∧qdo B w v l
theorem RBoxes.mono {B:Nat} {ts:List TypeId} (h1:137∉ts) (h2:142∉ts):Mono B ts (RBoxes B):=by
 rintro w w' cs l x ⟨v,rfl,hv⟩;exact ⟨v,rfl,hv.chg (RBox.mono h1) h2 x⟩
theorem RBoxes.monoE {B:Nat}:Mono B [] (RBoxes B):=RBoxes.mono (by simp) (by simp)
theorem RBoxes.oneC {B:Nat}:OneC (RBoxes B):=by
 rintro w cs l ⟨v,rfl,A,c,rfl,_⟩ u hu;simp at hu;subst hu;rfl
abbrev qph (B:Nat):=Sl B 30 (RBoxes B) 1
theorem Sl.fil {B:Nat} {w:World} {A:Option Addr} {l:List (List Box)} (h:qph B w A l) {i:Nat} (hi:i < l.length):∃ b off Af cf,A=some ⟨b,off,none⟩∧b < w.heap.size∧w.cell? ⟨b,off+i,none⟩=some (.slice Af l[i].length cf)∧l[i].length≤cf∧cf≤maxLen∧qaw B w Af l[i]:=by
 obtain ⟨b,off,cs,hA,hb,_,hc,hR⟩:=h.at_ hi;obtain ⟨v,rfl,Af,cf,rfl,h1,h2,h3⟩:=hR;have:=hc 0 _ rfl;rw [Nat.mul_one,Nat.add_zero] at this;exact ⟨b,off,Af,cf,hA,hb,this,h1,h2,h3⟩
def RPtr (_:World) (cs:List Value) (r:Nat):Prop:=cs=[.pointer (some ⟨r,0,none⟩)]
theorem RPtr.mono {B:Nat} {ts:List TypeId}:Mono B ts RPtr:=fun _ _ _ _ _ h=>h
theorem RPtr.oneC:OneC RPtr:=by
 rintro w cs x rfl u hu;simp at hu;subst hu;rfl
structure Sites (B:Nat) (w:World) (rs:List Nat) (L:List SiteS):Prop where
 len:rs.length=L.length
 inj:∀ (i j r:Nat),rs[i]?=some r→rs[j]?=some r→i=j
 at_:∀ (i r:Nat) (s:SiteS),rs[i]?=some r→L[i]?=some s→B≤r∧IsSite B w r s
theorem Sites.ext {B:Nat} {w w':World} {rs:List Nat} {L:List SiteS} (h:Sites B w rs L) (x:Ext w w'):Sites B w' rs L:=⟨h.len,h.inj,fun i r s a b=>⟨(h.at_ i r s a b).1,(h.at_ i r s a b).2.ext x⟩⟩
theorem Sites.set {B:Nat} {w w':World} {rs:List Nat} {L:List SiteS} (h:Sites B w rs L) {i r:Nat} {s s':SiteS} (hr:rs[i]?=some r) (hs:L[i]?=some s) (x:Fr r w w') (hn:IsSite B w' r s'):Sites B w' rs (L.set i s'):=by
 have hi:=h.at_ i r s hr hs;refine ⟨by rw [List.length_set];exact h.len,h.inj,fun j q t hq ht=>?_⟩
 by_cases e:j=i
 ·subst e
  rw [hr] at hq;injection hq with hq;subst hq;rw [List.getElem?_set_self (by rw [← h.len];exact (List.getElem?_eq_some_iff.1 hr).1)] at ht;injection ht with ht;subst ht;exact ⟨hi.1,hn⟩
 rw [List.getElem?_set_ne (fun e'=>e e'.symm)] at ht;have hj:=h.at_ j q t hq ht;exact ⟨hj.1,hj.2.other x hi.2.ty hi.1 (fun e'=>e (h.inj j i r (e' ▸ hq) hr))⟩
theorem Fr.chgS {B:Nat} {w w':World} {r:Nat} {s:SiteS} (x:Fr r w w') (h:IsSite B w r s) (hB:B≤r):Chg B [159] w w':=x.chg h.ty hB
theorem Sl.oldR {α:Type} {B B':Nat} {e:TypeId} {R R':World→List Value→α→Prop} {sz:Nat} {w:World} {A:Option Addr} {l:List α} (m:∀ cs x,R w cs x→R' w cs x) (h:Sl B e R sz w A l) (hB:B≤B'):Sl B' e R' sz w A l:=by
 intro i y hy;obtain ⟨b,off,cs,hA,hb,hk,hl,hc,hR⟩:=h i y hy;exact ⟨b,off,cs,hA,hb,hk.imp (fun h=>by omega) id,hl,hc,m _ _ hR⟩
theorem IsSl.oldR {α:Type} {B B':Nat} {e:TypeId} {R R':World→List Value→α→Prop} {sz:Nat} {w:World} {v:Value} {l:List α} (m:∀ cs x,R w cs x→R' w cs x) (h:IsSl B e R sz w v l) (hB:B≤B'):IsSl B' e R' sz w v l:=by
 obtain ⟨A,c,hv,h1,h2,hs⟩:=h;exact ⟨A,c,hv,h1,h2,hs.oldR m hB⟩
section
variable {B B':Nat} {w:World} {cs:List Value}
theorem RBox.old {x:Box} (hB:B≤B') (h:RBox B w cs x):RBox B' w cs x:=by
 obtain ⟨v,e,hv⟩:=h;exact ⟨v,e,hv.oldR (fun _ _ h=>h) hB⟩
theorem RVer.old {x:Version} (hB:B≤B') (h:RVer B w cs x):RVer B' w cs x:=by
 obtain ⟨a,m,e,ha,hm,hz⟩:=h;exact ⟨a,m,e,ha.oldR (fun _ _ h=>h) hB,hm.oldR (fun _ _ h=>h) hB,hz⟩
theorem RGone.old {x:Gone} (hB:B≤B') (h:RGone B w cs x):RGone B' w cs x:=by
 obtain ⟨a,m,e,ha,hm,hz⟩:=h;exact ⟨a,m,e,ha.oldR (fun _ _ h=>h) hB,hm.oldR (fun _ _ h=>h) hB,hz⟩
theorem RPart.old {x:Part} (hB:B≤B') (h:RPart B w cs x):RPart B' w cs x:=by
 obtain ⟨f,v,m,e,hf,hv,hm⟩:=h;exact ⟨f,v,m,e,hf.oldR (fun _ _ h=>h.old hB) hB,hv.oldR (fun _ _ h=>h) hB,hm.oldR (fun _ _ h=>h) hB⟩
end
theorem InB.old {B B':Nat} {w:World} {Ax:Option Addr} {cx:Nat} {Ag:Option Addr} {cg:Nat} {Ap:Option Addr} {cp:Nat} {b:Batch} (h:InB B w Ax cx Ag cg Ap cp b) (hB:B≤B'):InB B' w Ax cx Ag cg Ap cp b:=
 ⟨h.lx,h.lg,h.lp,h.sx.oldR (fun _ _ h=>h.old hB) hB,h.sg.oldR (fun _ _ h=>h.old hB) hB,h.sp.oldR (fun _ _ h=>h.old hB) hB⟩
theorem InB.chgBt {B:Nat} {w w':World} {Ax:Option Addr} {cx:Nat} {Ag:Option Addr} {cg:Nat} {Ap:Option Addr} {cp:Nat} {b:Batch} (h:InB B w Ax cx Ag cg Ap cp b) (x:Chg B [90] w w'):InB B w' Ax cx Ag cg Ap cp b:=
 ⟨h.lx,h.lg,h.lp,h.sx.chg (RVer.mono (by decide) (by decide)) (by decide) x,h.sg.chg (RGone.mono (by decide) (by decide)) (by decide) x,h.sp.chg (RPart.mono (by decide) (by decide) (by decide) (by decide)) (by decide) x⟩
structure TopJ (Fok:Nat→List Box→Prop) (k:Int) (M:Int→Int) (H:List Version) (L:List SiteS):Prop where
 hist:Hist M H
 home:∀ v∈H,∃ i:Nat,i < L.length∧v.dot.site=(i:Int)
 inv:∀ (i:Nat) (s:SiteS),L[i]?=some s→SInv M H s∧s.me=(i:Int)∧s.stamp≤k∧Fok i s.filter
def TopI (Fok:Nat→List Box→Prop) (k:Int) (L:List SiteS):Prop:=∃ M H,TopJ Fok k M H L
section
variable {Fok:Nat→List Box→Prop} {k:Int} {M:Int→Int} {H:List Version} {L:List SiteS}
theorem TopJ.mono {k':Int} (h:TopJ Fok k M H L) (hk:k≤k'):TopJ Fok k' M H L:=⟨h.hist,h.home,fun i s hs=>let ⟨a,b,c,d⟩:=h.inv i s hs;⟨a,b,Int.le_trans c hk,d⟩⟩
theorem TopI.mono {k':Int} (h:TopI Fok k L) (hk:k≤k'):TopI Fok k' L:=let ⟨M,H,h⟩:=h;⟨M,H,h.mono hk⟩
end
end Go.Proofs.YtngbfdogiciahaaGreat
namespace Go.Proofs.YtngbfdogiciahaaGreat
open Go
section
variable {P:Program} {ops:Array Oper} {Q:Exit→Act→World→Prop} {md:Region.Mode} {S:World→Prop}
def Alike (ops:Array Oper) (o:Oper) (a a':Act):Prop:=execOp a'.eval o=execOp a.eval o∧Region.wanted o (yielded ops a'.tmps)=Region.wanted o (yielded ops a.tmps)
theorem Alike.put {o q:Oper} (hs:∀ cs b,o.op≠.select cs b) {a:Act} {v u:Value} (h:o.apart ops q=true):Alike ops o a (a.put q.dst u)∧(a.put o.dst v).put q.dst u=(a.put q.dst u).put o.dst v:=by
 obtain ⟨_,h2,h3⟩:=Oper.apart_spec h;exact ⟨⟨execOp_put o hs a q.dst u h3,wanted_put o a q.dst u h3⟩,(Act.put_comm a v u h2)⟩
theorem jf4 {j:Nat} {o q:Oper} {v:Value} (hj:ops[j]?=some q) (hap:o.apart ops q=true) (hso:∀ cs b,o.op≠.select cs b) (hsq:∀ cs b,q.op≠.select cs b)
  (hQ:∀ c a w,Q (.panic c) (a.put o.dst v) w→Q (.panic c) a w) {K:Act→World→Prop} {a:Act} {w:World}
  (h:wpOp P ops Q j K (a.put o.dst v) w):wpOp P ops Q j (fun a' w'=>Alike ops o a a'∧K (a'.put o.dst v) w') a w:=by
 have hc:∀ u,(a.put q.dst u).put o.dst v=(a.put o.dst v).put q.dst u:=fun u=>(Act.put_comm a v u (Oper.apart_spec hap).2.1).symm ▸ rfl;have ha:∀ u,Alike ops o a (a.put q.dst u):=fun u=>(Alike.put (v:=v) hso hap).1;have e1:=execOp_put q hsq a o.dst v (Oper.apart_spec hap).1;have e2:=wanted_put q a o.dst v (Oper.apart_spec hap).1;unfold wpOp at h ⊢;simp only [hj,e2] at h ⊢
 by_cases hw:Region.wanted q (yielded ops a.tmps)=true
 ·rw [if_pos hw] at h ⊢
  rcases h with h | ⟨h,hl⟩
  ·refine .inl ?_
   unfold Oper.wp at h ⊢;rw [e1] at h
   revert h
   cases (execOp a.eval q).run P w with
   | halt x w'=>
    intro h
    cases x <;> simp only [Oper.upon] at h ⊢
    exact hQ _ _ _ h
   | ok n w'=>
    intro h
    cases n <;> simp only [Oper.upon] at h ⊢
    case value u=>exact ⟨ha u,by rw [hc];exact h⟩
    case skip=>exact ⟨ha _,by rw [hc];exact h⟩
    case defer d=>
     refine ⟨(Alike.put (a:={ a with defers:=d::a.defers }) (v:=v) hso hap).1,?_⟩;rw [Act.put_defers] at h;rw [← Act.put_comm { a with defers:=d::a.defers } v undef (Oper.apart_spec hap).2.1];exact h
    case enter f args=>
     refine Calls.mono h fun e w'' he=>?_
     cases e with
     | returned u=>exact ⟨ha u,by rw [hc];exact he⟩
     | panicked c=>exact hQ _ _ _ he
     | outgrown=>exact he
    case row row args=>exact Rows.mono h fun u w'' he=>⟨ha u,by rw [hc];exact he⟩
  refine .inr ⟨?_,hl⟩;unfold Oper.asks at h ⊢;rw [e1] at h;exact h
 rw [if_neg hw] at h ⊢;exact ⟨ha _,by rw [hc];exact h⟩
def YieldsC (P:Program) (ops:Array Oper) (S:World→Prop) (o:Oper) (v:Value) (a:Act):Prop:=
 (Region.wanted o (yielded ops a.tmps)=true∧∀ w,S w→o.quietAt P a (fun w'=>w'=w) w v)∨(Region.wanted o (yielded ops a.tmps)=false∧v=undef)
theorem YieldsC.alike {o:Oper} {v:Value} {a a':Act} (h:YieldsC P ops S o v a) (x:Alike ops o a a'):YieldsC P ops S o v a':=by
 unfold YieldsC Oper.quietAt at *;rw [x.1,x.2];exact h
theorem YieldsC.op {i:Nat} {o:Oper} {v:Value} {a:Act} (hi:ops[i]?=some o) (h:YieldsC P ops S o v a) {K:Act→World→Prop} {w:World} (hS:S w) (hK:K (a.put o.dst v) w):wpOp P ops Q i K a w:=by
 unfold wpOp;simp only [hi];rcases h with ⟨hw,hv⟩ | ⟨hw,rfl⟩
 ·rw [if_pos hw]
  exact .inl (Oper.wp_of_quiet (C:=fun w'=>w'=w) (K:=fun a'=>a'=a.put o.dst v) rfl (fun a' w' e1 e2=>by rw [e1,e2];exact hK) ⟨v,fun w' e=>by rw [e];exact hv w hS,rfl⟩)
 rw [if_neg (by rw [hw];simp)];exact hK
theorem qmf {i:Nat} {o:Oper} {v:Value} (hi:ops[i]?=some o) (hsel:∀ (j:Nat) (q:Oper) cs b,ops[j]?=some q→q.op≠.select cs b) (hQ:∀ c a w,Q (.panic c) (a.put o.dst v) w→Q (.panic c) a w) :
  ∀ (n:Nat) (listed:Array Bool) (a:Act) (w:World),(∀ j q,ops[j]?=some q→j≠i→listed.getD j true=false→(∀ e∈q.after,Region.binds md e=true→e.on≠i)→o.apart ops q=true)→
   i∈Region.ready md ops listed→YieldsC P ops S o v a→S w→wpAnyH P md ops Q S n (listed.setIfInBounds i true) (a.put o.dst v) w→wpAnyH P md ops Q S (n+1) listed a w
 | n,listed,a,w,hfree,hr,hy,hS,H=>by
  refine ⟨fun h=>(by rw [h] at hr;cases hr),fun j hj=>?_⟩
  by_cases hji:j=i
  ·subst hji
   exact hy.op hi hS ⟨hS,H⟩
  have hj':=ready_mono hj hji
  match n,H with
  | 0,H=>rw [H.1] at hj';cases hj'
  | n+1,H=>
   obtain ⟨hun,q,hq,bL⟩:=mem_ready.1 hj;have hnot:∀ e∈q.after,Region.binds md e=true→e.on≠i:=by
    intro e he hb heq;have h1:=bL e he hb;have h0:=(mem_ready.1 hr).1;rw [heq] at h1;rcases Nat.lt_or_ge i listed.size with g | g
    ·simp [g] at h0 h1;rw [h0] at h1;cases h1
    simp [Array.getElem?_eq_none g] at h1
   have h2:=jf4 hq (hfree j q hq hji hun hnot) (fun cs b=>hsel i o cs b hi) (fun cs b=>hsel j q cs b hq) hQ (H.2 j hj');refine wpOp_mono (fun a' w' h3=>⟨h3.2.1,qmf hi hsel hQ n (listed.setIfInBounds j true) a' w' ?_ (ready_mono hr (Ne.symm hji)) (hy.alike h3.1) h3.2.1 ?_⟩) h2
   ·intro k qk hk hki hu hno
    refine hfree k qk hk hki ?_ hno
    by_cases e:j=k
    ·subst e;exact hun
    rwa [getD_set_ne true e] at hu
   rw [Array.setIfInBounds_comm _ _ hji];exact h3.2.2
theorem qp3 {i:Nat} {dst:Option Tmp} {f:FuncId} {xs:Array Operand} {ts:Array TypeId} {ty:TypeId} {pos:String} {af:Array Edge} {args:Array Value} {v:Value} {fuel:Nat} {listed:Array Bool} {a:Act} {w:World}
  (ax:∀ (av:Array Value) (w:World),(callFunc f av).run P w=.ok (.enter f av) w)
  (hi:ops[i]?=some ⟨dst,.call ⟨.value (.func f),xs,ts⟩,ty,pos,af,none⟩) (hs:Region.noSelect ops=true) (hf:Region.free md ops listed i=true) (hr:(Region.ready md ops listed).contains i=true)
  (hQ:∀ c a w,Q (.panic c) (a.put dst v) w→Q (.panic c) a w) (ha:(xs.toList.map a.eval).toArray=args) (hc:∀ w,S w→Calls P f args w (fun e w'=>e=.returned v∧w'=w)) (hS:S w)
  (h:wpAnyH P md ops Q S fuel (listed.setIfInBounds i true) (a.put dst v) w):wpAnyH P md ops Q S (fuel+1) listed a w:=by
 refine qmf hi (Region.noSelect_spec hs) hQ fuel listed a w (Region.free_spec hi hf) (by simpa using hr) (.inl ⟨rfl,fun w' hw'=>?_⟩) hS h;have he:(execOp a.eval ⟨dst,.call ⟨.value (.func f),xs,ts⟩,ty,pos,af,none⟩).run P w'=.ok (.enter f args) w':=by
  subst ha;unfold execOp;simp [resolve,invoke,Act.eval,ax,go_sem];rw [← Array.toList_map]
 unfold Oper.quietAt;rw [he];exact ⟨rfl,hc w' hw'⟩
end
end Go.Proofs.YtngbfdogiciahaaGreat
namespace Go.Proofs.YtngbfdogiciahaaGreat
open Go Go.RowKit
theorem Sl.cellC {α:Type} {B:Nat} {e:TypeId} {ts:List TypeId} {R:World→List Value→α→Prop} {w:World} {A:Option Addr} {l:List α} (he:e∉ts) (h:Sl B e R 1 w A l) {i:Nat} (hi:i < l.length) :
  ∃ b off u,A=some ⟨b,off,none⟩∧b < w.heap.size∧R w [u] l[i]∧∀ w',Chg B ts w w'→w'.cell? ⟨b,off+i,none⟩=some u:=by
 obtain ⟨b,off,cs,hA,hb,hk,hl,hc,hR⟩:=h i _ (List.getElem?_eq_getElem hi)
 match cs,hl with
 | [u],_=>
  have h0:=hc 0 u rfl;rw [Nat.mul_one,Nat.add_zero] at h0;refine ⟨b,off,u,hA,hb,hR,fun w' x=>x.cell ?_ h0⟩;rcases hk with hk | hk
  ·exact .inl hk
  refine .inr fun t ht h2=>?_;rw [hk] at h2;injection h2 with h2;exact he (h2 ▸ ht)
def wN (n m:Int):Nat:=(IntKind.u64.wrap n % m).toNat
theorem jh1 (n:Int) {m:Nat} (h0:0 < m):wN n (m:Int) < m:=by
 unfold wN;have h2:=Int.emod_nonneg (IntKind.u64.wrap n) (show ((m:Nat):Int)≠0 by omega);have h3:=Int.emod_lt_of_pos (IntKind.u64.wrap n) (show (0:Int) < (m:Int) by omega);omega
theorem qsa {B:Nat} {w w':World} {r b8:Nat} {s:SiteS} (h:IsSite B w r s) (aO:SiteOk s) (z:Z8 B w w' b8) (aV:r≠b8):IsSite B w' r s:=by
 obtain ⟨Af,cf,Ax,cx,Ap,cp,h⟩:=h;exact ⟨Af,cf,Ax,cx,Ap,cp,h.z8 aO z aV⟩
def atI (l:List Int) (i:Nat):Int:=l.getD i 0
theorem jeg (B:Nat) (A:Option Addr) (c:Nat) (l:List Int) (i:Nat) (w:World) (h:qg4 B w A l) :
  Calls Tryz.prog 34 #[.slice A l.length c,.int .i64 (i:Int)] w fun e w'=>e=.returned (.int .i64 (atI l i))∧w'=w:=by
 by_cases hi:i < l.length
 ·have hd:decide ((i:Int) < (l.length:Int))=true:=decide_eq_true (by omega)
  have hdn:decide (i < l.length)=true:=decide_eq_true hi;have HA:=hid (show atI l i=l[i] by unfold atI;simp [List.getD,hi]);obtain ⟨b,off,rfl,hb,hc⟩:=Sl.int h hi;have hii:(i:Int) < (l.length:Int):=by omega
  go_enter Tryz.func34, Tryz.ntmps34;go_wp2_with fail;go_ret;exact ⟨qa8 HA.out.symm,rfl⟩
 have hd:decide ((i:Int) < (l.length:Int))=false:=decide_eq_false (by omega);have hdn:decide (i < l.length)=false:=decide_eq_false hi;have HA:=hid (show atI l i=0 by unfold atI;simp [List.getD,List.getElem?_eq_none (show l.length≤i by omega)]);clear hi;go_enter Tryz.func34, Tryz.ntmps34;go_wp2_with fail;go_ret;exact ⟨qa8 HA.out.symm,rfl⟩
def RStr (_:World) (cs:List Value) (x:ByteArray):Prop:=cs=[.string x]
theorem RStr.mono {B:Nat} {ts:List TypeId}:Mono B ts RStr:=fun _ _ _ _ _ h=>h
abbrev qrj (B:Nat):=Sl B 9 RStr 1
theorem Sl.strC {B:Nat} {w:World} {A:Option Addr} {l:List ByteArray} (h:qrj B w A l) {i:Nat} (hi:i < l.length):∃ b off,A=some ⟨b,off,none⟩∧b < w.heap.size∧w.cell? ⟨b,off+i,none⟩=some (.string l[i]):=by
 obtain ⟨b,off,cs,hA,hb,_,hc,rfl⟩:=h.at_ hi;have:=hc 0 _ rfl;rw [Nat.mul_one,Nat.add_zero] at this;exact ⟨b,off,hA,hb,this⟩
def qhs (i:Int) (n:Nat):Nat:=wN i (n:Int)
theorem qmt (i:Int) {n:Nat} (h:0 < n):qhs i n < n:=jh1 i h
def qso (l:List ByteArray) (i:Int):ByteArray:=l.getD (qhs i l.length) ⟨#[]⟩
theorem jd9 (B:Nat) (A:Option Addr) (c:Nat) (l:List ByteArray) (i:Int) (w:World) (hl:l.length≤maxLen) (h:qrj B w A l) :
  Calls Tryz.prog 33 #[.slice A l.length c,.int .i64 i] w fun e w'=>e=.returned (.string (qso l i))∧w'=w:=by
 unfold maxLen at hl
 by_cases h0:l=[]
 ·subst h0
  go_enter Tryz.func33, Tryz.ntmps33;go_wp2_with fail;go_ret;exact ⟨rfl,rfl⟩
 have hn:0 < l.length:=List.length_pos_iff.2 h0;have aD:=qmt i hn;have HP:=hid (show qso l i=l[qhs i l.length] by unfold qso;simp [List.getD,aD]);have hz1:((l.length:Int)==0)=false:=by rw [beq_eq_false_iff_ne];omega
 have hz2:¬ (l.length:Int)=0:=by omega
 have dP:IntKind.u64.wrap (l.length:Int)=(l.length:Int):=by rw [IntKind.wrap_u64];omega
 obtain ⟨N,hN⟩:=ex1 (IntKind.u64.wrap i);have hN0:0≤N:=by rw [hN,IntKind.wrap_u64];omega
 obtain ⟨q,hq⟩:=ex1 (qhs i l.length);have hm:N.tmod (l.length:Int)=(q:Int):=by
  rw [hq,Int.tmod_eq_emod_of_nonneg hN0];unfold qhs wN;rw [← hN,Int.toNat_of_nonneg (Int.emod_nonneg N hz2)]
 have hA:IntKind.u64.wrap i=N:=hN.symm;rw [← hq] at aD;have hqi:(q:Int) < (l.length:Int):=by omega
 have hw2:IntKind.i64.wrap (q:Int)=(q:Int):=by rw [IntKind.wrap_i64];omega
 have dY:IntKind.u64.wrap (q:Int)=(q:Int):=by rw [IntKind.wrap_u64];omega
 obtain ⟨b,off,rfl,hb,hc⟩:=Sl.strC h aD;have HP2:=hid (show qso l i=l[q] by rw [HP.out];congr 1;exact hq.symm);clear hN hq HP hn h0;go_enter Tryz.func33, Tryz.ntmps33;go_wp2_with fail;go_ret;exact ⟨by rw [HP2.out];rfl,rfl⟩
def qpf (l:List (List Box)) (i:Int):List Box:=l.getD (qhs i l.length) []
theorem jd8 (B:Nat) (A:Option Addr) (c:Nat) (l:List (List Box)) (i:Int) (w:World) (hl:l.length≤maxLen) (h:qph B w A l) :
  Calls Tryz.prog 37 #[.slice A l.length c,.int .i64 i] w fun e w'=>(∃ Af cf,e=.returned (.slice Af (qpf l i).length cf)∧(qpf l i).length≤cf∧cf≤maxLen∧qaw B w Af (qpf l i))∧w'=w:=by
 unfold maxLen at hl
 by_cases h0:l=[]
 ·subst h0
  go_enter Tryz.func37, Tryz.ntmps37;go_wp2_with fail;go_ret;exact ⟨⟨none,0,rfl,Nat.le_refl _,Nat.zero_le _,Sl.nil⟩,rfl⟩
 have hn:0 < l.length:=List.length_pos_iff.2 h0;have aD:=qmt i hn;have HP:=hid (show qpf l i=l[qhs i l.length] by unfold qpf;simp [List.getD,aD]);have hz1:((l.length:Int)==0)=false:=by rw [beq_eq_false_iff_ne];omega
 have hz2:¬ (l.length:Int)=0:=by omega
 have dP:IntKind.u64.wrap (l.length:Int)=(l.length:Int):=by rw [IntKind.wrap_u64];omega
 obtain ⟨N,hN⟩:=ex1 (IntKind.u64.wrap i);have hN0:0≤N:=by rw [hN,IntKind.wrap_u64];omega
 obtain ⟨q,hq⟩:=ex1 (qhs i l.length);have hm:N.tmod (l.length:Int)=(q:Int):=by
  rw [hq,Int.tmod_eq_emod_of_nonneg hN0];unfold qhs wN;rw [← hN,Int.toNat_of_nonneg (Int.emod_nonneg N hz2)]
 have hA:IntKind.u64.wrap i=N:=hN.symm;rw [← hq] at aD;have hqi:(q:Int) < (l.length:Int):=by omega
 have hw2:IntKind.i64.wrap (q:Int)=(q:Int):=by rw [IntKind.wrap_i64];omega
 have dY:IntKind.u64.wrap (q:Int)=(q:Int):=by rw [IntKind.wrap_u64];omega
 obtain ⟨b,off,Af,cf,rfl,hb,hc,g1,g2,hf⟩:=h.fil aD;have HG:=hid (And.intro g1 (And.intro g2 hf));have HP2:=hid (show qpf l i=l[q] by rw [HP.out];congr 1;exact hq.symm);clear hN hq HP hn h0 g1 g2 hf;go_enter Tryz.func37, Tryz.ntmps37;go_wp2_with fail;go_ret;refine ⟨⟨Af,cf,?_,?_⟩,rfl⟩
 ·rw [HP2.out];rfl
 rw [HP2.out];exact HG.out
def qxw (l:List AskS) (i:Int):AskS:=l.getD (qhs i l.length) ⟨0,0,[],[]⟩
def RAsk (B:Nat) (w:World) (cs:List Value) (a:AskS):Prop:=∃ Af cf Ap cp,cs=[.int .i64 a.site, .int .i64 a.stamp, .slice Af a.filter.length cf, .slice Ap a.parts.length cp]∧InA B w Af cf Ap cp a
abbrev qvc (B:Nat):=Sl B 68 (RAsk B) 4
theorem InA.chgA {B:Nat} {w w':World} {Af:Option Addr} {cf:Nat} {Ap:Option Addr} {cp:Nat} {a:AskS} (h:InA B w Af cf Ap cp a) (x:Chg B [68] w w'):InA B w' Af cf Ap cp a:=
 ⟨h.lf,h.lp,h.sf.chg (RBox.mono (by decide)) (by decide) x,h.sp.chg (RPart.mono (by decide) (by decide) (by decide) (by decide)) (by decide) x⟩
theorem jd6 (B:Nat) (A:Option Addr) (c:Nat) (l:List AskS) (i:Int) (w:World) (hl:l.length≤maxLen) (hB:B≤w.heap.size) (h:qvc B w A l) :
  Calls Tryz.prog 42 #[.slice A l.length c,.int .i64 i] w fun e w'=>(∃ Af cf Ap cp,e=.returned (.agg #[.int .i64 (qxw l i).site, .int .i64 (qxw l i).stamp, .slice Af (qxw l i).filter.length cf, .slice Ap (qxw l i).parts.length cp])∧InA B w' Af cf Ap cp (qxw l i))∧Ext w w':=by
 unfold maxLen at hl
 by_cases h0:l=[]
 ·subst h0
  have hx:=((Ext.refl w).alloc (.cells #[.int .i64 0,.int .i64 0,.slice none 0 0,.slice none 0 0] 68)).alloc (.cells #[.int .i64 0,.int .i64 0,.slice none 0 0,.slice none 0 0] 68);have aX:=(Blk.new w 68 #[.int .i64 0,.int .i64 0,.slice none 0 0,.slice none 0 0]).alloc (.cells #[.int .i64 0,.int .i64 0,.slice none 0 0,.slice none 0 0] 68);have aI:=Blk.new (w.alloc (.cells #[.int .i64 0,.int .i64 0,.slice none 0 0,.slice none 0 0] 68)) 68 #[.int .i64 0,.int .i64 0,.slice none 0 0,.slice none 0 0];rw [show (w.alloc (.cells #[.int .i64 0,.int .i64 0,.slice none 0 0,.slice none 0 0] 68)).heap.size=w.heap.size+1 by simp] at aI;go_enter Tryz.func42, Tryz.ntmps42;go_wp2_with (first | (with_reducible refine qa1 (o:=⟨some 9,_,_,_,_,_⟩) qig _ rfl rfl rfl aI.whole rfl ?_) | ((with_reducible refine qa3 (o:=⟨none,_,_,_,_,_⟩) qig _ _ rfl rfl rfl rfl aX rfl rfl (by simp [Value.oneCell']) ?_);intro w9 bY ao bw bk))
  exact qgi rfl qig rfl ao rfl rfl ⟨⟨none,0,none,0,rfl,⟨Nat.zero_le _,Nat.zero_le _,Sl.nil,Sl.nil⟩⟩,hx.below bY (Nat.le_refl _)⟩
 have hn:0 < l.length:=List.length_pos_iff.2 h0;have aD:=qmt i hn;have HP:=hid (show qxw l i=l[qhs i l.length] by unfold qxw;simp [List.getD,aD]);have hz1:((l.length:Int)==0)=false:=by rw [beq_eq_false_iff_ne];omega
 have hz2:¬ (l.length:Int)=0:=by omega
 have dP:IntKind.u64.wrap (l.length:Int)=(l.length:Int):=by rw [IntKind.wrap_u64];omega
 obtain ⟨N,hN⟩:=ex1 (IntKind.u64.wrap i);have hN0:0≤N:=by rw [hN,IntKind.wrap_u64];omega
 obtain ⟨q,hq⟩:=ex1 (qhs i l.length);have hm:N.tmod (l.length:Int)=(q:Int):=by
  rw [hq,Int.tmod_eq_emod_of_nonneg hN0];unfold qhs wN;rw [← hN,Int.toNat_of_nonneg (Int.emod_nonneg N hz2)]
 have hA:IntKind.u64.wrap i=N:=hN.symm;rw [← hq] at aD;have hqi:(q:Int) < (l.length:Int):=by omega
 have hw2:IntKind.i64.wrap (q:Int)=(q:Int):=by rw [IntKind.wrap_i64];omega
 have dY:IntKind.u64.wrap (q:Int)=(q:Int):=by rw [IntKind.wrap_u64];omega
 obtain ⟨b,off,cl,rfl,hb,bD,bK,Af,cf,Ap,cp,rfl,bZ⟩:=h.at_ aD;have bS:w.rangeAt b (off+q*4) _:=bK;have HIN:=hid bZ;have HP2:=hid (show qxw l i=l[q] by rw [HP.out];congr 1;exact hq.symm);clear hN hq HP hn h0 bZ bK;have hx:=((Ext.refl w).alloc (.cells #[.int .i64 0,.int .i64 0,.slice none 0 0,.slice none 0 0] 68)).alloc (.cells #[.int .i64 0,.int .i64 0,.slice none 0 0,.slice none 0 0] 68);have aX:=(Blk.new w 68 #[.int .i64 0,.int .i64 0,.slice none 0 0,.slice none 0 0]).alloc (.cells #[.int .i64 0,.int .i64 0,.slice none 0 0,.slice none 0 0] 68);have hrow2:((w.alloc (.cells #[.int .i64 0,.int .i64 0,.slice none 0 0,.slice none 0 0] 68)).alloc (.cells #[.int .i64 0,.int .i64 0,.slice none 0 0,.slice none 0 0] 68)).rangeAt b (off+q*4) _:=fun j v hv=>hx.cell (bS j v hv);go_enter Tryz.func42, Tryz.ntmps42;go_wp2_with (first | (with_reducible refine qaa (o:=⟨some 19,_,_,_,_,_⟩) qig _ rfl rfl rfl hrow2 bD ?_) | ((with_reducible refine qa3 (o:=⟨none,_,_,_,_,_⟩) qig _ _ rfl rfl rfl rfl aX rfl rfl (by simp [Value.oneCell']) ?_);intro w9 bY ao bw bk))
 have ah:Chg B [68] _ w9:=qf5 aX bY bk hB;have hin9:=(HIN.out.ext hx).chgA ah;refine qgi rfl qig rfl ao rfl rfl ⟨⟨Af,cf,Ap,cp,?_,?_⟩,hx.below bY (Nat.le_refl _)⟩
 ·rw [HP2.out]
 rw [HP2.out];exact hin9
def qxx (l:List Batch) (i:Int):Batch:=l.getD (qhs i l.length) ⟨0,0,[],[],[]⟩
def RBat (B:Nat) (w:World) (cs:List Value) (b:Batch):Prop:=∃ Ax cx Ag cg Ap cp,cs=[.int .i64 b.site, .int .i64 b.stamp, .slice Ax b.vers.length cx, .slice Ag b.gone.length cg, .slice Ap b.parts.length cp]∧InB B w Ax cx Ag cg Ap cp b
abbrev qvd (B:Nat):=Sl B 90 (RBat B) 5
theorem jd7 (B:Nat) (A:Option Addr) (c:Nat) (l:List Batch) (i:Int) (w:World) (hl:l.length≤maxLen) (hB:B≤w.heap.size) (h:qvd B w A l) :
  Calls Tryz.prog 50 #[.slice A l.length c,.int .i64 i] w fun e w'=>(∃ Ax cx Ag cg Ap cp,e=.returned (.agg #[.int .i64 (qxx l i).site, .int .i64 (qxx l i).stamp, .slice Ax (qxx l i).vers.length cx, .slice Ag (qxx l i).gone.length cg, .slice Ap (qxx l i).parts.length cp])∧InB B w' Ax cx Ag cg Ap cp (qxx l i))∧Ext w w':=by
 unfold maxLen at hl
 by_cases h0:l=[]
 ·subst h0
  have hx:=((Ext.refl w).alloc (.cells #[.int .i64 0,.int .i64 0,.slice none 0 0,.slice none 0 0,.slice none 0 0] 90)).alloc (.cells #[.int .i64 0,.int .i64 0,.slice none 0 0,.slice none 0 0,.slice none 0 0] 90);have aX:=(Blk.new w 90 #[.int .i64 0,.int .i64 0,.slice none 0 0,.slice none 0 0,.slice none 0 0]).alloc (.cells #[.int .i64 0,.int .i64 0,.slice none 0 0,.slice none 0 0,.slice none 0 0] 90);have aI:=Blk.new (w.alloc (.cells #[.int .i64 0,.int .i64 0,.slice none 0 0,.slice none 0 0,.slice none 0 0] 90)) 90 #[.int .i64 0,.int .i64 0,.slice none 0 0,.slice none 0 0,.slice none 0 0];rw [show (w.alloc (.cells #[.int .i64 0,.int .i64 0,.slice none 0 0,.slice none 0 0,.slice none 0 0] 90)).heap.size=w.heap.size+1 by simp] at aI;go_enter Tryz.func50, Tryz.ntmps50;go_wp2_with (first | (with_reducible refine qa1 (o:=⟨some 9,_,_,_,_,_⟩) qcd _ rfl rfl rfl aI.whole rfl ?_) | ((with_reducible refine qa3 (o:=⟨none,_,_,_,_,_⟩) qcd _ _ rfl rfl rfl rfl aX rfl rfl (by simp [Value.oneCell']) ?_);intro w9 bY ao bw bk))
  exact qgi rfl qcd rfl ao rfl rfl ⟨⟨none,0,none,0,none,0,rfl,InB.empty⟩,hx.below bY (Nat.le_refl _)⟩
 have hn:0 < l.length:=List.length_pos_iff.2 h0;have aD:=qmt i hn;have HP:=hid (show qxx l i=l[qhs i l.length] by unfold qxx;simp [List.getD,aD]);have hz1:((l.length:Int)==0)=false:=by rw [beq_eq_false_iff_ne];omega
 have hz2:¬ (l.length:Int)=0:=by omega
 have dP:IntKind.u64.wrap (l.length:Int)=(l.length:Int):=by rw [IntKind.wrap_u64];omega
 obtain ⟨N,hN⟩:=ex1 (IntKind.u64.wrap i);have hN0:0≤N:=by rw [hN,IntKind.wrap_u64];omega
 obtain ⟨q,hq⟩:=ex1 (qhs i l.length);have hm:N.tmod (l.length:Int)=(q:Int):=by
  rw [hq,Int.tmod_eq_emod_of_nonneg hN0];unfold qhs wN;rw [← hN,Int.toNat_of_nonneg (Int.emod_nonneg N hz2)]
 have hA:IntKind.u64.wrap i=N:=hN.symm;rw [← hq] at aD;have hqi:(q:Int) < (l.length:Int):=by omega
 have hw2:IntKind.i64.wrap (q:Int)=(q:Int):=by rw [IntKind.wrap_i64];omega
 have dY:IntKind.u64.wrap (q:Int)=(q:Int):=by rw [IntKind.wrap_u64];omega
 obtain ⟨b,off,cl,rfl,hb,bD,bK,Ax,cx,Ag,cg,Ap,cp,rfl,bZ⟩:=h.at_ aD;have bS:w.rangeAt b (off+q*5) _:=bK;have HIN:=hid bZ;have HP2:=hid (show qxx l i=l[q] by rw [HP.out];congr 1;exact hq.symm);clear hN hq HP hn h0 bZ bK;have hx:=((Ext.refl w).alloc (.cells #[.int .i64 0,.int .i64 0,.slice none 0 0,.slice none 0 0,.slice none 0 0] 90)).alloc (.cells #[.int .i64 0,.int .i64 0,.slice none 0 0,.slice none 0 0,.slice none 0 0] 90);have aX:=(Blk.new w 90 #[.int .i64 0,.int .i64 0,.slice none 0 0,.slice none 0 0,.slice none 0 0]).alloc (.cells #[.int .i64 0,.int .i64 0,.slice none 0 0,.slice none 0 0,.slice none 0 0] 90);have hrow2:((w.alloc (.cells #[.int .i64 0,.int .i64 0,.slice none 0 0,.slice none 0 0,.slice none 0 0] 90)).alloc (.cells #[.int .i64 0,.int .i64 0,.slice none 0 0,.slice none 0 0,.slice none 0 0] 90)).rangeAt b (off+q*5) _:=fun j v hv=>hx.cell (bS j v hv)
 go_enter Tryz.func50, Tryz.ntmps50;go_wp2_with (first | (with_reducible refine qaa (o:=⟨some 19,_,_,_,_,_⟩) qcd _ rfl rfl rfl hrow2 bD ?_) | ((with_reducible refine qa3 (o:=⟨none,_,_,_,_,_⟩) qcd _ _ rfl rfl rfl rfl aX rfl rfl (by simp [Value.oneCell']) ?_);intro w9 bY ao bw bk));have ah:Chg B [90] _ w9:=qf5 aX bY bk hB;have hin9:=(HIN.out.ext hx).chgBt ah;refine qgi rfl qcd rfl ao rfl rfl ⟨⟨Ax,cx,Ag,cg,Ap,cp,?_,?_⟩,hx.below bY (Nat.le_refl _)⟩
 ·rw [HP2.out]
 rw [HP2.out];exact hin9
end Go.Proofs.YtngbfdogiciahaaGreat
