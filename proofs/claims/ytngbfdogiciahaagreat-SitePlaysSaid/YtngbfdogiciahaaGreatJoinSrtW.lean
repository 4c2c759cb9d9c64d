/- Texts joined. -/
import Derived.Test.YtngbfdogiciahaaGreatJoinSrtP
set_option maxRecDepth 100000
set_option maxHeartbeats 40000000
namespace Go.Proofs.YtngbfdogiciahaaGreat
open Go Go.RowKit
structure Srtr {α:Type} (lt:α→α→Bool) (g sf:FuncId) (lb sb:Array Value) (St:List α→World→Prop):Prop where
 hg:∀ (args:Array Value) (wn:World),(callFunc g args).run Tryz.prog wn=.ok (.enter g args) wn
 ext:∀ d w w',St d w→Ext w w'→St d w'
 lessA:∀ (P:List α) (x:α) (M:List α) (y:α) (S:List α) (w:World) (i j:Int),i=(P.length:Int)→j=(P.length:Int)+1+(M.length:Int)→St (P++x::(M++y::S)) w→
  Calls Tryz.prog g (#[.int .i64 i,.int .i64 j]++lb) w fun e w'=>e=.returned (.bool (lt x y))∧St (P++x::(M++y::S)) w'∧Chg 0 [151] w w'
 lessB:∀ (P:List α) (x:α) (M:List α) (y:α) (S:List α) (w:World) (i j:Int),i=(P.length:Int)→j=(P.length:Int)+1+(M.length:Int)→St (P++x::(M++y::S)) w→
  Calls Tryz.prog g (#[.int .i64 j,.int .i64 i]++lb) w fun e w'=>e=.returned (.bool (lt y x))∧St (P++x::(M++y::S)) w'∧Chg 0 [151] w w'
 swapA:∀ (P:List α) (x:α) (M:List α) (y:α) (S:List α) (w:World) (i j:Int),i=(P.length:Int)→j=(P.length:Int)+1+(M.length:Int)→St (P++x::(M++y::S)) w→
  ∃ w',(callFunc sf (#[.int .i64 i,.int .i64 j]++sb)).run Tryz.prog w=.ok (.value (.tuple #[])) w'∧St (P++y::(M++x::S)) w'∧Chg 0 [151] w w'
 swapB:∀ (P:List α) (x:α) (M:List α) (y:α) (S:List α) (w:World) (i j:Int),i=(P.length:Int)→j=(P.length:Int)+1+(M.length:Int)→St (P++x::(M++y::S)) w→
  ∃ w',(callFunc sf (#[.int .i64 j,.int .i64 i]++sb)).run Tryz.prog w=.ok (.value (.tuple #[])) w'∧St (P++y::(M++x::S)) w'∧Chg 0 [151] w w'
section
variable {α:Type} {lt:α→α→Bool} {g sf:FuncId} {lb sb:Array Value} {St:List α→World→Prop}
theorem jbk (K:Srtr lt g sf lb sb St) (P x M y S:List α) (w:World) (a b n:Nat) (ha:a=P.length) (hb:b=P.length+x.length+M.length) (hx:x.length=n) (hy:y.length=n) (hl:a+b+n≤1000000) (h:St (P++(x++(M++(y++S)))) w) :
  Calls Tryz.prog 248 #[.agg #[.func (.func g) #[] lb,.func (.func sf) #[] sb],.int .i64 a,.int .i64 b,.int .i64 n] w fun e w'=>e=.returned (.tuple #[])∧St (P++(y++(M++(x++S)))) w'∧Chg 0 [151] w w':=by
 have HX:=hid hx;have HY:=hid hy;have HA:=hid ha;have HB:=hid hb;have hg:=K.hg;have aC:=(Ext.refl w).alloc (.cells #[.func (.func g) #[] lb,.func (.func sf) #[] sb] 280);have aG:=Blk.new w 280 #[.func (.func g) #[] lb,.func (.func sf) #[] sb];have h1:=K.ext _ _ _ h aC;have hc:=Chg.of_ext (B:=0) (ts:=[151]) aC;clear h hx hy ha hb;go_enter Tryz.func248, Tryz.ntmps248;go_wp2_with fail;go_loopw [8] (fun i wr=>∃ (k:Nat) (x1 x2 y1 y2:List α),x=x1++x2∧y=y1++y2∧x1.length=k∧y1.length=k∧k≤n∧i=.int .i64 (k:Int)∧St (P++(y1++(x2++(M++(x1++(y2++S)))))) wr∧Blk wr w.heap.size 280 #[.func (.func g) #[] lb,.func (.func sf) #[] sb]∧Chg 0 [151] w wr) (fun i _=>n - (intOf i).toNat)
 case atStart=>exact ⟨0,[],x,[],y,rfl,rfl,rfl,rfl,Nat.zero_le _,rfl,h1,aG,hc⟩
 clear h1 aG hc;obtain ⟨k,x1,x2,y1,y2,e1,e2,e3,e4,hk,rfl,h1,aG,hc⟩:=hrel;have E1:=hid e1;have E2:=hid e2;have E3:=hid e3;have E4:=hid e4;clear e1 e2 e3 e4
 by_cases aD:k < n
 ·obtain ⟨u,x2,rfl⟩:∃ u r,x2=u::r:=by
   cases x2 with
   | nil=>have:=congrArg List.length E1.out;rw [HX.out] at this;simp [E3.out] at this;omega
   | cons u r=>exact ⟨u,r,rfl⟩
  obtain ⟨v,y2,rfl⟩:∃ u r,y2=u::r:=by
   cases y2 with
   | nil=>have:=congrArg List.length E2.out;rw [HY.out] at this;simp [E4.out] at this;omega
   | cons u r=>exact ⟨u,r,rfl⟩
  have h2:St ((P++y1)++u::((x2++(M++x1))++v::(y2++S))) wr:=by simpa using h1
  have HXL:=hid (show n=k+1+x2.length by have:=congrArg List.length E1.out;rw [HX.out] at this;simp [E3.out] at this;omega);have y0:=aG.ce 1 (.func (.func sf) #[] sb) rfl;clear h1;go_wp2_with fail;obtain ⟨w2,ax,h3,ad⟩:=K.swapA _ _ _ _ _ _ ((a:Int)+(k:Int)) ((b:Int)+(k:Int)) (by rw [List.length_append,E4.out,HA.out];omega) (by simp only [List.length_append];rw [E4.out,E3.out,HB.out,HX.out];have:=HXL.out;omega) h2;rw [ax];(try simp only [Result.andThen]);rw [Oper.upon_value];clear ax;have h4:St (P++((y1++[v])++(x2++(M++((x1++[u])++(y2++S)))))) w2:=by simpa using h3
  replace aG:=aG.chg ad (by decide);clear h2 h3 y0;go_wp2_with fail;go_roundw
  case rel=>exact ⟨k+1,x1++[u],x2,y1++[v],y2,by rw [E1.out];simp,by rw [E2.out];simp,by simp [E3.out],by simp [E4.out],aD,by first | rfl | go_num,h4,aG,hc.trans ad⟩
  case measure=>simp [intOf];omega
 obtain rfl:k=n:=by omega
 have h2:St (P++(y++(M++(x++S)))) wr:=by
  have a1:x2=[]:=by have:=congrArg List.length E1.out;rw [HX.out,List.length_append,E3.out] at this;exact List.eq_nil_of_length_eq_zero (by omega)
  have a2:y2=[]:=by have:=congrArg List.length E2.out;rw [HY.out,List.length_append,E4.out] at this;exact List.eq_nil_of_length_eq_zero (by omega)
  have b1:=E1.out;have b2:=E2.out;subst a1 a2;rw [List.append_nil] at b1 b2;rw [b1,b2];simpa using h1
 clear h1;go_wp2_with fail;go_end0;exact ⟨rfl,h2,hc⟩
theorem qlr (K:Srtr lt g sf lb sb St) (P x M y S:List α) (w:World) (a b n:Int) (ha:a=(P.length:Int)) (hb:b=(P.length:Int)+(x.length:Int)+(M.length:Int)) (hn:n=(x.length:Int)) (hy:y.length=x.length) (hl:2*P.length+2*x.length+M.length≤1000000) (h:St (P++(x++(M++(y++S)))) w) :
  Calls Tryz.prog 248 #[.agg #[.func (.func g) #[] lb,.func (.func sf) #[] sb],.int .i64 a,.int .i64 b,.int .i64 n] w fun e w'=>e=.returned (.tuple #[])∧St (P++(y++(M++(x++S)))) w'∧Chg 0 [151] w w':=by
 have:=jbk K P x M y S w P.length (P.length+x.length+M.length) x.length rfl rfl rfl hy (by omega) h;rw [ha,hb,hn];push_cast at this;exact this
theorem qq3 (K:Srtr lt g sf lb sb St) (P u v S:List α) (w:World) (a m b:Int) (ha:a=(P.length:Int)) (hm:m=(P.length:Int)+(u.length:Int)) (hb:b=(P.length:Int)+(u.length:Int)+(v.length:Int)) (hu:u≠[]) (hv:v≠[]) (hl:P.length+u.length+v.length≤100000) (h:St (P++(u++(v++S))) w) :
  Calls Tryz.prog 239 #[.agg #[.func (.func g) #[] lb,.func (.func sf) #[] sb],.int .i64 a,.int .i64 m,.int .i64 b] w fun e w'=>e=.returned (.tuple #[])∧St (P++(v++(u++S))) w'∧Chg 0 [151] w w':=by
 have hl0:0≤a∧a≤m∧m≤b∧b≤100000:=by omega
 obtain ⟨hl1,hl2,hl3,hl4⟩:=hl0;have HM:=hid hm;have HLL:=hid hl;have HU:=hid hu;have HV:=hid hv;have e1:m - a=(u.length:Int):=by omega
 have e2:b - m=(v.length:Int):=by omega
 have cH:=hid e1;have fK:=hid e2;have aC:=(Ext.refl w).alloc (.cells #[.func (.func g) #[] lb,.func (.func sf) #[] sb] 280);have aG:=Blk.new w 280 #[.func (.func g) #[] lb,.func (.func sf) #[] sb];have h1:=K.ext _ _ _ h aC;have hc:=Chg.of_ext (B:=0) (ts:=[151]) aC;clear h hu hv ha hm hb e1 e2 hl;go_enter Tryz.func239, Tryz.ntmps239;go_wp2_with fail;rw [cH.out,fK.out];go_loopw [8,9] (fun i j wr=>∃ (P' u' v' S':List α),u'≠[]∧v'≠[]∧i=.int .i64 (u'.length:Int)∧j=.int .i64 (v'.length:Int)∧m=(P'.length:Int)+(u'.length:Int)∧P'.length+u'.length+v'.length≤100000∧P'++(v'++(u'++S'))=P++(v++(u++S))∧St (P'++(u'++(v'++S'))) wr∧Blk wr w.heap.size 280 #[.func (.func g) #[] lb,.func (.func sf) #[] sb]∧Chg 0 [151] w wr) (fun i j _=>(intOf i).toNat+(intOf j).toNat)
 case atStart=>exact ⟨P,u,v,S,HU.out,HV.out,rfl,rfl,HM.out,HLL.out,rfl,h1,aG,hc⟩
 clear h1 aG hc;obtain ⟨P',u',v',S',hu,hv,rfl,rfl,hm,hl,he,h1,aG,hc⟩:=hrel;have HM':=hid hm;have HL':=hid hl;have HEQ:=hid he;have hu0:0 < u'.length:=List.length_pos_iff.2 hu;have bM:0 < v'.length:=List.length_pos_iff.2 hv;have aX:u'.length≤100000:=by omega
 have aI:v'.length≤100000:=by omega
 have y0:=aG.ce 0 (.func (.func g) #[] lb) rfl;have y1:=aG.ce 1 (.func (.func sf) #[] sb) rfl;clear hm hl he hu hv;rcases Nat.lt_trichotomy u'.length v'.length with aD | heq | hgt
 ·obtain ⟨v1,v2,hvv,bx⟩:∃ v1 v2,v'=v1++v2∧v2.length=u'.length:=⟨v'.take (v'.length - u'.length),v'.drop (v'.length - u'.length),(List.take_append_drop _ _).symm,by rw [List.length_drop];omega⟩
  have HVV:=hid hvv;have HV2:=hid bx;have HV1:=hid (show (v1.length:Int)=(v'.length:Int) - (u'.length:Int) by rw [hvv,List.length_append];omega);have h2:St (P'++(u'++(v1++(v2++S')))) wr:=by rw [hvv] at h1;simpa using h1
  have aV:((u'.length:Int) !=(v'.length:Int))=true:=by rw [bne_iff_ne];omega
  have hgt:decide ((v'.length:Int) < (u'.length:Int))=false:=decide_eq_false (by omega);have hum:(u'.length:Int)≤m:=by have:=HM'.out;omega
  have HR:=hid (show v2≠[]∧v1≠[] from ⟨List.length_pos_iff.1 (by omega),List.length_pos_iff.1 (by have:=HV1.out;omega)⟩);clear h1 hvv bx;go_wp2_with fail;refine (qlr K P' u' v1 v2 S' _ _ _ _ (by have:=HM'.out;omega) (by have:=HM'.out;have:=HV1.out;omega) rfl HV2.out (by have:=HL'.out;have:=HV1.out;omega) h2).mono ?_;rintro e w2 ⟨rfl,h3,ad⟩;replace aG:=aG.chg ad (by decide);clear h2 y0 y1;go_wp2_with fail;go_roundw
  case rel=>exact ⟨P',v2,v1,u'++S',HR.out.1,HR.out.2,by rw [HV2.out],by rw [HV1.out],by rw [HM'.out,HV2.out],by have:=HL'.out;have:=HV1.out;have:=HV2.out;omega,by rw [← HEQ.out,HVV.out];simp,by simpa using h3,aG,hc.trans ad⟩
  case measure=>simp [intOf];omega
 ·have aV:((u'.length:Int) !=(v'.length:Int))=false:=by rw [heq];simp
  have hum:(u'.length:Int)≤m:=by have:=HM'.out;omega
  have HQ:=hid heq;clear heq hu0 bM;go_wp2_with fail;refine (qlr K P' u' [] v' S' _ _ _ _ (by have:=HM'.out;omega) (by have:=HM'.out;simp;omega) rfl HQ.out.symm (by have:=HL'.out;have:=HQ.out;simp;omega) (by simpa using h1)).mono ?_;rintro e w2 ⟨rfl,h3,ad⟩;go_wp2_with fail;go_end0;refine ⟨rfl,?_,hc.trans ad⟩;rw [← HEQ.out];simpa using h3
 obtain ⟨u1,u2,huu,hu1⟩:∃ u1 u2,u'=u1++u2∧u1.length=v'.length:=⟨u'.take v'.length,u'.drop v'.length,(List.take_append_drop _ _).symm,by rw [List.length_take];omega⟩
 have HUU:=hid huu;have HU1:=hid hu1;have HU2:=hid (show (u2.length:Int)=(u'.length:Int) - (v'.length:Int) by rw [huu,List.length_append];omega);have h2:St (P'++(u1++(u2++(v'++S')))) wr:=by rw [huu] at h1;simpa using h1
 have aV:((u'.length:Int) !=(v'.length:Int))=true:=by rw [bne_iff_ne];omega
 have hgt':decide ((v'.length:Int) < (u'.length:Int))=true:=decide_eq_true (by omega);have hum:(u'.length:Int)≤m:=by have:=HM'.out;omega
 have HR:=hid (show u2≠[]∧u1≠[] from ⟨List.length_pos_iff.1 (by have:=HU2.out;omega),List.length_pos_iff.1 (by omega)⟩);clear h1 huu hu1;go_wp2_with fail;refine (qlr K P' u1 u2 v' S' _ _ _ _ (by have:=HM'.out;omega) (by have:=HM'.out;have:=HU2.out;have:=HU1.out;omega) (by rw [HU1.out]) HU1.out.symm (by have:=HL'.out;have:=HU2.out;have:=HU1.out;omega) h2).mono ?_;rintro e w2 ⟨rfl,h3,ad⟩;replace aG:=aG.chg ad (by decide);clear h2 y0 y1;go_wp2_with fail;go_roundw
 case rel=>exact ⟨P'++v',u2,u1,S',HR.out.1,HR.out.2,by rw [HU2.out],by rw [HU1.out],by rw [HM'.out,HU2.out,List.length_append];omega,by rw [List.length_append];have:=HL'.out;have:=HU2.out;have:=HU1.out;omega,by rw [← HEQ.out,HUU.out];simp,by simpa using h3,aG,hc.trans ad⟩
 case measure=>simp [intOf];omega
theorem qs9 (K:Srtr lt g sf lb sb St) (O:Ord lt) (P L S:List α) (w:World) (a b:Int) (ha:a=(P.length:Int)) (hb:b=(P.length:Int)+(L.length:Int)) (hl:P.length+L.length≤100000) (h:St (P++(L++S)) w) :
  Calls Tryz.prog 222 #[.agg #[.func (.func g) #[] lb,.func (.func sf) #[] sb],.int .i64 a,.int .i64 b] w fun e w'=>e=.returned (.tuple #[])∧∃ L',L'.Perm L∧Srt lt L'∧St (P++(L'++S)) w'∧Chg 0 [151] w w':=by
 obtain ⟨p,rfl⟩:∃ p:Nat,a=(p:Int):=⟨P.length,ha⟩
 obtain ⟨q,rfl⟩:∃ q:Nat,b=(q:Int):=⟨P.length+L.length,by rw [hb];push_cast;rfl⟩
 have HP:=hid (show p=P.length by omega);have HQ:=hid (show q=P.length+L.length by omega);have hq:q≤100000:=by omega
 have hg:=K.hg;have aC:=(Ext.refl w).alloc (.cells #[.func (.func g) #[] lb,.func (.func sf) #[] sb] 280);have aG:=Blk.new w 280 #[.func (.func g) #[] lb,.func (.func sf) #[] sb];have h1:=K.ext _ _ _ h aC;have hc:=Chg.of_ext (B:=0) (ts:=[151]) aC;have hpq:p≤q:=by omega
 clear h ha hb hl aC
 cases L with
 | nil=>
  obtain rfl:p=q:=by have:=HP.out;have:=HQ.out;simp at this;omega
  go_enter Tryz.func222, Tryz.ntmps222;go_wp2_with fail;go_loopw [6] (fun i wr=>i=.int .i64 ((p:Int)+1)∧St (P++([]++S)) wr∧Chg 0 [151] w wr) (fun i _=>0)
  case atStart=>exact ⟨rfl,h1,hc⟩
  obtain ⟨rfl,h1,hc⟩:=hrel;go_wp2_with fail;go_end0;exact ⟨rfl,[],List.Perm.refl _,jfl,h1,hc⟩
 | cons x0 L0=>
  go_enter Tryz.func222, Tryz.ntmps222;go_wp2_with fail;go_loopw [6] (fun i wr=>∃ (k:Nat) (A C:List α),(A++C).Perm (x0::L0)∧Srt lt A∧k=p+A.length∧i=.int .i64 (k:Int)∧St (P++((A++C)++S)) wr∧Blk wr w.heap.size 280 #[.func (.func g) #[] lb,.func (.func sf) #[] sb]∧Chg 0 [151] w wr) (fun i _=>q - (intOf i).toNat)
  case atStart=>exact ⟨p+1,[x0],L0,List.Perm.refl _,qv6 _,rfl,by first | rfl | (push_cast;rfl),h1,aG,hc⟩
  clear h1 aG hc;obtain ⟨k,A,C,hpm,hso,hk,rfl,h1,aG,hc⟩:=hrel;have HPM:=hid hpm;have HSO:=hid hso;have HK:=hid hk;have HCL:=hid (show q=k+C.length by have:=hpm.length_eq;rw [List.length_append] at this;have:=HQ.out;have:=HP.out;omega);clear hpm hso hk
  cases C with
  | nil=>
   have hkq:k=q:=by have:=HCL.out;simpa using this.symm
   subst hkq;go_wp2_with fail;go_end0;exact ⟨rfl,A,by simpa using HPM.out,HSO.out,by simpa using h1,hc⟩
  | cons x C=>
   have hkq:k < q:=by have:=HCL.out;simp at this;omega
   obtain ⟨wo,hwq⟩:=ex1 wr;subst hwq;go_wp2_with fail;go_loopw [7] (fun j wr=>∃ (t:Nat) (A1 A2:List α),A=A1++A2∧(∀ y∈A2,lt x y=true)∧t=p+A1.length∧j=.int .i64 (t:Int)∧St (P++((A1++x::A2++C)++S)) wr∧Blk wr w.heap.size 280 #[.func (.func g) #[] lb,.func (.func sf) #[] sb]∧Chg 0 [151] wo wr) (fun j _=>(intOf j).toNat)
   case atStart=>exact ⟨k,A,[],by simp,by simp,HK.out,rfl,by simpa using h1,aG,Chg.refl _⟩
   have HC:=hid hc;clear h1 aG hc;obtain ⟨t,A1,A2,hA,hA2,ht,rfl,h1,aG,hc⟩:=hrel;have HA:=hid hA;have HA2:=hid hA2;have HT:=hid ht;have y0:=aG.ce 0 (.func (.func g) #[] lb) rfl;have y1:=aG.ce 1 (.func (.func sf) #[] sb) rfl;clear hA hA2 ht;rcases List.eq_nil_or_concat A1 with rfl | ⟨A1',y,rfl⟩
   ·obtain rfl:t=p:=by simpa using HT.out
    rw [List.nil_append] at HA;go_wp2_with fail;go_roundw
    case rel=>
     refine ⟨k+1,x::A2,C,?_,?_,?_,by first | rfl | go_num,by simpa using h1,aG,HC.out.trans hc⟩
     ·refine List.Perm.trans ?_ HPM.out
      rw [HA.out,List.cons_append];exact List.perm_middle.symm
     ·refine qre O (a:=[]) (by rw [List.nil_append,← HA.out];exact HSO.out) (by simp) (fun y hy=>?_)
      exact O.asymm _ _ (HA2.out y (List.mem_of_mem_head? hy))
     have:=HK.out;rw [HA.out] at this;simp;omega
    case measure=>simp [intOf];omega
   rw [List.concat_eq_append] at HA HT h1;obtain ⟨t',rfl⟩:∃ t',t=t'+1:=⟨t - 1,by have:=HT.out;simp at this;omega⟩
   have HT':=hid (show t'=p+A1'.length by have:=HT.out;simp at this;omega);have hpt:(p:Int)≤(t':Int):=by have:=HT'.out;omega
   have htq:(t':Int) < (q:Int):=by
    have h1:=HT.out;have h2:=HK.out;have h3:=congrArg List.length HA.out;simp only [List.length_append,List.length_cons,List.length_nil] at h1 h3;omega
   have h2:St ((P++A1')++y::([]++x::(A2++(C++S)))) wr:=by simpa using h1
   clear h1;go_wp2_with fail;refine (K.lessB (P++A1') y [] x (A2++(C++S)) wr (t':Int) ((t':Int)+1) (by rw [List.length_append];have:=HT'.out;have:=HP.out;omega) (by rw [List.length_append];have:=HT'.out;have:=HP.out;simp;omega) h2).mono ?_;rintro e w2 ⟨rfl,h3,ad⟩;replace aG:=aG.chg ad (by decide);replace hc:=hc.trans ad;clear h2 y0 y1 ad
   cases hxy:lt x y
   ·have HXY:=hid hxy
    clear hxy;go_wp2_with fail;go_roundw
    case rel=>
     refine ⟨k+1,(A1'++[y])++x::A2,C,?_,?_,?_,by first | rfl | go_num,by simpa using h3,aG,HC.out.trans hc⟩
     ·refine List.Perm.trans ?_ HPM.out
      rw [HA.out,List.append_assoc,List.append_assoc (A1'++[y])];refine List.Perm.append_left _ ?_;rw [List.cons_append];exact List.perm_middle.symm
     ·refine qre O (by rw [← HA.out];exact HSO.out) (fun z hz=>?_) (fun y hy=>?_)
      ·simp at hz
       subst hz;exact HXY.out
      exact O.asymm _ _ (HA2.out y (List.mem_of_mem_head? hy))
     have:=HK.out;rw [HA.out] at this;simp only [List.length_append,List.length_cons,List.length_nil] at this ⊢;omega
    case measure=>simp [intOf];omega
   have HXY:=hid hxy;clear hxy;have y0:=aG.ce 0 (.func (.func g) #[] lb) rfl;have y1:=aG.ce 1 (.func (.func sf) #[] sb) rfl;go_wp2_with fail;obtain ⟨w3,ax,h4,fm⟩:=K.swapB (P++A1') y [] x (A2++(C++S)) w2 (t':Int) ((t':Int)+1) (by rw [List.length_append];have:=HT'.out;have:=HP.out;omega) (by rw [List.length_append];have:=HT'.out;have:=HP.out;simp;omega) h3;rw [ax];(try simp only [Result.andThen]);rw [Oper.upon_value];clear ax;replace aG:=aG.chg fm (by decide);replace hc:=hc.trans fm;clear h3 y0 y1 fm;go_wp2_with fail;go_roundw
   case rel=>
    refine ⟨t',A1',y::A2,by rw [HA.out];simp,fun z hz=>?_,HT'.out,by first | rfl | go_num,by simpa using h4,aG,hc⟩;rcases List.mem_cons.1 hz with rfl | hz
    ·exact HXY.out
    exact HA2.out z hz
   case measure=>simp [intOf]
end
section
variable {α:Type} {lt:α→α→Bool} {g sf:FuncId} {lb sb:Array Value} {St:List α→World→Prop}
theorem qkp {l:List α} {k:Nat} (h:k < l.length):l=l.take k++l[k]::l.drop (k+1):=by
 rw [← List.drop_eq_getElem_cons h,List.take_append_drop]
theorem qui (O:Ord lt) {x y z:α} (h1:lt y z=false) (h2:lt y x=true):lt z x=true:=by
 cases h:lt z x
 ·have:=O.trans x z y h h1
  rw [h2] at this
  cases this
 rfl
theorem quj (O:Ord lt) {x y z:α} (h1:lt x y=true) (h2:lt z y=false):lt x z=true:=by
 cases h:lt x z
 ·have:=O.trans y z x h2 h
  rw [h1] at this
  cases this
 rfl
theorem qrd {l:List α} (h:Srt lt l) {i j:Nat} (hj:j < l.length) (de:i < j):lt l[j] (l[i]'(by omega))=false:=by
 rw [Srt,List.pairwise_iff_getElem] at h;exact h i j (by omega) hj de
theorem jbl (K:Srtr lt g sf lb sb St) (O:Ord lt) (P:List α) (x:α) (R S:List α) (w:World) (a m b:Int) (ha:a=(P.length:Int)) (hm:m=(P.length:Int)+1) (hb:b=(P.length:Int)+1+(R.length:Int)) (hl:P.length+1+R.length≤100000) (hR:Srt lt R) (h:St (P++(x::(R++S))) w) :
  Calls Tryz.prog 223 #[.agg #[.func (.func g) #[] lb,.func (.func sf) #[] sb],.int .i64 a,.int .i64 m,.int .i64 b] w fun e w'=>e=.returned (.tuple #[])∧∃ M,M.Perm (x::R)∧Srt lt M∧St (P++(M++S)) w'∧Chg 0 [151] w w':=by
 obtain ⟨p,rfl⟩:∃ p:Nat,a=(p:Int):=⟨P.length,ha⟩
 obtain ⟨q,rfl⟩:∃ q:Nat,b=(q:Int):=⟨P.length+1+R.length,by rw [hb];push_cast;rfl⟩
 obtain rfl:m=(p:Int)+1:=by omega
 have HP:=hid (show p=P.length by omega);have HQ:=hid (show q=p+1+R.length by omega);have HR:=hid hR;have hq:q≤100000:=by omega
 have hg:=K.hg;have aC:=(Ext.refl w).alloc (.cells #[.func (.func g) #[] lb,.func (.func sf) #[] sb] 280);have aG:=Blk.new w 280 #[.func (.func g) #[] lb,.func (.func sf) #[] sb];have h1:=K.ext _ _ _ h aC;have hc:=Chg.of_ext (B:=0) (ts:=[151]) aC;clear h ha hm hb hl aC hR;go_enter Tryz.func223, Tryz.ntmps223;go_wp2_with fail;rw [show (p:Int)+1 - p=1 by omega,show ((1:Int)==1)=true from rfl];go_loopw [8,9] (fun i j wr=>∃ ri rj:Nat,i=.int .i64 ((p+1+ri:Nat):Int)∧j=.int .i64 ((p+1+rj:Nat):Int)∧ri≤rj∧rj≤R.length∧(∀ y∈R.take ri,lt y x=true)∧(∀ y∈R.drop rj,lt y x=false)∧St (P++(x::(R++S))) wr∧Blk wr w.heap.size 280 #[.func (.func g) #[] lb,.func (.func sf) #[] sb]∧Chg 0 [151] w wr) (fun i j _=>(intOf j).toNat - (intOf i).toNat)
 case atStart=>exact ⟨0,R.length,by first | rfl | (push_cast;rfl),by rw [← HQ.out],Nat.zero_le _,Nat.le_refl _,by simp,by simp,h1,aG,hc⟩
 clear h1 aG hc;obtain ⟨ri,rj,rfl,rfl,de,hj,hA,hB,h1,aG,hc⟩:=hrel;have HA:=hid hA;have HB:=hid hB;have HJ:=hid hj;have y0:=aG.ce 0 (.func (.func g) #[] lb) rfl;have y1:=aG.ce 1 (.func (.func sf) #[] sb) rfl;have hjq:p+1+rj≤q:=by have:=HQ.out;omega
 clear hA hB hj
 by_cases aD:ri < rj
 ·have hri:ri < R.length:=by have:=HJ.out;omega
  obtain ⟨rh,hrh,hr1,hr2⟩:∃ rh:Nat,((p:Int)+1+ri+((p:Int)+1+rj)) / 2=((p+1+rh:Nat):Int)∧ri≤rh∧rh < rj:=⟨(ri+rj) / 2,by omega,by omega,by omega⟩
  have cR:rh < R.length:=by have:=HJ.out;omega
  have h2:St (P++x::(R.take rh++R[rh]::(R.drop (rh+1)++S))) wr:=by
   have e:R++S=R.take rh++R[rh]::(R.drop (rh+1)++S):=by
    have:=congrArg (·++S) (qkp cR);simpa only [List.append_assoc,List.cons_append] using this
   rw [e] at h1;exact h1
  have HRH:=hid hrh;clear h1 hrh;go_wp2_with fail;rw [HRH.out];refine (K.lessB P x (R.take rh) R[rh] (R.drop (rh+1)++S) wr (p:Int) ((p+1+rh:Nat):Int) (by rw [HP.out]) (by rw [List.length_take];have:=HP.out;omega) h2).mono ?_;rintro e w2 ⟨rfl,h3,ad⟩;have h4:St (P++(x::(R++S))) w2:=by
   have e:R++S=R.take rh++R[rh]::(R.drop (rh+1)++S):=by
    have:=congrArg (·++S) (qkp cR);simpa only [List.append_assoc,List.cons_append] using this
   rw [e];exact h3
  replace aG:=aG.chg ad (by decide);replace hc:=hc.trans ad;clear h2 h3 y0 y1 ad
  cases hyx:lt R[rh] x
  ·have fi:=hid hyx
   clear hyx;go_wp2_with fail;go_roundw
   case rel=>
    refine ⟨ri,rh,rfl,rfl,hr1,by omega,HA.out,fun y hy=>?_,h4,aG,hc⟩;obtain ⟨n,hn,rfl⟩:=List.getElem_of_mem hy;rw [List.getElem_drop]
    by_cases hn0:n=0
    ·subst hn0;exact fi.out
    rw [List.length_drop] at hn;exact O.trans _ _ _ fi.out (qrd HR.out (by omega) (by omega))
   case measure=>simp [intOf];omega
  have fi:=hid hyx;clear hyx;go_wp2_with fail;go_roundw
  case rel=>
   refine ⟨rh+1,rj,by first | rfl | (push_cast;rfl) | go_num,rfl,hr2,HJ.out,fun y hy=>?_,HB.out,h4,aG,hc⟩;obtain ⟨n,hn,rfl⟩:=List.getElem_of_mem hy;rw [List.getElem_take];rw [List.length_take] at hn
   by_cases hn0:n=rh
   ·subst hn0;exact fi.out
   exact qui O (qrd HR.out cR (by omega)) fi.out
  case measure=>simp [intOf];omega
 obtain rfl:ri=rj:=by omega
 have HSR:=hid (qre O (a:=R.take ri) (b:=R.drop ri) (x:=x) (by rw [List.take_append_drop];exact HR.out) (fun z hz=>O.asymm _ _ (HA.out z (List.mem_of_getLast? hz))) (fun y hy=>HB.out y (List.mem_of_mem_head? hy)));have hriq:ri≤R.length:=HJ.out;have eJ:p+1+R.length≤100000:=by have:=HQ.out;omega
 clear aD de hjq;obtain ⟨I,hI⟩:=ex1 (p+1+ri);rw [← hI];have HI:=hid hI;have hI1:p+1≤I:=by omega
 have hI2:I≤100000:=by omega
 clear hI;go_wp2_with fail;go_loopw [11] (fun v wr=>∃ k t:Nat,t≤ri∧k=p+t∧v=.int .i64 (k:Int)∧St (P++(R.take t++x::R.drop t++S)) wr∧Blk wr w.heap.size 280 #[.func (.func g) #[] lb,.func (.func sf) #[] sb]∧Chg 0 [151] w wr) (fun k _=>p+ri - (intOf k).toNat)
 case atStart=>exact ⟨p,0,Nat.zero_le _,rfl,rfl,by simpa using h1,aG,hc⟩
 clear h1 aG hc y0 y1;obtain ⟨k,t,ht,hk,rfl,h1,aG,hc⟩:=hrel;have HK:=hid hk;have hkI:k+1≤I:=by have:=HI.out;omega
 clear hk;have y0:=aG.ce 0 (.func (.func g) #[] lb) rfl;have y1:=aG.ce 1 (.func (.func sf) #[] sb) rfl
 by_cases aD:k+1 < I
 ·have htr:t < ri:=by have:=HI.out;have:=HK.out;omega
  have htl:t < R.length:=by omega
  have h2:St ((P++R.take t)++x::([]++R[t]::(R.drop (t+1)++S))) wr:=by
   rw [List.drop_eq_getElem_cons htl] at h1;simpa only [List.append_assoc,List.cons_append,List.nil_append] using h1
  clear h1;go_wp2_with fail;obtain ⟨w2,ax,h3,ad⟩:=K.swapA (P++R.take t) x [] R[t] (R.drop (t+1)++S) wr (k:Int) ((k:Int)+1) (by rw [List.length_append,List.length_take];have:=HP.out;have:=HK.out;omega) (by rw [List.length_append,List.length_take];have:=HP.out;have:=HK.out;simp;omega) h2;rw [ax];(try simp only [Result.andThen]);rw [Oper.upon_value];clear ax;have h4:St (P++(R.take (t+1)++x::R.drop (t+1)++S)) w2:=by
   rw [List.take_succ_eq_append_getElem htl];simpa only [List.append_assoc,List.cons_append,List.nil_append] using h3
  replace aG:=aG.chg ad (by decide);clear h2 h3 y0 y1;go_wp2_with fail;go_roundw
  case rel=>exact ⟨k+1,t+1,htr,by rw [HK.out];rfl,by first | rfl | (push_cast;rfl) | go_num,h4,aG,hc.trans ad⟩
  case measure=>have:=HK.out;have:=HI.out;simp [intOf];omega
 obtain rfl:t=ri:=by have:=HI.out;have:=HK.out;omega
 have hke:k+1=I:=by omega
 clear aD hkI;subst hke;go_wp2_with fail;refine bodyPost_ret (results_none rfl _ _ _) rfl ?_;refine ⟨rfl,R.take t++x::R.drop t,?_,HSR.out,h1,hc⟩;refine List.perm_middle.trans ?_;rw [List.take_append_drop]
theorem jbm (K:Srtr lt g sf lb sb St) (O:Ord lt) (P L:List α) (y:α) (S:List α) (w:World) (a m b:Int) (ha:a=(P.length:Int)) (hm:m=(P.length:Int)+(L.length:Int)) (hb:b=(P.length:Int)+(L.length:Int)+1) (hl:P.length+1+L.length≤100000) (hL1:2≤L.length) (hR:Srt lt L) (h:St (P++(L++(y::S))) w) :
  Calls Tryz.prog 223 #[.agg #[.func (.func g) #[] lb,.func (.func sf) #[] sb],.int .i64 a,.int .i64 m,.int .i64 b] w fun e w'=>e=.returned (.tuple #[])∧∃ M,M.Perm (L++[y])∧Srt lt M∧St (P++(M++S)) w'∧Chg 0 [151] w w':=by
 obtain ⟨p,rfl⟩:∃ p:Nat,a=(p:Int):=⟨P.length,ha⟩
 obtain ⟨q,rfl⟩:∃ q:Nat,m=(q:Int):=⟨P.length+L.length,by rw [hm];push_cast;rfl⟩
 obtain rfl:b=(q:Int)+1:=by omega
 have HP:=hid (show p=P.length by omega);have HQ:=hid (show q=p+L.length by omega);have hpq:(p:Int)+2≤(q:Int):=by omega
 have hne1:((q:Int) - (p:Int)==1)=false:=by rw [beq_eq_false_iff_ne];omega
 have HR:=hid hR;have hq:q≤100000:=by omega
 have hg:=K.hg;have aC:=(Ext.refl w).alloc (.cells #[.func (.func g) #[] lb,.func (.func sf) #[] sb] 280);have aG:=Blk.new w 280 #[.func (.func g) #[] lb,.func (.func sf) #[] sb];have h1:=K.ext _ _ _ h aC;have hc:=Chg.of_ext (B:=0) (ts:=[151]) aC;clear h ha hm hb hl aC hR hL1;go_enter Tryz.func223, Tryz.ntmps223;go_wp2_with fail;rw [show (q:Int)+1 - q=1 by omega,show ((1:Int)==1)=true from rfl];generalize ((q:Int) - (p:Int)==1)=z0;generalize (q:Int) - (p:Int)=z1;go_loopw [12,13] (fun i j wr=>∃ ri rj:Nat,i=.int .i64 ((p+ri:Nat):Int)∧j=.int .i64 ((p+rj:Nat):Int)∧ri≤rj∧rj≤L.length∧(∀ z∈L.take ri,lt y z=false)∧(∀ z∈L.drop rj,lt y z=true)∧St (P++(L++(y::S))) wr∧Blk wr w.heap.size 280 #[.func (.func g) #[] lb,.func (.func sf) #[] sb]∧Chg 0 [151] w wr) (fun i j _=>(intOf j).toNat - (intOf i).toNat)
 case atStart=>exact ⟨0,L.length,rfl,by rw [← HQ.out],Nat.zero_le _,Nat.le_refl _,by simp,by simp,h1,aG,hc⟩
 clear h1 aG hc;obtain ⟨ri,rj,rfl,rfl,de,hj,hA,hB,h1,aG,hc⟩:=hrel;have HA:=hid hA;have HB:=hid hB;have HJ:=hid hj;have y0:=aG.ce 0 (.func (.func g) #[] lb) rfl;have y1:=aG.ce 1 (.func (.func sf) #[] sb) rfl;have hjq:p+rj≤q:=by have:=HQ.out;omega
 clear hA hB hj
 by_cases aD:ri < rj
 ·have hri:ri < L.length:=by have:=HJ.out;omega
  obtain ⟨rh,hrh,hr1,hr2⟩:∃ rh:Nat,((p:Int)+ri+((p:Int)+rj)) / 2=((p+rh:Nat):Int)∧ri≤rh∧rh < rj:=⟨(ri+rj) / 2,by omega,by omega,by omega⟩
  have cR:rh < L.length:=by have:=HJ.out;omega
  have eP:=hid (show P++(L++(y::S))=(P++L.take rh)++L[rh]::(L.drop (rh+1)++y::S) by
   have:=congrArg (fun l=>P++(l++y::S)) (qkp cR);simpa only [List.append_assoc,List.cons_append] using this)
  have h2:St ((P++L.take rh)++L[rh]::(L.drop (rh+1)++y::S)) wr:=by rw [← eP.out];exact h1
  have HRH:=hid hrh;clear h1 hrh;go_wp2_with fail;rw [HRH.out];refine (K.lessB (P++L.take rh) L[rh] (L.drop (rh+1)) y S wr ((p+rh:Nat):Int) (q:Int) (by rw [List.length_append,List.length_take];have:=HP.out;omega) (by rw [List.length_append,List.length_take,List.length_drop];have:=HP.out;have:=HQ.out;omega) h2).mono ?_;rintro e w2 ⟨rfl,h3,ad⟩;have h4:St (P++(L++(y::S))) w2:=by rw [eP.out];exact h3
  replace aG:=aG.chg ad (by decide);replace hc:=hc.trans ad;clear h2 h3 y0 y1 ad
  cases hyx:lt y L[rh]
  ·have fi:=hid hyx
   clear hyx;go_wp2_with fail;go_roundw
   case rel=>
    refine ⟨rh+1,rj,by first | rfl | (push_cast;rfl) | go_num,rfl,hr2,HJ.out,fun z hz=>?_,HB.out,h4,aG,hc⟩;obtain ⟨n,hn,rfl⟩:=List.getElem_of_mem hz;rw [List.getElem_take];rw [List.length_take] at hn
    by_cases hn0:n=rh
    ·subst hn0;exact fi.out
    exact O.trans _ _ _ (qrd HR.out cR (by omega)) fi.out
   case measure=>simp [intOf];omega
  have fi:=hid hyx;clear hyx;go_wp2_with fail;go_roundw
  case rel=>
   refine ⟨ri,rh,rfl,rfl,hr1,by omega,HA.out,fun z hz=>?_,h4,aG,hc⟩;obtain ⟨n,hn,rfl⟩:=List.getElem_of_mem hz;rw [List.getElem_drop]
   by_cases hn0:n=0
   ·subst hn0;exact fi.out
   rw [List.length_drop] at hn;exact quj O fi.out (qrd HR.out (by omega) (by omega))
  case measure=>simp [intOf];omega
 obtain rfl:ri=rj:=by omega
 have HSR:=hid (qre O (a:=L.take ri) (b:=L.drop ri) (x:=y) (by rw [List.take_append_drop];exact HR.out) (fun z hz=>HA.out z (List.mem_of_getLast? hz)) (fun z hz=>O.asymm _ _ (HB.out z (List.mem_of_mem_head? hz))));have hriq:ri≤L.length:=HJ.out;have eJ:p+L.length≤100000:=by have:=HQ.out;omega
 clear aD de hjq;obtain ⟨I,hI⟩:=ex1 (p+ri);rw [← hI];have HI:=hid hI;have hI2:I≤100000:=by omega
 clear hI;go_wp2_with fail;go_loopw [15] (fun v wr=>∃ k t:Nat,ri≤t∧t≤L.length∧k=p+t∧v=.int .i64 (k:Int)∧St (P++(L.take t++y::L.drop t++S)) wr∧Blk wr w.heap.size 280 #[.func (.func g) #[] lb,.func (.func sf) #[] sb]∧Chg 0 [151] w wr) (fun k _=>(intOf k).toNat)
 case atStart=>exact ⟨q,L.length,hriq,Nat.le_refl _,HQ.out,rfl,by rw [List.take_length,List.drop_length];simpa using h1,aG,hc⟩
 clear h1 aG hc y0 y1;obtain ⟨k,t,ht,htL,hk,rfl,h1,aG,hc⟩:=hrel;have HK:=hid hk;have hkI:I≤k:=by have:=HI.out;omega
 have hkq:k≤100000:=by omega
 clear hk;have y0:=aG.ce 0 (.func (.func g) #[] lb) rfl;have y1:=aG.ce 1 (.func (.func sf) #[] sb) rfl
 by_cases aD:I < k
 ·obtain ⟨k,rfl⟩:∃ k',k=k'+1:=⟨k - 1,by omega⟩
  obtain ⟨t,rfl⟩:∃ t',t=t'+1:=⟨t - 1,by have:=HI.out;have:=HK.out;omega⟩
  have htl:t < L.length:=by omega
  have h2:St ((P++L.take t)++L[t]::([]++y::(L.drop (t+1)++S))) wr:=by
   rw [List.take_succ_eq_append_getElem htl] at h1;simpa only [List.append_assoc,List.cons_append,List.nil_append] using h1
  clear h1;go_wp2_with fail;obtain ⟨w2,ax,h3,ad⟩:=K.swapB (P++L.take t) L[t] [] y (L.drop (t+1)++S) wr (k:Int) ((k:Int)+1) (by rw [List.length_append,List.length_take];have:=HP.out;have:=HK.out;omega) (by rw [List.length_append,List.length_take];have:=HP.out;have:=HK.out;simp;omega) h2;rw [ax];(try simp only [Result.andThen]);rw [Oper.upon_value];clear ax;have h4:St (P++(L.take t++y::L.drop t++S)) w2:=by
   rw [List.drop_eq_getElem_cons htl];simpa only [List.append_assoc,List.cons_append,List.nil_append] using h3
  replace aG:=aG.chg ad (by decide);clear h2 h3 y0 y1;go_wp2_with fail;go_roundw
  case rel=>exact ⟨k,t,by have:=HI.out;have:=HK.out;omega,by omega,by have:=HK.out;omega,by first | rfl | (push_cast;rfl) | go_num,h4,aG,hc.trans ad⟩
  case measure=>simp [intOf]
 obtain rfl:t=ri:=by have:=HI.out;have:=HK.out;omega
 obtain rfl:I=k:=by omega
 clear aD hkI;go_wp2_with fail;refine bodyPost_ret (results_none rfl _ _ _) rfl ?_;refine ⟨rfl,L.take t++y::L.drop t,?_,HSR.out,h1,hc⟩;refine List.perm_middle.trans ?_;rw [List.take_append_drop];exact (List.perm_append_comm (l₁:=L) (l₂:=[y])).symm
end
end Go.Proofs.YtngbfdogiciahaaGreat
