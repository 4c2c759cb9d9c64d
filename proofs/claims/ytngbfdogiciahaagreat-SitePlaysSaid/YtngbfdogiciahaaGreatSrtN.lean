/- The walk of sort's merge from the middle: where both parts are longer than one, and the whole. -/
import Derived.Test.YtngbfdogiciahaaGreatJoinSrtW
set_option maxRecDepth 100000
set_option maxHeartbeats 40000000
namespace Go.Proofs.YtngbfdogiciahaaGreat
open Go Go.RowKit
section
variable {α:Type} {lt:α→α→Bool} {g sf:FuncId} {lb sb:Array Value} {St:List α→World→Prop}
theorem qg8 {l:List α} {k:Nat} {z:α} (h:(l.take k).getLast?=some z):∃ c,c < k∧c+1=min k l.length∧l[c]?=some z:=by
 rw [List.getLast?_eq_getElem?,List.length_take] at h;have h2:=(List.getElem?_eq_some_iff.1 h).1;rw [List.length_take] at h2;rw [List.getElem?_take_of_lt (by omega)] at h;exact ⟨min k l.length - 1,by omega,by omega,h⟩
theorem qk6 {l:List α} {k:Nat} {z:α} (h:(l.drop k).head?=some z):k < l.length∧l[k]?=some z:=by
 rw [List.head?_drop] at h;exact ⟨(List.getElem?_eq_some_iff.1 h).1,h⟩
theorem qn1 {l:List α} {k:Nat} (h:k < l.length):∃ a x b,l=a++x::b∧a.length=k∧l[k]?=some x:=⟨l.take k,l[k],l.drop (k+1),qkp h,by rw [List.length_take];omega,List.getElem?_eq_getElem h⟩
theorem jbn (K:Srtr lt g sf lb sb St) (O:Ord lt) (N0:Nat) (IH:∀ (P L R S:List α) (w:World) (a m b:Int),L.length+R.length < N0→a=(P.length:Int)→m=(P.length:Int)+(L.length:Int)→b=(P.length:Int)+(L.length:Int)+(R.length:Int)→L≠[]→R≠[]→P.length+L.length+R.length≤100000→Srt lt L→Srt lt R→St (P++(L++(R++S))) w→Calls Tryz.prog 223 #[.agg #[.func (.func g) #[] lb,.func (.func sf) #[] sb],.int .i64 a,.int .i64 m,.int .i64 b] w fun e w'=>e=.returned (.tuple #[])∧∃ M,M.Perm (L++R)∧Srt lt M∧St (P++(M++S)) w'∧Chg 0 [151] w w')
  (P L R S:List α) (w:World) (a m b:Int) (hn:L.length+R.length≤N0) (ha:a=(P.length:Int)) (hm:m=(P.length:Int)+(L.length:Int)) (hb:b=(P.length:Int)+(L.length:Int)+(R.length:Int)) (hL:2≤L.length) (hR:2≤R.length) (hl:P.length+L.length+R.length≤100000) (sL:Srt lt L) (sR:Srt lt R) (h:St (P++(L++(R++S))) w):Calls Tryz.prog 223 #[.agg #[.func (.func g) #[] lb,.func (.func sf) #[] sb],.int .i64 a,.int .i64 m,.int .i64 b] w fun e w'=>e=.returned (.tuple #[])∧∃ M,M.Perm (L++R)∧Srt lt M∧St (P++(M++S)) w'∧Chg 0 [151] w w':=by
 obtain ⟨p,rfl⟩:∃ p:Nat,a=(p:Int):=⟨P.length,ha⟩
 obtain ⟨q,rfl⟩:∃ q:Nat,m=(q:Int):=⟨P.length+L.length,by rw [hm];push_cast;rfl⟩
 obtain ⟨e,rfl⟩:∃ q:Nat,b=(q:Int):=⟨P.length+L.length+R.length,by rw [hb];push_cast;rfl⟩
 have HP:=hid (show p=P.length by omega);have HQ:=hid (show q=p+L.length by omega);have HE:=hid (show e=q+R.length by omega);have HIH:=hid IH;have HN:=hid hn;have HSL:=hid sL;have HSR:=hid sR;have hpq:p+2≤q:=by omega
 have hqe:q+2≤e:=by omega
 have he:e≤100000:=by omega
 have hne1:((q:Int) - (p:Int)==1)=false:=by rw [beq_eq_false_iff_ne];omega
 have fS:((e:Int) - (q:Int)==1)=false:=by rw [beq_eq_false_iff_ne];omega
 obtain ⟨M,hM⟩:∃ M:Nat,((p:Int)+(e:Int)) / 2=(M:Int):=⟨(p+e) / 2,by omega⟩
 have HM:=hid (show M=(p+e) / 2 by omega);obtain ⟨N,hN⟩:∃ N:Nat,(M:Int)+(q:Int)=(N:Int):=⟨M+q,by push_cast;rfl⟩
 have HNN:=hid (show N=M+q by omega);obtain ⟨u,hu⟩:∃ u:Nat,(N:Int) - 1=(u:Int):=⟨N - 1,by omega⟩
 have HUU:=hid (show u+1=M+q by omega);have hNb:N≤200000:=by omega
 have hMb:M≤100000:=by omega
 have hNe:e≤N+100000:=by omega
 have hg:=K.hg;have aC:=(Ext.refl w).alloc (.cells #[.func (.func g) #[] lb,.func (.func sf) #[] sb] 280);have aG:=Blk.new w 280 #[.func (.func g) #[] lb,.func (.func sf) #[] sb];have h1:=K.ext _ _ _ h aC;have hc:=Chg.of_ext (B:=0) (ts:=[151]) aC;clear h ha hm hb hL hR hl aC IH hn sL sR;obtain ⟨s0,t0,hst,F1,F2,F3,F4,F5,F6,hcase⟩:∃ s0 t0:Nat,s0≤t0∧p≤s0∧M≤s0+R.length∧t0≤q∧t0≤M∧(s0=p∨s0+R.length=M)∧(t0=q∨t0=M)∧((M < q∧(N:Int) - (e:Int)=(s0:Int)∧M=t0)∨(q≤M∧p=s0∧q=t0)):=by
  have h1:=HM.out;have h2:=HNN.out;have h3:=HQ.out;have h4:=HE.out
  by_cases hmq:M < q
  ·exact ⟨M+q - e,M,by omega,by omega,by omega,by omega,Nat.le_refl _,by omega,.inr rfl,.inl ⟨hmq,by omega,rfl⟩⟩
  exact ⟨p,q,by omega,Nat.le_refl _,by omega,Nat.le_refl _,by omega,.inl rfl,.inl rfl,.inr ⟨by omega,rfl,rfl⟩⟩
 have HF:=hid (And.intro hst (And.intro F1 (And.intro F2 (And.intro F3 (And.intro F4 (And.intro F5 F6))))));clear hst F1 F2 F3 F4 F5 F6;go_enter Tryz.func223, Tryz.ntmps223;rcases hcase with ⟨c1,c2,c3⟩ | ⟨c1,c2,c3⟩
 ·subst c3
  go_wp2_with fail;generalize ((q:Int) - (p:Int)==1)=z1;generalize ((e:Int) - (q:Int)==1)=z2;generalize (q:Int) - (p:Int)=z3;generalize (e:Int) - (q:Int)=z4;go_loopw [18,19] (fun s t wr=>∃ i j:Nat,s=.int .i64 (i:Int)∧t=.int .i64 (j:Int)∧s0≤i∧i≤j∧j≤M∧(i=s0∨∃ (c:Nat) (x y:α),i=c+1∧L[c - p]?=some x∧R[u - c - q]?=some y∧lt y x=false)∧(j=M∨∃ x y:α,L[j - p]?=some x∧R[u - j - q]?=some y∧lt y x=true)∧St (P++(L++(R++S))) wr∧Blk wr w.heap.size 280 #[.func (.func g) #[] lb,.func (.func sf) #[] sb]∧Chg 0 [151] w wr) (fun s t _=>(intOf t).toNat - (intOf s).toNat)
  case atStart=>exact ⟨s0,M,rfl,rfl,Nat.le_refl _,HF.out.1,Nat.le_refl _,.inl rfl,.inl rfl,h1,aG,hc⟩
  clear h1 aG hc;obtain ⟨i,j,rfl,rfl,g1,g2,g3,gA,gB,h1,aG,hc⟩:=hrel;have G:=hid (And.intro g1 (And.intro g2 g3));have HA:=hid gA;have HB:=hid gB;have y0:=aG.ce 0 (.func (.func g) #[] lb) rfl;have y1:=aG.ce 1 (.func (.func sf) #[] sb) rfl;have gb:j≤100000:=by have:=HF.out;omega
  clear g1 g2 g3 gA gB
  by_cases de:i < j
  ·obtain ⟨c,fo,dH,ad⟩:∃ c:Nat,((i:Int)+(j:Int)) / 2=(c:Int)∧i≤c∧c < j:=⟨(i+j) / 2,by omega,by omega,by omega⟩
   have B1:=hid (show p≤c∧c < q∧c+1≤M∧M≤c+R.length∧c≤u∧q+(M - 1 - c)=u - c from by
    have h1:=HF.out;have h2:=G.out;have h3:=HUU.out;omega)
   have hcu:c≤u:=B1.out.2.2.2.2.1;obtain ⟨La,x,Lb,eL,lA,gL⟩:=qn1 (l:=L) (k:=c - p) (by have:=B1.out;have:=HQ.out;omega);obtain ⟨Ra,y,Rb,eR,rA,gR⟩:=qn1 (l:=R) (k:=M - 1 - c) (by have:=B1.out;omega);have EQ:=hid (show P++(L++(R++S))=(P++La)++x::((Lb++Ra)++y::(Rb++S)) by rw [eL,eR];simp);have LL:=hid (show L.length=La.length+1+Lb.length by rw [eL];simp;omega);have lA':=hid lA;have rA':=hid rA;have gL':=hid gL;have gR':=hid (show R[u - c - q]?=some y by
    rw [show u - c - q=M - 1 - c by have:=B1.out;omega];exact gR)
   have h2:St ((P++La)++x::((Lb++Ra)++y::(Rb++S))) wr:=by rw [← EQ.out];exact h1
   clear h1 eL eR lA rA gL gR;go_wp2_with fail;refine (K.lessB (P++La) x (Lb++Ra) y (Rb++S) wr (c:Int) ((u:Int) - (c:Int)) (by rw [List.length_append];have:=HP.out;have:=lA'.out;have:=B1.out;omega) (by rw [List.length_append,List.length_append];have:=HP.out;have:=HQ.out;have:=LL.out;have:=lA'.out;have:=rA'.out;have:=B1.out;omega) h2).mono ?_;rintro e w2 ⟨rfl,h3,ad⟩;have h4:St (P++(L++(R++S))) w2:=by rw [EQ.out];exact h3
   replace aG:=aG.chg ad (by decide);replace hc:=hc.trans ad;clear h2 h3 y0 y1 ad
   cases hyx:lt y x
   ·have fi:=hid hyx
    clear hyx;go_wp2_with fail;go_roundw
    case rel=>exact ⟨c+1,j,by first | rfl | (push_cast;rfl) | go_num,rfl,by have:=G.out;omega,by omega,G.out.2.2,.inr ⟨c,x,y,rfl,gL'.out,gR'.out,fi.out⟩,HB.out,h4,aG,hc⟩
    case measure=>simp [intOf];omega
   have fi:=hid hyx;clear hyx;go_wp2_with fail;go_roundw
   case rel=>exact ⟨i,c,rfl,rfl,G.out.1,dH,by have:=G.out;omega,HA.out,.inr ⟨x,y,gL'.out,gR'.out,fi.out⟩,h4,aG,hc⟩
   case measure=>simp [intOf];omega
  ·have hij':i=j:=by have:=G.out;omega
   subst hij';clear de y0 y1 gb;obtain ⟨E,hE⟩:∃ E:Nat,(N:Int) - (i:Int)=(E:Int):=⟨N - i,by have:=HF.out;have:=G.out;have:=HNN.out;omega⟩
   have bT:=hid (show E+i=M+q by have:=HF.out;have:=G.out;have:=HNN.out;omega);obtain ⟨L1,hL1⟩:=ex1 (L.take (i - p));obtain ⟨L2,hL2⟩:=ex1 (L.drop (i - p));obtain ⟨R1,hR1⟩:=ex1 (R.take (M - i));obtain ⟨R2,hR2⟩:=ex1 (R.drop (M - i));have EL:=hid (show L1++L2=L by rw [hL1,hL2,List.take_append_drop]);have ER:=hid (show R1++R2=R by rw [hR1,hR2,List.take_append_drop]);have NL1:=hid (show L1.length=i - p by rw [hL1,List.length_take];have:=HF.out;have:=G.out;have:=HQ.out;omega);have NL2:=hid (show L2.length=q - i by rw [hL2,List.length_drop];have:=HF.out;have:=G.out;have:=HQ.out;omega);have NR1:=hid (show R1.length=M - i by rw [hR1,List.length_take];have:=HF.out;have:=G.out;omega);have NR2:=hid (show R2.length=R.length - (M - i) by rw [hR2,List.length_drop]);have NA:=hid (And.intro NL1.out (And.intro NL2.out (And.intro NR1.out (And.intro NR2.out (And.intro HP.out (And.intro HQ.out (And.intro HE.out (And.intro bT.out (And.intro HF.out (And.intro G.out HN.out))))))))))
   have eP:=hid (show LeL lt (L1++R1) (L2++R2) from qob O (by rw [EL.out];exact HSL.out) (by rw [ER.out];exact HSR.out) (fun z y hz hy=>by
    rw [hL1] at hz;rw [hR2] at hy;obtain ⟨c,dH,ad,fm⟩:=qg8 hz;obtain ⟨hy1,hy2⟩:=qk6 hy;rcases HA.out with e | ⟨c',x',y',e,e1,e2,e3⟩
    ·exfalso
     have:=HF.out;omega
    ·have a1:c' - p=c:=by have:=HF.out;have:=HQ.out;have:=G.out;omega
     have a2:u - c' - q=M - i:=by have:=HUU.out;have:=HF.out;have:=G.out;omega
     rw [a1,fm] at e1;rw [a2,hy2] at e2;injection e1 with e1;injection e2 with e2;rw [e1,e2];exact e3) (fun z y hz hy=>by
    rw [hR1] at hz;rw [hL2] at hy;obtain ⟨c,dH,ad,fm⟩:=qg8 hz;obtain ⟨hy1,hy2⟩:=qk6 hy;rcases HB.out with e | ⟨x',y',e1,e2,e3⟩
    ·exfalso
     have:=HF.out;have:=HQ.out;have:=G.out;omega
    have a2:u - i - q=c:=by have:=HUU.out;have:=HF.out;have:=G.out;omega
    rw [hy2] at e1;rw [a2,fm] at e2;injection e1 with e1;injection e2 with e2;rw [e1,e2];exact e3))
   have SL1:=hid (show Srt lt L1 by have:=HSL.out;rw [← EL.out] at this;exact (qee.1 this).1);have SL2:=hid (show Srt lt L2 by have:=HSL.out;rw [← EL.out] at this;exact (qee.1 this).2.1);have SR1:=hid (show Srt lt R1 by have:=HSR.out;rw [← ER.out] at this;exact (qee.1 this).1);have SR2:=hid (show Srt lt R2 by have:=HSR.out;rw [← ER.out] at this;exact (qee.1 this).2.1);have h2:St (P++(L1++(L2++(R1++(R2++S))))) wr:=by
    rw [← EL.out,← ER.out] at h1;simpa only [List.append_assoc] using h1
   have bE:E≤e:=by have:=NR2.out;have:=bT.out;have:=HE.out;have:=HF.out;have:=G.out;omega
   have bi:i≤100000∧p≤i∧i≤q∧i≤M:=by have:=HF.out;have:=G.out;omega
   obtain ⟨bi1,bi2,bi3,bi4⟩:=bi;clear h1 hL1 hL2 hR1 hR2;have h1:=h2;clear h2
   by_cases kq:i < q
   ·have xE:M < E:=by have:=bT.out;omega
    by_cases kM:i < M
    ·have xQ:q < E:=by have:=bT.out;omega
     by_cases pk:p < i
     ·by_cases Ee:E < e
      ·have y0:=aG.ce 0 (.func (.func g) #[] lb) rfl
       have y1:=aG.ce 1 (.func (.func sf) #[] sb) rfl;go_wp2_with fail;refine (qq3 K (P++L1) L2 R1 (R2++S) _ _ _ _ (by simp only [List.length_append];have:=NA.out;omega) (by simp only [List.length_append];have:=NA.out;omega) (by simp only [List.length_append];have:=NA.out;omega) (List.length_pos_iff.1 (by have:=NA.out;omega)) (List.length_pos_iff.1 (by have:=NA.out;omega)) (by simp only [List.length_append];have:=NA.out;omega) (by simpa only [List.append_assoc] using h1)).mono ?_;rintro e w2 ⟨rfl,h3,ad⟩;have h1':St (P++(L1++(R1++(L2++(R2++S))))) w2:=by simpa only [List.append_assoc] using h3
       replace aG:=aG.chg ad (by decide);replace hc:=hc.trans ad;clear h3 ad h1;have h1:=h1';clear h1';have y0:=aG.ce 0 (.func (.func g) #[] lb) rfl;have y1:=aG.ce 1 (.func (.func sf) #[] sb) rfl;go_wp2_with fail;refine (HIH.out P L1 R1 (L2++(R2++S)) _ _ _ _ (by have:=NA.out;omega) (by have:=NA.out;omega) (by have:=NA.out;omega) (by have:=NA.out;omega) (List.length_pos_iff.1 (by have:=NA.out;omega)) (List.length_pos_iff.1 (by have:=NA.out;omega)) (by have:=NA.out;omega) SL1.out SR1.out h1).mono ?_;rintro e w3 ⟨rfl,M1,pM1,sM1,h3,ad⟩;have PM1:=hid pM1;have SM1:=hid sM1;replace aG:=aG.chg ad (by decide);replace hc:=hc.trans ad;clear pM1 sM1 h1 ad y0 y1;have y0:=aG.ce 0 (.func (.func g) #[] lb) rfl;have y1:=aG.ce 1 (.func (.func sf) #[] sb) rfl;go_wp2_with fail;have LM1:=hid (show M1.length=M - p from by have:=PM1.out.length_eq;rw [List.length_append] at this;have:=NA.out;omega);refine (HIH.out (P++M1) L2 R2 S _ _ _ _ (by have:=NA.out;omega) (by simp only [List.length_append];have:=NA.out;have:=LM1.out;omega) (by simp only [List.length_append];have:=NA.out;have:=LM1.out;omega) (by simp only [List.length_append];have:=NA.out;have:=LM1.out;omega) (List.length_pos_iff.1 (by have:=NA.out;omega)) (List.length_pos_iff.1 (by have:=NA.out;omega)) (by simp only [List.length_append];have:=NA.out;have:=LM1.out;omega) SL2.out SR2.out (by simpa only [List.append_assoc] using h3)).mono ?_
       rintro e w4 ⟨rfl,M2,pM2,sM2,h5,fm⟩;replace hc:=hc.trans fm;clear y0 y1;go_wp2_with fail;go_end0;obtain ⟨d1,d2⟩:=qdh eP.out PM1.out pM2 SM1.out sM2;rw [EL.out,ER.out] at d2;exact ⟨rfl,M1++M2,d2,d1,by simpa only [List.append_assoc] using h5,hc⟩
      have nR2:R2=[]:=List.eq_nil_of_length_eq_zero (by have:=NR2.out;have:=bT.out;have:=HE.out;omega);have y0:=aG.ce 0 (.func (.func g) #[] lb) rfl;have y1:=aG.ce 1 (.func (.func sf) #[] sb) rfl;go_wp2_with fail;refine (qq3 K (P++L1) L2 R1 (R2++S) _ _ _ _ (by simp only [List.length_append];have:=NA.out;omega) (by simp only [List.length_append];have:=NA.out;omega) (by simp only [List.length_append];have:=NA.out;omega) (List.length_pos_iff.1 (by have:=NA.out;omega)) (List.length_pos_iff.1 (by have:=NA.out;omega)) (by simp only [List.length_append];have:=NA.out;omega) (by simpa only [List.append_assoc] using h1)).mono ?_;rintro e w2 ⟨rfl,h3,ad⟩;have h1':St (P++(L1++(R1++(L2++(R2++S))))) w2:=by simpa only [List.append_assoc] using h3
      replace aG:=aG.chg ad (by decide);replace hc:=hc.trans ad;clear h3 ad h1;have h1:=h1';clear h1';have y0:=aG.ce 0 (.func (.func g) #[] lb) rfl;have y1:=aG.ce 1 (.func (.func sf) #[] sb) rfl;go_wp2_with fail;refine (HIH.out P L1 R1 (L2++(R2++S)) _ _ _ _ (by have:=NA.out;omega) (by have:=NA.out;omega) (by have:=NA.out;omega) (by have:=NA.out;omega) (List.length_pos_iff.1 (by have:=NA.out;omega)) (List.length_pos_iff.1 (by have:=NA.out;omega)) (by have:=NA.out;omega) SL1.out SR1.out h1).mono ?_;rintro e w3 ⟨rfl,M1,pM1,sM1,h3,ad⟩;have PM1:=hid pM1;have SM1:=hid sM1;replace aG:=aG.chg ad (by decide);replace hc:=hc.trans ad;clear pM1 sM1 h1 ad y0 y1;have y0:=aG.ce 0 (.func (.func g) #[] lb) rfl;have y1:=aG.ce 1 (.func (.func sf) #[] sb) rfl;go_wp2_with fail;go_end0;have sM2:Srt lt (L2++R2):=by
       rcases (show L2=[]∨R2=[] from by first | exact .inl (List.eq_nil_of_length_eq_zero (by have:=NL2.out;omega)) | exact .inr (List.eq_nil_of_length_eq_zero (by have:=NR2.out;have:=bT.out;have:=HE.out;omega))) with e | e
       ·rw [e];exact SR2.out
       rw [e,List.append_nil];exact SL2.out
      obtain ⟨d1,d2⟩:=qdh eP.out PM1.out (List.Perm.refl _) SM1.out sM2;rw [EL.out,ER.out] at d2;exact ⟨rfl,M1++(L2++R2),d2,d1,by simpa only [List.append_assoc] using h3,hc⟩
     by_cases Ee:E < e
     ·exfalso
      have:=HM.out;have:=HQ.out;have:=HE.out;have:=bT.out;have:=HF.out;have:=G.out;omega
     obtain ⟨M1,eU⟩:=ex1 (L1++R1);have PM1:=hid (show M1.Perm (L1++R1) by rw [eU]);have SM1:=hid (show Srt lt M1 by
      rw [eU];rcases (show L1=[]∨R1=[] from by first | exact .inl (List.eq_nil_of_length_eq_zero (by have:=NL1.out;omega)) | exact .inr (List.eq_nil_of_length_eq_zero (by have:=NR1.out;omega))) with e | e
      ·rw [e];exact SR1.out
      rw [e,List.append_nil];exact SL1.out)
     have HM1:=hid eU;clear eU;have nL1:L1=[]:=List.eq_nil_of_length_eq_zero (by have:=NL1.out;omega);have nR2:R2=[]:=List.eq_nil_of_length_eq_zero (by have:=NR2.out;have:=bT.out;have:=HE.out;omega);have y0:=aG.ce 0 (.func (.func g) #[] lb) rfl;have y1:=aG.ce 1 (.func (.func sf) #[] sb) rfl;go_wp2_with fail;refine (qq3 K (P++L1) L2 R1 (R2++S) _ _ _ _ (by simp only [List.length_append];have:=NA.out;omega) (by simp only [List.length_append];have:=NA.out;omega) (by simp only [List.length_append];have:=NA.out;omega) (List.length_pos_iff.1 (by have:=NA.out;omega)) (List.length_pos_iff.1 (by have:=NA.out;omega)) (by simp only [List.length_append];have:=NA.out;omega) (by simpa only [List.append_assoc] using h1)).mono ?_;rintro e w2 ⟨rfl,h3,ad⟩;have h1':St (P++(L1++(R1++(L2++(R2++S))))) w2:=by simpa only [List.append_assoc] using h3
     replace aG:=aG.chg ad (by decide);replace hc:=hc.trans ad;clear h3 ad h1;have h1:=h1';clear h1';have y0:=aG.ce 0 (.func (.func g) #[] lb) rfl;have y1:=aG.ce 1 (.func (.func sf) #[] sb) rfl;go_wp2_with fail;have h3:=h1;rw [← List.append_assoc L1 R1,← HM1.out] at h3;go_end0;have sM2:Srt lt (L2++R2):=by
      rcases (show L2=[]∨R2=[] from by first | exact .inl (List.eq_nil_of_length_eq_zero (by have:=NL2.out;omega)) | exact .inr (List.eq_nil_of_length_eq_zero (by have:=NR2.out;have:=bT.out;have:=HE.out;omega))) with e | e
      ·rw [e];exact SR2.out
      rw [e,List.append_nil];exact SL2.out
     obtain ⟨d1,d2⟩:=qdh eP.out PM1.out (List.Perm.refl _) SM1.out sM2;rw [EL.out,ER.out] at d2;exact ⟨rfl,M1++(L2++R2),d2,d1,by simpa only [List.append_assoc] using h3,hc⟩
    have xQ:E≤q:=by have:=bT.out;omega
    by_cases pk:p < i
    ·by_cases Ee:E < e
     ·obtain ⟨M1,eU⟩:=ex1 (L1++R1)
      have PM1:=hid (show M1.Perm (L1++R1) by rw [eU]);have SM1:=hid (show Srt lt M1 by
       rw [eU];rcases (show L1=[]∨R1=[] from by first | exact .inl (List.eq_nil_of_length_eq_zero (by have:=NL1.out;omega)) | exact .inr (List.eq_nil_of_length_eq_zero (by have:=NR1.out;omega))) with e | e
       ·rw [e];exact SR1.out
       rw [e,List.append_nil];exact SL1.out)
      have HM1:=hid eU;clear eU;have nR1:R1=[]:=List.eq_nil_of_length_eq_zero (by have:=NR1.out;omega);have h1':St (P++(L1++(R1++(L2++(R2++S))))) wr:=by rw [nR1] at h1 ⊢;simpa only [List.append_assoc,List.nil_append,List.append_nil] using h1
      clear h1;have h1:=h1';clear h1';have y0:=aG.ce 0 (.func (.func g) #[] lb) rfl;have y1:=aG.ce 1 (.func (.func sf) #[] sb) rfl;go_wp2_with fail;have h3:=h1;rw [← List.append_assoc L1 R1,← HM1.out] at h3;have LM1:=hid (show M1.length=M - p from by have:=PM1.out.length_eq;rw [List.length_append] at this;have:=NA.out;omega);refine (HIH.out (P++M1) L2 R2 S _ _ _ _ (by have:=NA.out;omega) (by simp only [List.length_append];have:=NA.out;have:=LM1.out;omega) (by simp only [List.length_append];have:=NA.out;have:=LM1.out;omega) (by simp only [List.length_append];have:=NA.out;have:=LM1.out;omega) (List.length_pos_iff.1 (by have:=NA.out;omega)) (List.length_pos_iff.1 (by have:=NA.out;omega)) (by simp only [List.length_append];have:=NA.out;have:=LM1.out;omega) SL2.out SR2.out (by simpa only [List.append_assoc] using h3)).mono ?_;rintro e w4 ⟨rfl,M2,pM2,sM2,h5,fm⟩;replace hc:=hc.trans fm;clear y0 y1;go_wp2_with fail
      go_end0;obtain ⟨d1,d2⟩:=qdh eP.out PM1.out pM2 SM1.out sM2;rw [EL.out,ER.out] at d2;exact ⟨rfl,M1++M2,d2,d1,by simpa only [List.append_assoc] using h5,hc⟩
     exfalso;have:=HM.out;have:=HQ.out;have:=HE.out;have:=bT.out;have:=HF.out;have:=G.out;omega
    by_cases Ee:E < e
    ·exfalso
     have:=HM.out;have:=HQ.out;have:=HE.out;have:=bT.out;have:=HF.out;have:=G.out;omega
    exfalso;have:=HM.out;have:=HQ.out;have:=HE.out;have:=bT.out;have:=HF.out;have:=G.out;omega
   ·have xE:E≤M:=by have:=bT.out;omega
    by_cases kM:i < M
    focus
     have xQ:q < E:=by have:=bT.out;omega
     by_cases pk:p < i
     focus
      by_cases Ee:E < e
      focus
       exfalso
      rotate_left
      focus
       exfalso
     rotate_left 2
     focus
      by_cases Ee:E < e
      focus
       exfalso
      rotate_left
      focus
       exfalso
    rotate_left 4
    focus
     have xQ:E≤q:=by have:=bT.out;omega
     by_cases pk:p < i
     focus
      by_cases Ee:E < e
      focus
       exfalso
      rotate_left
      focus
       exfalso
     rotate_left 2
     focus
      by_cases Ee:E < e
      focus
       exfalso
      rotate_left
      focus
       exfalso
    all_goals
     have:=HM.out;have:=HQ.out;have:=HE.out;have:=bT.out;have:=HF.out;have:=G.out;omega
 ·subst c2 c3
  go_wp2_with fail;generalize ((q:Int) - (p:Int)==1)=z1;generalize ((e:Int) - (q:Int)==1)=z2;generalize (q:Int) - (p:Int)=z3;generalize (e:Int) - (q:Int)=z4;go_loopw [18,19] (fun s t wr=>∃ i j:Nat,s=.int .i64 (i:Int)∧t=.int .i64 (j:Int)∧p≤i∧i≤j∧j≤q∧(i=p∨∃ (c:Nat) (x y:α),i=c+1∧L[c - p]?=some x∧R[u - c - q]?=some y∧lt y x=false)∧(j=q∨∃ x y:α,L[j - p]?=some x∧R[u - j - q]?=some y∧lt y x=true)∧St (P++(L++(R++S))) wr∧Blk wr w.heap.size 280 #[.func (.func g) #[] lb,.func (.func sf) #[] sb]∧Chg 0 [151] w wr) (fun s t _=>(intOf t).toNat - (intOf s).toNat)
  case atStart=>exact ⟨p,q,rfl,rfl,Nat.le_refl _,HF.out.1,Nat.le_refl _,.inl rfl,.inl rfl,h1,aG,hc⟩
  clear h1 aG hc;obtain ⟨i,j,rfl,rfl,g1,g2,g3,gA,gB,h1,aG,hc⟩:=hrel;have G:=hid (And.intro g1 (And.intro g2 g3));have HA:=hid gA;have HB:=hid gB;have y0:=aG.ce 0 (.func (.func g) #[] lb) rfl;have y1:=aG.ce 1 (.func (.func sf) #[] sb) rfl;have gb:j≤100000:=by have:=HF.out;omega
  clear g1 g2 g3 gA gB
  by_cases de:i < j
  ·obtain ⟨c,fo,dH,ad⟩:∃ c:Nat,((i:Int)+(j:Int)) / 2=(c:Int)∧i≤c∧c < j:=⟨(i+j) / 2,by omega,by omega,by omega⟩
   have B1:=hid (show p≤c∧c < q∧c+1≤M∧M≤c+R.length∧c≤u∧q+(M - 1 - c)=u - c from by
    have h1:=HF.out;have h2:=G.out;have h3:=HUU.out;omega)
   have hcu:c≤u:=B1.out.2.2.2.2.1;obtain ⟨La,x,Lb,eL,lA,gL⟩:=qn1 (l:=L) (k:=c - p) (by have:=B1.out;have:=HQ.out;omega);obtain ⟨Ra,y,Rb,eR,rA,gR⟩:=qn1 (l:=R) (k:=M - 1 - c) (by have:=B1.out;omega);have EQ:=hid (show P++(L++(R++S))=(P++La)++x::((Lb++Ra)++y::(Rb++S)) by rw [eL,eR];simp);have LL:=hid (show L.length=La.length+1+Lb.length by rw [eL];simp;omega);have lA':=hid lA;have rA':=hid rA;have gL':=hid gL;have gR':=hid (show R[u - c - q]?=some y by
    rw [show u - c - q=M - 1 - c by have:=B1.out;omega];exact gR)
   have h2:St ((P++La)++x::((Lb++Ra)++y::(Rb++S))) wr:=by rw [← EQ.out];exact h1
   clear h1 eL eR lA rA gL gR;go_wp2_with fail;refine (K.lessB (P++La) x (Lb++Ra) y (Rb++S) wr (c:Int) ((u:Int) - (c:Int)) (by rw [List.length_append];have:=HP.out;have:=lA'.out;have:=B1.out;omega) (by rw [List.length_append,List.length_append];have:=HP.out;have:=HQ.out;have:=LL.out;have:=lA'.out;have:=rA'.out;have:=B1.out;omega) h2).mono ?_;rintro e w2 ⟨rfl,h3,ad⟩;have h4:St (P++(L++(R++S))) w2:=by rw [EQ.out];exact h3
   replace aG:=aG.chg ad (by decide);replace hc:=hc.trans ad;clear h2 h3 y0 y1 ad
   cases hyx:lt y x
   ·have fi:=hid hyx
    clear hyx;go_wp2_with fail;go_roundw
    case rel=>exact ⟨c+1,j,by first | rfl | (push_cast;rfl) | go_num,rfl,by have:=G.out;omega,by omega,G.out.2.2,.inr ⟨c,x,y,rfl,gL'.out,gR'.out,fi.out⟩,HB.out,h4,aG,hc⟩
    case measure=>simp [intOf];omega
   have fi:=hid hyx;clear hyx;go_wp2_with fail;go_roundw
   case rel=>exact ⟨i,c,rfl,rfl,G.out.1,dH,by have:=G.out;omega,HA.out,.inr ⟨x,y,gL'.out,gR'.out,fi.out⟩,h4,aG,hc⟩
   case measure=>simp [intOf];omega
  ·have hij':i=j:=by have:=G.out;omega
   subst hij';clear de y0 y1 gb;obtain ⟨E,hE⟩:∃ E:Nat,(N:Int) - (i:Int)=(E:Int):=⟨N - i,by have:=HF.out;have:=G.out;have:=HNN.out;omega⟩
   have bT:=hid (show E+i=M+q by have:=HF.out;have:=G.out;have:=HNN.out;omega);obtain ⟨L1,hL1⟩:=ex1 (L.take (i - p));obtain ⟨L2,hL2⟩:=ex1 (L.drop (i - p));obtain ⟨R1,hR1⟩:=ex1 (R.take (M - i));obtain ⟨R2,hR2⟩:=ex1 (R.drop (M - i));have EL:=hid (show L1++L2=L by rw [hL1,hL2,List.take_append_drop]);have ER:=hid (show R1++R2=R by rw [hR1,hR2,List.take_append_drop]);have NL1:=hid (show L1.length=i - p by rw [hL1,List.length_take];have:=HF.out;have:=G.out;have:=HQ.out;omega);have NL2:=hid (show L2.length=q - i by rw [hL2,List.length_drop];have:=HF.out;have:=G.out;have:=HQ.out;omega);have NR1:=hid (show R1.length=M - i by rw [hR1,List.length_take];have:=HF.out;have:=G.out;omega);have NR2:=hid (show R2.length=R.length - (M - i) by rw [hR2,List.length_drop]);have NA:=hid (And.intro NL1.out (And.intro NL2.out (And.intro NR1.out (And.intro NR2.out (And.intro HP.out (And.intro HQ.out (And.intro HE.out (And.intro bT.out (And.intro HF.out (And.intro G.out HN.out))))))))))
   have eP:=hid (show LeL lt (L1++R1) (L2++R2) from qob O (by rw [EL.out];exact HSL.out) (by rw [ER.out];exact HSR.out) (fun z y hz hy=>by
    rw [hL1] at hz;rw [hR2] at hy;obtain ⟨c,dH,ad,fm⟩:=qg8 hz;obtain ⟨hy1,hy2⟩:=qk6 hy;rcases HA.out with e | ⟨c',x',y',e,e1,e2,e3⟩
    ·exfalso
     have:=HF.out;omega
    ·have a1:c' - p=c:=by have:=HF.out;have:=HQ.out;have:=G.out;omega
     have a2:u - c' - q=M - i:=by have:=HUU.out;have:=HF.out;have:=G.out;omega
     rw [a1,fm] at e1;rw [a2,hy2] at e2;injection e1 with e1;injection e2 with e2;rw [e1,e2];exact e3) (fun z y hz hy=>by
    rw [hR1] at hz;rw [hL2] at hy;obtain ⟨c,dH,ad,fm⟩:=qg8 hz;obtain ⟨hy1,hy2⟩:=qk6 hy;rcases HB.out with e | ⟨x',y',e1,e2,e3⟩
    ·exfalso
     have:=HF.out;have:=HQ.out;have:=G.out;omega
    have a2:u - i - q=c:=by have:=HUU.out;have:=HF.out;have:=G.out;omega
    rw [hy2] at e1;rw [a2,fm] at e2;injection e1 with e1;injection e2 with e2;rw [e1,e2];exact e3))
   have SL1:=hid (show Srt lt L1 by have:=HSL.out;rw [← EL.out] at this;exact (qee.1 this).1);have SL2:=hid (show Srt lt L2 by have:=HSL.out;rw [← EL.out] at this;exact (qee.1 this).2.1);have SR1:=hid (show Srt lt R1 by have:=HSR.out;rw [← ER.out] at this;exact (qee.1 this).1);have SR2:=hid (show Srt lt R2 by have:=HSR.out;rw [← ER.out] at this;exact (qee.1 this).2.1);have h2:St (P++(L1++(L2++(R1++(R2++S))))) wr:=by
    rw [← EL.out,← ER.out] at h1;simpa only [List.append_assoc] using h1
   have bE:E≤e:=by have:=NR2.out;have:=bT.out;have:=HE.out;have:=HF.out;have:=G.out;omega
   have bi:i≤100000∧p≤i∧i≤q∧i≤M:=by have:=HF.out;have:=G.out;omega
   obtain ⟨bi1,bi2,bi3,bi4⟩:=bi;clear h1 hL1 hL2 hR1 hR2;have h1:=h2;clear h2
   by_cases kq:i < q
   ·have xE:M < E:=by have:=bT.out;omega
    by_cases kM:i < M
    ·have xQ:q < E:=by have:=bT.out;omega
     by_cases pk:p < i
     ·by_cases Ee:E < e
      ·have y0:=aG.ce 0 (.func (.func g) #[] lb) rfl
       have y1:=aG.ce 1 (.func (.func sf) #[] sb) rfl;go_wp2_with fail;refine (qq3 K (P++L1) L2 R1 (R2++S) _ _ _ _ (by simp only [List.length_append];have:=NA.out;omega) (by simp only [List.length_append];have:=NA.out;omega) (by simp only [List.length_append];have:=NA.out;omega) (List.length_pos_iff.1 (by have:=NA.out;omega)) (List.length_pos_iff.1 (by have:=NA.out;omega)) (by simp only [List.length_append];have:=NA.out;omega) (by simpa only [List.append_assoc] using h1)).mono ?_;rintro e w2 ⟨rfl,h3,ad⟩;have h1':St (P++(L1++(R1++(L2++(R2++S))))) w2:=by simpa only [List.append_assoc] using h3
       replace aG:=aG.chg ad (by decide);replace hc:=hc.trans ad;clear h3 ad h1;have h1:=h1';clear h1';have y0:=aG.ce 0 (.func (.func g) #[] lb) rfl;have y1:=aG.ce 1 (.func (.func sf) #[] sb) rfl;go_wp2_with fail;refine (HIH.out P L1 R1 (L2++(R2++S)) _ _ _ _ (by have:=NA.out;omega) (by have:=NA.out;omega) (by have:=NA.out;omega) (by have:=NA.out;omega) (List.length_pos_iff.1 (by have:=NA.out;omega)) (List.length_pos_iff.1 (by have:=NA.out;omega)) (by have:=NA.out;omega) SL1.out SR1.out h1).mono ?_;rintro e w3 ⟨rfl,M1,pM1,sM1,h3,ad⟩;have PM1:=hid pM1;have SM1:=hid sM1;replace aG:=aG.chg ad (by decide);replace hc:=hc.trans ad;clear pM1 sM1 h1 ad y0 y1;have y0:=aG.ce 0 (.func (.func g) #[] lb) rfl;have y1:=aG.ce 1 (.func (.func sf) #[] sb) rfl;go_wp2_with fail;have LM1:=hid (show M1.length=M - p from by have:=PM1.out.length_eq;rw [List.length_append] at this;have:=NA.out;omega);refine (HIH.out (P++M1) L2 R2 S _ _ _ _ (by have:=NA.out;omega) (by simp only [List.length_append];have:=NA.out;have:=LM1.out;omega) (by simp only [List.length_append];have:=NA.out;have:=LM1.out;omega) (by simp only [List.length_append];have:=NA.out;have:=LM1.out;omega) (List.length_pos_iff.1 (by have:=NA.out;omega)) (List.length_pos_iff.1 (by have:=NA.out;omega)) (by simp only [List.length_append];have:=NA.out;have:=LM1.out;omega) SL2.out SR2.out (by simpa only [List.append_assoc] using h3)).mono ?_
       rintro e w4 ⟨rfl,M2,pM2,sM2,h5,fm⟩;replace hc:=hc.trans fm;clear y0 y1;go_wp2_with fail;go_end0;obtain ⟨d1,d2⟩:=qdh eP.out PM1.out pM2 SM1.out sM2;rw [EL.out,ER.out] at d2;exact ⟨rfl,M1++M2,d2,d1,by simpa only [List.append_assoc] using h5,hc⟩
      exfalso;have:=HM.out;have:=HQ.out;have:=HE.out;have:=bT.out;have:=HF.out;have:=G.out;omega
     by_cases Ee:E < e
     ·obtain ⟨M1,eU⟩:=ex1 (L1++R1)
      have PM1:=hid (show M1.Perm (L1++R1) by rw [eU]);have SM1:=hid (show Srt lt M1 by
       rw [eU];rcases (show L1=[]∨R1=[] from by first | exact .inl (List.eq_nil_of_length_eq_zero (by have:=NL1.out;omega)) | exact .inr (List.eq_nil_of_length_eq_zero (by have:=NR1.out;omega))) with e | e
       ·rw [e];exact SR1.out
       rw [e,List.append_nil];exact SL1.out)
      have HM1:=hid eU;clear eU;have nL1:L1=[]:=List.eq_nil_of_length_eq_zero (by have:=NL1.out;omega);have y0:=aG.ce 0 (.func (.func g) #[] lb) rfl;have y1:=aG.ce 1 (.func (.func sf) #[] sb) rfl;go_wp2_with fail;refine (qq3 K (P++L1) L2 R1 (R2++S) _ _ _ _ (by simp only [List.length_append];have:=NA.out;omega) (by simp only [List.length_append];have:=NA.out;omega) (by simp only [List.length_append];have:=NA.out;omega) (List.length_pos_iff.1 (by have:=NA.out;omega)) (List.length_pos_iff.1 (by have:=NA.out;omega)) (by simp only [List.length_append];have:=NA.out;omega) (by simpa only [List.append_assoc] using h1)).mono ?_;rintro e w2 ⟨rfl,h3,ad⟩;have h1':St (P++(L1++(R1++(L2++(R2++S))))) w2:=by simpa only [List.append_assoc] using h3
      replace aG:=aG.chg ad (by decide);replace hc:=hc.trans ad;clear h3 ad h1;have h1:=h1';clear h1';have y0:=aG.ce 0 (.func (.func g) #[] lb) rfl;have y1:=aG.ce 1 (.func (.func sf) #[] sb) rfl;go_wp2_with fail;have h3:=h1;rw [← List.append_assoc L1 R1,← HM1.out] at h3;have LM1:=hid (show M1.length=M - p from by have:=PM1.out.length_eq;rw [List.length_append] at this;have:=NA.out;omega);refine (HIH.out (P++M1) L2 R2 S _ _ _ _ (by have:=NA.out;omega) (by simp only [List.length_append];have:=NA.out;have:=LM1.out;omega) (by simp only [List.length_append];have:=NA.out;have:=LM1.out;omega) (by simp only [List.length_append];have:=NA.out;have:=LM1.out;omega) (List.length_pos_iff.1 (by have:=NA.out;omega)) (List.length_pos_iff.1 (by have:=NA.out;omega)) (by simp only [List.length_append];have:=NA.out;have:=LM1.out;omega) SL2.out SR2.out (by simpa only [List.append_assoc] using h3)).mono ?_;rintro e w4 ⟨rfl,M2,pM2,sM2,h5,fm⟩
      replace hc:=hc.trans fm;clear y0 y1;go_wp2_with fail;go_end0;obtain ⟨d1,d2⟩:=qdh eP.out PM1.out pM2 SM1.out sM2;rw [EL.out,ER.out] at d2;exact ⟨rfl,M1++M2,d2,d1,by simpa only [List.append_assoc] using h5,hc⟩
     obtain ⟨M1,eU⟩:=ex1 (L1++R1);have PM1:=hid (show M1.Perm (L1++R1) by rw [eU]);have SM1:=hid (show Srt lt M1 by
      rw [eU];rcases (show L1=[]∨R1=[] from by first | exact .inl (List.eq_nil_of_length_eq_zero (by have:=NL1.out;omega)) | exact .inr (List.eq_nil_of_length_eq_zero (by have:=NR1.out;omega))) with e | e
      ·rw [e];exact SR1.out
      rw [e,List.append_nil];exact SL1.out)
     have HM1:=hid eU;clear eU;have nL1:L1=[]:=List.eq_nil_of_length_eq_zero (by have:=NL1.out;omega);have nR2:R2=[]:=List.eq_nil_of_length_eq_zero (by have:=NR2.out;have:=bT.out;have:=HE.out;omega);have y0:=aG.ce 0 (.func (.func g) #[] lb) rfl;have y1:=aG.ce 1 (.func (.func sf) #[] sb) rfl;go_wp2_with fail;refine (qq3 K (P++L1) L2 R1 (R2++S) _ _ _ _ (by simp only [List.length_append];have:=NA.out;omega) (by simp only [List.length_append];have:=NA.out;omega) (by simp only [List.length_append];have:=NA.out;omega) (List.length_pos_iff.1 (by have:=NA.out;omega)) (List.length_pos_iff.1 (by have:=NA.out;omega)) (by simp only [List.length_append];have:=NA.out;omega) (by simpa only [List.append_assoc] using h1)).mono ?_;rintro e w2 ⟨rfl,h3,ad⟩;have h1':St (P++(L1++(R1++(L2++(R2++S))))) w2:=by simpa only [List.append_assoc] using h3
     replace aG:=aG.chg ad (by decide);replace hc:=hc.trans ad;clear h3 ad h1;have h1:=h1';clear h1';have y0:=aG.ce 0 (.func (.func g) #[] lb) rfl;have y1:=aG.ce 1 (.func (.func sf) #[] sb) rfl;go_wp2_with fail;have h3:=h1;rw [← List.append_assoc L1 R1,← HM1.out] at h3;go_end0;have sM2:Srt lt (L2++R2):=by
      rcases (show L2=[]∨R2=[] from by first | exact .inl (List.eq_nil_of_length_eq_zero (by have:=NL2.out;omega)) | exact .inr (List.eq_nil_of_length_eq_zero (by have:=NR2.out;have:=bT.out;have:=HE.out;omega))) with e | e
      ·rw [e];exact SR2.out
      rw [e,List.append_nil];exact SL2.out
     obtain ⟨d1,d2⟩:=qdh eP.out PM1.out (List.Perm.refl _) SM1.out sM2;rw [EL.out,ER.out] at d2;exact ⟨rfl,M1++(L2++R2),d2,d1,by simpa only [List.append_assoc] using h3,hc⟩
    ·have xQ:E≤q:=by have:=bT.out;omega
     by_cases pk:p < i
     focus
      by_cases Ee:E < e
      focus
       exfalso
      rotate_left
      focus
       exfalso
     rotate_left 2
     focus
      by_cases Ee:E < e
      focus
       exfalso
      rotate_left
      focus
       exfalso
     all_goals
      have:=HM.out;have:=HQ.out;have:=HE.out;have:=bT.out;have:=HF.out;have:=G.out;omega
   have xE:E≤M:=by have:=bT.out;omega
   by_cases kM:i < M
   ·have xQ:q < E:=by have:=bT.out;omega
    by_cases pk:p < i
    ·by_cases Ee:E < e
     ·have nL2:L2=[]:=List.eq_nil_of_length_eq_zero (by have:=NL2.out;omega)
      have h1':St (P++(L1++(R1++(L2++(R2++S))))) wr:=by rw [nL2] at h1 ⊢;simpa only [List.append_assoc,List.nil_append,List.append_nil] using h1
      clear h1;have h1:=h1';clear h1';have y0:=aG.ce 0 (.func (.func g) #[] lb) rfl;have y1:=aG.ce 1 (.func (.func sf) #[] sb) rfl;go_wp2_with fail;refine (HIH.out P L1 R1 (L2++(R2++S)) _ _ _ _ (by have:=NA.out;omega) (by have:=NA.out;omega) (by have:=NA.out;omega) (by have:=NA.out;omega) (List.length_pos_iff.1 (by have:=NA.out;omega)) (List.length_pos_iff.1 (by have:=NA.out;omega)) (by have:=NA.out;omega) SL1.out SR1.out h1).mono ?_;rintro e w3 ⟨rfl,M1,pM1,sM1,h3,ad⟩;have PM1:=hid pM1;have SM1:=hid sM1;replace aG:=aG.chg ad (by decide);replace hc:=hc.trans ad;clear pM1 sM1 h1 ad y0 y1;have y0:=aG.ce 0 (.func (.func g) #[] lb) rfl;have y1:=aG.ce 1 (.func (.func sf) #[] sb) rfl;go_wp2_with fail;go_end0;have sM2:Srt lt (L2++R2):=by
       rcases (show L2=[]∨R2=[] from by first | exact .inl (List.eq_nil_of_length_eq_zero (by have:=NL2.out;omega)) | exact .inr (List.eq_nil_of_length_eq_zero (by have:=NR2.out;have:=bT.out;have:=HE.out;omega))) with e | e
       ·rw [e];exact SR2.out
       rw [e,List.append_nil];exact SL2.out
      obtain ⟨d1,d2⟩:=qdh eP.out PM1.out (List.Perm.refl _) SM1.out sM2;rw [EL.out,ER.out] at d2;exact ⟨rfl,M1++(L2++R2),d2,d1,by simpa only [List.append_assoc] using h3,hc⟩
     exfalso;have:=HM.out;have:=HQ.out;have:=HE.out;have:=bT.out;have:=HF.out;have:=G.out;omega
    by_cases Ee:E < e
    ·exfalso
     have:=HM.out;have:=HQ.out;have:=HE.out;have:=bT.out;have:=HF.out;have:=G.out;omega
    exfalso;have:=HM.out;have:=HQ.out;have:=HE.out;have:=bT.out;have:=HF.out;have:=G.out;omega
   have xQ:E≤q:=by have:=bT.out;omega
   by_cases pk:p < i
   ·by_cases Ee:E < e
    ·obtain ⟨M1,eU⟩:=ex1 (L1++R1)
     have PM1:=hid (show M1.Perm (L1++R1) by rw [eU]);have SM1:=hid (show Srt lt M1 by
      rw [eU];rcases (show L1=[]∨R1=[] from by first | exact .inl (List.eq_nil_of_length_eq_zero (by have:=NL1.out;omega)) | exact .inr (List.eq_nil_of_length_eq_zero (by have:=NR1.out;omega))) with e | e
      ·rw [e];exact SR1.out
      rw [e,List.append_nil];exact SL1.out)
     have HM1:=hid eU;clear eU;have nL2:L2=[]:=List.eq_nil_of_length_eq_zero (by have:=NL2.out;omega);have nR1:R1=[]:=List.eq_nil_of_length_eq_zero (by have:=NR1.out;omega);have h1':St (P++(L1++(R1++(L2++(R2++S))))) wr:=by rw [nL2] at h1 ⊢;simpa only [List.append_assoc,List.nil_append,List.append_nil] using h1
     clear h1;have h1:=h1';clear h1';have y0:=aG.ce 0 (.func (.func g) #[] lb) rfl;have y1:=aG.ce 1 (.func (.func sf) #[] sb) rfl;go_wp2_with fail;have h3:=h1;rw [← List.append_assoc L1 R1,← HM1.out] at h3;go_end0;have sM2:Srt lt (L2++R2):=by
      rcases (show L2=[]∨R2=[] from by first | exact .inl (List.eq_nil_of_length_eq_zero (by have:=NL2.out;omega)) | exact .inr (List.eq_nil_of_length_eq_zero (by have:=NR2.out;have:=bT.out;have:=HE.out;omega))) with e | e
      ·rw [e];exact SR2.out
      rw [e,List.append_nil];exact SL2.out
     obtain ⟨d1,d2⟩:=qdh eP.out PM1.out (List.Perm.refl _) SM1.out sM2;rw [EL.out,ER.out] at d2;exact ⟨rfl,M1++(L2++R2),d2,d1,by simpa only [List.append_assoc] using h3,hc⟩
    exfalso;have:=HM.out;have:=HQ.out;have:=HE.out;have:=bT.out;have:=HF.out;have:=G.out;omega
   by_cases Ee:E < e
   ·exfalso
    have:=HM.out;have:=HQ.out;have:=HE.out;have:=bT.out;have:=HF.out;have:=G.out;omega
   exfalso;have:=HM.out;have:=HQ.out;have:=HE.out;have:=bT.out;have:=HF.out;have:=G.out;omega
end
end Go.Proofs.YtngbfdogiciahaaGreat
