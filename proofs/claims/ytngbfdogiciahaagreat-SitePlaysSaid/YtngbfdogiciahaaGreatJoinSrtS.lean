/- Texts joined. -/
import Derived.Test.YtngbfdogiciahaaGreatSrtN
import Derived.Test.YtngbfdogiciahaaGreatJoinSrtO
import Derived.Lib.ReflectliteSlice
import Derived.Lib.ReflectliteSwap
import Derived.Test.YtngbfdogiciahaaGreatJoinSiteY
set_option maxRecDepth 100000
set_option maxHeartbeats 40000000
namespace Go.Proofs.YtngbfdogiciahaaGreat
open Go Go.RowKit
section
variable {α:Type} {lt:α→α→Bool} {g sf:FuncId} {lb sb:Array Value} {St:List α→World→Prop}
theorem qtc (K:Srtr lt g sf lb sb St) (O:Ord lt):∀ (n:Nat) (P L R S:List α) (w:World) (a m b:Int),L.length+R.length < n→a=(P.length:Int)→m=(P.length:Int)+(L.length:Int)→b=(P.length:Int)+(L.length:Int)+(R.length:Int)→L≠[]→R≠[]→P.length+L.length+R.length≤100000→Srt lt L→Srt lt R→St (P++(L++(R++S))) w→
  Calls Tryz.prog 223 #[.agg #[.func (.func g) #[] lb,.func (.func sf) #[] sb],.int .i64 a,.int .i64 m,.int .i64 b] w fun e w'=>e=.returned (.tuple #[])∧∃ M,M.Perm (L++R)∧Srt lt M∧St (P++(M++S)) w'∧Chg 0 [151] w w'
 | 0,_,_,_,_,_,_,_,_,h,_,_,_,_,_,_,_,_,_=>absurd h (by omega)
 | n+1,P,L,R,S,w,a,m,b,hn,ha,hm,hb,hL,hR,hl,sL,sR,h=>by
  match L,hL with
  | [x],_=>exact jbl K O P x R S w a m b ha hm hb (by simp at hl;omega) sR h
  | x1::x2::L',_=>
   match R,hR with
   | [y],_=>exact jbm K O P (x1::x2::L') y S w a m b ha hm hb (by simp at hl ⊢;omega) (by simp) sL h
   | y1::y2::R',_=>exact jbn K O n (qtc K O n) P (x1::x2::L') (y1::y2::R') S w a m b (by omega) ha hm hb (by simp) (by simp) hl sL sR h
theorem qwm (K:Srtr lt g sf lb sb St) (O:Ord lt) (P L R S:List α) (w:World) (a m b:Int) (ha:a=(P.length:Int)) (hm:m=(P.length:Int)+(L.length:Int)) (hb:b=(P.length:Int)+(L.length:Int)+(R.length:Int)) (hL:L≠[]) (hR:R≠[]) (hl:P.length+L.length+R.length≤100000) (sL:Srt lt L) (sR:Srt lt R) (h:St (P++(L++(R++S))) w) :
  Calls Tryz.prog 223 #[.agg #[.func (.func g) #[] lb,.func (.func sf) #[] sb],.int .i64 a,.int .i64 m,.int .i64 b] w fun e w'=>e=.returned (.tuple #[])∧∃ M,M.Perm (L++R)∧Srt lt M∧St (P++(M++S)) w'∧Chg 0 [151] w w':=
 qtc K O _ P L R S w a m b (Nat.lt_succ_self _) ha hm hb hL hR hl sL sR h
theorem qiy {l:List α} {n:Nat} (h:n≤l.length):∃ x y,l=x++y∧x.length=n:=⟨l.take n,l.drop n,(List.take_append_drop _ _).symm,by rw [List.length_take];omega⟩
theorem jgi (K:Srtr lt g sf lb sb St) (O:Ord lt) (l:List α) (w:World) (n:Int) (hn:n=(l.length:Int)) (hl:l.length≤1000) (h:St l w) :
  Calls Tryz.prog 198 #[.agg #[.func (.func g) #[] lb,.func (.func sf) #[] sb],.int .i64 n] w fun e w'=>e=.returned (.tuple #[])∧∃ m,m.Perm l∧Srt lt m∧St m w'∧Chg 0 [151] w w':=by
 obtain ⟨z,rfl⟩:∃ z:Nat,n=(z:Int):=⟨l.length,hn⟩
 have HZ:=hid (show z=l.length by omega);have hz:z≤1000:=by omega
 have aC:=(Ext.refl w).alloc (.cells #[.func (.func g) #[] lb,.func (.func sf) #[] sb] 280);have aG:=Blk.new w 280 #[.func (.func g) #[] lb,.func (.func sf) #[] sb];have h1:=K.ext _ _ _ h aC;have hc:=Chg.of_ext (B:=0) (ts:=[151]) aC;clear h hn hl aC;go_enter Tryz.func198, Tryz.ntmps198;go_wp2_with fail;go_loopw [5,6] (fun a b wr=>∃ (k:Nat) (P Q:List α),a=.int .i64 ((20*k:Nat):Int)∧b=.int .i64 ((20*k+20:Nat):Int)∧P.length=k*20∧(P++Q).Perm l∧Chk lt 20 P∧St (P++Q) wr∧Blk wr w.heap.size 280 #[.func (.func g) #[] lb,.func (.func sf) #[] sb]∧Chg 0 [151] w wr) (fun a _ _=>z+20 - (intOf a).toNat)
 case atStart=>exact ⟨0,[],l,rfl,rfl,rfl,List.Perm.refl _,fun i j x y _ _ hx=>by simp at hx,h1,aG,hc⟩
 clear h1 aG hc;obtain ⟨k,P,Q,rfl,rfl,hP,hpm,cQ,h1,aG,hc⟩:=hrel;have HP:=hid hP;have HPM:=hid hpm;have HCK:=hid cQ;have dq:=hid (show P.length+Q.length=z by have:=hpm.length_eq;rw [List.length_append] at this;have:=HZ.out;omega);have y0:=aG.ce 0 (.func (.func g) #[] lb) rfl;have y1:=aG.ce 1 (.func (.func sf) #[] sb) rfl;have hk:k≤50:=by have:=HP.out;have:=dq.out;omega
 clear hP hpm cQ
 by_cases aD:20*k+20≤z
 ·obtain ⟨X,Q',hQ,hX⟩:=qiy (l:=Q) (n:=20) (by have:=HP.out;have:=dq.out;omega)
  have HQ:=hid hQ;have HX:=hid hX;have h2:St (P++(X++Q')) wr:=by rw [hQ] at h1;exact h1
  clear hQ hX h1;go_wp2_with fail;refine (qs9 K O P X Q' wr _ _ (by have:=HP.out;omega) (by have:=HP.out;have:=HX.out;omega) (by have:=HP.out;have:=HX.out;omega) h2).mono ?_;rintro e w2 ⟨rfl,X',pX,sX,h3,ad⟩;have PX:=hid pX;have SX:=hid sX;replace aG:=aG.chg ad (by decide);clear h2 pX sX y0 y1;go_wp2_with fail;go_roundw
  case rel=>
   refine ⟨k+1,P++X',Q',by first | rfl | go_num,by first | rfl | go_num,by rw [List.length_append,HP.out,PX.out.length_eq,HX.out];omega,?_,qne (q:=k) (by omega) HP.out HCK.out (qog SX.out),by simpa only [List.append_assoc] using h3,aG,hc.trans ad⟩;refine List.Perm.trans ?_ HPM.out;rw [HQ.out,List.append_assoc];exact List.Perm.append_left _ (List.Perm.append_right _ PX.out)
  case measure=>simp [intOf];omega
 have HQL:=hid (show Q.length < 20 by have:=HP.out;have:=dq.out;omega);go_wp2_with fail;refine (qs9 K O P Q [] wr _ _ (by have:=HP.out;omega) (by have:=HP.out;have:=dq.out;omega) (by have:=HP.out;have:=dq.out;omega) (by rw [List.append_nil];exact h1)).mono ?_;rintro e w2 ⟨rfl,Q2,pQ,sQ,h3,ad⟩;rw [List.append_nil] at h3;have hd0:=qne (q:=k) (by omega) HP.out HCK.out (qog (k:=20) sQ);have hp0:(P++Q2).Perm l:=(List.Perm.append_left _ pQ).trans HPM.out;obtain ⟨d,hd⟩:=ex1 (P++Q2);rw [← hd] at h3 hd0 hp0;have HD0:=hid hd0;have HP0:=hid hp0;replace aG:=aG.chg ad (by decide);replace hc:=hc.trans ad;clear h1 pQ sQ hd0 hp0 hd ad y0 y1 HP HPM HCK dq HQL aD hk;go_wp2_with fail;go_loopw [4] (fun s wr=>∃ (bs:Nat) (d:List α),s=.int .i64 (bs:Int)∧1≤bs∧bs≤2000∧d.Perm l∧Chk lt bs d∧St d wr∧Blk wr w.heap.size 280 #[.func (.func g) #[] lb,.func (.func sf) #[] sb]∧Chg 0 [151] w wr) (fun s _=>3000 - (intOf s).toNat)
 case atStart=>exact ⟨20,d,rfl,by omega,by omega,HP0.out,HD0.out,h3,aG,hc⟩
 clear h3 aG hc HP0 HD0;obtain ⟨bs,d,rfl,aX,aI,hpm,cQ,h1,aG,hc⟩:=hrel;have HPM:=hid hpm;have HCK:=hid cQ;have fW:=hid (show d.length=z by have:=hpm.length_eq;have:=HZ.out;omega);clear hpm cQ
 by_cases eF:bs < z
 ·go_wp2_with fail
  go_loopw [5,6] (fun a b wr=>∃ (A k:Nat) (P Q:List α),a=.int .i64 (A:Int)∧b=.int .i64 ((A:Int)+2*(bs:Int))∧A=k*(2*bs)∧P.length=A∧(P++Q).Perm l∧Chk lt (2*bs) P∧Chk lt bs Q∧St (P++Q) wr∧Blk wr w.heap.size 280 #[.func (.func g) #[] lb,.func (.func sf) #[] sb]∧Chg 0 [151] w wr) (fun a _ _=>z+2*bs - (intOf a).toNat)
  case atStart=>exact ⟨0,0,[],d,rfl,by simp,by simp,rfl,HPM.out,fun i j x y _ _ hx=>by simp at hx,HCK.out,h1,aG,hc⟩
  clear h1 aG hc HCK HPM fW;obtain ⟨A,k,P,Q,rfl,rfl,hA,hP,hpm,hcP,hcQ,h1,aG,hc⟩:=hrel;have HA:=hid hA;have HP:=hid hP;have HPM:=hid hpm;have HCP:=hid hcP;have HCQ:=hid hcQ;have dq:=hid (show A+Q.length=z by have:=hpm.length_eq;rw [List.length_append] at this;have:=HZ.out;omega);have hAz:A≤z:=by have:=dq.out;omega
  have y0:=aG.ce 0 (.func (.func g) #[] lb) rfl;have y1:=aG.ce 1 (.func (.func sf) #[] sb) rfl;clear hA hP hpm hcP hcQ
  by_cases aD:A+2*bs≤z
  ·obtain ⟨X,Q1,hQ,hX⟩:=qiy (l:=Q) (n:=bs) (by have:=dq.out;omega)
   obtain ⟨Y,Q2,hQ1,hY⟩:=qiy (l:=Q1) (n:=bs) (by have:=dq.out;have:=congrArg List.length hQ;rw [List.length_append] at this;omega);subst hQ1;have HQ:=hid hQ;have HX:=hid hX;have HY:=hid hY;have fo:=HCQ.out;rw [hQ] at fo;have SX:=hid (ql3 (qqf fo) (Nat.le_of_eq hX));have hcq1:=qnf (q:=1) (by omega) (by omega) fo;have SY:=hid (ql3 (qqf hcq1) (Nat.le_of_eq hY));have CQ2:=hid (qnf (q:=1) (by omega) (by omega) hcq1);have h2:St (P++(X++(Y++Q2))) wr:=by rw [hQ] at h1;exact h1
   clear hQ hX hY fo hcq1 h1;go_wp2_with fail;refine (qwm K O P X Y Q2 wr _ _ _ (by rw [HP.out]) (by rw [HP.out,HX.out]) (by rw [HP.out,HX.out,HY.out];omega) (List.length_pos_iff.1 (by have:=HX.out;omega)) (List.length_pos_iff.1 (by have:=HY.out;omega)) (by have:=HP.out;have:=HX.out;have:=HY.out;omega) SX.out SY.out h2).mono ?_;rintro e w2 ⟨rfl,M,pM,sM,h3,ad⟩;have PM:=hid pM;have SM:=hid sM;replace aG:=aG.chg ad (by decide);clear h2 pM sM y0 y1;go_wp2_with fail;go_roundw
   case rel=>
    refine ⟨A+2*bs,k+1,P++M,Q2,by first | rfl | (push_cast;rfl) | go_num,by first | rfl | (push_cast;rfl) | go_num,by rw [HA.out,Nat.add_mul k 1,Nat.one_mul],by rw [List.length_append,HP.out,PM.out.length_eq,List.length_append,HX.out,HY.out];omega,?_,qne (q:=k) (by omega) (by rw [HP.out,HA.out]) HCP.out (qog SM.out),CQ2.out,by simpa only [List.append_assoc] using h3,aG,hc.trans ad⟩;refine List.Perm.trans ?_ HPM.out;rw [HQ.out,List.append_assoc,← List.append_assoc X];exact List.Perm.append_left _ (List.Perm.append_right _ PM.out)
   case measure=>simp [intOf];omega
  by_cases hmz:A+bs < z
  ·obtain ⟨X,Y,hQ,hX⟩:=qiy (l:=Q) (n:=bs) (by have:=dq.out;omega)
   have HQ:=hid hQ;have HX:=hid hX;have HY:=hid (show A+bs+Y.length=z by have:=dq.out;have:=congrArg List.length hQ;rw [List.length_append] at this;omega);have fo:=HCQ.out;rw [hQ] at fo;have SX:=hid (ql3 (qqf fo) (Nat.le_of_eq hX));have hcq1:=qnf (q:=1) (by omega) (by omega) fo;have SY:=hid (ql3 hcq1 (by have:=HY.out;omega));have h2:St (P++(X++(Y++[]))) wr:=by rw [hQ] at h1;rw [List.append_nil];exact h1
   clear hQ hX fo hcq1 h1;go_wp2_with fail;refine (qwm K O P X Y [] wr _ _ _ (by rw [HP.out]) (by rw [HP.out,HX.out]) (by rw [HP.out,HX.out];have:=HY.out;omega) (List.length_pos_iff.1 (by have:=HX.out;omega)) (List.length_pos_iff.1 (by have:=HY.out;omega)) (by have:=HP.out;have:=HX.out;have:=HY.out;omega) SX.out SY.out h2).mono ?_;rintro e w2 ⟨rfl,M,pM,sM,h3,ad⟩;rw [List.append_nil] at h3;have PM:=hid pM;have SM:=hid sM;replace aG:=aG.chg ad (by decide);clear h2 pM sM y0 y1;go_wp2_with fail;go_roundw
   case rel=>
    refine ⟨bs*2,P++M,by first | rfl | (push_cast;rfl) | go_num,by omega,by omega,?_,?_,h3,aG,hc.trans ad⟩
    ·refine List.Perm.trans ?_ HPM.out
     rw [HQ.out];exact List.Perm.append_left _ PM.out
    rw [Nat.mul_comm];exact qne (q:=k) (by omega) (by rw [HP.out,HA.out]) HCP.out (qog SM.out)
   case measure=>simp [intOf];omega
  have SQ:=hid (ql3 HCQ.out (by have:=dq.out;omega));go_wp2_with fail;go_roundw
  case rel=>
   refine ⟨bs*2,P++Q,by first | rfl | (push_cast;rfl) | go_num,by omega,by omega,HPM.out,?_,h1,aG,hc⟩;rw [Nat.mul_comm];exact qne (q:=k) (by omega) (by rw [HP.out,HA.out]) HCP.out (qog SQ.out)
  case measure=>simp [intOf];omega
 have HS:=hid (ql3 HCK.out (by have:=fW.out;omega));go_wp2_with fail;go_end0;exact ⟨rfl,d,HPM.out,HS.out,h1,hc⟩
end
noncomputable def tVers:TypeInfo:=(Tryz.prog.info? 48).get (by kernel_rfl)
noncomputable def tVer:TypeInfo:=(Tryz.prog.info? 151).get (by kernel_rfl)
theorem qk7:Tryz.prog.info? 48=some tVers:=by kernel_rfl
theorem qjz:tVers.desc=.slice 151:=by kernel_rfl
theorem qmq:Tryz.prog.info? 151=some tVer:=by kernel_rfl
theorem qex:tVer.size=8:=by kernel_rfl
theorem qvw (w:World):(Extern.Rtype.kind 151).run Tryz.prog w=.ok 25 w:=by kernel_rfl
theorem qyj (w:World):(isAgg 151).run Tryz.prog w=.ok true w:=by kernel_rfl
theorem qme (n:Nat) (h2:2≤n):Lib.swapperK n tVer 25=9:=by
 have a:tVer.hasPointers=true:=by kernel_rfl
 have b:tVer.bytes=104:=by kernel_rfl
 have c:(n==0)=false:=by simp;omega
 have d:(n==1)=false:=by simp;omega
 simp [Lib.swapperK,a,b,c,d]
theorem qox:Lib.swapperK 1 tVer 25=2:=by simp [Lib.swapperK]
section
variable {lt:Version→Version→Bool} {g sf:FuncId} {lb sb:Array Value} {St:List Version→World→Prop}
theorem qmc (K:Srtr lt g sf lb sb St) (O:Ord lt) (A:Option Addr) (c:Nat) (l:List Version) (w:World) (hl:l.length≤1000) (h:St l w)
  (hsf : ∀ w, (Extern.ReflectliteSwapper.swapper "internal/reflectlite" (Extern.ReflectliteValue.valueError "Swapper") #[.iface 48 (.slice A l.length c)]).run Tryz.prog w = .ok (.func (.func sf) #[] sb) w) :
  Calls Tryz.prog 161 #[.iface 48 (.slice A l.length c),.func (.func g) #[] lb] w fun e w'=>e=.returned (.tuple #[])∧∃ m,m.Perm l∧Srt lt m∧St m w':=by
 have hv:=Lib.run_valueOf_slice (P:=Tryz.prog) 48 151 tVers qk7 qjz A l.length c w;have ag:=fun a w ha=>Lib.run_valueLen_slice (P:=Tryz.prog) 48 151 tVers qk7 qjz (by kernel_rfl) a A l.length c w ha;simp only [typeHandle] at hv ag
 first
  | simp only [show Tryz.prog.globals.size=1 from by kernel_rfl] at hv ag
  | simp only [show Tryz.prog.globals.size=0 from by kernel_rfl] at hv ag
  | simp only [show Tryz.prog.globals.size=2 from by kernel_rfl] at hv ag
  | simp only [show Tryz.prog.globals.size=3 from by kernel_rfl] at hv ag
  | simp only [show Tryz.prog.globals.size=4 from by kernel_rfl] at hv ag
  | simp only [show Tryz.prog.globals.size=5 from by kernel_rfl] at hv ag
  | simp only [show Tryz.prog.globals.size=6 from by kernel_rfl] at hv ag
 have HL:=hid hl;have HH:=hid h;clear hl h;go_enter Tryz.func161, Tryz.ntmps161;go_wp2_with fail;rw [run_callFunc_extern Tryz.func196 (by kernel_rfl) (by kernel_rfl) (by kernel_rfl) (e:=fun args=>Extern.ReflectliteValue.unpack (args.getD 0 (.tuple #[]))) (by kernel_rfl),
  show Sem.run Tryz.prog ((fun args:Array Value=>Extern.ReflectliteValue.unpack (args.getD 0 (.tuple #[]))) #[.iface 48 (.slice A l.length c)]) w=_ from hv]
 simp only [Result.andThen];rw [Oper.upon_value];go_wp2_with fail;rw [run_callFunc_extern Tryz.func197 (by kernel_rfl) (by kernel_rfl) (by kernel_rfl) (e := Extern.ReflectliteSwapper.swapper "internal/reflectlite" (Extern.ReflectliteValue.valueError "Swapper")) (by kernel_rfl), hsf];simp only [Result.andThen];rw [Oper.upon_value];go_wp2_with fail;rw [run_callFunc_extern Tryz.func199 (by kernel_rfl) (by kernel_rfl) (by kernel_rfl) (e := Extern.ReflectliteValue.method (Extern.ReflectliteValue.valueError "reflectlite.Value.Len" 0) Extern.ReflectliteValue.len) (by kernel_rfl),
  ag _ _ (by simp)]
 simp only [Result.andThen];rw [Oper.upon_value];go_wp2_with fail;refine (jgi K O l _ (l.length:Int) rfl HL.out (K.ext _ _ _ HH.out (((Ext.refl w).alloc _).alloc _))).mono ?_;rintro e w' ⟨rfl,m,hm1,hm2,hm3,_⟩;go_wp2_with fail;go_end0;exact ⟨rfl,m,hm1,hm2,hm3⟩
end
structure StV (B:Nat) (w0:World) (g n c r:Nat) (d:List Version) (w:World):Prop where
 len:d.length=n
 ext:Ext w0 w
 own:Own (RVer B) 8 151 w w0.heap.size (.slice (some ⟨g,0,none⟩) n c) d
 var:Blk w r 48 #[.slice (some ⟨g,0,none⟩) n c]
theorem StV.at_ {B:Nat} {w0:World} {g n c r:Nat} {d:List Version} {w:World} (h:StV B w0 g n c r d w) {i:Nat} (hi:i < d.length):∃ Av cv Am cm,w.rangeAt g (i*8) [.string d[i].id, .int .i64 d[i].dot.site, .int .i64 d[i].dot.count, .int .i64 d[i].pt.tags, .int .i64 d[i].pt.num, .int .i64 d[i].body, .slice Av d[i].past.vec.length cv, .slice Am d[i].past.more.length cm]:=by
 obtain ⟨b,off,Av,cv,Am,cm,hA,_,hr,_⟩:=Sl.ver (B:=B) (l:=d) (w:=w) (A:=some ⟨g,0,none⟩) (h.own.sl B) hi;injection hA with hA;injection hA with h1 h2;subst h1 h2;rw [Nat.zero_add] at hr;exact ⟨Av,cv,Am,cm,hr⟩
theorem StV.extn {B:Nat} {w0:World} {g n c r:Nat} {d:List Version} {w w':World} (h:StV B w0 g n c r d w) (x:Ext w w'):StV B w0 g n c r d w':=⟨h.len,h.ext.trans x,h.own.ext RVer.monoE x,h.var.ext x⟩
theorem jeh (B:Nat) (w0:World) (g n c r:Nat) (d:List Version) (w:World) (i j:Nat) (hi:i < d.length) (hj:j < d.length) (h:StV B w0 g n c r d w) :
  Calls Tryz.prog 162 #[.int .i64 (i:Int),.int .i64 (j:Int),.pointer (some ⟨r,0,none⟩)] w fun e w'=>e=.returned (.bool (qbi d[i] d[j]))∧Ext w w':=by
 obtain ⟨Ai,ci,Mi,di,hri⟩:=h.at_ hi;obtain ⟨Aj,cj,Mj,dj,hrj⟩:=h.at_ hj;have hv:=h.var;have hl:=h.len;have bZ:(i:Int) < (n:Int):=by omega
 have hjn:(j:Int) < (n:Int):=by omega
 have hin':i < n:=by omega
 have hjn':j < n:=by omega
 have HC:=hid (fun w'=>jax d[i] d[j] Ai ci Mi di Aj cj Mj dj w');generalize d[i]=y at hri HC ⊢;generalize d[j]=z at hrj HC ⊢;have aB:=hid (fun w' (x:Ext w w')=>show w'.cell? ⟨r,0,none⟩=some (.slice (some ⟨g,0,none⟩) n c) from (hv.ext x).cell rfl);have HWI:=hid (fun w' (x:Ext w w')=>show w'.rangeAt g (i*8) (#[.string y.id, .int .i64 y.dot.site, .int .i64 y.dot.count, .int .i64 y.pt.tags, .int .i64 y.pt.num, .int .i64 y.body, .slice Ai y.past.vec.length ci, .slice Mi y.past.more.length di]:Array Value).toList from qb9 x hri);have HWJ:=hid (fun w' (x:Ext w w')=>show w'.rangeAt g (j*8) (#[.string z.id, .int .i64 z.dot.site, .int .i64 z.dot.count, .int .i64 z.pt.tags, .int .i64 z.pt.num, .int .i64 z.body, .slice Aj z.past.vec.length cj, .slice Mj z.past.more.length dj]:Array Value).toList from qb9 x hrj);clear h hri hrj hv hl;go_enter Tryz.func162, Tryz.ntmps162;go_wp2_with fail;refine qaj (fun w'=>Ext w w') (by kernel_rfl) (by kernel_rfl) (Ext.refl _).drew ?_
 iterate 3
  refine wqg aB.out _ ?_;try simp only [pq]
 refine qfo qam (by rfl) HWI.out rfl ?_;try simp only [pq]
 iterate 3
  refine wqg aB.out _ ?_;try simp only [pq]
 refine qfo qam (by rfl) HWJ.out rfl ?_;(try simp only [pq]);refine qgk Tryz.call163 (by rfl) (fun w' x=>(HC.out w').mono fun _ _ h=>⟨h.1,x.trans h.2⟩) ?_;(try simp only [pq]);refine wqg aB.out _ ?_;(try simp only [pq]);refine qcf ?_;intro w25 aA;go_wp2_with fail;go_ret;exact ⟨rfl,aA⟩
theorem qwk {B:Nat} {w0:World} {g n c r:Nat} (hrg:r≠g) {P:List Version} {x:Version} {M:List Version} {y:Version} {S:List Version} {w w':World} (h:StV B w0 g n c r (P++x::(M++y::S)) w)
  (ho:Own (RVer B) 8 151 w' w0.heap.size (.slice (some ⟨g,0,none⟩) (P++y::(M++x::S)).length c) (P++y::(M++x::S))) (hg:w.grownBy w' (some g)):StV B w0 g n c r (P++y::(M++x::S)) w'∧Chg 0 [151] w w':=by
 have hn:(P++y::(M++x::S)).length=n:=by rw [← h.len];simp
 rw [hn] at ho;refine ⟨⟨hn,?_,ho,(hg.block r h.var.lt (fun e=>hrg (by injection e))).trans h.var⟩,?_⟩
 ·exact h.ext.below (h.own.below_of (v:=.slice (some ⟨g,0,none⟩) n c) hg h.ext.size) (Nat.le_refl _)
 exact h.own.chg_of (B:=0) (Nat.zero_le _) hg
theorem jdt (B:Nat) (w0:World) (g n c r:Nat) (hB:B≤w0.heap.size) (hrg:r≠g) :
  Srtr qbi 162 221 #[.pointer (some ⟨r,0,none⟩)] #[.slice (some ⟨g,0,none⟩) n c,typeHandle Tryz.prog 151] (StV B w0 g n c r) where
 hg:=Tryz.call162
 ext _ _ _ h x:=h.extn x
 lessA P x M y S w i j hi hj h:=by
  subst hi;have hj':j=((P.length+1+M.length:Nat):Int):=by rw [hj];push_cast;rfl
  subst hj';have h1:P.length < (P++x::(M++y::S)).length:=by simp
  have h2:P.length+1+M.length < (P++x::(M++y::S)).length:=by simp;omega
  have e1:(P++x::(M++y::S))[P.length]=x:=by have:=qhc P x (M++y::S);rw [List.getElem?_eq_getElem h1] at this;injection this
  have e2:(P++x::(M++y::S))[P.length+1+M.length]=y:=by have:=qfc P x M y S;rw [List.getElem?_eq_getElem h2] at this;injection this
  refine (jeh B w0 g n c r _ w P.length (P.length+1+M.length) h1 h2 h).mono ?_;rintro e w' ⟨rfl,hx⟩;rw [e1,e2];exact ⟨rfl,h.extn hx,Chg.of_ext hx⟩
 lessB P x M y S w i j hi hj h:=by
  subst hi;have hj':j=((P.length+1+M.length:Nat):Int):=by rw [hj];push_cast;rfl
  subst hj';have h1:P.length < (P++x::(M++y::S)).length:=by simp
  have h2:P.length+1+M.length < (P++x::(M++y::S)).length:=by simp;omega
  have e1:(P++x::(M++y::S))[P.length]=x:=by have:=qhc P x (M++y::S);rw [List.getElem?_eq_getElem h1] at this;injection this
  have e2:(P++x::(M++y::S))[P.length+1+M.length]=y:=by have:=qfc P x M y S;rw [List.getElem?_eq_getElem h2] at this;injection this
  refine (jeh B w0 g n c r _ w (P.length+1+M.length) P.length h2 h1 h).mono ?_;rintro e w' ⟨rfl,hx⟩;rw [e1,e2];exact ⟨rfl,h.extn hx,Chg.of_ext hx⟩
 swapA P x M y S w i j hi hj h:=by
  subst hi;have hj':j=((P.length+1+M.length:Nat):Int):=by rw [hj];push_cast;rfl
  subst hj';have hl:=h.len;have h1:P.length < n:=by rw [← hl];simp
  have h2:P.length+1+M.length < n:=by rw [← hl];simp;omega
  have ho:=h.own;rw [← hl] at ho;obtain ⟨X,Y,hX,hY,hRX,hRY,cX,cY,hf,⟨a1,a2⟩,_⟩:=qw4 (B:=B) (RVer.mono (by decide) (by decide)) hB ho;obtain ⟨b1,b2⟩:=qwk hrg h a1 a2;refine ⟨_,?_,b1,b2⟩;have hrun:=Lib.run_swap_cells (P:=Tryz.prog) false 151 tVer qmq qyj g 0 n c P.length (P.length+1+M.length) h1 h2 X Y (by rw [hX,qex]) (by rw [hY,qex]) (RVer.oneC _ _ _ hRX) (RVer.oneC _ _ _ hRY) w (by rw [qex];intro k u hk;rw [Nat.zero_add];exact cX k u hk) (by rw [qex];intro k u hk;rw [Nat.zero_add];exact cY k u hk) (fun k _=>hf _) (fun k _=>hf _);rw [qex,Nat.zero_add,Nat.zero_add] at hrun;rw [run_callFunc_extern Tryz.func221 (by kernel_rfl) (by kernel_rfl) (by kernel_rfl) (e:=Extern.ReflectliteSwapper.swap false) (by kernel_rfl)];rw [show (#[.int .i64 (P.length:Int),.int .i64 ((P.length+1+M.length:Nat):Int)]++#[.slice (some ⟨g,0,none⟩) n c,typeHandle Tryz.prog 151]:Array Value)=#[.int .i64 (P.length:Int),.int .i64 ((P.length+1+M.length:Nat):Int),.slice (some ⟨g,0,none⟩) n c,typeHandle Tryz.prog 151] from rfl,hrun]
  rfl
 swapB P x M y S w i j hi hj h:=by
  subst hi;have hj':j=((P.length+1+M.length:Nat):Int):=by rw [hj];push_cast;rfl
  subst hj';have hl:=h.len;have h1:P.length < n:=by rw [← hl];simp
  have h2:P.length+1+M.length < n:=by rw [← hl];simp;omega
  have ho:=h.own;rw [← hl] at ho;obtain ⟨X,Y,hX,hY,hRX,hRY,cX,cY,hf,_,⟨a1,a2⟩⟩:=qw4 (B:=B) (RVer.mono (by decide) (by decide)) hB ho;obtain ⟨b1,b2⟩:=qwk hrg h a1 a2;refine ⟨_,?_,b1,b2⟩;have hrun:=Lib.run_swap_cells (P:=Tryz.prog) false 151 tVer qmq qyj g 0 n c (P.length+1+M.length) P.length h2 h1 Y X (by rw [hY,qex]) (by rw [hX,qex]) (RVer.oneC _ _ _ hRY) (RVer.oneC _ _ _ hRX) w (by rw [qex];intro k u hk;rw [Nat.zero_add];exact cY k u hk) (by rw [qex];intro k u hk;rw [Nat.zero_add];exact cX k u hk) (fun k _=>hf _) (fun k _=>hf _);rw [qex,Nat.zero_add,Nat.zero_add] at hrun;rw [run_callFunc_extern Tryz.func221 (by kernel_rfl) (by kernel_rfl) (by kernel_rfl) (e:=Extern.ReflectliteSwapper.swap false) (by kernel_rfl)];rw [show (#[.int .i64 ((P.length+1+M.length:Nat):Int),.int .i64 (P.length:Int)]++#[.slice (some ⟨g,0,none⟩) n c,typeHandle Tryz.prog 151]:Array Value)=#[.int .i64 ((P.length+1+M.length:Nat):Int),.int .i64 (P.length:Int),.slice (some ⟨g,0,none⟩) n c,typeHandle Tryz.prog 151] from rfl,hrun]
  rfl
theorem jds (B:Nat) (w0:World) (g c r:Nat) (sf:FuncId) (sb:Array Value):Srtr qbi 162 sf #[.pointer (some ⟨r,0,none⟩)] sb (StV B w0 g 1 c r) where
 hg:=Tryz.call162
 ext _ _ _ h x:=h.extn x
 lessA P x M y S w i j _ _ h:=by have:=h.len;simp at this;omega
 lessB P x M y S w i j _ _ h:=by have:=h.len;simp at this;omega
 swapA P x M y S w i j _ _ h:=by have:=h.len;simp at this;omega
 swapB P x M y S w i j _ _ h:=by have:=h.len;simp at this;omega
theorem jdq (B:Nat) (w0:World) (g n c r:Nat) (l:List Version) (w:World) (hB:B≤w0.heap.size) (hrg:r≠g) (hn:n≤1000) (h0:0 < n) (h:StV B w0 g n c r l w) :
  Calls Tryz.prog 161 #[.iface 48 (.slice (some ⟨g,0,none⟩) n c),.func (.func 162) #[] #[.pointer (some ⟨r,0,none⟩)]] w fun e w'=>e=.returned (.tuple #[])∧∃ m,m.Perm l∧Srt qbi m∧StV B w0 g n c r m w':=by
 have hl:=h.len
 by_cases h2:2≤n
 ·have:=qmc (jdt B w0 g n c r hB hrg) jei (some ⟨g,0,none⟩) c l w (by omega) h (fun w=>by
   rw [hl,Lib.run_swapper_slice 48 151 tVers tVer qk7 qjz qmq 25 qvw (some ⟨g,0,none⟩) n c 221 (by rw [qme n h2];kernel_rfl) w,qme n h2];rfl)
  rw [hl] at this;exact this
 obtain rfl:n=1:=by omega
 have:=qmc (jds B w0 g c r 214 #[]) jei (some ⟨g,0,none⟩) c l w (by omega) h (fun w=>by
  rw [hl,Lib.run_swapper_slice 48 151 tVers tVer qk7 qjz qmq 25 qvw (some ⟨g,0,none⟩) 1 c 214 (by rw [qox];kernel_rfl) w,qox];rfl)
 rw [hl] at this;exact this
theorem qrv (l:List Version) (g:Gone) (k:Nat) (hk:k < l.length) (h:qpc g l[k]=false):qhr (l.take (k+1)) g=qhr (l.take k) g++[l[k]]:=by
 unfold qhr;rw [List.take_succ_eq_append_getElem hk,List.filter_append];simp [h]
theorem jcj (l:List Version) (g:Gone) (k:Nat) (hk:k < l.length) (h:qpc g l[k]=true):qhr (l.take (k+1)) g=qhr (l.take k) g:=by
 unfold qhr;rw [List.take_succ_eq_append_getElem hk,List.filter_append];simp [h]
theorem jde (B:Nat) (A:Option Addr) (c:Nat) (l:List Version) (g:Gone) (Av0:Option Addr) (cv0:Nat) (Am0:Option Addr) (cm0:Nat) (w:World) (hB:B≤w.heap.size) (hc:qae l=0) (h:qb6 B w A l) (hi:InG B w Av0 cv0 Am0 cm0 g) :
  Calls Tryz.prog 113 #[.slice A l.length c,.agg #[.string g.id, .slice Av0 g.past.vec.length cv0, .slice Am0 g.past.more.length cm0]] w fun e w'=>∃ v,e=.returned (.tuple #[v,.int .i64 (qbl l g)])∧qlt B w' v (qbo l g)∧Ext w w':=by
 have hx:=(Ext.refl w).alloc (.cells #[.string g.id, .slice Av0 g.past.vec.length cv0, .slice Am0 g.past.more.length cm0] 103);have an:=Blk.new w 103 #[.string g.id, .slice Av0 g.past.vec.length cv0, .slice Am0 g.past.more.length cm0];have aZ:=hid (qcw hc);have HG:=hid hi;have dz:=aZ.out.len;have hll:(l.length:Int)≤60:=by omega
 have HE:=hid (show qbl l g=qax g by unfold qbl;rw [if_pos hc]);have HT:=hid (show qbo l g=if qax g=0 then qhr l g else [] by unfold qbo;rw [if_pos hc]);have HGE:=hid (show qax g=if idOk g.id=true then qa4 g.past else 3 from rfl);clear hi hc;go_enter Tryz.func113, Tryz.ntmps113;have q0:=an.ce 0 (.string g.id) rfl;go_wp2_with fail;refine (qw6 g.id HG.out.lid _).mono ?_;rintro e w2 ⟨rfl,aH⟩;replace an:=an.ext aH;replace hx:=hx.trans aH;have hzb:=an.lt;clear aH q0
 cases hid1:idOk g.id
 ·have fK:=hid (show qbl l g=3∧qbo l g=[] by rw [HE.out,HT.out,HGE.out,hid1];exact ⟨rfl,rfl⟩)
  clear hid1;go_wp2_with fail;go_ret2;exact ⟨.slice none 0 0,by rw [fK.out.1];rfl,by rw [fK.out.2];exact Own.nil.isSl (base:=0) B,hx⟩
 have HG2:=hid (show qax g=qa4 g.past by rw [HGE.out,hid1];rfl);clear hid1;have q1:=an.ce 1 (.slice Av0 g.past.vec.length cv0) rfl;have q2:=an.ce 2 (.slice Am0 g.past.more.length cm0) rfl;go_wp2_with fail;refine (qmw B g.past Av0 cv0 Am0 cm0 _ (HG.out.ext hx).k).mono ?_;rintro e w3 ⟨rfl,aM⟩;replace an:=an.ext aM;replace hx:=hx.trans aM;replace hzb:=an.lt;clear aM q1 q2
 by_cases hk:qa4 g.past=0
 ·rw [hk]
  have HK:=hid (qb0.1 hk);have fK:=hid (show qbl l g=0∧qbo l g=qhr l g by rw [HE.out,HT.out,HG2.out,hk];exact ⟨rfl,rfl⟩);clear hk hzb;go_wp2_with fail;go_loopw [7,22] (fun o i wr=>∃ k:Nat,k≤l.length∧i=.int .i64 k∧Own (RVer B) 8 151 wr w.heap.size o (qhr (l.take k) g)∧Ext w wr∧Blk wr w.heap.size 103 #[.string g.id, .slice Av0 g.past.vec.length cv0, .slice Am0 g.past.more.length cm0]) (fun _ i _=>l.length - (intOf i).toNat)
  case atStart=>exact ⟨0,Nat.zero_le _,rfl,Own.nil,hx,an⟩
  clear hx an;obtain ⟨k,hk,rfl,ho,hx,an⟩:=hrel
  by_cases aD:k < l.length
  ·obtain ⟨b,off,Av,cv,Am,cm,rfl,hb,hr,hI⟩:=(h.ext RVer.monoE hx).ver aD
   have HV:=hid (aZ.out.all _ (List.getElem_mem aD));have am:=hid (show (qhr (l.take k) g).length≤10000 by have:=List.length_filter_le (fun v=>!qpc g v) (l.take k);have h2:=List.length_take_le k l;unfold qhr;omega);have aW:([.string l[k].id, .int .i64 l[k].dot.site, .int .i64 l[k].dot.count, .int .i64 l[k].pt.tags, .int .i64 l[k].pt.num, .int .i64 l[k].body, .slice Av l[k].past.vec.length cv, .slice Am l[k].past.more.length cm]:List Value).length=8:=rfl;go_wp2_with (with_reducible refine qaa (o:=⟨some 25,_,_,_,_,_⟩) qam _ rfl rfl rfl hr aW ?_);clear hr aW;have aK:=(Ext.refl wr).alloc (.cells #[.string l[k].id, .int .i64 l[k].dot.site, .int .i64 l[k].dot.count, .int .i64 l[k].pt.tags, .int .i64 l[k].pt.num, .int .i64 l[k].body, .slice Av l[k].past.vec.length cv, .slice Am l[k].past.more.length cm] 151);have bF:=Blk.new wr 151 #[.string l[k].id, .int .i64 l[k].dot.site, .int .i64 l[k].dot.count, .int .i64 l[k].pt.tags, .int .i64 l[k].pt.num, .int .i64 l[k].body, .slice Av l[k].past.vec.length cv, .slice Am l[k].past.more.length cm];obtain ⟨wa,cD⟩:=ex1 (wr.alloc (.cells #[.string l[k].id, .int .i64 l[k].dot.site, .int .i64 l[k].dot.count, .int .i64 l[k].pt.tags, .int .i64 l[k].pt.num, .int .i64 l[k].body, .slice Av l[k].past.vec.length cv, .slice Am l[k].past.more.length cm] 151));obtain ⟨r,hr⟩:=ex1 wr.heap.size;rw [← cD] at aK bF ⊢;rw [← hr] at bF ⊢;clear cD hr;have HI:=hid (hI.ext aK);obtain ⟨s1,c1,hsd,hsc,eG,eY,bZ⟩:=qqh HV.out.dot g.past;have HIN:=hid bZ;replace an:=an.ext aK;replace hx:=hx.trans aK;replace ho:=ho.ext RVer.monoE aK;have aB:=hid (fun w' (x:Ext wa w')=>show w'.cell? ⟨r,0,none⟩=some (.string l[k].id)∧w'.cell? ⟨r,1,none⟩=some (.int .i64 (s1:Int))∧w'.cell? ⟨r,2,none⟩=some (.int .i64 (c1:Int))∧w'.cell? ⟨w.heap.size,0,none⟩=some (.string g.id)∧w'.cell? ⟨w.heap.size,1,none⟩=some (.slice Av0 g.past.vec.length cv0)∧w'.cell? ⟨w.heap.size,2,none⟩=some (.slice Am0 g.past.more.length cm0) from by
    have b1:=bF.ext x;have b2:=an.ext x;exact ⟨b1.cell rfl,by rw [← hsd];exact b1.cell rfl,by rw [← hsc];exact b1.cell rfl,b2.cell rfl,b2.cell rfl,b2.cell rfl⟩)
   have HCA:=hid (fun w' (x:Ext wa w')=>qlk B g.past Av0 cv0 Am0 cm0 w' (HG.out.ext (hx.trans x)).k HK.out);have HCH:=hid (fun w' (_:Ext wa w')=>qg5 (hasK g.past) s1 c1 w' eG eY);have hO:qpc g l[k]=(sEq l[k].id g.id&&hasK g.past s1 c1):=by rw [HIN.out];rfl
   have HO:=hid hO;clear hsd hsc eG eY aK hI bZ hO
   cases h1:sEq l[k].id g.id
   ·have hne1:(l[k].id.toList==g.id.toList)=false:=h1
    have HS:=hid (qrv l g k aD (by rw [HO.out,h1];rfl));clear h1;refine qaj (fun w'=>Ext wa w') (by kernel_rfl) (by kernel_rfl) (Ext.refl _).drew ?_
    iterate 5
     refine wqg aB.out _ ?_;try simp only [pq]
    (try simp only [hne1,Bool.not_false]);refine wqg aB.out _ ?_;try simp only [pq]
    iterate 7
     refine qhq (qa9 rfl rfl rfl) ?_;try simp only [pq]
    refine wqg aB.out _ ?_;(try simp only [pq]);refine qcf ?_;intro w25 aA;clear aB HCA HCH;replace an:=an.ext aA;replace bF:=bF.ext aA;replace ho:=ho.ext RVer.monoE aA;replace hx:=hx.trans aA;have aa:=(Ext.refl w25).alloc (.cells #[.string l[k].id, .int .i64 l[k].dot.site, .int .i64 l[k].dot.count, .int .i64 l[k].pt.tags, .int .i64 l[k].pt.num, .int .i64 l[k].body, .slice Av l[k].past.vec.length cv, .slice Am l[k].past.more.length cm] 151);have aN:qb6 B (w25.alloc (.cells #[.string l[k].id, .int .i64 l[k].dot.site, .int .i64 l[k].dot.count, .int .i64 l[k].pt.tags, .int .i64 l[k].pt.num, .int .i64 l[k].body, .slice Av l[k].past.vec.length cv, .slice Am l[k].past.more.length cm] 151)) (some ⟨w25.heap.size,0,none⟩) [l[k]]:=by
     have:=Sl.one (R:=RVer B) (B:=B) (e:=151) (sz:=8) (w:=w25) (cs:=[.string l[k].id, .int .i64 l[k].dot.site, .int .i64 l[k].dot.count, .int .i64 l[k].pt.tags, .int .i64 l[k].pt.num, .int .i64 l[k].body, .slice Av l[k].past.vec.length cv, .slice Am l[k].past.more.length cm]) (y:=l[k]) rfl rfl (HI.out.ext (aA.trans aa)).rver;simpa using this
    have cS:=bF.whole;have aR:=ho.ext RVer.monoE aa;have al:=hx.trans aa;clear aA ho hx hne1;go_wp2_with (first | (with_reducible refine qa1 (o:=⟨some 41,_,_,_,_,_⟩) qam _ rfl rfl rfl cS rfl ?_) | (at_builtin;refine qaf (ys:=[l[k]]) (c:=1) (B:=B) rfl _ _ rfl qfr rfl aR hB al.size rfl aN RVer.oneC (RVer.mono (by decide) (by decide)) (by have:=am.out;simp [maxLen];omega) (by have:=am.out;simp;omega) ?_;intro v5 w5 bJ bj au dd));have cA:=al.below au (Nat.le_refl _);replace an:=(an.ext aa).chg bj (by decide);clear bj au dd aR aN al cS;go_roundw
    case rel=>exact ⟨k+1,aD,by go_num,by rw [HS.out];exact bJ,cA,an⟩
    case measure=>simp [intOf];omega
   have heq1:(l[k].id.toList==g.id.toList)=true:=h1;have HS1:=hid (fun (e:hasK g.past s1 c1=false)=>qrv l g k aD (by rw [HO.out,e,Bool.and_false]));have HS2:=hid (fun (e:hasK g.past s1 c1=true)=>jcj l g k aD (by rw [HO.out,e,h1];rfl));clear h1;generalize hasK g.past s1 c1=T at HCH HS1 HS2;refine qaj (fun w'=>Ext wa w') (by kernel_rfl) (by kernel_rfl) (Ext.refl _).drew ?_
   iterate 5
    refine wqg aB.out _ ?_;try simp only [pq]
   (try simp only [heq1,Bool.not_true]);refine wqg aB.out _ ?_;try simp only [pq]
   iterate 2
    refine wqo aB.out _ (qa9 rfl rfl rfl) ?_;try simp only [pq]
   refine qg2 Tryz.call106 (qa9 rfl rfl rfl) (by rfl) (fun w' x=>(HCA.out w' x).mono fun _ _ h=>⟨h.1,x.trans h.2⟩) ?_;try simp only [pq]
   iterate 2
    refine wqo aB.out _ (qa9 rfl rfl rfl) ?_;try simp only [pq]
   refine qg2 Tryz.call121 (qa9 rfl rfl rfl) (by rfl) (fun w' x=>(HCH.out w' x).mono fun _ _ h=>⟨h.1,x.trans h.2⟩) ?_;(try simp only [pq]);refine wqo aB.out _ (qa9 rfl rfl rfl) ?_;(try simp only [pq]);refine wqg aB.out _ ?_;(try simp only [pq]);refine qcf ?_;intro w25 aA;clear aB HCA HCH;replace an:=an.ext aA;replace bF:=bF.ext aA;replace ho:=ho.ext RVer.monoE aA;replace hx:=hx.trans aA
   cases T
   ·have HS:=hid (HS1.out rfl)
    clear HS1 HS2;have aa:=(Ext.refl w25).alloc (.cells #[.string l[k].id, .int .i64 l[k].dot.site, .int .i64 l[k].dot.count, .int .i64 l[k].pt.tags, .int .i64 l[k].pt.num, .int .i64 l[k].body, .slice Av l[k].past.vec.length cv, .slice Am l[k].past.more.length cm] 151);have aN:qb6 B (w25.alloc (.cells #[.string l[k].id, .int .i64 l[k].dot.site, .int .i64 l[k].dot.count, .int .i64 l[k].pt.tags, .int .i64 l[k].pt.num, .int .i64 l[k].body, .slice Av l[k].past.vec.length cv, .slice Am l[k].past.more.length cm] 151)) (some ⟨w25.heap.size,0,none⟩) [l[k]]:=by
     have:=Sl.one (R:=RVer B) (B:=B) (e:=151) (sz:=8) (w:=w25) (cs:=[.string l[k].id, .int .i64 l[k].dot.site, .int .i64 l[k].dot.count, .int .i64 l[k].pt.tags, .int .i64 l[k].pt.num, .int .i64 l[k].body, .slice Av l[k].past.vec.length cv, .slice Am l[k].past.more.length cm]) (y:=l[k]) rfl rfl (HI.out.ext (aA.trans aa)).rver;simpa using this
    have cS:=bF.whole;have aR:=ho.ext RVer.monoE aa;have al:=hx.trans aa;clear aA ho hx heq1;go_wp2_with (first | (with_reducible refine qa1 (o:=⟨some 41,_,_,_,_,_⟩) qam _ rfl rfl rfl cS rfl ?_) | (at_builtin;refine qaf (ys:=[l[k]]) (c:=1) (B:=B) rfl _ _ rfl qfr rfl aR hB al.size rfl aN RVer.oneC (RVer.mono (by decide) (by decide)) (by have:=am.out;simp [maxLen];omega) (by have:=am.out;simp;omega) ?_;intro v5 w5 bJ bj au dd));have cA:=al.below au (Nat.le_refl _);replace an:=(an.ext aa).chg bj (by decide);clear bj au dd aR aN al cS;go_roundw
    case rel=>exact ⟨k+1,aD,by go_num,by rw [HS.out];exact bJ,cA,an⟩
    case measure=>simp [intOf];omega
   have HS:=hid (HS2.out rfl);clear HS1 HS2;go_wp2_with fail;go_roundw
   case rel=>exact ⟨k+1,aD,by go_num,by rw [HS.out];exact ho,hx,an⟩
   case measure=>simp [intOf];omega
  obtain rfl:k=l.length:=by omega
  rw [List.take_length] at ho;go_wp2_with fail;go_ret2;exact ⟨_,by rw [fK.out.1];rfl,by rw [fK.out.2];exact ho.isSl B,hx⟩
 have aV:(qa4 g.past !=0)=true:=by simpa using hk
 have fK:=hid (show qbl l g=qa4 g.past∧qbo l g=[] by rw [HE.out,HT.out,HG2.out,if_neg hk];exact ⟨rfl,rfl⟩);clear hk;go_wp2_with fail;go_ret2;exact ⟨.slice none 0 0,by rw [fK.out.1];rfl,by rw [fK.out.2];exact Own.nil.isSl (base:=0) B,hx⟩
end Go.Proofs.YtngbfdogiciahaaGreat
