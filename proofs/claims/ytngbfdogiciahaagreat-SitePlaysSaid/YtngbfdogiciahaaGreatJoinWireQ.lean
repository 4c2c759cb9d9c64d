/- Texts joined. -/
import Derived.Lib.AppendStr
import Derived.Laws.BytesString
import Derived.Laws.BitsLemmas
import Derived.Test.YtngbfdogiciahaaGreatSiteT
set_option maxRecDepth 100000
set_option maxHeartbeats 40000000
namespace Go.Proofs.YtngbfdogiciahaaGreat
open Go Go.RowKit
def three (n:Int):List UInt8:=[UInt8.ofNat (n.toNat / 65536),UInt8.ofNat (n.toNat / 256),UInt8.ofNat n.toNat]
def bstr (l:List UInt8):ByteArray:=⟨l.toArray⟩
def byteV (b:UInt8):Value:=.int .u8 b.toNat
def RByte (_:World) (cs:List Value) (b:UInt8):Prop:=cs=[byteV b]
theorem RByte.mono {B:Nat} {ts:List TypeId}:Mono B ts RByte:=fun _ _ _ _ _ h=>h
theorem RByte.oneC:OneC RByte:=by
 rintro w cs b rfl u hu;simp at hu;subst hu;rfl
abbrev OwnB (w:World) (base:Nat) (v:Value) (l:List UInt8):Prop:=Own RByte 1 5 w base v l
theorem OwnB.flat {xs:List (List Value)} {l:List UInt8} (hl:xs.length=l.length) (h:∀ (i:Nat) (cs:List Value) (x:UInt8),xs[i]?=some cs→l[i]?=some x→cs.length=1∧cs=[byteV x]):xs.flatten=l.map byteV:=by
 induction xs generalizing l with
 | nil=>
  obtain rfl:l=[]:=List.eq_nil_of_length_eq_zero hl.symm;rfl
 | cons y ys ih=>
  match l,hl with
  | x::r,hl=>
   have h0:=(h 0 y x rfl rfl).2;subst h0;rw [List.flatten_cons,ih (l:=r) (by simpa using hl) (fun i cs z h1 h2=>h (i+1) cs z (by simpa using h1) (by simpa using h2))];rfl
theorem OwnB.row {w:World} {base:Nat} {v:Value} {l:List UInt8} (h:OwnB w base v l):w.ownsRow base 5 1 v l.length (l.map byteV):=by
 obtain ⟨xs,hl,hR,ho⟩:=h;rwa [OwnB.flat hl hR] at ho
def Wr (base p:Nat) (w:World) (out:List UInt8):Prop:=base≤p∧∃ v,Blk w p 213 #[v]∧OwnB w base v out
theorem Wr.ext {base p:Nat} {w w':World} {out:List UInt8} (h:Wr base p w out) (x:Ext w w'):Wr base p w' out:=by
 obtain ⟨h1,v,h2,h3⟩:=h;exact ⟨h1,v,h2.ext x,h3.ext (B:=0) RByte.mono x⟩
theorem Wr.le {base p:Nat} {w:World} {out:List UInt8} (h:Wr base p w out):base≤w.heap.size:=by
 obtain ⟨h1,v,h2,_⟩:=h;exact Nat.le_of_lt (Nat.lt_of_le_of_lt h1 h2.lt)
abbrev RS:=List UInt8×Bool
def num3 (a b c:UInt8):Int:=((a.toNat*65536+b.toNat*256+c.toNat:Nat):Int)
def rnum (most:Int) (s:RS):Int×RS:=
 match s.1 with
 | a::b::c::r=>if most < num3 a b c then (0,(r,true)) else (num3 a b c,(r,s.2))
 | _=>(0,(s.1,true))
def jdl (s:RS):ByteArray×RS:=
 if ((rnum 8 s).2.1.length:Int) < (rnum 8 s).1 then (⟨#[]⟩,((rnum 8 s).2.1,true))
 else (bstr ((rnum 8 s).2.1.take (rnum 8 s).1.toNat),((rnum 8 s).2.1.drop (rnum 8 s).1.toNat,(rnum 8 s).2.2))
def jfb {α:Type} (f:RS→α×RS):Nat→RS→List α×RS
 | 0,s=>([],s)
 | n+1,s=>((f s).1::(jfb f n (f s).2).1,(jfb f n (f s).2).2)
def qpg {α:Type} (most:Int) (f:RS→α×RS) (s:RS):List α×RS:=jfb f (rnum most s).1.toNat (rnum most s).2
def rdot (s:RS):Dot×RS:=(⟨(rnum 5 s).1,(rnum 1000 (rnum 5 s).2).1⟩,(rnum 1000 (rnum 5 s).2).2)
def jgc (s:RS):Span×RS:=(⟨(rnum 32 s).1,(rnum 32 (rnum 32 s).2).1⟩,(rnum 32 (rnum 32 s).2).2)
def jay (s:RS):Know×RS:=(⟨(qpg 5 (rnum 1000) s).1,(qpg 60 rdot (qpg 5 (rnum 1000) s).2).1⟩,(qpg 60 rdot (qpg 5 (rnum 1000) s).2).2)
def jf8 (s:RS):Cube×RS:=(⟨(rnum 15 s).1,(rnum 15 (rnum 15 s).2).1⟩,(rnum 15 (rnum 15 s).2).2)
def rbox (s:RS):Box×RS:=(⟨(jf8 s).1,(qpg 16 jgc (jf8 s).2).1⟩,(qpg 16 jgc (jf8 s).2).2)
def jgb (s:RS):Point×RS:=(⟨(rnum 15 s).1,(rnum 32 (rnum 15 s).2).1⟩,(rnum 32 (rnum 15 s).2).2)
def rver (s:RS):Version×RS:=
 let t:=jdl s
 let d:=rdot t.2
 let p:=jgb d.2
 let b:=rnum 1000000 p.2
 let k:=jay b.2
 (⟨t.1,d.1,p.1,b.1,k.1⟩,k.2)
def rgone (s:RS):Gone×RS:=(⟨(jdl s).1,(jay (jdl s).2).1⟩,(jay (jdl s).2).2)
def rpart (s:RS):Part×RS:=(⟨(qpg 40 rbox s).1,(jay (qpg 40 rbox s).2).1⟩,(jay (qpg 40 rbox s).2).2)
def Sound {α:Type} (enc:α→List UInt8) (f:RS→α×RS):Prop:=∀ s,(f s).2.2=false→s.2=false∧s.1=enc (f s).1++(f s).2.1
def Full {α:Type} (enc:α→List UInt8) (ok:α→Prop) (f:RS→α×RS):Prop:=∀ x,ok x→∀ r b,f (enc x++r,b)=(x,(r,b))
theorem Sound.two {α β γ:Type} {e1:α→List UInt8} {e2:β→List UInt8} {e:γ→List UInt8} {f:RS→α×RS} {g:RS→β×RS} {h:RS→γ×RS} (mk:α→β→γ) (hf:Sound e1 f) (hg:Sound e2 g)
  (h1:∀ s,h s=(mk (f s).1 (g (f s).2).1,(g (f s).2).2)) (h2:∀ a b,e (mk a b)=e1 a++e2 b):Sound e h:=by
 intro s hs;rw [h1] at hs ⊢;obtain ⟨g1,g2⟩:=hg _ hs;obtain ⟨f1,f2⟩:=hf _ g1;exact ⟨f1,by rw [f2,g2,h2,List.append_assoc]⟩
theorem Full.two {α β γ:Type} {e1:α→List UInt8} {e2:β→List UInt8} {e:γ→List UInt8} {f:RS→α×RS} {g:RS→β×RS} {h:RS→γ×RS} {o1:α→Prop} {o2:β→Prop} (mk:α→β→γ) (hf:Full e1 o1 f) (hg:Full e2 o2 g)
  (h1:∀ s,h s=(mk (f s).1 (g (f s).2).1,(g (f s).2).2)) (h2:∀ a b,e (mk a b)=e1 a++e2 b) {ok:γ→Prop} (h3:∀ x,ok x→∃ a b,x=mk a b∧o1 a∧o2 b):Full e ok h:=by
 intro x hx r b;obtain ⟨u,v,rfl,hu,hv⟩:=h3 x hx;rw [h1,h2,List.append_assoc,hf u hu,hg v hv]
def noBatch:Batch:=⟨0,0,[],[],[]⟩
theorem Chg.below {B:Nat} {ts:List TypeId} {a b c:World} (h:Chg B ts a b) (k:Below a.heap.size b c):Chg B ts a c:=
 ⟨(Below.os k).trans h.os,(Below.tape k).trans h.tape,(Below.output k).trans h.output,Nat.le_trans h.size (Below.size k),fun i hi hc=>(Below.block k i hi).trans (h.block i hi hc)⟩
theorem qsu (B:Nat) (b:Batch) (Ax:Option Addr) (cx:Nat) (Ag:Option Addr) (cg:Nat) (Ap:Option Addr) (cp:Nat) (w:World) (hi:InB B w Ax cx Ag cg Ap cp b) :
  Calls Tryz.prog 52 #[.agg #[.int .i64 b.site, .int .i64 b.stamp, .slice Ax b.vers.length cx, .slice Ag b.gone.length cg, .slice Ap b.parts.length cp]] w fun e w'=>e=.returned (.int .i64 (qan b))∧Ext w w':=by
 have HI:=hid hi;have hx:=(Ext.refl w).alloc (.cells #[.int .i64 b.site, .int .i64 b.stamp, .slice Ax b.vers.length cx, .slice Ag b.gone.length cg, .slice Ap b.parts.length cp] 90);clear hi
 by_cases aO:0≤b.site∧b.site≤4∧0≤b.stamp
 ·have HE:=hid (show qan b=qe7 b from if_pos aO)
  have HWI:=hid (show betw b.site 0 4=true by unfold betw;simp;omega);have e3:decide (b.stamp < 0)=false:=decide_eq_false (by omega);clear aO
  by_cases hl:b.vers.length≤60∧b.gone.length≤60
  ·have ae:=Blk.new w 90 #[.int .i64 b.site, .int .i64 b.stamp, .slice Ax b.vers.length cx, .slice Ag b.gone.length cg, .slice Ap b.parts.length cp]
   have HT:=hid (show qe7 b=qcz b from if_pos hl);have l1:decide ((60:Int) < b.vers.length)=false:=decide_eq_false (by omega);have l2:decide ((60:Int) < b.gone.length)=false:=decide_eq_false (by omega);have dz:b.vers.length≤60:=hl.1;have hg60:b.gone.length≤60:=hl.2;clear hl;go_enter Tryz.func52, Tryz.ntmps52;go_wp2_with fail;refine (qb5 b.site 0 4 _).mono ?_;rintro e w1 ⟨rfl,rfl⟩;rw [HWI.out];go_wp2_with fail;go_loopw [31] (fun i wr=>∃ k:Nat,k≤b.vers.length∧i=.int .i64 k∧qak qas (b.vers.drop k)=qak qas b.vers∧Ext w wr∧Blk wr w.heap.size 90 #[.int .i64 b.site, .int .i64 b.stamp, .slice Ax b.vers.length cx, .slice Ag b.gone.length cg, .slice Ap b.parts.length cp]) (fun i _=>b.vers.length - (intOf i).toNat)
   case atStart=>exact ⟨0,Nat.zero_le _,rfl,rfl,hx,ae⟩
   clear hx ae;obtain ⟨k,hk,rfl,hG,hx,ae⟩:=hrel;have HG:=hid hG;clear hG
   by_cases aD:k < b.vers.length
   ·obtain ⟨r0,off,Av,cv,Am,cm,rfl,hb,hr,hI⟩:=(HI.out.sx.ext RVer.monoE hx).ver aD
    have HV:=hid hI;clear hI;have aW:([.string b.vers[k].id, .int .i64 b.vers[k].dot.site, .int .i64 b.vers[k].dot.count, .int .i64 b.vers[k].pt.tags, .int .i64 b.vers[k].pt.num, .int .i64 b.vers[k].body, .slice Av b.vers[k].past.vec.length cv, .slice Am b.vers[k].past.more.length cm]:List Value).length=8:=rfl;go_wp2_with ((with_reducible refine qaa (o:=⟨some 34,_,_,_,_,_⟩) qam _ rfl rfl rfl hr aW ?_));clear hr aW hb;refine (jau B b.vers[k] Av cv Am cm _ (HV.out.ext ((Ext.refl wr).alloc _))).mono ?_;rintro e w1 ⟨rfl,aE⟩;have aK:=((Ext.refl wr).alloc (.cells #[.string b.vers[k].id, .int .i64 b.vers[k].dot.site, .int .i64 b.vers[k].dot.count, .int .i64 b.vers[k].pt.tags, .int .i64 b.vers[k].pt.num, .int .i64 b.vers[k].body, .slice Av b.vers[k].past.vec.length cv, .slice Am b.vers[k].past.more.length cm] 151)).trans aE;replace ae:=ae.ext aK;replace hx:=hx.trans aK;clear aE aK HV
    by_cases bM:qas b.vers[k]=0
    ·rw [bM]
     have HS:=hid (show qak qas (b.vers.drop (k+1))=qak qas b.vers by rw [← HG.out,qbp _ _ k aD,if_pos bM]);clear bM;go_wp2_with fail;go_roundw
     case rel=>exact ⟨k+1,aD,by go_num,HS.out,hx,ae⟩
     case measure=>simp [intOf];omega
    have aV:(qas b.vers[k] !=0)=true:=by simpa using bM
    have cH:=hid (show qan b=qas b.vers[k] by
     have h2:qak qas b.vers=qas b.vers[k]:=by rw [← HG.out,qbp _ _ k aD,if_neg bM]
     rw [HE.out,HT.out,qcz,if_neg (by rw [h2];exact bM),h2])
    clear bM;go_wp2_with fail;go_ret;exact ⟨qa8 cH.out.symm,hx⟩
   obtain rfl:k=b.vers.length:=by omega
   have HF:=hid (show qak qas b.vers=0 by rw [← HG.out,List.drop_length];rfl);have y3:=ae.ce 3 (.slice Ag b.gone.length cg) rfl;clear hk aD HG;go_wp2_with fail;clear y3;go_loopw [44] (fun i wr=>∃ k:Nat,k≤b.gone.length∧i=.int .i64 k∧qak qax (b.gone.drop k)=qak qax b.gone∧Ext w wr∧Blk wr w.heap.size 90 #[.int .i64 b.site, .int .i64 b.stamp, .slice Ax b.vers.length cx, .slice Ag b.gone.length cg, .slice Ap b.parts.length cp]) (fun i _=>b.gone.length - (intOf i).toNat)
   case atStart=>exact ⟨0,Nat.zero_le _,rfl,rfl,hx,ae⟩
   clear hx ae;obtain ⟨k,hk,rfl,hG,hx,ae⟩:=hrel;have HG:=hid hG;clear hG
   by_cases aD:k < b.gone.length
   ·obtain ⟨r0,off,Av,cv,Am,cm,rfl,hb,hr,hI⟩:=(HI.out.sg.ext RGone.monoE hx).gone aD
    have HV:=hid hI;clear hI;have aW:([.string b.gone[k].id, .slice Av b.gone[k].past.vec.length cv, .slice Am b.gone[k].past.more.length cm]:List Value).length=3:=rfl;go_wp2_with ((with_reducible refine qaa (o:=⟨some 47,_,_,_,_,_⟩) qih _ rfl rfl rfl hr aW ?_));clear hr aW hb;refine (qw6 b.gone[k].id HV.out.lid _).mono ?_;rintro e w1 ⟨rfl,aE⟩;have aK:=((Ext.refl wr).alloc (.cells #[.string b.gone[k].id, .slice Av b.gone[k].past.vec.length cv, .slice Am b.gone[k].past.more.length cm] 103)).trans aE;have an:=(Blk.new wr 103 #[.string b.gone[k].id, .slice Av b.gone[k].past.vec.length cv, .slice Am b.gone[k].past.more.length cm]).ext aE;replace ae:=ae.ext aK;replace hx:=hx.trans aK;have e9:=hid (HV.out.k.ext aK);clear aE aK HV
    cases h1:idOk b.gone[k].id
    ·have cH:=hid (show qan b=3 by
      have h2:qak qax b.gone=3:=by
       have h3:qax b.gone[k]=3:=by rw [qax,if_neg (by rw [h1];simp)]
       rw [← HG.out,qbp _ _ k aD,if_neg (by rw [h3];decide),h3]
      rw [HE.out,HT.out,qcz,if_pos HF.out,if_neg (by rw [h2];decide),h2])
     clear h1 an;go_wp2_with fail;go_ret;exact ⟨qa8 cH.out.symm,hx⟩
    have y1:=an.ce 1 (.slice Av b.gone[k].past.vec.length cv) rfl;have y2:=an.ce 2 (.slice Am b.gone[k].past.more.length cm) rfl;have H1:=hid h1;clear h1 an;go_wp2_with fail;refine (qmw B b.gone[k].past Av cv Am cm _ e9.out).mono ?_;rintro e w2 ⟨rfl,aH⟩;replace ae:=ae.ext aH;replace hx:=hx.trans aH;clear aH y1 y2
    by_cases bM:qa4 b.gone[k].past=0
    ·rw [bM]
     have HS:=hid (show qak qax (b.gone.drop (k+1))=qak qax b.gone by
      rw [← HG.out,qbp _ _ k aD,if_pos (by rw [qax,if_pos H1.out,bM])])
     clear bM;go_wp2_with fail;go_roundw
     case rel=>exact ⟨k+1,aD,by go_num,HS.out,hx,ae⟩
     case measure=>simp [intOf];omega
    have aV:(qa4 b.gone[k].past !=0)=true:=by simpa using bM
    have cH:=hid (show qan b=qa4 b.gone[k].past by
     have h2:qak qax b.gone=qa4 b.gone[k].past:=by
      have h3:qax b.gone[k]=qa4 b.gone[k].past:=by rw [qax,if_pos H1.out]
      rw [← HG.out,qbp _ _ k aD,if_neg (by rw [h3];exact bM),h3]
     rw [HE.out,HT.out,qcz,if_pos HF.out,if_neg (by rw [h2];exact bM),h2])
    clear bM;go_wp2_with fail;go_ret;exact ⟨qa8 cH.out.symm,hx⟩
   obtain rfl:k=b.gone.length:=by omega
   have fd:=hid (show qak qax b.gone=0 by rw [← HG.out,List.drop_length];rfl);have cH:=hid (show qan b=qac b.parts by rw [HE.out,HT.out,qcz,if_pos HF.out,if_pos fd.out]);have y4:=ae.ce 4 (.slice Ap b.parts.length cp) rfl;go_wp2_with fail;refine (qsx B Ap cp b.parts _ HI.out.mx.2.2 (HI.out.sp.ext RPart.monoE hx)).mono ?_;rintro e w1 ⟨rfl,aE⟩;go_wp2_with fail;go_ret;exact ⟨qa8 cH.out.symm,hx.trans aE⟩
  have HT:=hid (show qe7 b=2 from if_neg hl)
  by_cases a1:b.vers.length≤60
  ·have l1:decide ((60:Int) < b.vers.length)=false:=decide_eq_false (by omega)
   have l2:decide ((60:Int) < b.gone.length)=true:=decide_eq_true (by omega);clear hl a1;go_enter Tryz.func52, Tryz.ntmps52;go_wp2_with fail;refine (qb5 b.site 0 4 _).mono ?_;rintro e w1 ⟨rfl,rfl⟩;rw [HWI.out];go_wp2_with fail;go_ret;exact ⟨qa8 (HE.out.trans HT.out).symm,hx⟩
  have l1:decide ((60:Int) < b.vers.length)=true:=decide_eq_true (by omega);clear hl a1;go_enter Tryz.func52, Tryz.ntmps52;go_wp2_with fail;refine (qb5 b.site 0 4 _).mono ?_;rintro e w1 ⟨rfl,rfl⟩;rw [HWI.out];go_wp2_with fail;go_ret;exact ⟨qa8 (HE.out.trans HT.out).symm,hx⟩
 ·by_cases a1:0≤b.site∧b.site≤4
  focus
   have HWI:=hid (show betw b.site 0 4=true by unfold betw;simp;omega);have e3:decide (b.stamp < 0)=true:=decide_eq_true (by omega)
  rotate_left
  focus
   have HWI:=hid (show betw b.site 0 4=false by unfold betw;simp;omega)
  all_goals
   have HE:=hid (show qan b=1 from if_neg (by omega));clear aO a1;go_enter Tryz.func52, Tryz.ntmps52;go_wp2_with fail;refine (qb5 b.site 0 4 _).mono ?_;rintro e w1 ⟨rfl,rfl⟩;rw [HWI.out];go_wp2_with fail;go_ret;exact ⟨qa8 HE.out.symm,hx⟩
theorem qz3:ElemInfo Tryz.prog 88 103 3 64:=ElemInfo.mk_ (z:=.agg #[.string ⟨#[]⟩,.slice none 0 0,.slice none 0 0]) Tryz.underlying88 (by kernel_rfl) rfl (by decide)
def IsB (B:Nat) (w:World) (v:Value) (b:Batch):Prop:=∃ Ax cx Ag cg Ap cp,v=.agg #[.int .i64 b.site, .int .i64 b.stamp, .slice Ax b.vers.length cx, .slice Ag b.gone.length cg, .slice Ap b.parts.length cp]∧InB B w Ax cx Ag cg Ap cp b
theorem IsB.zero {B:Nat} {w:World}:IsB B w (.agg #[.int .i64 0,.int .i64 0,.slice none 0 0,.slice none 0 0,.slice none 0 0]) noBatch:=⟨none,0,none,0,none,0,rfl,InB.empty⟩
def gV (a:AskS) (l:List Version):List Version:=l.filter fun v=>qbd a.filter v.pt&&!qdd a.parts v.pt v.dot
def gG (a:AskS) (l:List Version):List Gone:=(l.filter fun v=>!qbd a.filter v.pt).map qf9
theorem jee (a:AskS) (l:List Version) (k:Nat):(gV a (l.take k)).length≤l.length:=by
 unfold gV;refine Nat.le_trans (List.length_filter_le _ _) ?_;rw [List.length_take];omega
theorem jec (a:AskS) (l:List Version) (k:Nat):(gG a (l.take k)).length≤l.length:=by
 unfold gG;rw [List.length_map];refine Nat.le_trans (List.length_filter_le _ _) ?_;rw [List.length_take];omega
theorem jef (a:AskS) (l:List Version) (k:Nat) (hk:k < l.length) (h:(qbd a.filter l[k].pt&&!qdd a.parts l[k].pt l[k].dot)=true):gV a (l.take (k+1))=gV a (l.take k)++[l[k]]:=by
 unfold gV;rw [List.take_succ_eq_append_getElem hk,List.filter_append];simp [h]
theorem jcp (a:AskS) (l:List Version) (k:Nat) (hk:k < l.length) (h:(qbd a.filter l[k].pt&&!qdd a.parts l[k].pt l[k].dot)=false):gV a (l.take (k+1))=gV a (l.take k):=by
 unfold gV;rw [List.take_succ_eq_append_getElem hk,List.filter_append];simp [h]
theorem jed (a:AskS) (l:List Version) (k:Nat) (hk:k < l.length) (h:qbd a.filter l[k].pt=false):gG a (l.take (k+1))=gG a (l.take k)++[qf9 l[k]]:=by
 unfold gG;rw [List.take_succ_eq_append_getElem hk,List.filter_append,List.filter_cons_of_pos (by rw [h];rfl),List.map_append];rfl
theorem jg1 (a:AskS) (l:List Version) (k:Nat) (hk:k < l.length) (h:qbd a.filter l[k].pt=true):gG a (l.take (k+1))=gG a (l.take k):=by
 unfold gG;rw [List.take_succ_eq_append_getElem hk,List.filter_append,List.filter_cons_of_neg (by rw [h];simp)];simp
theorem qo4 {s:SiteS} {a:AskS} {e:Int} (h:qca a=e) (he:e≠0):qca a=e∧qfd s a=⟨0,0,[],[],[]⟩:=by
 refine ⟨h,?_⟩;unfold qfd;rw [if_neg (by rw [h];exact he)]
theorem jcr {s:SiteS} {a:AskS} (h:qca a=0):qfd s a=⟨a.site,a.stamp,qo3 s a,qo2 s a,qbg (qch s) a.filter⟩:=by
 unfold qfd;rw [if_pos h]
theorem qmx {w:World} {v x0 x1 x2 x3 x4:Value} {b:Nat} {tmps:Array Value} (h4:tmps.getD 4 undef=.pointer (some ⟨b,0,none⟩)) (h5:tmps.getD 5 undef=v) (c0:w.cell? ⟨b,0,none⟩=some x0) (c1:w.cell? ⟨b,1,none⟩=some x1) (c2:w.cell? ⟨b,2,none⟩=some x2) (c3:w.cell? ⟨b,3,none⟩=some x3) (c4:w.cell? ⟨b,4,none⟩=some x4) :
  (results Tryz.f43 tmps).run Tryz.prog w=.ok (.tuple #[.agg #[x0,x1,x2,x3,x4],v]) w:=by
 have h4':tmps[4]?.getD undef=.pointer (some ⟨b,0,none⟩):=by simpa using h4
 have h5':tmps[5]?.getD undef=v:=by simpa using h5
 simp [results,Tryz.results43,go_sem,h4',h5',c0,c1,c2,c3,c4]
theorem Ext.fr {b:Nat} {a w w':World} (h:Ext a w) (x:Fr b w w') (hb:a.heap.size≤b):Ext a w':=
 ⟨x.os.trans (Below.os h),x.tape.trans (Below.tape h),x.output.trans (Below.output h),Nat.le_trans h.size x.size,fun k hk=>(x.block k (Nat.lt_of_lt_of_le hk h.size) (by omega)).trans (h.blockAt hk)⟩
theorem SiteAt.fr {B:Nat} {w w':World} {r b:Nat} {Af:Option Addr} {cf:Nat} {Ax:Option Addr} {cx:Nat} {Ap:Option Addr} {cp:Nat} {s:SiteS} (h:SiteAt B w r Af cf Ax cx Ap cp s) (x:Fr b w w') (ht:tyAt w b=some 90) (hB:B≤b) (aV:r≠b):SiteAt B w' r Af cf Ax cx Ap cp s:=by
 have hc:=x.chg ht hB;exact ⟨x.blkO h.blk aV,h.sf.chg (RBox.mono (by decide)) (by decide) hc,h.sx.chg (RVer.mono (by decide) (by decide)) (by decide) hc,h.sp.chg (RPart.mono (by decide) (by decide) (by decide) (by decide)) (by decide) hc⟩
theorem InA.fr {B:Nat} {w w':World} {b:Nat} {Af:Option Addr} {cf:Nat} {Ap:Option Addr} {cp:Nat} {a:AskS} (h:InA B w Af cf Ap cp a) (x:Fr b w w') (ht:tyAt w b=some 90) (hB:B≤b):InA B w' Af cf Ap cp a:=by
 have hc:=x.chg ht hB;exact ⟨h.lf,h.lp,h.sf.chg (RBox.mono (by decide)) (by decide) hc,h.sp.chg (RPart.mono (by decide) (by decide) (by decide) (by decide)) (by decide) hc⟩
theorem jb5 (B:Nat) (r:Nat) (s:SiteS) (a:AskS) (Bf:Option Addr) (df:Nat) (Bp:Option Addr) (dp:Nat) (w:World) (hB:B≤w.heap.size) (aO:SiteOk s) (h:IsSite B w r s) (hi:InA B w Bf df Bp dp a) :
  Calls Tryz.prog 43 #[.pointer (some ⟨r,0,none⟩),.agg #[.int .i64 a.site, .int .i64 a.stamp, .slice Bf a.filter.length df, .slice Bp a.parts.length dp]] w fun e w'=>∃ A1 c1 A2 c2 A3 c3,e=.returned (.tuple #[.agg #[.int .i64 (qfd s a).site, .int .i64 (qfd s a).stamp, .slice A1 (qfd s a).vers.length c1, .slice A2 (qfd s a).gone.length c2, .slice A3 (qfd s a).parts.length c3],.int .i64 (qca a)])∧InB B w' A1 c1 A2 c2 A3 c3 (qfd s a)∧Ext w w':=by
 have hrl0:=h.lt;obtain ⟨Af,cf,Ax,cx,Ap,cp,aF⟩:=h;have HB:=hid hB;have aZ:=hid aO;have HI:=hid hi;have hx:=((Ext.refl w).alloc (.cells #[.int .i64 a.site, .int .i64 a.stamp, .slice Bf a.filter.length df, .slice Bp a.parts.length dp] 68)).alloc (.cells #[.int .i64 0,.int .i64 0,.slice none 0 0,.slice none 0 0,.slice none 0 0] 90);have cB:=(Blk.new w 68 #[.int .i64 a.site, .int .i64 a.stamp, .slice Bf a.filter.length df, .slice Bp a.parts.length dp]).alloc (.cells #[.int .i64 0,.int .i64 0,.slice none 0 0,.slice none 0 0,.slice none 0 0] 90);have bo:=Blk.new (w.alloc (.cells #[.int .i64 a.site, .int .i64 a.stamp, .slice Bf a.filter.length df, .slice Bp a.parts.length dp] 68)) 90 #[.int .i64 0,.int .i64 0,.slice none 0 0,.slice none 0 0,.slice none 0 0];rw [show (w.alloc (.cells #[.int .i64 a.site, .int .i64 a.stamp, .slice Bf a.filter.length df, .slice Bp a.parts.length dp] 68)).heap.size=w.heap.size+1 by simp] at bo;have HGE:=hid (show qca a=if 0≤a.site∧a.site≤4∧0≤a.stamp then (if qa0 a.filter=0 then qac a.parts else qa0 a.filter) else 1 from rfl);replace aF:=aF.ext hx;clear hB aO hi
 by_cases hok0:0≤a.site∧a.site≤4∧0≤a.stamp
 ·have HG1:=hid (show qca a=if qa0 a.filter=0 then qac a.parts else qa0 a.filter by rw [HGE.out,if_pos hok0])
  have e1:decide (a.site < 0)=false:=decide_eq_false (by omega);have e2:decide (5≤a.site)=false:=decide_eq_false (by omega);have e3:decide (a.stamp < 0)=false:=decide_eq_false (by omega);clear hok0;go_enter Tryz.func43, Tryz.ntmps43;go_wp2_with fail;refine (qcr B Bf df a.filter _ HI.out.lf (HI.out.sf.ext RBox.monoE hx)).mono ?_;rintro e w1 ⟨rfl,aE⟩;replace cB:=cB.ext aE;replace bo:=bo.ext aE;replace aF:=aF.ext aE;replace hx:=hx.trans aE;clear aE;obtain ⟨ba,hbad⟩:=ex1 w.heap.size;obtain ⟨b4,eo⟩:=ex1 (w.heap.size+1);have HB4W:=hid (show w.heap.size≤b4 by omega);have HB4B:=hid (show B≤b4 by have:=HB.out;omega);have hbw4:w.heap.size≤b4:=by omega
  have hnr4:b4≠r:=by omega
  rw [← eo,← hbad];rw [← hbad] at cB;rw [← eo] at bo;have HWA:=hid hbad;clear hbad eo
  by_cases hf:qa0 a.filter=0
  ·rw [hf]
   have HFOK:=hid (qah hf);have HG2:=hid (show qca a=qac a.parts by rw [HG1.out,if_pos hf]);clear hf;have pa3:=cB.ce 3 (.slice Bp a.parts.length dp) rfl;have fp:=cB.lt;go_wp2_with fail;refine (qgu B Bp dp a.parts _ HI.out.lp (HI.out.sp.ext RPart.monoE hx)).mono ?_;rintro e w2a ⟨rfl,aH⟩;replace cB:=cB.ext aH;replace bo:=bo.ext aH;replace aF:=aF.ext aH;replace hx:=hx.trans aH;clear aH pa3 fp
   by_cases hp:qac a.parts=0
   ·rw [hp]
    have HPOK:=hid (qci hp);have HE0:=hid (HG2.out.trans hp);have HOUT:=hid (jcr (s:=s) HE0.out);clear hp;have pa0:=cB.ce 0 (.int .i64 a.site) rfl;have pa1:=cB.ce 1 (.int .i64 a.stamp) rfl;have q4:=aF.blk.ce 4 (.slice Ax s.shelf.length cx) rfl;have cR:=aF.blk.lt;have fp:=cB.lt;have a7:=(Ext.refl w2a).alloc (.cells #[.int .i64 a.site,.int .i64 a.stamp,.slice none 0 0,.slice none 0 0,.slice none 0 0] 90);have aJ:=Blk.new w2a 90 #[.int .i64 a.site,.int .i64 a.stamp,.slice none 0 0,.slice none 0 0,.slice none 0 0];go_wp2_with fail;refine (qcj B Ax cx s.shelf _ (Nat.le_trans HB.out (hx.trans a7).size) (by have:=aZ.out.shelf.len;omega) aZ.out.shelf.all ((aF.ext a7).sx)).mono ?_;rintro e w2 ⟨v2,rfl,aR,aH⟩;obtain ⟨Al,cl,rfl,_,_⟩:=aR.len;have HB8W:=hid (show w.heap.size≤w2a.heap.size from hx.size);have HB8B:=hid (Nat.le_trans HB.out hx.size);have HN48:=hid (show b4≠w2a.heap.size from fun e=>by have:=bo.lt;omega)
    have HNA8:=hid (show ba≠w2a.heap.size from fun e=>by have:=cB.lt;omega);have cU:=hid (show r≠w2a.heap.size from fun e=>by have:=aF.blk.lt;omega);replace aJ:=aJ.ext aH;replace cB:=cB.ext (a7.trans aH);replace bo:=bo.ext (a7.trans aH);replace aF:=aF.ext (a7.trans aH);replace hx:=hx.trans (a7.trans aH);have bW:=aR.sl B;obtain ⟨b8,fP⟩:=ex1 w2a.heap.size;rw [← fP] at aJ HB8W HB8B HN48 HNA8 cU ⊢;have HB8T:=hid aJ.ty;have HSL:=hid (fun w' (x:Fr b8 w2 w')=>bW.chg (RVer.mono (by decide) (by decide)) (by decide) (x.chg HB8T.out HB8B.out));have bR:=hid hx;have HS2:=hid aF;have dR:=hid (HI.out.ext hx);have HBA2:=hid cB;have HB42:=hid bo;obtain ⟨bs,bh⟩:=ex1 w2.heap.size;have eM:=hid (show B≤bs by rw [bh];exact Nat.le_trans HB.out hx.size);have HBSW:=hid (show w2.heap.size≤bs by omega);have HBSW2:=hid (show bs≤w2.heap.size by omega);clear bh fP a7 aH aR bW hx aF cB bo pa0 pa1 q4 cR fp;go_wp2_with fail;go_loopw [50] (fun i wr=>∃ (k:Nat) (vv gv:Value) (V:List Version) (G:List Gone),k≤s.shelf.length∧i=.int .i64 k∧Blk wr b8 90 #[.int .i64 a.site,.int .i64 a.stamp,vv,gv,.slice none 0 0]∧Own (RVer B) 8 151 wr bs vv V∧Own (RGone B) 3 103 wr bs gv G∧V=gV a (s.shelf.take k)∧G=gG a (s.shelf.take k)∧Fr b8 w2 wr) (fun i _=>s.shelf.length - (intOf i).toNat)
    case atStart=>exact ⟨0,.slice none 0 0,.slice none 0 0,[],[],Nat.zero_le _,rfl,aJ,Own.nil,Own.nil,rfl,rfl,Fr.refl _⟩
    clear aJ;obtain ⟨k,vv,gv,V,G,hk,rfl,aJ,hV,hG,hVd,hGd,az⟩:=hrel
    by_cases aD:k < s.shelf.length
    ·obtain ⟨b,off,Au,cu,Mu,du,rfl,hb,hr,hU⟩:=(HSL.out wr az).ver aD
     have e9:=hid (aZ.out.shelf.all _ (List.getElem_mem aD));have HLenV:=hid (show V.length≤1000 by rw [hVd];exact Nat.le_trans (jee a _ _) (by have:=aZ.out.shelf.len;omega));have HLenG:=hid (show G.length≤1000 by rw [hGd];exact Nat.le_trans (jec a _ _) (by have:=aZ.out.shelf.len;omega));have fM:=hid hVd;have HGD:=hid hGd;have HU0:=hid hU;clear hVd hGd hU;have aW:([.string s.shelf[k].id, .int .i64 s.shelf[k].dot.site, .int .i64 s.shelf[k].dot.count, .int .i64 s.shelf[k].pt.tags, .int .i64 s.shelf[k].pt.num, .int .i64 s.shelf[k].body, .slice Au s.shelf[k].past.vec.length cu, .slice Mu s.shelf[k].past.more.length du]:List Value).length=8:=rfl;have aK:=(Ext.refl wr).alloc (.cells #[.string s.shelf[k].id, .int .i64 s.shelf[k].dot.site, .int .i64 s.shelf[k].dot.count, .int .i64 s.shelf[k].pt.tags, .int .i64 s.shelf[k].pt.num, .int .i64 s.shelf[k].body, .slice Au s.shelf[k].past.vec.length cu, .slice Mu s.shelf[k].past.more.length du] 151);have bB:=Blk.new wr 151 #[.string s.shelf[k].id, .int .i64 s.shelf[k].dot.site, .int .i64 s.shelf[k].dot.count, .int .i64 s.shelf[k].pt.tags, .int .i64 s.shelf[k].pt.num, .int .i64 s.shelf[k].body, .slice Au s.shelf[k].past.vec.length cu, .slice Mu s.shelf[k].past.more.length du];have cB:=az.blkO HBA2.out HNA8.out;have hs60:=aZ.out.shelf.len;have pa2:=cB.ce 2 (.slice Bf a.filter.length df) rfl;have fp:=cB.lt;have HINF:=hid (fun w' (x:Ext wr w')=>((dR.out.fr az HB8T.out HB8B.out).ext x));have bF:=az.size;go_wp2_with (with_reducible refine qaa (o:=⟨some 53,_,_,_,_,_⟩) qam _ rfl rfl rfl hr aW ?_);clear hr aW hb
     refine (qnx B Bf df a.filter s.shelf[k].pt _ HI.out.lf HFOK.out.2 e9.out.pt ((HINF.out _ aK).sf)).mono ?_;rintro e w4 ⟨rfl,aj⟩;have a7:=aK.trans aj;replace bB:=bB.ext aj;replace aJ:=aJ.ext a7;replace hV:=hV.ext RVer.monoE a7;replace hG:=hG.ext RGone.monoE a7;replace cB:=cB.ext a7;replace az:=az.trans (Fr.of_ext a7);have HU:=hid (HU0.out.ext a7);clear pa2 fp aj
     cases hf:qbd a.filter s.shelf[k].pt
     ·have HVN:=hid (show V=gV a (s.shelf.take (k+1)) by rw [fM.out,jcp a _ k aD (by rw [hf];rfl)])
      have HGY:=hid (show G++[qf9 s.shelf[k]]=gG a (s.shelf.take (k+1)) by rw [HGD.out,jed a _ k aD hf]);clear hf aK a7 cB;obtain ⟨wq,hwq⟩:=ex1 w4;rw [← hwq] at bB aJ hV hG az HU ⊢;clear hwq;have hbq:bs≤wq.heap.size:=Nat.le_trans HBSW2.out az.size;obtain ⟨Av,cv,rfl,v1,v2⟩:=hV.len;obtain ⟨Ag,cg,rfl,g1,g2⟩:=hG.len;have aa:=(Ext.refl wq).alloc (.cells #[.string s.shelf[k].id,.slice Au s.shelf[k].past.vec.length cu,.slice Mu s.shelf[k].past.more.length du] 103);have cS:=bB.whole;have aN:Sl B 103 (RGone B) 3 (wq.alloc (.cells #[.string s.shelf[k].id,.slice Au s.shelf[k].past.vec.length cu,.slice Mu s.shelf[k].past.more.length du] 103)) (some ⟨wq.heap.size,0,none⟩) [qf9 s.shelf[k]]:=by
       have:=Sl.one (R:=RGone B) (B:=B) (e:=103) (sz:=3) (w:=wq) (cs:=[.string s.shelf[k].id,.slice Au s.shelf[k].past.vec.length cu,.slice Mu s.shelf[k].past.more.length du]) (y:=qf9 s.shelf[k]) rfl rfl ((show InG B _ Au cu Mu du (qf9 s.shelf[k]) from ⟨(HU.out).lcv,(HU.out).lcm,(HU.out).lid,(HU.out.k.ext aa)⟩).rgone);simpa using this
      have aR:=hG.ext RGone.monoE aa;have bI:=Nat.le_trans hbq aa.size;have p2:=aJ.ce 2 (.slice Av V.length cv) rfl;have p3:=aJ.ce 3 (.slice Ag G.length cg) rfl;have u0:=bB.ce 0 (.string s.shelf[k].id) rfl;have u6:=bB.ce 6 (.slice Au s.shelf[k].past.vec.length cu) rfl;have u7:=bB.ce 7 (.slice Mu s.shelf[k].past.more.length du) rfl;have hlt8:=aJ.lt;have eA:=bB.lt;go_wp2_with (first | (at_builtin;refine qaf (ys:=[qf9 s.shelf[k]]) (c:=1) (B:=B) rfl _ _ rfl qz3 rfl aR eM.out bI rfl aN RGone.oneC (RGone.mono (by decide) (by decide)) (by have:=HLenG.out;simp [maxLen];omega) (by have:=HLenG.out;simp;omega) ?_;intro v5 w5 bJ bj au dd;have be:=(aJ.ext aa).chg bj (by decide);have q5:=be.cell (i:=3) rfl;have z5:=be.frozen 3;obtain ⟨M,hM⟩:=ex1 (G++[qf9 s.shelf[k]]);rw [← hM] at bJ;have HM:=hid hM;obtain ⟨A5,c5,rfl,m1,m2⟩:=bJ.len;clear hM));have fA:=(hV.ext RVer.monoE aa).chgT (B:=B) (RVer.mono (by decide) (by decide)) (by decide) bj
      have fR:=(az.trans (Fr.of_ext aa)).below au HBSW.out;have ao:=be.set 3 (.slice A5 M.length c5);have dw:=fR.setR 3 (.slice A5 M.length c5);have bP:Chg B [90] w5 (w5.setCell ⟨b8,3,none⟩ (.slice A5 M.length c5)):=(Chg.refl w5).setCell (p:=⟨b8,3,none⟩) be.ty (by simp) _ HB8B.out;have bk:=bJ.chgT (B:=B) (RGone.mono (by decide) (by decide)) (by decide) bP;have fB:=fA.chgT (B:=B) (RVer.mono (by decide) (by decide)) (by decide) bP;clear bj au dd aR aN cS bI p2 p3 u0 u6 u7 aa hlt8 eA hV hG aJ be az fR bP bJ fA q5 z5 bB;go_roundw
      case rel=>exact ⟨k+1,.slice Av V.length cv,.slice A5 M.length c5,V,M,aD,by go_num,by simpa using ao,fB,bk,HVN.out,by rw [HM.out];exact HGY.out,dw⟩
      case measure=>simp [intOf];omega
     have HFY:=hid hf;have HGN:=hid (show G=gG a (s.shelf.take (k+1)) by rw [HGD.out,jg1 a _ k aD hf]);clear hf;have pa3:=cB.ce 3 (.slice Bp a.parts.length dp) rfl;have u1:=bB.ce 1 (.int .i64 s.shelf[k].dot.site) rfl;have u2:=bB.ce 2 (.int .i64 s.shelf[k].dot.count) rfl;have u3:=bB.ce 3 (.int .i64 s.shelf[k].pt.tags) rfl;have u4:=bB.ce 4 (.int .i64 s.shelf[k].pt.num) rfl;have fp:=cB.lt;have eA:=bB.lt;go_wp2_with fail;refine (jf6 B Bp dp a.parts s.shelf[k].pt s.shelf[k].dot _ HI.out.lp HPOK.out.2 e9.out.pt e9.out.dot ((HINF.out _ a7).sp)).mono ?_;rintro e w5 ⟨rfl,bN⟩;replace bB:=bB.ext bN;replace aJ:=aJ.ext bN;replace hV:=hV.ext RVer.monoE bN;replace hG:=hG.ext RGone.monoE bN;replace az:=az.trans (Fr.of_ext bN);have HU:=hid (HU.out.ext bN);clear pa3 u1 u2 u3 u4 fp eA cB a7 aK
     cases hp:qdd a.parts s.shelf[k].pt s.shelf[k].dot
     ·have HVY:=hid (show V++[s.shelf[k]]=gV a (s.shelf.take (k+1)) by rw [fM.out,jef a _ k aD (by rw [HFY.out,hp];rfl)])
      clear hp bN;obtain ⟨wq,hwq⟩:=ex1 w5;rw [← hwq] at bB aJ hV hG az HU ⊢;clear hwq;have hbq:bs≤wq.heap.size:=Nat.le_trans HBSW2.out az.size;obtain ⟨Av,cv,rfl,v1,v2⟩:=hV.len;obtain ⟨Ag,cg,rfl,g1,g2⟩:=hG.len;have aa:=(Ext.refl wq).alloc (.cells #[.string s.shelf[k].id, .int .i64 s.shelf[k].dot.site, .int .i64 s.shelf[k].dot.count, .int .i64 s.shelf[k].pt.tags, .int .i64 s.shelf[k].pt.num, .int .i64 s.shelf[k].body, .slice Au s.shelf[k].past.vec.length cu, .slice Mu s.shelf[k].past.more.length du] 151);have cS:=bB.whole;have aN:Sl B 151 (RVer B) 8 (wq.alloc (.cells #[.string s.shelf[k].id, .int .i64 s.shelf[k].dot.site, .int .i64 s.shelf[k].dot.count, .int .i64 s.shelf[k].pt.tags, .int .i64 s.shelf[k].pt.num, .int .i64 s.shelf[k].body, .slice Au s.shelf[k].past.vec.length cu, .slice Mu s.shelf[k].past.more.length du] 151)) (some ⟨wq.heap.size,0,none⟩) [s.shelf[k]]:=by
       have:=Sl.one (R:=RVer B) (B:=B) (e:=151) (sz:=8) (w:=wq) (cs:=[.string s.shelf[k].id, .int .i64 s.shelf[k].dot.site, .int .i64 s.shelf[k].dot.count, .int .i64 s.shelf[k].pt.tags, .int .i64 s.shelf[k].pt.num, .int .i64 s.shelf[k].body, .slice Au s.shelf[k].past.vec.length cu, .slice Mu s.shelf[k].past.more.length du]) (y:=s.shelf[k]) rfl rfl ((HU.out.ext aa).rver);simpa using this
      have aR:=hV.ext RVer.monoE aa;have bI:=Nat.le_trans hbq aa.size;have p2:=aJ.ce 2 (.slice Av V.length cv) rfl;have p3:=aJ.ce 3 (.slice Ag G.length cg) rfl;have u0:=bB.ce 0 (.string s.shelf[k].id) rfl;have u6:=bB.ce 6 (.slice Au s.shelf[k].past.vec.length cu) rfl;have u7:=bB.ce 7 (.slice Mu s.shelf[k].past.more.length du) rfl;have hlt8:=aJ.lt;have eA:=bB.lt;go_wp2_with (first | (with_reducible refine qa1 (o:=⟨some 82,_,_,_,_,_⟩) qam _ rfl rfl rfl cS rfl ?_) | (at_builtin;refine qaf (ys:=[s.shelf[k]]) (c:=1) (B:=B) rfl _ _ rfl qfr rfl aR eM.out bI rfl aN RVer.oneC (RVer.mono (by decide) (by decide)) (by have:=HLenV.out;simp [maxLen];omega) (by have:=HLenV.out;simp;omega) ?_;intro v5 w5 bJ bj au dd;have be:=(aJ.ext aa).chg bj (by decide);have q5:=be.cell (i:=2) rfl;have z5:=be.frozen 2;obtain ⟨M,hM⟩:=ex1 (V++[s.shelf[k]]);rw [← hM] at bJ;have HM:=hid hM;obtain ⟨A5,c5,rfl,m1,m2⟩:=bJ.len;clear hM))
      have fA:=(hG.ext RGone.monoE aa).chgT (B:=B) (RGone.mono (by decide) (by decide)) (by decide) bj;have fR:=(az.trans (Fr.of_ext aa)).below au HBSW.out;have ao:=be.set 2 (.slice A5 M.length c5);have dw:=fR.setR 2 (.slice A5 M.length c5);have bP:Chg B [90] w5 (w5.setCell ⟨b8,2,none⟩ (.slice A5 M.length c5)):=(Chg.refl w5).setCell (p:=⟨b8,2,none⟩) be.ty (by simp) _ HB8B.out;have bk:=bJ.chgT (B:=B) (RVer.mono (by decide) (by decide)) (by decide) bP;have fB:=fA.chgT (B:=B) (RGone.mono (by decide) (by decide)) (by decide) bP;clear bj au dd aR aN cS bI p2 p3 u0 u6 u7 aa hlt8 eA hV hG aJ be az fR bP bJ fA q5 z5 bB;go_roundw
      case rel=>exact ⟨k+1,.slice A5 M.length c5,.slice Ag G.length cg,M,G,aD,by go_num,by simpa using ao,bk,fB,by rw [HM.out];exact HVY.out,HGN.out,dw⟩
      case measure=>simp [intOf];omega
     have HVN:=hid (show V=gV a (s.shelf.take (k+1)) by rw [fM.out,jcp a _ k aD (by rw [hp];simp)]);clear hp bN;go_wp2_with fail;go_roundw
     case rel=>exact ⟨k+1,vv,gv,V,G,aD,by go_num,aJ,hV,hG,HVN.out,HGN.out,az⟩
     case measure=>simp [intOf];omega
    obtain rfl:k=s.shelf.length:=by omega
    rw [List.take_length] at hVd hGd;obtain ⟨Av,cv,rfl,v1,v2⟩:=hV.len;obtain ⟨Ag,cg,rfl,g1,g2⟩:=hG.len;have fM:=hid (show V=qo3 s a from hVd);have HGD:=hid (show G=qo2 s a from hGd);have HVC:=hid (And.intro v1 v2);have HGC:=hid (And.intro g1 g2);have hx:=bR.out.fr az HB8W.out;have eE:=hid hx;have HS3:=hid (HS2.out.fr az HB8T.out HB8B.out cU.out);have HI3:=hid (dR.out.fr az HB8T.out HB8B.out);have HB8:=hid aJ;have HB4:=hid (az.blkO HB42.out HN48.out);have HBA:=hid (az.blkO HBA2.out HNA8.out);have HV:=hid (hV.sl B);have HG:=hid (hG.sl B);clear hV hG hVd hGd v1 v2 g1 g2 aJ az hx hk aD;have aB:=hid (fun w' (x:Ext wr w')=>show w'.cell? ⟨ba,2,none⟩=some (.slice Bf a.filter.length df) from (HBA.out.ext x).cell rfl);have HAllF:=hid (fun w' (x:Fr b8 wr w')=>show w'.cell? ⟨ba,2,none⟩=some (.slice Bf a.filter.length df) from (x.blkO HBA.out HNA8.out).cell rfl);go_wp2_with fail;have aA:=(Ext.refl wr).drew
    refine wp_region_held_drew (S:=fun w'=>w'.cell? ⟨ba,2,none⟩=some (.slice Bf a.filter.length df)) (by kernel_rfl) (aB.out _ aA) (fun hHeld=>?_);obtain ⟨wc,aS⟩:=ex1 wr.drew;rw [← aS] at hHeld aA ⊢;clear aS;refine tkA 0 _ rfl ?_;(try simp only [gq,pq]);refine tkA 2 _ rfl ?_;(try simp only [gq,pq]);refine tkA 3 _ rfl ?_;(try simp only [gq,pq]);refine rd1 1 rfl fun K hK=>?_;simp only [gq];go_simp;refine (qlo B r Af cf Ax cx Ap cp s wc (Nat.le_trans HB.out (Nat.le_trans eE.out.size aA.size)) aZ.out (HS3.out.ext aA)).mono ?_;rintro e wn ⟨v1,rfl,fH,aC⟩;dsimp only;obtain ⟨A1,c1,rfl,_,_,fH⟩:=fH;replace aA:=aA.trans aC;clear aC;obtain ⟨wc,rfl⟩:=ex1 wn;refine hK.out _ _ (aB.out _ aA) (fun hHeld=>?_);clear hK K;(try simp only [pq]);refine rd1 4 rfl fun K hK=>?_;simp only [gq];go_simp;refine (qoi B A1 Bf c1 df (qch s) a.filter wc (Nat.le_trans HB.out (Nat.le_trans eE.out.size aA.size)) (by have:=(qka aZ.out).1;unfold maxLen;omega) HI.out.lf fH (HI3.out.sf.ext RBox.monoE aA)).mono ?_
    rintro e wn ⟨v4,rfl,hv4,aC⟩;dsimp only;obtain ⟨A4,c4,rfl,n1,n2,hv4⟩:=hv4;replace aA:=aA.trans aC;clear aC fH;obtain ⟨wc,rfl⟩:=ex1 wn;refine hK.out _ _ (aB.out _ aA) (fun hHeld=>?_);clear hK K;(try simp only [pq]);refine tkA 5 _ rfl ?_;(try simp only [gq,pq]);refine tkA 6 _ rfl ?_;(try simp only [gq,pq]);refine tkA 7 _ rfl ?_;(try simp only [gq,pq]);refine tkA 8 _ rfl ?_;(try simp only [gq,pq]);refine rd1 9 rfl fun K hK=>?_;simp only [gq];have aJ:=HB8.out.ext aA;have y4:=aJ.ce 4 (.slice none 0 0) rfl;have z4:=aJ.frozen 4;go_simp;clear y4 z4;have hb88:=aJ.set 4 (.slice A4 (qbg (qch s) a.filter).length c4);obtain ⟨wn,aP⟩:=ex1 (wc.setCell ⟨b8,4,none⟩ (.slice A4 (qbg (qch s) a.filter).length c4));have az:Fr b8 wc wn:=by rw [aP];exact (Fr.refl wc).setR 4 _
    rw [← aP] at hb88 ⊢;clear aP;refine hK.out _ _ (HAllF.out _ ((Fr.of_ext aA).trans az)) (fun hHeld=>?_);clear hK K;(try simp only [pq]);refine wpAnyH_done (by kernel_rfl) ?_ _;clear hHeld;obtain ⟨P,hP⟩:=ex1 (qbg (qch s) a.filter);rw [← hP] at hv4 hb88 n1;have HP:=hid hP;clear hP;have hc4:Chg B [90] wc wn:=az.chg aJ.ty HB8B.out;have hv4':=hv4.chg (RPart.mono (by decide) (by decide) (by decide) (by decide)) (by decide) hc4;have hVs:=(HV.out.ext RVer.monoE aA).chg (RVer.mono (by decide) (by decide)) (by decide) hc4;have hGs:=(HG.out.ext RGone.monoE aA).chg (RGone.mono (by decide) (by decide)) (by decide) hc4;have hb4':=az.blkO (HB4.out.ext aA) HN48.out;have eZ:Ext w wn:=((eE.out.trans aA).fr az HB8W.out)
    have au:(#[.int .i64 a.site,.int .i64 a.stamp,.slice Av V.length cv,.slice Ag G.length cg,.slice A4 P.length c4]:Array Value).size=5:=rfl;have hb88':Blk wn b8 90 #[.int .i64 a.site,.int .i64 a.stamp,.slice Av V.length cv,.slice Ag G.length cg,.slice A4 P.length c4]:=by simpa using hb88
    clear hb88 hv4 aJ az aA aB HAllF HS3 HI3 HB8;go_wp2_with (first | (with_reducible refine qa1 (o:=⟨some 96,_,_,_,_,_⟩) qcd _ rfl rfl rfl (hb88'.whole) au ?_) | ((with_reducible refine qa3 (o:=⟨none,_,_,_,_,_⟩) qcd _ _ rfl rfl rfl rfl hb4' au rfl (by simp [Value.oneCell']) ?_);intro w9 bY ao bw bk));have hc9:Chg B [90] wn w9:=qf5 hb4' bY bk HB4B.out;refine bodyPost_ret (v:=.tuple #[.agg #[.int .i64 a.site,.int .i64 a.stamp,.slice Av V.length cv,.slice Ag G.length cg,.slice A4 P.length c4],.int .i64 0]) (qmx (b:=b4) rfl rfl (ao.cell rfl) (ao.cell rfl) (ao.cell rfl) (ao.cell rfl) (ao.cell rfl)) rfl ⟨Av,cv,Ag,cg,A4,c4,?_,?_,eZ.below bY (by have:=HB4W.out;omega)⟩
    ·rw [HOUT.out,HE0.out,fM.out,HGD.out,HP.out] <;> rfl
    rw [HOUT.out];refine ⟨⟨?_,HVC.out.2⟩,⟨?_,HGC.out.2⟩,⟨?_,n2⟩,?_,?_,?_⟩
    ·show (qo3 s a).length≤cv;rw [← fM.out];exact HVC.out.1
    ·show (qo2 s a).length≤cg;rw [← HGD.out];exact HGC.out.1
    ·show (qbg (qch s) a.filter).length≤c4;rw [← HP.out];exact n1
    ·show qb6 B w9 Av (qo3 s a);rw [← fM.out];exact hVs.chg (RVer.mono (by decide) (by decide)) (by decide) hc9
    ·show qh4 B w9 Ag (qo2 s a);rw [← HGD.out];exact hGs.chg (RGone.mono (by decide) (by decide)) (by decide) hc9
    show qcg B w9 A4 (qbg (qch s) a.filter);rw [← HP.out];exact hv4'.chg (RPart.mono (by decide) (by decide) (by decide) (by decide)) (by decide) hc9
   have aV:(qac a.parts !=0)=true:=by simpa using hp
   have ak:=hid (qo4 (s:=s) (HG2.out) hp);clear hp;go_wp2_with ((with_reducible refine qa3 (o:=⟨none,_,_,_,_,_⟩) qcd _ _ rfl rfl rfl rfl bo rfl rfl (by simp [Value.oneCell']) ?_);intro w9 bY ao bw bk);refine bodyPost_ret (v:=.tuple #[.agg #[.int .i64 0,.int .i64 0,.slice none 0 0,.slice none 0 0,.slice none 0 0],.int .i64 (qac a.parts)]) (qmx (b:=b4) rfl rfl (ao.cell rfl) (ao.cell rfl) (ao.cell rfl) (ao.cell rfl) (ao.cell rfl)) rfl ⟨none,0,none,0,none,0,by rw [ak.out.1,ak.out.2] <;> rfl,by rw [ak.out.2];exact InB.empty,hx.below bY (by omega)⟩
  have aV:(qa0 a.filter !=0)=true:=by simpa using hf
  have ak:=hid (qo4 (s:=s) (show qca a=qa0 a.filter by rw [HG1.out,if_neg hf]) hf);clear hf;go_wp2_with ((with_reducible refine qa3 (o:=⟨none,_,_,_,_,_⟩) qcd _ _ rfl rfl rfl rfl bo rfl rfl (by simp [Value.oneCell']) ?_);intro w9 bY ao bw bk);refine bodyPost_ret (v:=.tuple #[.agg #[.int .i64 0,.int .i64 0,.slice none 0 0,.slice none 0 0,.slice none 0 0],.int .i64 (qa0 a.filter)]) (qmx (b:=b4) rfl rfl (ao.cell rfl) (ao.cell rfl) (ao.cell rfl) (ao.cell rfl) (ao.cell rfl)) rfl ⟨none,0,none,0,none,0,by rw [ak.out.1,ak.out.2] <;> rfl,by rw [ak.out.2];exact InB.empty,hx.below bY (by omega)⟩
 ·obtain ⟨b4,eo⟩:=ex1 (w.heap.size+1)
  have HWB:=hid eo;rw [← eo] at bo;clear eo
  by_cases a0:a.site < 0
  focus
   have e1:decide (a.site < 0)=true:=decide_eq_true (by omega);have ak:=hid (qo4 (a:=a) (s:=s) (e:=1) (by unfold qca;rw [if_neg (by omega)]) (by decide));clear hok0 a0
  rotate_left
  focus
   skip
   by_cases a1:5≤a.site
   focus
    have e1:decide (a.site < 0)=false:=decide_eq_false (by omega);have e2:decide (5≤a.site)=true:=decide_eq_true (by omega);have ak:=hid (qo4 (a:=a) (s:=s) (e:=1) (by unfold qca;rw [if_neg (by omega)]) (by decide));clear hok0 a0 a1
   rotate_left
   focus
    skip;have e1:decide (a.site < 0)=false:=decide_eq_false (by omega);have e2:decide (5≤a.site)=false:=decide_eq_false (by omega);have e3:decide (a.stamp < 0)=true:=decide_eq_true (by omega);have ak:=hid (qo4 (a:=a) (s:=s) (e:=1) (by unfold qca;rw [if_neg (by omega)]) (by decide));clear hok0 a0 a1
  all_goals
   go_enter Tryz.func43, Tryz.ntmps43;go_wp2_with ((with_reducible refine qa3 (o:=⟨none,_,_,_,_,_⟩) qcd _ _ rfl rfl rfl rfl (by rw [HWB.out] at bo;exact bo) rfl rfl (by simp [Value.oneCell']) ?_);intro w9 bY ao bw bk);refine bodyPost_ret (v:=.tuple #[.agg #[.int .i64 0,.int .i64 0,.slice none 0 0,.slice none 0 0,.slice none 0 0],.int .i64 1]) (qmx (b:=w.heap.size+1) rfl rfl (ao.cell rfl) (ao.cell rfl) (ao.cell rfl) (ao.cell rfl) (ao.cell rfl)) rfl ⟨none,0,none,0,none,0,by rw [ak.out.1,ak.out.2] <;> rfl,by rw [ak.out.2];exact InB.empty,hx.below bY (by omega)⟩
end Go.Proofs.YtngbfdogiciahaaGreat
