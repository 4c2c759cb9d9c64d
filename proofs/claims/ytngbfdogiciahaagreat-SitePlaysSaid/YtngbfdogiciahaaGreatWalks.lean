/- Walks: KnA, KnO, SpanW, SpanM, SpanR, CubeW, CubeW2, CubeR, CubeR2, FilW, CubeL in one text: data, readings, plain laws, small walks. No condition. -/
import Derived.Test.YtngbfdogiciahaaGreatBase
import Derived.BigQuiet
import Derived.Outline
set_option maxRecDepth 100000
set_option maxHeartbeats 40000000
namespace Go.Proofs.YtngbfdogiciahaaGreat
open Go Go.RowKit
theorem qqp (d:Dot) (w:World):Calls Tryz.prog 177 #[.agg #[.int .i64 d.site,.int .i64 d.count]] w fun e w'=>e=.returned (.bool (qb8 d))∧Ext w w':=by
 have hx:=(Ext.refl w).alloc (.cells #[.int .i64 d.site,.int .i64 d.count] 35);rcases Int.lt_or_le d.site 0 with h0 | h0
 ·have HD:=hid (show qb8 d=false by rw [← Bool.not_eq_true,qar];omega)
  go_enter Tryz.func177, Tryz.ntmps177;go_wp2_with fail;go_ret;exact ⟨qa7 HD.out.symm,hx⟩
 rcases Int.lt_or_le d.site 5 with h1 | h1
 ·rcases Int.lt_or_le d.count 1 with h2 | h2
  ·have HD:=hid (show qb8 d=false by rw [← Bool.not_eq_true,qar];omega)
   go_enter Tryz.func177, Tryz.ntmps177;go_wp2_with fail;go_ret;exact ⟨qa7 HD.out.symm,hx⟩
  rcases Int.lt_or_le 1000 d.count with h3 | h3
  ·have HD:=hid (show qb8 d=false by rw [← Bool.not_eq_true,qar];omega)
   go_enter Tryz.func177, Tryz.ntmps177;go_wp2_with fail;go_ret;exact ⟨qa7 (by rw [HD.out];simp;omega),hx⟩
  have HD:=hid (show qb8 d=true by rw [qar];omega);go_enter Tryz.func177, Tryz.ntmps177;go_wp2_with fail;go_ret;exact ⟨qa7 HD.out.symm,hx⟩
 have HD:=hid (show qb8 d=false by rw [← Bool.not_eq_true,qar];omega);go_enter Tryz.func177, Tryz.ntmps177;go_wp2_with fail;go_ret;exact ⟨qa7 HD.out.symm,hx⟩
theorem qvy (B:Nat) (k:Know) (Av:Option Addr) (cv:Nat) (Am:Option Addr) (cm:Nat) (s:Nat) (w:World) (h:InK B w Av Am k) :
  Calls Tryz.prog 200 #[.agg #[.slice Av k.vec.length cv, .slice Am k.more.length cm],.int .i64 (s:Int)] w fun e w'=>e=.returned (.int .i64 (qab k.vec s))∧Ext w w':=by
 have hx:=(Ext.refl w).alloc (.cells #[.slice Av k.vec.length cv,.slice Am k.more.length cm] 101);have s0:(0:Int)≤s:=by omega
 by_cases hs:s < k.vec.length
 ·have HV:=hid (qj0 hs)
  have hs':(s:Int) < k.vec.length:=by omega
  obtain ⟨b,off,rfl,hb,g0⟩:=(h.sv.ext RInt.mono hx).int hs;go_enter Tryz.func200, Tryz.ntmps200;go_wp2_with fail;go_ret;exact ⟨qa8 HV.out.symm,hx⟩
 have HV:=hid (qkr (v:=k.vec) (s:=s) (by omega));have hs':decide ((s:Int) < k.vec.length)=false:=by simp;omega
 go_enter Tryz.func200, Tryz.ntmps200;go_wp2_with fail;go_ret;exact ⟨qa8 HV.out.symm,hx⟩
theorem qqr (a b:Dot) (w:World) (ha:qb8 a=true) (hb:qb8 b=true) :
  Calls Tryz.prog 192 #[.agg #[.int .i64 a.site,.int .i64 a.count],.agg #[.int .i64 b.site,.int .i64 b.count]] w fun e w'=>e=.returned (.int .i64 (cmpD a b))∧Ext w w':=by
 have ha':=qar.1 ha;have hb':=qar.1 hb;have hx:=((Ext.refl w).alloc (.cells #[.int .i64 a.site,.int .i64 a.count] 35)).alloc (.cells #[.int .i64 b.site,.int .i64 b.count] 35)
 by_cases hs:a.site=b.site
 ·have HV:=hid (show cmpD a b=a.count - b.count by rw [cmpD,if_pos hs])
  have e1:wrap64 (a.count - b.count)=a.count - b.count:=by unfold wrap64;omega
  have e2:(a.site !=b.site)=false:=by simp [hs]
  clear hs ha hb ha' hb';go_enter Tryz.func192, Tryz.ntmps192;go_wp2_with fail;go_ret;exact ⟨qa8 (e1.trans HV.out.symm),hx⟩
 have HV:=hid (show cmpD a b=a.site - b.site by rw [cmpD,if_neg hs]);have e1:wrap64 (a.site - b.site)=a.site - b.site:=by unfold wrap64;omega
 have e2:(a.site !=b.site)=true:=by simp [hs]
 clear hs ha hb ha' hb';go_enter Tryz.func192, Tryz.ntmps192;go_wp2_with fail;go_ret;exact ⟨qa8 (e1.trans HV.out.symm),hx⟩
end Go.Proofs.YtngbfdogiciahaaGreat
namespace Go.Proofs.YtngbfdogiciahaaGreat
open Go Go.RowKit Go.ChangeShapes Go.WideShapes Go.Deep Go.Joins
section
variable {H:Type} {enc:TypeId×Value→H} {w:World} {spare:Nat→Bool} {held:Bool}
theorem ql2:Tryz.prog.cellsOf 101=2:=by kernel_rfl
theorem jch (n:Nat) (cs:List Value) (y:DataW H×List MemPlace) (hl:cs.length=2) (h:DataW.trod enc Tryz.prog w 0 spare held n 35 cs=some y):∃ z:Dot,RDot w cs z∧True:=by
 obtain ⟨a,b,h1,_,_⟩:=qia (P:=Tryz.prog) Tryz.underlying35 Tryz.underlying3 (And.intro rfl rfl) (And.intro rfl rfl) qd0 hl h;exact ⟨⟨a,b⟩,h1,trivial⟩
end
end Go.Proofs.YtngbfdogiciahaaGreat
namespace Go.Proofs.YtngbfdogiciahaaGreat
open Go Go.RowKit
theorem jfk (B:Nat) (A:Option Addr) (c:Nat) (l:List Span) (n:Int) (w:World) (hl:l.length≤maxLen) (h:qh5 B w A l) :
  Calls Tryz.prog 145 #[.slice A l.length c,.int .i64 n] w fun e w'=>e=.returned (.bool (qai l n))∧Ext w w':=by
 unfold maxLen at hl;go_enter Tryz.func145, Tryz.ntmps145;go_wp2;go_loopw [9] (fun i wr=>∃ k:Nat,k≤l.length∧i=.int .i64 k∧qai (l.drop k) n=qai l n∧Ext w wr) (fun i _=>l.length - (intOf i).toNat)
 case atStart=>exact ⟨0,Nat.zero_le _,rfl,rfl,Ext.refl _⟩
 obtain ⟨k,hk,rfl,hG,hx⟩:=hrel;have HG:Hid (qai (l.drop k) n=qai l n):=hG;clear hG
 by_cases aD:k < l.length
 ·obtain ⟨b,off,rfl,hb,h1,h2⟩:=(h.ext RPair.mono hx).pair aD
  have hs:=qv4 l n k aD;have HS:=hid hs;clear hs;go_wp2
  ·go_ret
   exact ⟨qa7 (by rw [← HG.out,HS.out,if_pos (by omega)]),hx.alloc _⟩
  all_goals
   go_roundw
   case rel=>exact ⟨k+1,aD,by go_num,by rw [← HG.out,HS.out,if_neg (by omega)],hx.alloc _⟩
   case measure=>simp [intOf];omega
 go_wp2;go_ret;have:k=l.length:=by omega
 exact ⟨qa7 (by rw [← HG.out,this];simp [qai]),hx⟩
theorem qyb (B:Nat) (A:Option Addr) (c:Nat) (l:List Span) (w:World) (hl:l.length≤maxLen) (h:qh5 B w A l) :
  Calls Tryz.prog 124 #[.slice A l.length c] w fun e w'=>e=.returned (.int .i64 (qav l))∧Ext w w':=by
 unfold maxLen at hl
 by_cases h16:16 < l.length
 ·go_enter Tryz.func124, Tryz.ntmps124
  go_wp2;go_ret;exact ⟨qa8 (by simp [qav,h16]),Ext.refl _⟩
 go_enter Tryz.func124, Tryz.ntmps124;go_wp2;go_loopw [10] (fun i wr=>∃ k:Nat,k≤l.length∧i=.int .i64 k∧qei (qfv l k) (l.drop k)=qei (-1) l∧Ext w wr) (fun i _=>l.length - (intOf i).toNat)
 case atStart=>exact ⟨0,Nat.zero_le _,rfl,rfl,Ext.refl _⟩
 obtain ⟨k,hk,rfl,hG,hx⟩:=hrel;have HG:Hid (qei (qfv l k) (l.drop k)=qei (-1) l):=hG;clear hG
 by_cases aD:k < l.length
 ·obtain ⟨b,off,rfl,hb,h1,h2⟩:=(h.ext RPair.mono hx).pair aD
  have hs:=qov l k aD;have HS:=hid hs;clear hs
  by_cases hk0:0 < k
  ·obtain ⟨b',off',e,_,_,h3⟩:=(h.ext RPair.mono hx).pair (show k - 1 < l.length by omega)
   obtain ⟨rfl,rfl⟩:b=b'∧off=off':=by simpa using e
   have hw:=IntWalk.i64_in ((k:Int) - 1) (by omega);have hw2:((k:Int) - 1).toNat=k - 1:=by omega
   have dY:0≤(k:Int) - 1:=by omega
   have hw4:(0:Int) < k:=by omega
   have HL:=hid (show qfv l k=l[k - 1].to by simp [qfv,show k≠0 by omega,show k - 1 < l.length by omega]);go_wp2
   all_goals first | (go_ret;exact ⟨qa8 (by rw [qav,if_neg h16,← HG.out,HS.out,if_pos (by omega)]),hx.alloc _⟩) | skip
   go_quiet (fail);go_wp2
   ·go_ret
    exact ⟨qa8 (by rw [qav,if_neg h16,← HG.out,HS.out,if_neg (by omega),HL.out,if_pos (by omega)]),(hx.alloc _).drewN _⟩
   go_roundw
   case rel=>exact ⟨k+1,aD,by go_num,by rw [← HG.out,HS.out,if_neg (by omega),HL.out,if_neg (by omega)],(hx.alloc _).drewN _⟩
   case measure=>simp [intOf];omega
  ·have hw4:decide ((0:Int) < (k:Int))=false:=by simp;omega
   have HL:=hid (show qfv l k=-1 by simp [qfv,show k=0 by omega]);go_wp2
   all_goals first | (go_ret;exact ⟨qa8 (by rw [qav,if_neg h16,← HG.out,HS.out,if_pos (by omega)]),hx.alloc _⟩) | skip
   go_quiet (fail);go_wp2;go_roundw
   case rel=>exact ⟨k+1,aD,by go_num,by rw [← HG.out,HS.out,if_neg (by omega),HL.out,if_neg (by omega)],(hx.alloc _).drewN _⟩
   case measure=>simp [intOf];omega
 go_wp2;go_ret;have:k=l.length:=by omega
 exact ⟨qa8 (by rw [qav,if_neg h16,← HG.out,this];simp [qei]),hx⟩
theorem qqi:ElemInfo Tryz.prog 138 137 2 16:=ElemInfo.mk_ (z:=.agg #[.int .i64 0,.int .i64 0]) Tryz.underlying138 (by kernel_rfl) rfl (by decide)
theorem jbc (B:Nat) (f:FuncId) (cap:Array Value) (p:Int→Bool) (w:World) (hB:B≤w.heap.size)
  (hc:∀ (args:Array Value) (wn:World),(callFunc f args).run Tryz.prog wn=.ok (.enter f args) wn)
  (hf:∀ (n:Nat) (wn:World),n < 32→Ext w wn→Calls Tryz.prog f (#[.int .i64 n]++cap) wn fun e w'=>e=.returned (.bool (p n))∧Ext wn w') :
  Calls Tryz.prog 180 #[.func (.func f) #[] cap] w fun e w'=>∃ v,e=.returned v∧qn8 B w' v (qcb p 32)∧Ext w w':=by
 have HF:=hid hf;clear hf;go_enter Tryz.func180, Tryz.ntmps180;go_wp2;go_loopw [3,4] (fun v i wr=>∃ k:Nat,k≤32∧i=.int .i64 k∧Own jc3 2 137 wr w.heap.size v (qcb p k)∧Ext w wr) (fun _ i _=>32 - (intOf i).toNat)
 case atStart=>exact ⟨0,by omega,rfl,Own.nil,Ext.refl _⟩
 obtain ⟨k,hk,rfl,ho,hx⟩:=hrel
 by_cases aD:k < 32
 ·obtain ⟨L,hL⟩:=ex1 (qcb p k)
  have ag:=qod p k;rw [← hL] at ho ag;have HE:=hid (show qcb p (k+1)=qj7 p L k by rw [qcb,hL]);clear hL;go_wp2_with fail;refine (HF.out k _ aD hx).mono ?_;rintro e w1 ⟨rfl,aE⟩;have ho1:=ho.ext (B:=B) RPair.mono aE;have aH:=hx.trans aE;clear ho aE hx
  by_cases hp:p k=true
  ·rw [hp]
   have HP:=hid hp;clear hp;rcases ho1.at_ with ⟨rfl,rfl⟩ | ⟨g,c,rfl,an,hgw,fa,hfz,hcell⟩
   ·go_wp2_with (at_builtin;refine qaf (ys:=[(⟨k,k+1⟩:Span)]) rfl _ _ rfl qqi rfl (ho1.ext (B:=B) RPair.mono ((Ext.refl _).alloc _)) hB (aH.alloc _).size rfl (Sl.one (B:=B) rfl rfl rfl) RPair.oneC RPair.mono ?_ ?_ ?_)
    ·simp [maxLen]
    ·simp
    intro v2 w3 aR ad aI _;have aM:=(aH.alloc (.cells #[.int .i64 k,.int .i64 (k+1)] 137)).below aI (Nat.le_refl _);clear ad aI aH;go_wp2_with fail;go_roundw
    case rel=>exact ⟨k+1,by omega,by go_num,by rw [HE.out];simpa [qj7,HP.out] using aR,aM⟩
    case measure=>simp [intOf];omega
   by_cases aV:0 < L.length
   ·have hg:=List.getLast?_eq_getElem? (l:=L)
    have hg2:L[L.length - 1]?=some L[L.length - 1]:=List.getElem?_eq_getElem (by omega);obtain ⟨cs,_,bK,rfl⟩:=hcell (L.length - 1) _ hg2;have h1:=bK 1 _ rfl;have hfz1:=hfz ((L.length - 1)*2+1);have dY:0≤(L.length:Int) - 1:=by omega
    have HG:=hid (hg.trans hg2);clear hg hg2 bK hcell hfz
    by_cases hto:L[L.length - 1].to=k
    ·have HT:=hid hto
     rw [hto] at h1;clear hto;go_wp2_with fail;obtain ⟨aR,_,aI⟩:=ho1.set (B:=B) RPair.mono hB (i:=L.length - 1) (j:=1) (by omega) (by omega) (.int .i64 (k+1)) (⟨L[L.length - 1].fr,k+1⟩:Span) (by rintro cs _ rfl;rfl);have aM:=aH.below aI (Nat.le_refl _);go_roundw
     case rel=>exact ⟨k+1,by omega,by go_num,by rw [HE.out,qj7,if_pos HP.out,HG.out];simp only [HT.out,if_true];exact aR,aM⟩
     case measure=>simp [intOf];omega
    have hto2:((L[L.length - 1].to:Int)==(k:Int))=false:=by simpa using hto
    have HT:=hid hto;clear hto;go_wp2_with (at_builtin;refine qaf (ys:=[(⟨k,k+1⟩:Span)]) rfl _ _ rfl qqi rfl (ho1.ext (B:=B) RPair.mono ((Ext.refl _).alloc _)) hB (aH.alloc _).size rfl (Sl.one (B:=B) rfl rfl rfl) RPair.oneC RPair.mono ?_ ?_ ?_)
    ·simp [maxLen];omega
    ·simp;omega
    intro v2 w3 aR ad aI _;have aM:=(aH.alloc (.cells #[.int .i64 k,.int .i64 (k+1)] 137)).below aI (Nat.le_refl _);clear ad aI aH;go_wp2_with fail;go_roundw
    case rel=>exact ⟨k+1,by omega,by go_num,by rw [HE.out,qj7,if_pos HP.out,HG.out];simp only [HT.out,if_false];exact aR,aM⟩
    case measure=>simp [intOf];omega
   obtain rfl:L=[]:=List.eq_nil_of_length_eq_zero (by omega);go_wp2_with (at_builtin;refine qaf (ys:=[(⟨k,k+1⟩:Span)]) rfl _ _ rfl qqi rfl (ho1.ext (B:=B) RPair.mono ((Ext.refl _).alloc _)) hB (aH.alloc _).size rfl (Sl.one (B:=B) rfl rfl rfl) RPair.oneC RPair.mono ?_ ?_ ?_)
   ·simp [maxLen]
   ·simp
   intro v2 w3 aR ad aI _;have aM:=(aH.alloc (.cells #[.int .i64 k,.int .i64 (k+1)] 137)).below aI (Nat.le_refl _);clear ad aI aH;go_wp2_with fail;go_roundw
   case rel=>exact ⟨k+1,by omega,by go_num,by rw [HE.out];simpa [qj7,HP.out] using aR,aM⟩
   case measure=>simp [intOf];omega
  rw [show p k=false by simpa using hp];have HP:=hid hp;clear hp;go_wp2_with fail;go_roundw
  case rel=>exact ⟨k+1,by omega,by go_num,by rw [HE.out,qj7,if_neg HP.out];exact ho1,aH⟩
  case measure=>simp [intOf];omega
 go_wp2;go_ret;obtain rfl:k=32:=by omega
 exact ⟨_,rfl,ho.isSl B,hx⟩
theorem qqc:qht Tryz.prog 169 32:=⟨⟨_,_,Tryz.underlying169⟩,by kernel_rfl⟩
theorem qva:qcm Tryz.prog 169 (rowB 32 fun _=>false):=fun w=>by kernel_rfl
theorem jaw (B:Nat) (A:Option Addr) (c:Nat) (l:List Span) (w:World) (hl:l.length≤maxLen) (h:qh5 B w A l) :
  Calls Tryz.prog 89 #[.slice A l.length c] w fun e w'=>e=.returned (.int .i64 (qav l))∧Ext w w':=by
 unfold maxLen at hl
 by_cases h16:16 < l.length
 ·go_enter Tryz.func89, Tryz.ntmps89
  go_wp2;go_ret;exact ⟨qa8 (by simp [qav,h16]),Ext.refl _⟩
 go_enter Tryz.func89, Tryz.ntmps89;go_wp2;go_loopw [3,11] (fun u i wr=>∃ k:Nat,k≤l.length∧i=.int .i64 k∧u=.int .i64 (qfv l k)∧qei (qfv l k) (l.drop k)=qei (-1) l∧Ext w wr) (fun _ i _=>l.length - (intOf i).toNat)
 case atStart=>exact ⟨0,Nat.zero_le _,rfl,rfl,rfl,Ext.refl _⟩
 obtain ⟨k,hk,rfl,rfl,hG,hx⟩:=hrel;have HG:=hid hG;clear hG
 by_cases aD:k < l.length
 ·obtain ⟨b,off,rfl,hb,h1,h2⟩:=(h.ext RPair.mono hx).pair aD
  have HS:=hid (qov l k aD);have HL:=hid (show qfv l (k+1)=l[k].to by simp [qfv,aD]);go_wp2
  all_goals first
   | (go_ret;exact ⟨qa8 (by rw [qav,if_neg h16,← HG.out,HS.out,if_pos (by omega)]),hx.alloc _⟩)
   | (go_ret;exact ⟨qa8 (by rw [qav,if_neg h16,← HG.out,HS.out,if_neg (by omega),if_pos (by omega)]),hx.alloc _⟩)
   | skip
  go_roundw
  case rel=>exact ⟨k+1,aD,by go_num,by rw [HL.out],by rw [← HG.out,HS.out,if_neg (by omega),if_neg (by omega)],hx.alloc _⟩
  case measure=>simp [intOf];omega
 go_wp2;go_ret;have:k=l.length:=by omega
 exact ⟨qa8 (by rw [qav,if_neg h16,← HG.out,this];simp [qei]),hx⟩
theorem jfa (B:Nat) (A:Option Addr) (c:Nat) (l:List Span) (w:World) (hl:l.length≤maxLen) (aO:SpansOk l) (h:qh5 B w A l) :
  Calls Tryz.prog 90 #[.slice A l.length c] w fun e w'=>e=.returned (.agg (rowB 32 fun i=>qai l i))∧Ext w w':=by
 unfold maxLen at hl;go_enter Tryz.func90, Tryz.ntmps90;go_wp2_with (first
  | ((with_reducible refine qa2 (o:=⟨some 2,_,_,_,_,_⟩) qva rfl rfl ?_);intro w1 aE aX bX)
  | ((with_reducible refine qa2 (o:=⟨some 3,_,_,_,_,_⟩) qva rfl rfl ?_);intro w2 aH aI bC))
 have hx2':=aE.trans aH;have aL:Blk w2 (w.heap.size+1) 169 (rowB 32 fun _=>false):=by rw [← bX];exact aI
 have hb1':=aX.ext aH;go_loopw [9] (fun i wr=>∃ k:Nat,k≤l.length∧i=.int .i64 k∧Blk wr (w.heap.size+1) 169 (rowB 32 fun i=>qai (l.take k) i)∧Blk wr w.heap.size 169 (rowB 32 fun _=>false)∧Ext w wr) (fun i _=>l.length - (intOf i).toNat)
 case atStart=>exact ⟨0,Nat.zero_le _,rfl,aL,hb1',hx2'⟩
 obtain ⟨k,hk,rfl,hb,aq,hx⟩:=hrel
 by_cases aD:k < l.length
 ·obtain ⟨b,off,rfl,aw,h1,h2⟩:=(h.ext RPair.mono hx).pair aD
  have hok1:=aO _ (List.getElem_mem aD);obtain ⟨f0,f1,f2⟩:=hok1;obtain ⟨f,hf⟩:=Int.eq_ofNat_of_zero_le f0;obtain ⟨t,ht⟩:=Int.eq_ofNat_of_zero_le (show 0≤l[k].to by omega);rw [hf] at h1 f1;rw [ht] at h2 f1 f2;have HF:=hid hf;have HT:=hid ht;clear hf ht f0;have f1':f < t:=by omega
  have f2':t≤32:=by omega
  clear f1 f2;go_wp2;go_loopw [6] (fun i ws=>∃ n:Nat,f≤n∧n≤t∧i=.int .i64 n∧Blk ws (w.heap.size+1) 169 (rowB 32 fun i=>qai (l.take k) i||decide (l[k].fr≤i∧(i:Int) < n))∧Blk ws w.heap.size 169 (rowB 32 fun _=>false)∧
    ws.cell? ⟨wr.heap.size,1,none⟩=some (.int .i64 t)∧Ext w ws) (fun i _=>32 - (intOf i).toNat)
  case atStart=>
   refine ⟨f,Nat.le_refl _,by omega,rfl,?_,aq.alloc _,by go_simp,hx.alloc _⟩;have:=hb.alloc (.cells #[.int .i64 f,.int .i64 t] 137);rwa [qbv (q:=fun i=>qai (l.take k) i||decide (l[k].fr≤i∧(i:Int) < f)) (fun i _=>by
    rw [HF.out];have:decide ((f:Int)≤i∧(i:Int) < f)=false:=by simp
    rw [this,Bool.or_false])] at this
  obtain ⟨n,hn1,hn2,rfl,hb',hbr',h2',hx'⟩:=hrel
  by_cases hlt2:n < t
  ·have hc:=hb'.cell (i:=n) (qeb _ (by omega))
   have hz:=hb'.frozen n;go_wp2;have hs:=hb'.setB n true;go_roundw
   case rel=>
    refine ⟨n+1,by omega,by omega,by go_num,?_,hbr'.far (by simp) _,?_,hx'.setCell (by simp) _⟩
    ·rwa [qbv (q:=fun i=>qai (l.take k) i||decide (l[k].fr≤i∧(i:Int) < (n+1:Nat))) (fun i _=>by
      by_cases bZ:i=n
      ·subst bZ
       have:decide (l[k].fr≤(i:Int)∧(i:Int) < (i+1:Nat))=true:=by rw [HF.out];simp;omega
       rw [this];simp
      rw [if_neg bZ];congr 2;rw [eq_iff_iff];omega)] at hs
    rw [World.cell?_setCell_other]
    ·exact h2'
    intro e;injection e with e;have:=hb.lt;omega
   case measure=>simp [intOf];omega
  obtain rfl:n=t:=by omega
  go_wp2;go_roundw
  case rel=>
   refine ⟨k+1,aD,by go_num,?_,hbr',hx'⟩;rwa [qbv (q:=fun i=>qai (l.take (k+1)) i) (fun i _=>by rw [qv5 l i k aD,HT.out])] at hb'
  case measure=>simp [intOf];omega
 obtain rfl:k=l.length:=by omega
 rw [List.take_length] at hb;go_wp2_with (first
  | ((with_reducible refine qap (o:=⟨some 24,_,_,_,_,_⟩) qqc _ rfl rfl rfl hb (qa6 _ _) ?_))
  | ((with_reducible refine qau (o:=⟨none,_,_,_,_,_⟩) qqc _ _ rfl rfl rfl rfl aq (qa6 _ _) (qa6 _ _) (qfg _ _) ?_);intro w3 aM hb3' bv cE))
 exact qif rfl qqc rfl hb3' (qa6 _ _) rfl ⟨rfl,hx.below aM (Nat.le_refl _)⟩
theorem qdv (n:Int) (w:World):Calls Tryz.prog 146 #[.int .i64 n] w fun e w'=>e=.returned (.bool (qdm n))∧w=w':=by
 go_enter Tryz.func146, Tryz.ntmps146;go_wp2_with fail
 all_goals
  go_ret;refine ⟨qa7 ?_,rfl⟩;simp only [qdm]
  first
   | (rw [eq_comm,decide_eq_true_eq];omega)
   | (rw [eq_comm,decide_eq_false_iff_not];omega)
   | (by_cases h:0≤n∧n≤15 <;> simp [h] <;> omega)
theorem qx3 (c:Cube) (w:World):Calls Tryz.prog 123 #[.agg #[.int .i64 c.yes,.int .i64 c.no]] w fun e w'=>e=.returned (.int .i64 (qaq c))∧Ext w w':=by
 by_cases h1:qdm c.yes=true
 ·by_cases h2:qdm c.no=true
  ·have a:=qdj.1 h1
   have b:=qdj.1 h2;obtain ⟨y,hy⟩:=Int.eq_ofNat_of_zero_le a.1;obtain ⟨m,hm⟩:=Int.eq_ofNat_of_zero_le b.1;have hk:=jc4 y (by omega) m (by omega);have HC:=hid (show qaq c=if y&&& m=0 then 0 else 3 by rw [qaq,if_pos ⟨h1,h2⟩,hy,hm,Int.toNat_natCast,Int.toNat_natCast]);rw [hy,hm];rw [hy] at h1;rw [hm] at h2;clear hy hm a b
   by_cases h0:y&&& m=0
   ·rw [h0] at hk
    have H0:=hid h0;clear h0;go_enter Tryz.func123, Tryz.ntmps123;go_wp2_with fail;refine (qdv _ _).mono ?_;rintro e w1 ⟨rfl,rfl⟩;rw [h1];go_wp2_with fail;refine (qdv _ _).mono ?_;rintro e w1 ⟨rfl,rfl⟩;rw [h2];go_wp2_with fail;go_ret;exact ⟨qa8 (by rw [HC.out,if_pos H0.out]),(Ext.refl w).alloc _⟩
   have hb:(((y&&& m:Nat):Int) !=0)=true:=by simp;omega
   have H0:=hid h0;clear h0;go_enter Tryz.func123, Tryz.ntmps123;go_wp2_with fail;refine (qdv _ _).mono ?_;rintro e w1 ⟨rfl,rfl⟩;rw [h1];go_wp2_with fail;refine (qdv _ _).mono ?_;rintro e w1 ⟨rfl,rfl⟩;rw [h2];go_wp2_with fail;go_ret;exact ⟨qa8 (by rw [HC.out,if_neg H0.out]),(Ext.refl w).alloc _⟩
  have HC:=hid (show qaq c=1 by rw [qaq,if_neg (fun h=>h2 h.2)]);have h2':qdm c.no=false:=by simpa using h2
  clear h2;go_enter Tryz.func123, Tryz.ntmps123;go_wp2_with fail;refine (qdv _ _).mono ?_;rintro e w1 ⟨rfl,rfl⟩;rw [h1];go_wp2_with fail;refine (qdv _ _).mono ?_;rintro e w1 ⟨rfl,rfl⟩;rw [h2'];go_wp2_with fail;go_ret;exact ⟨qa8 HC.out.symm,(Ext.refl w).alloc _⟩
 have HC:=hid (show qaq c=1 by rw [qaq,if_neg (fun h=>h1 h.1)]);have h1':qdm c.yes=false:=by simpa using h1
 clear h1;go_enter Tryz.func123, Tryz.ntmps123;go_wp2_with fail;refine (qdv _ _).mono ?_;rintro e w1 ⟨rfl,rfl⟩;rw [h1'];go_wp2_with fail;go_ret;exact ⟨qa8 HC.out.symm,(Ext.refl w).alloc _⟩
theorem qnl (c:Cube) (y n t:Nat) (hc:CubeOk c y n) (ht:t < 16) (w:World):Calls Tryz.prog 144 #[.agg #[.int .i64 c.yes,.int .i64 c.no],.int .i64 t] w fun e w'=>e=.returned (.bool (qce y n t))∧Ext w w':=by
 obtain ⟨h1,h2,hy,hn,_⟩:=hc;rw [h1,h2];clear h1 h2;have k1:=jc4 t ht y hy;have k2:=jc4 t ht n hn
 by_cases ha:t&&& y=y
 ·rw [ha] at k1
  have HA:=hid ha;clear ha;go_enter Tryz.func144, Tryz.ntmps144;go_wp2_with fail;go_ret;refine ⟨qa7 ?_,(Ext.refl w).alloc _⟩;rw [qce,HA.out];rw [qrn];simp
 have hb:(((t&&& y:Nat):Int)==(y:Int))=false:=by simp;omega
 have HA:=hid ha;clear ha;go_enter Tryz.func144, Tryz.ntmps144;go_wp2_with fail;go_ret;refine ⟨qa7 ?_,(Ext.refl w).alloc _⟩;simp [qce,HA.out]
theorem Blk2.first {w:World} {b:Nat} {x y u v:Value} (h0:w.cell? ⟨b,0,none⟩=some x) (_h1:w.cell? ⟨b,1,none⟩=some y):((w.setCell ⟨b,0,none⟩ u).setCell ⟨b,1,none⟩ v).cell? ⟨b,0,none⟩=some u:=
 (World.cell?_setCell_other _ _ _ _ (by intro e;injection e with _ e;cases e)).trans (World.cell?_setCell_same _ _ _ h0)
theorem Blk2.second {w:World} {b:Nat} {x y u v:Value} (_h0:w.cell? ⟨b,0,none⟩=some x) (h1:w.cell? ⟨b,1,none⟩=some y):((w.setCell ⟨b,0,none⟩ u).setCell ⟨b,1,none⟩ v).cell? ⟨b,1,none⟩=some v:=
 World.cell?_setCell_same _ _ _ ((World.cell?_setCell_other _ _ _ _ (by intro e;injection e with _ e;cases e)).trans h1)
def betw (x a b:Int):Bool:=decide (a≤x∧x≤b)
theorem qb5 (x a b:Int) (w:World):Calls Tryz.prog 97 #[.int .i64 x,.int .i64 a,.int .i64 b] w fun e w'=>e=.returned (.bool (betw x a b))∧w=w':=by
 by_cases h1:a≤x
 ·have HB:=hid (show betw x a b=decide (x≤b) by simp [betw,h1])
  go_enter Tryz.func97, Tryz.ntmps97;go_wp2_with fail;go_ret;exact ⟨qa7 HB.out.symm,rfl⟩
 have HB:=hid (show betw x a b=false by simp [betw,h1]);have h1':x < a:=by omega
 go_enter Tryz.func97, Tryz.ntmps97;go_wp2_with fail;go_ret;exact ⟨qa7 HB.out.symm,rfl⟩
theorem qfq (n:Int):betw n 0 15=qdm n:=rfl
theorem jdd (c:Cube) (w:World):Calls Tryz.prog 88 #[.agg #[.int .i64 c.yes,.int .i64 c.no]] w fun e w'=>e=.returned (.int .i64 (qaq c))∧Ext w w':=by
 by_cases h1:qdm c.yes=true
 ·by_cases h2:qdm c.no=true
  ·have a:=qdj.1 h1
   have b:=qdj.1 h2;obtain ⟨y,hy⟩:=Int.eq_ofNat_of_zero_le a.1;obtain ⟨m,hm⟩:=Int.eq_ofNat_of_zero_le b.1;have hk:=jc4 y (by omega) m (by omega);have HC:=hid (show qaq c=if y&&& m=0 then 0 else 3 by rw [qaq,if_pos ⟨h1,h2⟩,hy,hm,Int.toNat_natCast,Int.toNat_natCast]);rw [hy,hm];rw [hy] at h1;rw [hm] at h2;clear hy hm a b
   by_cases h0:y&&& m=0
   all_goals
    first
     | (rw [h0] at hk)
     | (have hb:(0:Int) < ((y&&& m:Nat):Int):=by omega)
    have H0:=hid h0;clear h0;go_enter Tryz.func88, Tryz.ntmps88;go_wp2_with fail;refine (qb5 _ _ _ _).mono ?_;rintro e w1 ⟨rfl,rfl⟩;rw [qfq,h1];go_wp2_with fail;refine (qb5 _ _ _ _).mono ?_;rintro e w1 ⟨rfl,rfl⟩;rw [qfq,h2];go_wp2_with fail;go_ret;refine ⟨qa8 ?_,(Ext.refl w).alloc _⟩
    first
     | (rw [HC.out,if_pos H0.out])
     | (rw [HC.out,if_neg H0.out])
  have HC:=hid (show qaq c=1 by rw [qaq,if_neg (fun h=>h2 h.2)]);have h2':qdm c.no=false:=by simpa using h2
  clear h2;go_enter Tryz.func88, Tryz.ntmps88;go_wp2_with fail;refine (qb5 _ _ _ _).mono ?_;rintro e w1 ⟨rfl,rfl⟩;rw [qfq,h1];go_wp2_with fail;refine (qb5 _ _ _ _).mono ?_;rintro e w1 ⟨rfl,rfl⟩;rw [qfq,h2'];go_wp2_with fail;go_ret;exact ⟨qa8 HC.out.symm,(Ext.refl w).alloc _⟩
 have HC:=hid (show qaq c=1 by rw [qaq,if_neg (fun h=>h1 h.1)]);have h1':qdm c.yes=false:=by simpa using h1
 clear h1;go_enter Tryz.func88, Tryz.ntmps88;go_wp2_with fail;refine (qb5 _ _ _ _).mono ?_;rintro e w1 ⟨rfl,rfl⟩;rw [qfq,h1'];go_wp2_with fail;go_ret;exact ⟨qa8 HC.out.symm,(Ext.refl w).alloc _⟩
theorem jg9 (c:Cube) (y n t:Nat) (hc:CubeOk c y n) (ht:t < 16) (w:World):Calls Tryz.prog 91 #[.agg #[.int .i64 c.yes,.int .i64 c.no],.int .i64 t] w fun e w'=>e=.returned (.bool (qce y n t))∧Ext w w':=by
 obtain ⟨h1,h2,hy,hn,_⟩:=hc;rw [h1,h2];clear h1 h2;have HB:=hid (qu0 y hy n hn t ht);go_enter Tryz.func91, Tryz.ntmps91;go_wp2_with fail;go_loopw [7] (fun i wr=>∃ k:Nat,k≤4∧i=.int .i64 k∧qds (jet y n t) k=true∧Ext (w.alloc (.cells #[.int .i64 y,.int .i64 n] 140)) wr) (fun i _=>4 - (intOf i).toNat)
 case atStart=>exact ⟨0,by omega,rfl,rfl,Ext.refl _⟩
 obtain ⟨k,hk,rfl,hg,hx⟩:=hrel;have HG:=hid hg;clear hg;have q1:wr.cell? ⟨w.heap.size,0,none⟩=some (.int .i64 y):=hx.cell (by go_simp);have q2:wr.cell? ⟨w.heap.size,1,none⟩=some (.int .i64 n):=hx.cell (by go_simp);have al:=((Ext.refl w).alloc _).trans hx
 by_cases aD:k < 4
 ·have k0:(0:Int)≤k:=by omega
  have k4:(k:Int) < 4:=by omega
  have e1:=qtr y k;have e2:=qtr n k;have e3:=qtr t k;have HD:=hid (show jet y n t k=!(bitb y k&&!bitb t k||bitb n k&&bitb t k) from rfl);generalize bitb y k=b1 at *;generalize bitb n k=b2 at *;generalize bitb t k=b3 at *
  cases b1 <;> cases b2 <;> cases b3
  all_goals
   simp only [Bool.false_eq_true,if_true,if_false] at e1 e2 e3;go_wp2_with fail
   first
    | (go_ret
       refine ⟨qa7 ?_,al⟩;rw [HB.out,eq_comm,← Bool.not_eq_true];intro h;have:=(qcy _ 4).1 h k aD;rw [HD.out] at this;exact absurd this (by decide))
    | (go_roundw
       case rel=>exact ⟨k+1,by omega,by go_num,by rw [qds,HG.out,HD.out];rfl,hx⟩
       case measure=>simp [intOf];omega)
 obtain rfl:k=4:=by omega
 go_wp2_with fail;go_ret;exact ⟨qa7 (by rw [HB.out,HG.out]),al⟩
theorem qcr (B:Nat) (A:Option Addr) (c:Nat) (f:List Box) (w:World) (hl:f.length≤maxLen) (h:qaw B w A f) :
  Calls Tryz.prog 72 #[.slice A f.length c] w fun e w'=>e=.returned (.int .i64 (qa0 f))∧Ext w w':=by
 unfold maxLen at hl
 by_cases h40:40 < f.length
 ·go_enter Tryz.func72, Tryz.ntmps72
  go_wp2_with fail;go_ret;exact ⟨qa8 (by simp [qa0,h40]),Ext.refl _⟩
 have HE:=hid (show qa0 f=qcn f by simp [qa0,h40]);go_enter Tryz.func72, Tryz.ntmps72;go_wp2_with fail;go_loopw [12] (fun i wr=>∃ k:Nat,k≤f.length∧i=.int .i64 k∧qcn (f.drop k)=qcn f∧Ext w wr) (fun i _=>f.length - (intOf i).toNat)
 case atStart=>exact ⟨0,Nat.zero_le _,rfl,rfl,Ext.refl _⟩
 obtain ⟨k,hk,rfl,hG,hx⟩:=hrel;have HG:=hid hG;clear hG
 by_cases aD:k < f.length
 ·obtain ⟨b,off,A',c',rfl,hb,g0,g1,g2,bW,hs⟩:=(h.ext RBox.monoE hx).box aD
  have HS:=hid (qk2 f k aD);go_wp2_with fail;refine (qx3 f[k].cube _).mono ?_;rintro e w1 ⟨rfl,aE⟩;have q2:w1.cell? ⟨wr.heap.size,2,none⟩=some (.slice A' f[k].spans.length c'):=aE.cell (by go_simp);have hxr:Ext wr w1:=((Ext.refl wr).alloc _).trans aE;have bX:=hs.ext RPair.mono hxr;replace hx:=hx.trans hxr;clear aE hxr hs
  by_cases hc:qaq f[k].cube=0
  ·rw [hc]
   have HC:=hid hc;clear hc;go_wp2_with fail;refine (qyb B A' c' f[k].spans _ bW bX).mono ?_;rintro e w2 ⟨rfl,aH⟩;replace hx:=hx.trans aH
   by_cases hd:qav f[k].spans=0
   ·rw [hd]
    have HD:=hid hd;clear hd;go_wp2_with fail;go_roundw
    case rel=>exact ⟨k+1,aD,by go_num,by rw [← HG.out,HS.out,if_pos HC.out,if_pos HD.out],hx⟩
    case measure=>simp [intOf];omega
   have aV:(qav f[k].spans !=0)=true:=by simpa using hd
   have HD:=hid hd;clear hd;go_wp2_with fail;go_ret;exact ⟨qa8 (by rw [HE.out,← HG.out,HS.out,if_pos HC.out,if_neg HD.out]),hx⟩
  have aV:(qaq f[k].cube !=0)=true:=by simpa using hc
  have HC:=hid hc;clear hc;go_wp2_with fail;go_ret;exact ⟨qa8 (by rw [HE.out,← HG.out,HS.out,if_neg HC.out]),hx⟩
 obtain rfl:k=f.length:=by omega
 go_wp2_with fail;go_ret;exact ⟨qa8 (by rw [HE.out,← HG.out];simp [qcn]),hx⟩
theorem qfm (B:Nat) (A:Option Addr) (c:Nat) (f:List Box) (w:World) (hl:f.length≤maxLen) (h:qaw B w A f) :
  Calls Tryz.prog 31 #[.slice A f.length c] w fun e w'=>e=.returned (.int .i64 (qa0 f))∧Ext w w':=by
 unfold maxLen at hl
 by_cases h40:40 < f.length
 ·go_enter Tryz.func31, Tryz.ntmps31
  go_wp2_with fail;go_ret;exact ⟨qa8 (by simp [qa0,h40]),Ext.refl _⟩
 have HE:=hid (show qa0 f=qcn f by simp [qa0,h40]);go_enter Tryz.func31, Tryz.ntmps31;go_wp2_with fail;go_loopw [12] (fun i wr=>∃ k:Nat,k≤f.length∧i=.int .i64 k∧qcn (f.drop k)=qcn f∧Ext w wr) (fun i _=>f.length - (intOf i).toNat)
 case atStart=>exact ⟨0,Nat.zero_le _,rfl,rfl,Ext.refl _⟩
 obtain ⟨k,hk,rfl,hG,hx⟩:=hrel;have HG:=hid hG;clear hG
 by_cases aD:k < f.length
 ·obtain ⟨b,off,A',c',rfl,hb,g0,g1,g2,bW,hs⟩:=(h.ext RBox.monoE hx).box aD
  have HS:=hid (qk2 f k aD);go_wp2_with fail;refine (jdd f[k].cube _).mono ?_;rintro e w1 ⟨rfl,aE⟩;have q2:w1.cell? ⟨wr.heap.size,2,none⟩=some (.slice A' f[k].spans.length c'):=aE.cell (by go_simp);have hxr:Ext wr w1:=((Ext.refl wr).alloc _).trans aE;have bX:=hs.ext RPair.mono hxr;replace hx:=hx.trans hxr;clear aE hxr hs
  by_cases hc:qaq f[k].cube=0
  ·rw [hc]
   have HC:=hid hc;clear hc;go_wp2_with fail;refine (jaw B A' c' f[k].spans _ bW bX).mono ?_;rintro e w2 ⟨rfl,aH⟩;replace hx:=hx.trans aH
   by_cases hd:qav f[k].spans=0
   ·rw [hd]
    have HD:=hid hd;clear hd;go_wp2_with fail;go_roundw
    case rel=>exact ⟨k+1,aD,by go_num,by rw [← HG.out,HS.out,if_pos HC.out,if_pos HD.out],hx⟩
    case measure=>simp [intOf];omega
   have aV:(qav f[k].spans !=0)=true:=by simpa using hd
   have HD:=hid hd;clear hd;go_wp2_with fail;go_ret;exact ⟨qa8 (by rw [HE.out,← HG.out,HS.out,if_pos HC.out,if_neg HD.out]),hx⟩
  have aV:(qaq f[k].cube !=0)=true:=by simpa using hc
  have HC:=hid hc;clear hc;go_wp2_with fail;go_ret;exact ⟨qa8 (by rw [HE.out,← HG.out,HS.out,if_neg HC.out]),hx⟩
 obtain rfl:k=f.length:=by omega
 go_wp2_with fail;go_ret;exact ⟨qa8 (by rw [HE.out,← HG.out];simp [qcn]),hx⟩
theorem Own.setBelow {α:Type} {R:World→List Value→α→Prop} {sz:Nat} {e:TypeId} {w:World} {base:Nat} {v:Value} {l:List α} (h:Own R sz e w base v l) {a:Addr} (ha:a.block < base) (u:Value) (m:∀ cs x,R w cs x→R (w.setCell a u) cs x) :
  Own R sz e (w.setCell a u) base v l:=by
 obtain ⟨xs,hx,hR,ho⟩:=h;exact ⟨xs,hx,fun i cs y h1 h2=>⟨(hR i cs y h1 h2).1,m _ _ (hR i cs y h1 h2).2⟩,ownsRow_setCell_below ho ha u⟩
theorem jfc:∀ k,k < 4→wrap64 ((2:Int) ^ k)=((2 ^ k:Nat):Int):=by decide +kernel
end Go.Proofs.YtngbfdogiciahaaGreat
