/- Texts joined. -/
import Derived.Test.YtngbfdogiciahaaGreatDocW
set_option maxRecDepth 100000
set_option maxHeartbeats 40000000
namespace Go.Proofs.YtngbfdogiciahaaGreat
open Go Go.RowKit
def putC (z:Array Value) (o:Nat) (cs:List Value):Array Value:=(cs.zipIdx 0).foldl (fun z (x:Value×Nat)=>z.setIfInBounds (o+x.2) x.1) z
theorem qfz (z:Array Value) (o:Nat) (cs:List Value):(putC z o cs).size=z.size:=(qgp o cs 0 z).1
theorem qit (z:Array Value) (o:Nat) (cs:List Value) (i:Nat):(putC z o cs)[i]?=if o≤i∧i < o+cs.length∧i < z.size then cs[i - o]? else z[i]?:=by
 have:=(qgp o cs 0 z).2 i;unfold putC;simpa using this
theorem qmu {z:Array Value} {o:Nat} {cs:List Value} (hz:z.all (·.oneCell')=true) (hc:∀ u∈cs,u.oneCell'=true):(putC z o cs).all (·.oneCell')=true:=by
 rw [Array.all_eq_true_iff_forall_mem] at hz ⊢;intro u hu;obtain ⟨i,hi⟩:=Array.mem_iff_getElem?.1 hu;rw [qit] at hi;split at hi
 ·exact hc u (List.mem_of_getElem? hi)
 exact hz u (Array.mem_of_getElem? hi)
def qde (z:Array Value):List (Nat×Value)→Array Value
 | []=>z
 | p::r=>qde (putC z p.1 p.2.cells.toList) r
theorem qji:∀ (os:List (Nat×Value)) (z:Array Value),(qde z os).size=z.size
 | [],_=>rfl
 | p::r,z=>by rw [qde,qji r,qfz]
theorem qvp (place:Nat→Option (Nat×Nat)) (off:Nat→Nat):∀ (parts:List (Nat×Value)) (z:Array Value),(∀ p∈parts,place p.1=some (off p.1,p.2.cells.size)∧off p.1+p.2.cells.size≤z.size)→Instr.fill place z parts=some (qde z (parts.map fun p=>(off p.1,p.2)))
 | [],z,_=>rfl
 | (k,v)::r,z,h=>by
  obtain ⟨h1,h2⟩:=h (k,v) (by simp);simp only at h1 h2;have ih:=qvp place off r (putC z (off k) v.cells.toList) (fun p hp=>by rw [qfz];exact h p (by simp [hp]));simp only [Instr.fill,h1];rw [if_neg (by simp;omega),qk4];exact ih
section
variable {P:Program} {w:World} {t:TypeId}
def StructInfo (P:Program) (t:TypeId) (pl:List (Nat×Nat)) (zc:Array Value):Prop:=
 ∃ it z fields,P.info? t=some it∧P.underlying t=some (.struct fields)∧it.zero=some z∧z.cells=zc∧it.size=zc.size∧fields.toList.mapM (fun f=>(P.info? f.type).map fun i=>(f.offset,i.size))=some pl
theorem StructInfo.mk_ {pl:List (Nat×Nat)} {zc:Array Value} {fields:Array Field} (hu:P.underlying t=some (.struct fields)) (hz:(P.info? t).map (fun i=>(i.zero.map (·.cells),i.size))=some (some zc,zc.size)) (hm:fields.toList.mapM (fun f=>(P.info? f.type).map fun i=>(f.offset,i.size))=some pl):StructInfo P t pl zc:=by
 cases h:P.info? t with
 | none=>rw [h] at hz;cases hz
 | some i=>
  rw [h] at hz;simp only [Option.map_some,Option.some.injEq,Prod.mk.injEq] at hz;obtain ⟨h1,h2⟩:=hz
  cases hi:i.zero with
  | none=>rw [hi] at h1;cases h1
  | some z=>
   rw [hi] at h1;simp only [Option.map_some,Option.some.injEq] at h1;exact ⟨i,z,fields,h,hu,hi,h1,h2,hm⟩
theorem jfw {pl:List (Nat×Nat)} {zc:Array Value} (si:StructInfo P t pl zc) (parts:List (Nat×Value)) (off:Nat→Nat) (h:∀ p∈parts,pl.toArray[p.1]?=some (off p.1,p.2.cells.size)∧off p.1+p.2.cells.size≤zc.size):P.built t parts=some (qde zc (parts.map fun p=>(off p.1,p.2))):=by
 obtain ⟨it,z,fields,h1,h2,h3,h4,_,h5⟩:=si;subst h4;unfold Program.built;simp only [h1,h2,h3,h5];exact qvp _ off parts z.cells h
theorem qp6 {o:Oper} {a:Act} {K:Act→World→Prop} {Q:Exit→Act→World→Prop} {pl:List (Nat×Nat)} {zc:Array Value} (si:StructInfo P t pl zc) {ops:Array (Nat×Operand)} (ho:o.op=.build t ops) (parts:List (Nat×Value)) (off:Nat→Nat) (hp:(ops.map fun (x:Nat×Operand)=>(x.1,a.eval x.2))=parts.toArray)
  (h:∀ p∈parts,pl.toArray[p.1]?=some (off p.1,p.2.cells.size)∧off p.1+p.2.cells.size≤zc.size) (hK:K (a.put o.dst (.agg (qde zc (parts.map fun p=>(off p.1,p.2))))) w):o.wp P a w K Q:=by
 unfold Oper.wp execOp;have hr:=run_build (P:=P) w t parts.toArray (qde zc (parts.map fun p=>(off p.1,p.2))) (jfw si parts off h);simp only [ho,Sem.run_bind];rw [show (ops.map fun (i,x)=>(i,a.eval x))=parts.toArray from hp,hr];exact hK
theorem qrh {ops0:Array Oper} {rest:List Oper} {o:Oper} {a:Act} {Q:Exit→Act→World→Prop} {pl:List (Nat×Nat)} {zc:Array Value} (si:StructInfo P t pl zc) {ops:Array (Nat×Operand)} (ho:o.op=.build t ops) (hg:o.guard=none) (parts:List (Nat×Value)) (off:Nat→Nat) (hp:(ops.map fun (x:Nat×Operand)=>(x.1,a.eval x.2))=parts.toArray)
  (h:∀ p∈parts,pl.toArray[p.1]?=some (off p.1,p.2.cells.size)∧off p.1+p.2.cells.size≤zc.size) (hK:wpList P ops0 Q rest (a.put o.dst (.agg (qde zc (parts.map fun p=>(off p.1,p.2))))) w):wpList P ops0 Q (o::rest) a w:=
 wpList_plain hg fun _ hk=>qp6 si ho parts off hp h (hk _ _ hK)
end
def zAsk:Array Value:=#[.int .i64 0,.int .i64 0]++rowB 512 (fun _=>false)++#[.slice none 0 0]
theorem qky:zAsk.size=515:=by unfold zAsk;simp [qa6]
theorem je7:zAsk.all (·.oneCell')=true:=by unfold zAsk;rw [Array.all_append,Array.all_append,qfg];simp [Value.oneCell']
theorem jb4:StructInfo Tryz.prog 83 [(0,1),(1,1),(2,512),(514,1)] zAsk:=StructInfo.mk_ Tryz.underlying83 (by kernel_rfl) (by kernel_rfl)
theorem jbz:qcm Tryz.prog 83 zAsk:=fun w=>by kernel_rfl
theorem quw:qc0 Tryz.prog 83 515:=⟨⟨_,Tryz.underlying83,rfl⟩,by kernel_rfl⟩
def qjs:Nat→Nat | 0=>0 | 1=>1 | 2=>2 | _=>514
theorem qpi (x y:Int) (F:Nat→Bool) (v:Value) {A:Option Addr} {n c:Nat} (hv:v=.slice A n c:=by rfl):∀ p∈[(0,.int .i64 x),(1,.int .i64 y),(2,.agg (rowB 512 F)),(3,v)],([(0,1),(1,1),(2,512),(514,1)]:List (Nat×Nat)).toArray[p.1]?=some (qjs p.1,p.2.cells.size)∧qjs p.1+p.2.cells.size≤zAsk.size:=by
 subst hv;intro p hp;rw [qky];simp only [List.mem_cons,List.not_mem_nil,or_false] at hp;rcases hp with rfl | rfl | rfl | rfl
 ·exact ⟨rfl,by simp [qjs,Value.cells]⟩
 ·exact ⟨rfl,by simp [qjs,Value.cells]⟩
 ·exact ⟨by simp [qjs,Value.cells,qa6],by simp [qjs,Value.cells,qa6]⟩
 exact ⟨rfl,by simp [qjs,Value.cells]⟩
structure AskC (cs:Array Value) (site stamp:Int) (F:Nat→Bool) (A:Option Addr) (n c:Nat):Prop where
 size:cs.size=515
 c0:cs[0]?=some (.int .i64 site)
 c1:cs[1]?=some (.int .i64 stamp)
 cF:∀ j,j < 512→cs[2+j]?=some (.bool (F j))
 c5:cs[514]?=some (.slice A n c)
 one:cs.all (·.oneCell')=true
theorem qfk (k:IntKind) (x:Int):(Value.int k x).cells.toList=[.int k x]:=rfl
theorem qhx (A:Option Addr) (n c:Nat):(Value.slice A n c).cells.toList=[.slice A n c]:=rfl
theorem qfj (cs:Array Value):(Value.agg cs).cells.toList=cs.toList:=rfl
theorem qvf (site stamp:Int) (F:Nat→Bool) (A:Option Addr) (n c:Nat):AskC (qde zAsk [(0,.int .i64 site),(1,.int .i64 stamp),(2,.agg (rowB 512 F)),(514,.slice A n c)]) site stamp F A n c:=by
 have hl:(rowB 512 F).toList.length=512:=by rw [Array.length_toList,qa6]
 have hz:=qky;refine ⟨by rw [qji];exact hz,?_,?_,fun j hj=>?_,?_,?_⟩
 ·simp only [qde,qfk,qhx,qfj,qit,qfz,hz,hl]
  simp
 ·simp only [qde,qfk,qhx,qfj,qit,qfz,hz,hl]
  simp
 ·simp only [qde,qfk,qhx,qfj,qit,qfz,hz,hl]
  rw [if_neg (by simp;omega),if_pos (by omega),show 2+j - 2=j by omega,Array.getElem?_toList];exact qeb _ hj
 ·simp only [qde,qfk,qhx,qfj,qit,qfz,hz,hl]
  simp
 simp only [qde,qfk,qhx,qfj];refine qmu (qmu (qmu (qmu je7 ?_) ?_) ?_) ?_
 ·intro u hu;simp at hu;subst hu;rfl
 ·intro u hu;simp at hu;subst hu;rfl
 ·intro u hu
  exact Array.all_eq_true_iff_forall_mem.1 (qfg 512 F) u (Array.mem_toList_iff.1 hu)
 intro u hu;simp at hu;subst hu;rfl
theorem jep (B:Nat) (r:Nat) (s:SiteS) (F:Nat→Bool) (J:List RP) (w:World) (aO:SiteOk s) (hlk:J.length≤900) (h:IsDoc B w r s F J) :
  Calls Tryz.prog 39 #[.pointer (some ⟨r,0,none⟩)] w fun e w'=>∃ ca A c,e=.returned (.agg ca)∧AskC ca s.me s.stamp F A (qd5 s J).length c∧qe3 0 w' A (qd5 s J)∧Ext w w':=by
 have HD:=hid h;obtain ⟨AL,cL,AP,cP,h⟩:=h;have aZ:=hid aO;have HLK:=hid hlk;have HC:=hid (show (w.cell? ⟨r,0,none⟩=some (.int .i64 s.me))∧(w.cell? ⟨r,2,none⟩=some (.int .i64 s.stamp))∧w.rangeAt r 3 (rowB 512 F).toList from ⟨h.c0,h.c2,h.cF⟩);have eC:=hid (fun w' (x:Ext w w')=>show w'.cell? ⟨r,0,none⟩=some (.int .i64 s.me)∧w'.cell? ⟨r,2,none⟩=some (.int .i64 s.stamp)∧w'.rangeAt r 3 (rowB 512 F).toList from ⟨x.cell HC.out.1,x.cell HC.out.2.1,fun j v hv=>x.cell (HC.out.2.2 j v hv)⟩);clear h aO hlk;go_enter Tryz.func39, Tryz.ntmps39;go_wp2_with ((with_reducible refine qa2 (o:=⟨some 2,_,_,_,_,_⟩) jbz rfl rfl ?_);intro w1 aE aX bX);have bq:=hid aE;have HBA:=hid (fun w' (x:Ext w1 w')=>aX.ext x);have aB:=hid (fun w' (x:Ext w1 w')=>eC.out w' (bq.out.trans x));clear aE aX bX;have aA:=(Ext.refl w1).drew;refine wp_region_held_drew (S:=fun w'=>w'.cell? ⟨r,0,none⟩=some (.int .i64 s.me)∧w'.cell? ⟨r,2,none⟩=some (.int .i64 s.stamp)∧w'.rangeAt r 3 (rowB 512 F).toList) (by kernel_rfl) (aB.out _ aA) (fun hHeld=>?_)
 obtain ⟨wc,aS⟩:=ex1 w1.drew;rw [← aS] at hHeld aA ⊢;clear aS;refine tkA 0 _ rfl ?_;(try simp only [gq,pq]);refine tkA 1 _ rfl ?_;(try simp only [gq,pq]);refine tkA 2 _ rfl ?_;(try simp only [gq,pq]);refine tkA 3 _ rfl ?_;(try simp only [gq,pq]);refine tkA 4 _ rfl ?_;(try simp only [gq,pq]);refine tkA 5 _ rfl ?_;(try simp only [gq,pq]);refine tkA 6 _ rfl ?_;(try simp only [gq,pq]);refine tkA 7 _ rfl ?_;(try simp only [gq,pq]);refine tkA 8 _ rfl ?_;(try simp only [gq,pq]);refine tkA 9 _ rfl ?_;(try simp only [gq,pq]);refine tkA 10 _ rfl ?_;(try simp only [gq,pq]);refine wpAnyH_take (i:=11) (oi:=_) (v:=_) rfl (by kernel_rfl) (by kernel_rfl) (by kernel_rfl) (fun _ _ _ h=>h) (qeu qbb (by rfl) (.tmp 13) rfl (by rfl) (fun w' hS=>hS.2.2) (qa6 _ _)) (by assumption) ?_;(try simp only [gq,pq]);refine tkA 12 _ rfl ?_;(try simp only [gq,pq]);refine rd1 13 rfl fun K hK=>?_;simp only [gq];go_simp;refine (qk0 B r s F J wc aZ.out HLK.out (HD.out.ext (bq.out.trans aA))).mono ?_
 rintro e wn ⟨v13,rfl,ho13,aC⟩;dsimp only;obtain ⟨A3,c3,rfl,-,-⟩:=ho13.len;have bv:=ho13.sl 0;have hge3:=aA.size;replace aA:=aA.trans aC;clear aC;obtain ⟨wc,rfl⟩:=ex1 wn;refine hK.out _ _ (aB.out _ aA) (fun hHeld=>?_);clear hK K;(try simp only [pq]);refine rd1 14 rfl fun K hK=>?_;simp only [gq];simp only [Region.wanted,if_true];refine qp6 jb4 rfl [(0,.int .i64 s.me),(1,.int .i64 s.stamp),(2,.agg (rowB 512 F)),(3,.slice A3 (qd5 s J).length c3)] qjs (by simp only [List.map_toArray,List.map_cons,List.map_nil];rfl) (qpi _ _ _ _) ?_;obtain ⟨ca,hca⟩:=ex1 (qde zAsk [(0,.int .i64 s.me),(1,.int .i64 s.stamp),(2,.agg (rowB 512 F)),(514,.slice A3 (qd5 s J).length c3)]);have hac:AskC ca s.me s.stamp F A3 (qd5 s J).length c3:=by rw [hca];exact qvf _ _ _ _ _ _
 show K (Act.put _ _ (.agg (qde zAsk [(0,.int .i64 s.me),(1,.int .i64 s.stamp),(2,.agg (rowB 512 F)),(514,.slice A3 (qd5 s J).length c3)]))) wc;rw [← hca];clear hca;refine hK.out _ _ (aB.out _ aA) (fun hHeld=>?_);clear hK K;(try simp only [pq]);refine rd1 15 rfl fun K hK=>?_;simp only [gq];simp only [Region.wanted,if_true];have cB:=HBA.out wc aA;with_reducible refine qes (b:=w.heap.size) (cs:=ca) (old:=zAsk) (n:=515) (t:=83) quw (.tmp 2) (.tmp 17) rfl ?_ ?_ cB hac.size qky hac.one ?_
 ·rfl
 ·rfl
 intro wn aw fG _ hot;have ah:Chg 0 [83] wc wn:=qf5 cB aw hot (Nat.zero_le _);have al:=(bq.out.trans aA).below aw (Nat.le_refl _);replace bv:=bv.chg RRef.mono (by decide) ah;refine hK.out _ _ (eC.out wn al) (fun hHeld=>?_);clear hHeld hot aw cB aA ah;clear hK K;(try simp only [Act.put]);refine wpAnyH_done (by kernel_rfl) ?_ _;clear aB;go_wp2_with fail;refine qgi rfl quw rfl fG hac.size rfl ⟨ca,A3,c3,rfl,hac,bv,al⟩
end Go.Proofs.YtngbfdogiciahaaGreat
