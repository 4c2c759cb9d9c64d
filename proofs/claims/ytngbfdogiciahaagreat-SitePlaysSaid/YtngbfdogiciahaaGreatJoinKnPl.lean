/- Texts joined. -/
import Derived.Test.YtngbfdogiciahaaGreatKnI
import Derived.Lib.Bytealg
import Derived.Lib.Strings
import Derived.Deep.RegionWith
import Derived.Deep.DeepCutAuto
set_option maxRecDepth 100000
set_option maxHeartbeats 40000000
namespace Go.Proofs.YtngbfdogiciahaaGreat
open Go Go.RowKit
theorem qng {k:Know} (hk:KnowOk k):jc2 (hasK k):=by
 intro s c h;simp only [hasK,Bool.or_eq_true,Bool.and_eq_true,decide_eq_true_eq,List.contains_iff_mem] at h;obtain ⟨h1,h2 | h2⟩:=h
 ·have hb:=qkq hk.vec s
  refine ⟨?_,h1,by omega⟩;apply Nat.lt_of_not_le;intro hn;rw [qkr (by have:=hk.vlen;omega)] at h2;omega
 obtain ⟨o1,o2,o3,o4⟩:=qar.1 (hk.more _ h2).1;simp only at o1 o2 o3 o4;omega
def eqD (S T:DSet):Bool:=qds (fun i=>qds (fun k=>((qb3 S i k:Nat):Int)==((qb3 T i k:Nat):Int)) 16) 5
theorem qqj (S T:DSet):eqD S T=true↔qn6 S T:=by
 unfold eqD qn6;rw [qcy];constructor
 ·intro h s hs k hk
  have h1:=(qcy _ _).1 (h s hs) k hk;rw [beq_iff_eq] at h1;omega
 intro h s hs;refine (qcy _ _).2 fun k hk=>?_;rw [beq_iff_eq,h s hs k hk]
theorem qzl (k:Know) (s c:Nat) (hc:1≤c):inK k ⟨(s:Int),(c:Int)⟩=hasK k s c:=by
 simp only [inK,hasK,decide_eq_true hc,Bool.true_and]
def qdp:List Part→Int
 | []=>0
 | p::r=>if qa0 p.filter=0 then (if qa4 p.know=0 then qdp r else qa4 p.know) else qa0 p.filter
def qac (l:List Part):Int:=if 30 < l.length then 2 else qdp l
theorem qma (l:List Part) (k:Nat) (hk:k < l.length):qdp (l.drop k)=if qa0 l[k].filter=0 then (if qa4 l[k].know=0 then qdp (l.drop (k+1)) else qa4 l[k].know) else qa0 l[k].filter:=by
 rw [List.drop_eq_getElem_cons hk,qdp]
structure PartOk (p:Part):Prop where
 f:qa0 p.filter=0
 k:KnowOk p.know
theorem qlh:∀ l:List Part,qdp l=0↔∀ p∈l,PartOk p
 | []=>by simp [qdp]
 | p::r=>by
  rw [qdp]
  by_cases h1:qa0 p.filter=0
  ·rw [if_pos h1]
   by_cases h2:qa4 p.know=0
   ·rw [if_pos h2,qlh r]
    simp only [List.mem_cons,forall_eq_or_imp];exact ⟨fun h=>⟨⟨h1,qb0.1 h2⟩,h⟩,fun h=>h.2⟩
   rw [if_neg h2];exact ⟨fun h=>absurd h h2,fun h=>absurd (qb0.2 (h p (by simp)).k) h2⟩
  rw [if_neg h1];exact ⟨fun h=>absurd h h1,fun h=>absurd (h p (by simp)).f h1⟩
theorem qci {l:List Part} (h:qac l=0):l.length≤30∧∀ p∈l,PartOk p:=by
 unfold qac at h
 by_cases hl:30 < l.length
 ·rw [if_pos hl] at h;cases h
 rw [if_neg hl] at h;exact ⟨by omega,(qlh l).1 h⟩
theorem qhh {l:List Part} (h:l.length≤30) (hp:∀ p∈l,PartOk p):qac l=0:=by
 rw [qac,if_neg (by omega),(qlh l).2 hp]
def qpw (p:Point) (d:Dot) (x:Part):Bool:=qbd x.filter p&&inK x.know d
def qdd (l:List Part) (p:Point) (d:Dot):Bool:=l.any (qpw p d)
structure RP where
 P:Nat→Bool
 K:DSet
def qd1 (x:Part):RP:=⟨pts x.filter,hasK x.know⟩
def qkb (l:List RP) (i s c:Nat):Bool:=l.any fun x=>x.P i&&x.K s c
theorem qjr {α:Type} (q:α→Bool) (f:List α) (k:Nat) (hk:k < f.length):(f.take (k+1)).any q=((f.take k).any q||q f[k]):=by
 rw [List.take_succ_eq_append_getElem hk,List.any_append];simp
theorem qsn (l:List Part) (p:Point) (hp:qaz p=true) (s c:Nat) (hc:1≤c):qdd l p ⟨(s:Int),(c:Int)⟩=qkb (l.map qd1) (32*p.tags+p.num).toNat s c:=by
 unfold qdd qkb qpw;rw [List.any_map];congr 1;funext x;simp only [Function.comp,qd1,qi3 x.filter hp,qzl x.know s c hc]
def qew (a b:List Part):Int:=if qac a=0 then qac b else qac a
theorem qoa (s c:Nat):∀ (vs:List (List Int)) (m:Int),(c:Int)≤vs.foldl (fun m l=>max m (qab l s)) m↔(c:Int)≤m∨∃ v∈vs,(c:Int)≤qab v s
 | [],m=>by simp
 | v::r,m=>by
  rw [List.foldl_cons,qoa s c r];simp only [List.mem_cons,exists_eq_or_imp];constructor
  ·rintro (h | h)
   ·by_cases h1:(c:Int)≤m
    ·exact .inl h1
    exact .inr (.inl (by omega))
   exact .inr (.inr h)
  rintro (h | h | h)
  ·exact .inl (by omega)
  ·exact .inl (by omega)
  exact .inr h
theorem qzz (s c:Nat) (hc:1≤c) (vs:List (List Int)):(c:Int)≤qkf vs s↔∃ v∈vs,(c:Int)≤qab v s:=by
 rw [qkf,qoa];exact ⟨fun h=>h.resolve_left (by omega),.inr⟩
theorem qv0 {α:Type} (f:α→Know) (l:List α) (s c:Nat) (hc:1≤c):qjl (l.map fun x=>(f x).vec) (l.flatMap fun x=>(f x).more) s c=l.any fun x=>hasK (f x) s c:=by
 rw [Bool.eq_iff_iff];simp only [qjl,hasK,List.any_eq_true,Bool.and_eq_true,Bool.or_eq_true,decide_eq_true_eq,List.contains_iff_mem,qzz s c hc,List.mem_map,List.mem_flatMap];constructor
 ·rintro ⟨_,⟨v,⟨x,hx,rfl⟩,h⟩ | ⟨x,hx,h⟩⟩
  ·exact ⟨x,hx,hc,.inl h⟩
  exact ⟨x,hx,hc,.inr h⟩
 rintro ⟨x,hx,_,h | h⟩
 ·exact ⟨hc,.inl ⟨_,⟨x,hx,rfl⟩,h⟩⟩
 exact ⟨hc,.inr ⟨x,hx,h⟩⟩
theorem qna {p q:Nat→Bool}:∀ n,(∀ i,i < n→p i=q i)→qds p n=qds q n
 | n,h=>by
  rw [Bool.eq_iff_iff,qcy,qcy];exact ⟨fun g i hi=>by rw [← h i hi];exact g i hi,fun g i hi=>by rw [h i hi];exact g i hi⟩
structure Version where
 id:ByteArray
 dot:Dot
 pt:Point
 body:Int
 past:Know
def byteOk (b:UInt8):Bool:=!(decide ((b.toNat:Int) < 97)||decide ((122:Int) < (b.toNat:Int)))
def idOk (s:ByteArray):Bool:=(!s.toList.isEmpty&&decide (s.size≤8))&&s.data.toList.all byteOk
def sEq (a b:ByteArray):Bool:=a.toList==b.toList
theorem qhj {a b:ByteArray}:sEq a b=true↔a=b:=by
 unfold sEq;rw [beq_iff_eq,Lib.toList_data,Lib.toList_data];constructor
 ·intro h
  obtain ⟨⟨x⟩⟩:=a;obtain ⟨⟨y⟩⟩:=b;simp at h;rw [h]
 intro h;rw [h]
def qdu (n:Int):Bool:=decide (0≤n)&&decide (n≤1000000)
def qas (v:Version):Int:=if idOk v.id=true then (if (qb8 v.dot&&(qaz v.pt&&qdu v.body))=true then (if qa4 v.past=0 then (if inK v.past v.dot=true then 3 else 0) else qa4 v.past) else 1) else 3
structure VerOk (v:Version):Prop where
 id:idOk v.id=true
 dot:qb8 v.dot=true
 pt:qaz v.pt=true
 body:qdu v.body=true
 k:KnowOk v.past
 new:inK v.past v.dot=false
theorem qm7 {k:Know} (h:qa4 k=0):KnowOk k:=qb0.1 h
theorem qeq {v:Version}:qas v=0↔VerOk v:=by
 unfold qas
 by_cases h1:idOk v.id=true
 ·rw [if_pos h1]
  by_cases h2:(qb8 v.dot&&(qaz v.pt&&qdu v.body))=true
  ·rw [if_pos h2]
   simp only [Bool.and_eq_true] at h2
   by_cases h3:qa4 v.past=0
   ·rw [if_pos h3]
    by_cases h4:inK v.past v.dot=true
    ·rw [if_pos h4]
     exact ⟨fun h=>(by cases h),fun h=>by rw [h.new] at h4;cases h4⟩
    rw [if_neg h4];exact ⟨fun _=>⟨h1,h2.1,h2.2.1,h2.2.2,qb0.1 h3,by simpa using h4⟩,fun _=>rfl⟩
   rw [if_neg h3];exact ⟨fun h=>absurd h h3,fun h=>absurd (qb0.2 h.k) h3⟩
  rw [if_neg h2];exact ⟨fun h=>(by cases h),fun h=>absurd (by rw [h.dot,h.pt,h.body];rfl) h2⟩
 rw [if_neg h1];exact ⟨fun h=>(by cases h),fun h=>absurd h.id h1⟩
def cmpS (a b:ByteArray):Int:=Lib.compareBytes a.data.toList b.data.toList
theorem qjx:∀ x y:List UInt8,Lib.compareBytes x y=0↔x=y
 | [],[]=>by simp [Lib.compareBytes]
 | [],_::_=>by simp [Lib.compareBytes]
 | _::_,[]=>by simp [Lib.compareBytes]
 | a::x,b::y=>by
  rw [Lib.compareBytes]
  by_cases h1:a < b
  ·rw [if_pos h1]
   constructor
   ·intro h;cases h
   intro h;injection h with h _;subst h;exact absurd h1 (UInt8.lt_irrefl _)
  rw [if_neg h1]
  by_cases h2:b < a
  ·rw [if_pos h2]
   constructor
   ·intro h;cases h
   intro h;injection h with h _;subst h;exact absurd h2 (UInt8.lt_irrefl _)
  rw [if_neg h2,qjx x y];have hab:a=b:=by
   apply UInt8.toNat_inj.1;have h3:¬ a.toNat < b.toNat:=h1;have h4:¬ b.toNat < a.toNat:=h2;omega
  simp [hab]
theorem qyu:∀ x y:List UInt8,Lib.compareBytes x y < 0↔Op.bytesLess x y=true
 | [],[]=>by simp [Lib.compareBytes,Op.bytesLess]
 | [],_::_=>by simp [Lib.compareBytes,Op.bytesLess]
 | _::_,[]=>by simp [Lib.compareBytes,Op.bytesLess]
 | a::x,b::y=>by
  rw [Lib.compareBytes,Op.bytesLess]
  by_cases h1:a < b
  ·rw [if_pos h1];simp [h1]
  rw [if_neg h1]
  by_cases h2:b < a
  ·rw [if_pos h2]
   have aV:(a==b)=false:=by
    rw [beq_eq_false_iff_ne];rintro rfl;exact UInt8.lt_irrefl _ h2
   simp [h1,aV]
  rw [if_neg h2,qyu x y];have hab:a=b:=by
   apply UInt8.toNat_inj.1;have h3:¬ a.toNat < b.toNat:=h1;have h4:¬ b.toNat < a.toNat:=h2;omega
  simp [hab]
def qbw (a b:Version):Int:=if cmpS a.id b.id≠0 then cmpS a.id b.id else if a.dot.site≠b.dot.site then a.dot.site - b.dot.site else a.dot.count - b.dot.count
def qbi (a b:Version):Bool:=if sEq a.id b.id=true then (if a.dot.site=b.dot.site then decide (a.dot.count < b.dot.count) else decide (a.dot.site < b.dot.site)) else Op.bytesLess a.id.toList b.id.toList
theorem qkv {a b:Version}:qbw a b < 0↔qbi a b=true:=by
 unfold qbw qbi
 by_cases h:a.id=b.id
 ·have h0:cmpS a.id b.id=0:=(qjx _ _).2 (by rw [h])
  rw [if_neg (by simp [h0]),if_pos (qhj.2 h)]
  by_cases hs:a.dot.site=b.dot.site
  ·rw [if_neg (by simp [hs]),if_pos hs,decide_eq_true_eq];omega
  rw [if_pos hs,if_neg hs,decide_eq_true_eq];omega
 have h0:cmpS a.id b.id≠0:=fun e=>h (qhj.1 (by unfold sEq;rw [beq_iff_eq,Lib.toList_data,Lib.toList_data];exact (qjx _ _).1 e));rw [if_pos h0,if_neg (fun e=>h (qhj.1 e))];unfold cmpS;rw [qyu,Lib.toList_data,Lib.toList_data]
theorem qhn {a b:Version}:qbw a b=0↔a.id=b.id∧a.dot=b.dot:=by
 unfold qbw
 by_cases h:a.id=b.id
 ·have h0:cmpS a.id b.id=0:=(qjx _ _).2 (by rw [h])
  rw [if_neg (by simp [h0])]
  by_cases hs:a.dot.site=b.dot.site
  ·rw [if_neg (by simp [hs])]
   exact ⟨fun e=>⟨h,Dot.ext' hs (by omega)⟩,fun e=>by rw [e.2];omega⟩
  rw [if_pos hs];exact ⟨fun e=>by omega,fun e=>absurd (by rw [e.2]) hs⟩
 have h0:cmpS a.id b.id≠0:=fun e=>h (qhj.1 (by unfold sEq;rw [beq_iff_eq,Lib.toList_data,Lib.toList_data];exact (qjx _ _).1 e));rw [if_pos h0];exact ⟨fun e=>absurd e h0,fun e=>absurd e.1 h⟩
def over (a b:Version):Bool:=sEq a.id b.id&&inK a.past b.dot
def qju (prev:Option Version) (v:Version):Bool:=match prev with | none=>false | some u=>!qbi u v
def qbz:Option Version→List Version→Int
 | _,[]=>0
 | prev,v::r=>if qas v=0 then (if qju prev v=true then 3 else qbz (some v) r) else qas v
def qdx (l:List Version):Bool:=l.any fun v=>l.any fun w=>over w v
def qae (l:List Version):Int:=if 60 < l.length then 2 else if qbz none l=0 then (if qdx l=true then 6 else 0) else qbz none l
def qli (l:List Version) (k:Nat):Option Version:=if k=0 then none else l[k - 1]?
theorem qge (l:List Version) (k:Nat) (hk:k < l.length):qbz (qli l k) (l.drop k)=if qas l[k]=0 then (if qju (qli l k) l[k]=true then 3 else qbz (qli l (k+1)) (l.drop (k+1))) else qas l[k]:=by
 rw [List.drop_eq_getElem_cons hk,qbz];have:qli l (k+1)=some l[k]:=by simp [qli,hk]
 rw [this]
theorem qjm:∀ (l:List Version) (prev:Option Version),qbz prev l=0→∀ v∈l,VerOk v
 | [],_,_=>by simp
 | v::r,prev,h=>by
  rw [qbz] at h
  by_cases h1:qas v=0
  ·rw [if_pos h1] at h
   by_cases h2:qju prev v=true
   ·rw [if_pos h2] at h;cases h
   rw [if_neg h2] at h;intro u hu;rcases List.mem_cons.1 hu with rfl | hu
   ·exact qeq.1 h1
   exact qjm r _ h u hu
  rw [if_neg h1] at h;exact absurd h h1
structure ShelfOk (l:List Version):Prop where
 len:l.length≤60
 all:∀ v∈l,VerOk v
 go:qbz none l=0
 new:qdx l=false
theorem qcw {l:List Version} (h:qae l=0):ShelfOk l:=by
 unfold qae at h
 by_cases h1:60 < l.length
 ·rw [if_pos h1] at h;cases h
 rw [if_neg h1] at h
 by_cases h2:qbz none l=0
 ·rw [if_pos h2] at h
  by_cases h3:qdx l=true
  ·rw [if_pos h3] at h;cases h
  exact ⟨by omega,qjm l none h2,h2,by simpa using h3⟩
 rw [if_neg h2] at h;exact absurd h h2
theorem qc5 {l:List Version} (h:ShelfOk l):qae l=0:=by
 rw [qae,if_neg (by have:=h.len;omega),if_pos h.go,h.new];rfl
def getL (l:List Version) (id:ByteArray):List Version:=l.filter fun v=>sEq v.id id
def qdi (l:List Version):List (List Int):=l.map fun v=>v.past.vec
def qd6 (l:List Version):List Dot:=l.flatMap fun v=>v.past.more++[v.dot]
def quq (l:List Version):Know:=qb2 (qjl (qdi l) (qd6 l))
def qc3 (l:List Version):DSet:=fun s c=>l.any fun v=>hasK v.past s c||(decide (s=v.dot.site.toNat)&&decide (c=v.dot.count.toNat))
theorem qqo (l:List Version) (id:ByteArray) (k:Nat) (hk:k < l.length) (h:sEq l[k].id id=true):getL (l.take (k+1)) id=getL (l.take k) id++[l[k]]:=by
 unfold getL;rw [List.take_succ_eq_append_getElem hk,List.filter_append];simp [h]
theorem qze (l:List Version) (id:ByteArray) (k:Nat) (hk:k < l.length) (h:sEq l[k].id id=false):getL (l.take (k+1)) id=getL (l.take k) id:=by
 unfold getL;rw [List.take_succ_eq_append_getElem hk,List.filter_append];simp [h]
theorem qst (l:List Version) (k:Nat) (hk:k < l.length) (s c:Nat) (hd:l[k].dot=⟨(s:Int),(c:Int)⟩):qc3 (l.take (k+1))=qh1 (orD (qc3 (l.take k)) (hasK l[k].past)) s c:=by
 funext t b;unfold qc3 qh1 orD;rw [List.take_succ_eq_append_getElem hk,List.any_append];simp [hd,Bool.or_assoc]
theorem jan {l:List Version} (h:∀ v∈l,VerOk v):quq l=qb2 (qc3 l):=by
 apply qg7;intro s hs c hc ad;have h1:=qv0 (fun v:Version=>(⟨v.past.vec,v.past.more++[v.dot]⟩:Know)) l s c hc;unfold qdi qd6;rw [h1];unfold qc3;rw [Bool.eq_iff_iff,List.any_eq_true,List.any_eq_true];have key:∀ x∈l,hasK ⟨x.past.vec,x.past.more++[x.dot]⟩ s c=(hasK x.past s c||(decide (s=x.dot.site.toNat)&&decide (c=x.dot.count.toNat))):=by
  intro x hx;have hd:=qar.1 (h x hx).dot;have he:(⟨(s:Int),(c:Int)⟩:Dot)=x.dot↔s=x.dot.site.toNat∧c=x.dot.count.toNat:=by
   constructor
   ·intro e;rw [← e];simp
   rintro ⟨e1,e2⟩;exact Dot.ext' (by show (s:Int)=x.dot.site;omega) (by show (c:Int)=x.dot.count;omega)
  rw [Bool.eq_iff_iff];simp only [hasK,Bool.and_eq_true,Bool.or_eq_true,decide_eq_true_eq,List.contains_iff_mem,List.mem_append,List.mem_singleton,he];constructor
  ·rintro ⟨a,b | b | b⟩
   ·exact .inl ⟨a,.inl b⟩
   ·exact .inl ⟨a,.inr b⟩
   exact .inr b
  rintro (⟨a,b | b⟩ | b)
  ·exact ⟨a,.inl b⟩
  ·exact ⟨a,.inr (.inl b)⟩
  exact ⟨hc,.inr (.inr b)⟩
 constructor
 ·rintro ⟨x,hx,h2⟩
  exact ⟨x,hx,(key x hx) ▸ h2⟩
 rintro ⟨x,hx,h2⟩;exact ⟨x,hx,(key x hx).trans h2⟩
theorem qfp:qht Tryz.prog 73 512:=⟨⟨_,_,Tryz.underlying73⟩,by kernel_rfl⟩
theorem ql0:qcm Tryz.prog 73 (rowB 512 fun _=>false):=fun w=>by kernel_rfl
theorem jf9 (b:Box) (h:qaq b.cube=0) (t:Nat) (ht:t < 16) (w:World):Calls Tryz.prog 91 #[.agg #[.int .i64 b.cube.yes,.int .i64 b.cube.no],.int .i64 t] w fun e w'=>e=.returned (.bool (qd9 b t))∧Ext w w':=by
 obtain ⟨y,n,hc⟩:=qnk h;rw [show qd9 b t=qce y n t by rw [qd9,hc.yes,hc.no,Int.toNat_natCast,Int.toNat_natCast]];exact jg9 b.cube y n t hc ht w
theorem qn3 (a b:Nat):Int.tmod (a:Int) (b:Int)=((a % b:Nat):Int):=(Int.ofNat_tmod a b).symm
theorem qn2 (a b:Nat):Int.tdiv (a:Int) (b:Int)=((a / b:Nat):Int):=(Int.ofNat_tdiv a b).symm
theorem qsv (B:Nat) (A:Option Addr) (c:Nat) (f:List Box) (w:World) (hl:f.length≤maxLen) (aO:∀ b∈f,qgl b) (h:qaw B w A f) :
  Calls Tryz.prog 32 #[.slice A f.length c] w fun e w'=>e=.returned (.agg (rowB 512 (pts f)))∧Ext w w':=by
 unfold maxLen at hl;have aZ:=hid aO;clear aO;go_enter Tryz.func32, Tryz.ntmps32;go_wp2_with (first
  | ((with_reducible refine qa2 (o:=⟨some 2,_,_,_,_,_⟩) ql0 rfl rfl ?_);intro w1 aE aX bX)
  | ((with_reducible refine qa2 (o:=⟨some 3,_,_,_,_,_⟩) ql0 rfl rfl ?_);intro w2 aH aI bC))
 have hx2':=aE.trans aH;have aL:Blk w2 (w.heap.size+1) 73 (rowB 512 fun _=>false):=by rw [← bX];exact aI
 have hb1':=aX.ext aH;go_loopw [10] (fun i wr=>∃ k:Nat,k≤f.length∧i=.int .i64 k∧Blk wr (w.heap.size+1) 73 (rowB 512 (pts (f.take k)))∧Blk wr w.heap.size 73 (rowB 512 fun _=>false)∧Ext w wr) (fun i _=>f.length - (intOf i).toNat)
 case atStart=>exact ⟨0,Nat.zero_le _,rfl,aL,hb1',hx2'⟩
 clear aX aI aL hb1' aE aH hx2' bX bC;obtain ⟨k,hk,rfl,hb,aq,hx⟩:=hrel
 by_cases aD:k < f.length
 ·obtain ⟨b,off,A',c',rfl,aw,g0,g1,g2,bW,hs⟩:=(h.ext RBox.monoE hx).box aD
  have hbok:=aZ.out _ (List.getElem_mem aD);obtain ⟨hso,hsn⟩:=qe6 hbok.2;have HBC:=hid hbok.1;have HSO:=hid hso;clear hbok hso;go_wp2_with fail;refine (jfa B A' c' f[k].spans _ bW HSO.out (hs.ext RPair.mono ((Ext.refl wr).alloc _))).mono ?_;rintro e w3 ⟨rfl,aM⟩;have p0:w3.cell? ⟨wr.heap.size,0,none⟩=some (.int .i64 f[k].cube.yes):=aM.cell (by go_simp);have p1:w3.cell? ⟨wr.heap.size,1,none⟩=some (.int .i64 f[k].cube.no):=aM.cell (by go_simp);have aC:=((Ext.refl wr).alloc (.cells #[.int .i64 f[k].cube.yes,.int .i64 f[k].cube.no,.slice A' f[k].spans.length c'] 142)).trans aM;go_wp2_with (first
   | ((with_reducible refine qa2 (o:=⟨some 6,_,_,_,_,_⟩) qva rfl rfl ?_);intro w5 bN au bP)
   | ((with_reducible refine qau (o:=⟨none,_,_,_,_,_⟩) qqc _ _ rfl rfl rfl rfl au (qa6 _ _) (qa6 _ _) (qfg _ _) ?_);intro w6 aT bH hs6 dD))
  have aa:Ext w3 w6:=bN.below aT (Nat.le_refl _);replace p0:=aa.cell p0;replace p1:=aa.cell p1;have hxc:=aC.trans aa;have hz0:w.heap.size+1 < wr.heap.size:=hb.lt;have hz1:w.heap.size+1 < w3.heap.size:=Nat.lt_of_lt_of_le hb.lt aC.size;replace hb:=hb.ext hxc;replace aq:=aq.ext hxc;replace hx:=hx.trans hxc;clear aM bN aT au bP dD aC aa hxc;have HTT:=hid (jdb f k aD);obtain ⟨T,hT⟩:=ex1 (pts (f.take k));rw [← hT] at hb HTT;clear hT;go_wp2_with fail;obtain ⟨wo,rfl⟩:=ex1 w6;go_loopw [17] (fun i ws=>∃ q:Nat,q≤512∧i=.int .i64 q∧Blk ws (w.heap.size+1) 73 (rowB 512 fun i=>T i||(decide (i < q)&&(qai f[k].spans (i % 32:Nat)&&qd9 f[k] (i / 32))))∧Blk ws w.heap.size 73 (rowB 512 fun _=>false)∧
    Blk ws w3.heap.size 169 (rowB 32 fun i=>qai f[k].spans i)∧ws.cell? ⟨wr.heap.size,0,none⟩=some (.int .i64 f[k].cube.yes)∧ws.cell? ⟨wr.heap.size,1,none⟩=some (.int .i64 f[k].cube.no)∧Ext w ws) (fun i _=>512 - (intOf i).toNat)
  case atStart=>
   refine ⟨0,by omega,rfl,?_,aq,bH,p0,p1,hx⟩;rwa [qbv (q:=fun i=>T i||(decide (i < 0)&&(qai f[k].spans (i % 32:Nat)&&qd9 f[k] (i / 32)))) (fun i _=>by simp)] at hb
  clear hb aq bH p0 p1 hx;obtain ⟨q,hq,rfl,hb,aq,fG,p0,p1,hx⟩:=hrel
  by_cases eJ:q < 512
  ·have q0:(0:Int)≤q:=by omega
   have q4:(q:Int) < 512:=by omega
   have hq32:q % 32 < 32:=by omega
   have hcn:=fG.cell (qeb (fun i=>qai f[k].spans i) hq32);have e1:Int.tmod (q:Int) 32=((q % 32:Nat):Int):=qn3 q 32;have e2:Int.tdiv (q:Int) 32=((q / 32:Nat):Int):=qn2 q 32;go_upto_region 9 with fail
   cases hS:qai f[k].spans (q % 32:Nat)
   ·rw [hS] at hcn
    have HS:=hid hS;clear hS;go_wp2_with fail;go_roundw
    case rel=>
     refine ⟨q+1,by omega,by go_num,?_,aq,fG,p0,p1,hx⟩;rwa [qbv (q:=fun i=>T i||(decide (i < q+1)&&(qai f[k].spans (i % 32:Nat)&&qd9 f[k] (i / 32)))) (fun i _=>by
      by_cases hi:i=q
      ·subst hi;rw [HS.out];simp
      have:(decide (i < q):Bool)=decide (i < q+1):=by rw [decide_eq_decide];omega
      rw [this])] at hb
    case measure=>simp [intOf];omega
   rw [hS] at hcn;have HS:=hid hS;clear hS;go_wp2_with fail;refine (jf9 f[k] HBC.out (q / 32) (by omega) _).mono ?_;rintro e w7 ⟨rfl,ac⟩;replace hb:=hb.ext ac;replace aq:=aq.ext ac;replace fG:=fG.ext ac;replace p0:=ac.cell p0;replace p1:=ac.cell p1;replace hx:=hx.trans ac
   cases hI:qd9 f[k] (q / 32)
   ·have HI:=hid hI
    clear hI;go_wp2_with fail;go_roundw
    case rel=>
     refine ⟨q+1,by omega,by go_num,?_,aq,fG,p0,p1,hx⟩;rwa [qbv (q:=fun i=>T i||(decide (i < q+1)&&(qai f[k].spans (i % 32:Nat)&&qd9 f[k] (i / 32)))) (fun i _=>by
      by_cases hi:i=q
      ·subst hi;simp [HI.out]
      have:(decide (i < q):Bool)=decide (i < q+1):=by rw [decide_eq_decide];omega
      rw [this])] at hb
    case measure=>simp [intOf];omega
   have HI:=hid hI;clear hI;have fo:=hb.cell (qeb _ eJ);have hzq:=hb.frozen q;have hlr:=fG.lt;go_wp2_with fail;have hs':=hb.setB q true;go_roundw
   case rel=>
    refine ⟨q+1,by omega,by go_num,?_,aq.far (by simp) _,fG.far (by show w3.heap.size≠w.heap.size+1;omega) _,?_,?_,hx.setCell (by simp) _⟩
    ·rwa [qbv (q:=fun i=>T i||(decide (i < q+1)&&(qai f[k].spans (i % 32:Nat)&&qd9 f[k] (i / 32)))) (fun i _=>by
      by_cases hi:i=q
      ·subst hi;rw [HI.out,HS.out];simp
      rw [if_neg hi];have:(decide (i < q):Bool)=decide (i < q+1):=by rw [decide_eq_decide];omega
      rw [this])] at hs'
    ·exact (World.cell?_setCell_other _ _ _ _ (by intro e;injection e with e;omega)).trans p0
    exact (World.cell?_setCell_other _ _ _ _ (by intro e;injection e with e;omega)).trans p1
   case measure=>simp [intOf];omega
  obtain rfl:q=512:=by omega
  go_wp2_with fail;go_roundw
  case rel=>
   refine ⟨k+1,aD,by go_num,?_,aq,hx⟩;rwa [qbv (q:=pts (f.take (k+1))) (fun i hi=>by rw [HTT.out];simp [hi])] at hb
  case measure=>simp [intOf];omega
 obtain rfl:k=f.length:=by omega
 rw [List.take_length] at hb;go_wp2_with (first
  | ((with_reducible refine qap (o:=⟨some 35,_,_,_,_,_⟩) qfp _ rfl rfl rfl hb (qa6 _ _) ?_))
  | ((with_reducible refine qau (o:=⟨none,_,_,_,_,_⟩) qfp _ _ rfl rfl rfl rfl aq (qa6 _ _) (qa6 _ _) (qfg _ _) ?_);intro w3 aM hb3' bv cE))
 exact qif rfl qfp rfl hb3' (qa6 _ _) rfl ⟨rfl,hx.below aM (Nat.le_refl _)⟩
theorem jc7 (x:Int):betw x 0 31=(decide (0≤x)&&decide (x≤31)):=by
 unfold betw;rw [Bool.decide_and]
theorem qsy (p:Point) (w:World) :
  Calls Tryz.prog 66 #[.agg #[.int .i64 p.tags,.int .i64 p.num]] w fun e w'=>e=.returned (.bool (qaz p))∧Ext w w':=by
 have HP:=hid (show qaz p=(qdm p.tags&&betw p.num 0 31) by rw [qaz,jc7])
 cases h1:qdm p.tags
 ·have H1:=hid h1
  go_enter Tryz.func66, Tryz.ntmps66;go_wp2_with fail;refine (qb5 _ _ _ _).mono ?_;rintro e w1 ⟨rfl,rfl⟩;rw [qfq,h1];clear h1;go_wp2_with fail;go_ret;exact ⟨qa7 (by rw [HP.out,H1.out];rfl),(Ext.refl w).alloc _⟩
 have H1:=hid h1;go_enter Tryz.func66, Tryz.ntmps66;go_wp2_with fail;refine (qb5 _ _ _ _).mono ?_;rintro e w1 ⟨rfl,rfl⟩;rw [qfq,h1];clear h1;go_wp2_with fail;refine (qb5 _ _ _ _).mono ?_;rintro e w1 ⟨rfl,rfl⟩;go_wp2_with fail;go_ret;exact ⟨qa7 (by rw [HP.out,H1.out];rfl),(Ext.refl w).alloc _⟩
theorem jar (q:Nat→Bool) (p:Point) (hp:qaz p=true) (w:World) :
  Calls Tryz.prog 101 #[.agg (rowB 512 q),.agg #[.int .i64 p.tags,.int .i64 p.num]] w fun e w'=>e=.returned (.bool (q (32*p.tags+p.num).toNat))∧Ext w w':=by
 obtain ⟨h1,h2,h3,h4⟩:=qfy.1 hp;obtain ⟨t,ht⟩:=Int.eq_ofNat_of_zero_le h1;obtain ⟨n,hn⟩:=Int.eq_ofNat_of_zero_le h3;rw [ht] at h2;rw [hn] at h4;rw [ht,hn];clear ht hn h1 h3 hp;obtain ⟨m,hm⟩:∃ m:Nat,m=32*t+n:=⟨_,rfl⟩
 have e1:(32*(t:Int)+(n:Int))=(m:Int):=by omega
 have aD:m < 512:=by omega
 have E:=hid (show (32*(t:Int)+(n:Int)).toNat=m by omega);have t0:(0:Int)≤t:=by omega
 have n0:(0:Int)≤n:=by omega
 clear hm;go_enter Tryz.func101, Tryz.ntmps101;go_upto_region 1 with ((with_reducible refine qbr (o:=⟨some 2,_,_,_,_,_⟩) _ rfl rfl rfl ?_);intro w1 aE aX bX)
 have hc:=aX.cell (qeb q aD);go_wp2_with fail;go_ret;exact ⟨qa7 (by rw [E.out]),aE.alloc _⟩
theorem qr3 (fn:FuncId) (d:Bool→Bool→Bool) (p q:Nat→Bool) (w:World)
  (hc:∀ (args:Array Value) (wn:World),(callFunc fn args).run Tryz.prog wn=.ok (.enter fn args) wn)
  (hf:∀ (a b:Bool) (wn:World),Calls Tryz.prog fn #[.bool a,.bool b] wn fun e w'=>e=.returned (.bool (d a b))∧wn=w') :
  Calls Tryz.prog 164 #[.agg (rowB 512 p),.agg (rowB 512 q),.func (.func fn) #[] #[]] w fun e w'=>e=.returned (.agg (rowB 512 fun i=>d (p i) (q i)))∧Ext w w':=by
 have HF:=hid hf;clear hf;go_enter Tryz.func164, Tryz.ntmps164;go_wp2_with (first
  | ((with_reducible refine qbr (o:=⟨some 3,_,_,_,_,_⟩) _ rfl rfl rfl ?_);intro w1 aE aX bX)
  | ((with_reducible refine qbr (o:=⟨some 4,_,_,_,_,_⟩) _ rfl rfl rfl ?_);intro w2 aH aI bC)
  | ((with_reducible refine qa2 (o:=⟨some 6,_,_,_,_,_⟩) ql0 rfl rfl ?_);intro w3 aM aL bv))
 have hb1':=(aX.ext aH).ext aM;have hb2':Blk w3 (w.heap.size+1) 73 (rowB 512 q):=by rw [← bX];exact aI.ext aM
 have hb3':Blk w3 (w.heap.size+2) 73 (rowB 512 fun _=>false):=by rw [show w.heap.size+2=w2.heap.size by omega];exact aL
 have aj:=(aE.trans aH).trans aM;clear aX aI aL aE aH aM;go_loopw [8] (fun i wr=>∃ k:Nat,k≤512∧i=.int .i64 k∧Blk wr w.heap.size 73 (rowB 512 fun i=>if i < k then d (p i) (q i) else p i)∧Blk wr (w.heap.size+1) 73 (rowB 512 q)∧Blk wr (w.heap.size+2) 73 (rowB 512 fun _=>false)∧Ext w wr) (fun i _=>512 - (intOf i).toNat)
 case atStart=>
  refine ⟨0,by omega,rfl,?_,hb2',hb3',aj⟩;rwa [qbv (q:=fun i=>if i < 0 then d (p i) (q i) else p i) (fun i _=>by simp)] at hb1'
 clear hb1' hb2' hb3' aj bX bC bv;obtain ⟨k,hk,rfl,aX,aI,aL,hx⟩:=hrel
 by_cases aD:k < 512
 ·have k0:(0:Int)≤k:=by omega
  have k4:(k:Int) < 512:=by omega
  have c1:=aX.cell (qeb _ aD);have c2:=aI.cell (qeb _ aD);rw [if_neg (by omega)] at c1;have z1:=aX.frozen k;go_upto_region 4 with fail;go_region_with ((with_reducible refine (HF.out _ _ _).mono ?_);rintro e w7 ⟨rfl,rfl⟩)
  all_goals
   go_wp2_with fail;have hs':=aX.setB k (d (p k) (q k));have hd:=(Ext.refl (wr.setCell ⟨w.heap.size,k,none⟩ (.bool (d (p k) (q k))))).drew;go_roundw
   case rel=>
    refine ⟨k+1,by omega,by go_num,?_,(aI.far (by simp) _).ext hd,(aL.far (by simp) _).ext hd,(hx.setCell (by simp) _).trans hd⟩;refine Blk.ext ?_ hd;rwa [qbv (q:=fun i=>if i < k+1 then d (p i) (q i) else p i) (fun i _=>by
     by_cases hi:i=k
     ·subst hi;simp
     have e:(i < k)=(i < k+1):=by rw [eq_iff_iff];omega
     simp only [hi,if_false,e])] at hs'
   case measure=>simp [intOf];omega
 obtain rfl:k=512:=by omega
 rw [qbv (q:=fun i=>d (p i) (q i)) (fun i hi=>by rw [if_pos hi])] at aX;go_wp2_with (first
  | ((with_reducible refine qap (o:=⟨some 22,_,_,_,_,_⟩) qfp _ rfl rfl rfl aX (qa6 _ _) ?_))
  | ((with_reducible refine qau (o:=⟨none,_,_,_,_,_⟩) qfp _ _ rfl rfl rfl rfl aL (qa6 _ _) (qa6 _ _) (qfg _ _) ?_);intro w3 aM hb3' bv cE))
 exact qif rfl qfp rfl hb3' (qa6 _ _) rfl ⟨rfl,hx.below aM (by omega)⟩
end Go.Proofs.YtngbfdogiciahaaGreat
