/- Texts joined. -/
import Derived.Test.YtngbfdogiciahaaGreatKnF
import Derived.Test.YtngbfdogiciahaaGreatFewS
set_option maxRecDepth 100000
set_option maxHeartbeats 40000000
namespace Go.Proofs.YtngbfdogiciahaaGreat
open Go Go.RowKit
def MinOk (k l:Know) (j:Nat) (u:List Int):Prop:=u.length=5∧∀ s:Nat,s < 5→qab u s=if s < j then min (qab k.vec s) (qab l.vec s) else 0
theorem MinOk.start (k l:Know):MinOk k l 0 [0,0,0,0,0]:=by
 refine ⟨rfl,fun s hs=>?_⟩;rw [if_neg (by omega)]
 match s,hs with
 | 0,_=>rfl
 | 1,_=>rfl
 | 2,_=>rfl
 | 3,_=>rfl
 | 4,_=>rfl
theorem MinOk.step {k l:Know} {j:Nat} {u:List Int} (h:MinOk k l j u) (hj:j < 5):MinOk k l (j+1) (u.set j (min (qab k.vec j) (qab l.vec j))):=by
 refine ⟨by simp [h.1],fun s hs=>?_⟩;have e1:=qks u j s (min (qab k.vec j) (qab l.vec j)) (by omega) (by omega) (by simp [h.1];omega);rw [Int.toNat_natCast] at e1;rw [e1]
 by_cases e:s=j
 ·subst e
  rw [if_pos rfl,if_pos (by omega)]
 rw [if_neg (by omega),h.2 s hs]
 by_cases g:s < j
 ·rw [if_pos g,if_pos (by omega)]
 rw [if_neg g,if_neg (by omega)]
structure MeetEnv (w wr:World) (va0 va1 vb0 vb1:Value) (g:Nat) (u:List Int) (vd:Value) (dl:List Dot):Prop where
 a0:wr.cell? ⟨w.heap.size,0,none⟩=some va0
 a1:wr.cell? ⟨w.heap.size,1,none⟩=some va1
 b0:wr.cell? ⟨w.heap.size+1,0,none⟩=some vb0
 b1:wr.cell? ⟨w.heap.size+1,1,none⟩=some vb1
 r0:wr.cell? ⟨w.heap.size+2,0,none⟩=some (.slice none 0 0)
 r1:wr.cell? ⟨w.heap.size+2,1,none⟩=some (.slice none 0 0)
 y0:wr.frozen? ⟨w.heap.size+2,0,none⟩=false
 y1:wr.frozen? ⟨w.heap.size+2,1,none⟩=false
 ty:tyAt wr (w.heap.size+2)=some 101
 row:Blk wr g 3 (rowI u)
 own:Own RDot 2 35 wr (w.heap.size+3) vd dl
 x:Ext w wr
 hg:w.heap.size+2 < g
theorem MeetEnv.lt {w wr:World} {va0 va1 vb0 vb1:Value} {g:Nat} {u:List Int} {vd:Value} {dl:List Dot} (h:MeetEnv w wr va0 va1 vb0 vb1 g u vd dl):w.heap.size+2 < wr.heap.size:=World.block_lt_of_cell? _ _ h.r0
theorem MeetEnv.ext {w wr w':World} {va0 va1 vb0 vb1:Value} {g:Nat} {u:List Int} {vd:Value} {dl:List Dot} (h:MeetEnv w wr va0 va1 vb0 vb1 g u vd dl) (x:Ext wr w'):MeetEnv w w' va0 va1 vb0 vb1 g u vd dl:=
 ⟨x.cell h.a0,x.cell h.a1,x.cell h.b0,x.cell h.b1,x.cell h.r0,x.cell h.r1,(x.frozenAt h.lt).trans h.y0,(x.frozenAt h.lt).trans h.y1,(qep (x.blockAt h.lt)).trans h.ty,h.row.ext x,h.own.ext (B:=0) RPair.mono x,h.x.trans x,h.hg⟩
theorem MeetEnv.setRow {w wr:World} {va0 va1 vb0 vb1:Value} {g:Nat} {u:List Int} {vd:Value} {dl:List Dot} (h:MeetEnv w wr va0 va1 vb0 vb1 g u vd dl) (i:Nat) (n:Int):MeetEnv w (wr.setCell ⟨g,i,none⟩ (.int .i64 n)) va0 va1 vb0 vb1 g (u.set i n) vd dl:=by
 have hg:=h.hg;exact ⟨qag (by omega) h.a0,qag (by omega) h.a1,qag (by omega) h.b0,qag (by omega) h.b1,qag (by omega) h.r0,qag (by omega) h.r1,(World.frozen?_setCell ..).trans h.y0,(World.frozen?_setCell ..).trans h.y1,
  (qep (Below.heap_setCell wr ⟨g,i,none⟩ _ _ (by show w.heap.size+2≠g;omega))).trans h.ty,qra h.row i n,
  h.own.chgT (B:=0) (ts:=[3]) RPair.mono (by decide) ((Chg.refl wr).setCell (p:=⟨g,i,none⟩) h.row.ty (by simp) _ (Nat.zero_le _)),h.x.setCell (by show w.heap.size≤g;omega) _,h.hg⟩
theorem MeetEnv.app {w w1 w2:World} {va0 va1 vb0 vb1:Value} {g B:Nat} {u:List Int} {vd vd':Value} {dl dl':List Dot} (h:MeetEnv w w1 va0 va1 vb0 vb1 g u vd dl) (b:Below (w.heap.size+3) w1 w2) (c:Chg B [35] w1 w2) (ho:Own RDot 2 35 w2 (w.heap.size+3) vd' dl'):MeetEnv w w2 va0 va1 vb0 vb1 g u vd' dl':=
 ⟨(Below.cell b (by show w.heap.size < _;omega)).trans h.a0,(Below.cell b (by show w.heap.size < _;omega)).trans h.a1,(Below.cell b (by show w.heap.size+1 < _;omega)).trans h.b0,(Below.cell b (by show w.heap.size+1 < _;omega)).trans h.b1,(Below.cell b (by show w.heap.size+2 < _;omega)).trans h.r0,(Below.cell b (by show w.heap.size+2 < _;omega)).trans h.r1,
  (Below.frozen b (by show w.heap.size+2 < _;omega)).trans h.y0,(Below.frozen b (by show w.heap.size+2 < _;omega)).trans h.y1,(qep (Below.block b _ (by omega))).trans h.ty,h.row.chg c (by decide),ho,h.x.below b (by omega),h.hg⟩
def rowN (S:DSet) (i:Nat):Nat→Int
 | 0=>0
 | k+1=>rowN S i k+ones 64 (qb3 S i k)
def qg1 (S:DSet):Nat→Int
 | 0=>0
 | i+1=>qg1 S i+rowN S i 16
theorem ja8:∀ (f v:Nat),0≤ones f v∧ones f v≤f
 | 0,_=>by simp [ones]
 | f+1,v=>by
  have:=ja8 f (v / 2);rw [ones];split
  ·omega
  omega
theorem qux (S:DSet) (i:Nat):∀ k,0≤rowN S i k∧rowN S i k≤64*k
 | 0=>by simp [rowN]
 | k+1=>by
  have h1:=qux S i k;have h2:=ja8 64 (qb3 S i k);rw [rowN];omega
theorem qwh (S:DSet):∀ i,0≤qg1 S i∧qg1 S i≤1024*i
 | 0=>by simp [qg1]
 | i+1=>by
  have h1:=qwh S i;have h2:=qux S i 16;rw [qg1];omega
end Go.Proofs.YtngbfdogiciahaaGreat
namespace Go.Proofs.YtngbfdogiciahaaGreat
open Go
theorem qly (p:Nat→Bool) (m:Nat):∀ n,qal p (m+n)=qal p m+qal (fun b=>p (m+b)) n
 | 0=>by simp [qal]
 | n+1=>by
  rw [← Nat.add_assoc,qal,qly p m n,qal];omega
theorem ja9 (S:DSet) (i k:Nat):ones 64 (qb3 S i k)=qal (fun b=>S i (64*k+b)) 64:=by
 rw [qpu 64 _ (qf2 S i k)];apply qbf;intro b hb;simp only [qb3,qay,decide_eq_true hb,Bool.true_and]
theorem qe5 (S:DSet) (i:Nat):∀ k,rowN S i k=qal (S i) (64*k)
 | 0=>rfl
 | k+1=>by rw [rowN,qe5 S i k,ja9,Nat.mul_succ,qly]
theorem qlz (p:Nat→Bool) (c:Nat) (h:p c=false):∀ n,c < n→qal (fun b=>p b||decide (b=c)) n=qal p n+1
 | 0,hc=>absurd hc (by omega)
 | n+1,hc=>by
  rw [qal,qal]
  by_cases e:c=n
  ·subst e
   rw [qbf (q:=p) (fun b hb=>by rw [decide_eq_false (show ¬ b=c by omega),Bool.or_false])];simp [h]
  rw [qlz p c h n (by omega),decide_eq_false (show ¬ n=c by omega),Bool.or_false];omega
theorem qe1 {S T:DSet}:∀ n,(∀ s,s < n→∀ c,c < 1024→S s c=T s c)→qg1 S n=qg1 T n
 | 0,_=>rfl
 | n+1,h=>by
  rw [qg1,qg1,qe1 n (fun s hs=>h s (by omega)),qe5,qe5,qbf (fun c hc=>h n (by omega) c hc)]
theorem qlp (S:DSet) (s c:Nat) (hc:c < 1024) (h:S s c=false):∀ n,s < n→qg1 (qh1 S s c) n=qg1 S n+1
 | 0,hs=>absurd hs (by omega)
 | n+1,hs=>by
  rw [qg1,qg1]
  by_cases e:s=n
  ·subst e
   rw [qe1 (T:=S) s (fun t ht d _=>by simp only [qh1];rw [decide_eq_false (show ¬ t=s by omega)];simp),qe5,qe5,
    qbf (q:=fun b=>S s b||decide (b=c)) (fun b _=>by simp [qh1]),qlz (S s) c h _ (by omega)]
   omega
  rw [qlp S s c hc h n (by omega),qe5,qe5,qbf (q:=S n) (fun b _=>by simp only [qh1];rw [decide_eq_false (show ¬ n=s by omega)];simp)];omega
theorem qt8 (v:List Int) (j:Nat) (hj:j < 5):∀ m,m≤1000→qg1 (qkt v j (m+1)) 5=qg1 (vecD v j) 5+m
 | 0,_=>by
  rw [qe1 (T:=vecD v j) 5 (fun s _ c _=>by
   have:decide (1≤c∧c < 0+1)=false:=decide_eq_false (by omega);simp only [qkt,this,Bool.and_false,Bool.or_false])]
  simp
 | m+1,hm=>by
  rw [← qti v j (m+1) (by omega),qlp _ _ _ (by omega) (by
   simp [qkt,vecD]) 5 hj,qt8 v j hj m (by omega)]
  push_cast;omega
theorem qwi (v:List Int) (hl:v.length≤5) (hv:∀ n∈v,0≤n∧n≤1000):∀ j,j≤v.length→qg1 (vecD v j) 5=(v.take j).sum
 | 0,_=>by
  rw [qe1 (T:=fun _ _=>false) 5 (fun s _ c _=>by simp [vecD])];rfl
 | j+1,hj=>by
  have hjl:j < v.length:=by omega
  obtain ⟨h0,h1⟩:=hv _ (List.getElem_mem hjl);obtain ⟨m,hm⟩:=Int.eq_ofNat_of_zero_le h0;rw [hm] at h1;rw [qe1 (T:=qkt v j (m+1)) 5 (fun s _ c _=>by
   have hv:=qj0 hjl;rw [hm] at hv;rw [Bool.eq_iff_iff];simp only [qkt,vecD,Bool.or_eq_true,Bool.and_eq_true,decide_eq_true_eq]
   by_cases e:s=j
   ·subst e;omega
   omega),qt8 v j (by omega) m (by omega),qwi v hl hv j (by omega),qwl v j hjl,hm]
theorem qt7 (k:Know) (hk:KnowOk k):∀ j,j≤k.more.length→qg1 (qlb k.vec k.more j) 5=qg1 (vecD k.vec k.vec.length) 5+j
 | 0,_=>by
  rw [qe1 (T:=vecD k.vec k.vec.length) 5 (fun s _ c _=>by simp [qlb])];simp
 | j+1,hj=>by
  have hjl:j < k.more.length:=by omega
  obtain ⟨hd,hg⟩:=hk.more _ (List.getElem_mem hjl);obtain ⟨o1,o2,o3,o4⟩:=qar.1 hd;obtain ⟨s,hs⟩:=Int.eq_ofNat_of_zero_le o1;obtain ⟨c,hc⟩:=Int.eq_ofNat_of_zero_le (Int.le_trans (show (0:Int)≤1 by omega) o3);rw [hs] at o1 o2 hg;rw [hc] at o3 o4 hg;have hdot:k.more[j]=(⟨(s:Int),(c:Int)⟩:Dot):=Dot.ext' hs hc;rw [← qps k.vec k.more j s c hjl hdot,qlp _ _ _ (by omega) (by
   rw [← Bool.not_eq_true];simp only [qlb,vecD,Bool.or_eq_true,Bool.and_eq_true,decide_eq_true_eq,List.contains_iff_mem];rintro (⟨_,h⟩ | h)
   ·omega
   obtain ⟨i,hi,e⟩:=List.getElem_of_mem h;rw [List.length_take] at hi;rw [List.getElem_take] at e;have:=hk.sorted.lt_at (show i < j by omega) hjl;rw [e,hdot,qgo] at this
   cases this) 5 (by omega),qt7 k hk j (by omega)]
  push_cast;omega
theorem jdp (k:Know) (hk:KnowOk k):qg1 (hasK k) 5=qjy k:=by
 rw [← qe1 (S:=qlb k.vec k.more k.more.length) 5 (fun s _ c _=>qsf k hk s c),qt7 k hk _ (Nat.le_refl _),qwi k.vec hk.vlen hk.vec _ (Nat.le_refl _),List.take_length,qjy,if_pos (qb0.2 hk)];omega
end Go.Proofs.YtngbfdogiciahaaGreat
namespace Go.Proofs.YtngbfdogiciahaaGreat
open Go Go.RowKit
theorem qzq (k l:Know) (hk:KnowOk k) (hl:KnowOk l):qgs k l=qb2 (orD (hasK k) (hasK l)):=by
 apply qg7;intro s hs c dH ad;have h1:qkf [k.vec,l.vec] s=max (max 0 (qab k.vec s)) (qab l.vec s):=rfl;have hka:=qkq hk.vec s;have hlb:=qkq hl.vec s;rw [Bool.eq_iff_iff];simp only [qjl,orD,hasK,Bool.or_eq_true,Bool.and_eq_true,decide_eq_true_eq,List.contains_iff_mem];have hL:(⟨(s:Int),(c:Int)⟩:Dot)∈[k.more,l.more].flatten↔(⟨(s:Int),(c:Int)⟩:Dot)∈k.more∨(⟨(s:Int),(c:Int)⟩:Dot)∈l.more:=by simp
 rw [hL]
 by_cases m1:(⟨(s:Int),(c:Int)⟩:Dot)∈k.more
 ·simp [m1,dH]
 by_cases m2:(⟨(s:Int),(c:Int)⟩:Dot)∈l.more
 ·simp [m2,dH]
 simp only [m1,m2,or_false];omega
theorem jbu {k l:Know} (h:qdg k l=0):qef k l=eqD (orD (hasK k) (hasK l)) (hasK l):=by
 obtain ⟨hk,hl⟩:=jek h;have hc:jc2 (orD (hasK k) (hasK l)):=by
  intro s c hs;simp only [orD,Bool.or_eq_true] at hs;rcases hs with hs | hs
  ·exact qng hk s c hs
  exact qng hl s c hs
 have hj:=qzq k l hk hl;rw [Bool.eq_iff_iff,qqj,qrx hc (qng hl),qef,if_pos h];constructor
 ·intro hw
  split at hw
  ·have he:=of_decide_eq_true hw
   rw [hj] at he;exact qt3 (he.trans (qqn hl).symm)
  cases hw
 intro hs;have he:qgs k l=l:=by rw [hj,qg7 hs,qqn hl]
 have ht:qbm (qgs k l)=0:=by
  rw [he];exact if_pos hl.mlen
 rw [if_pos ht,he];simp
structure Says (p:Part) (x:RP):Prop where
 ok:PartOk p
 P:∀ j,j < 512→pts p.filter j=x.P j
 K:x.K=hasK p.know
theorem jb2 {p:Part} (h:PartOk p):Says p (qd1 p):=⟨h,fun _ _=>rfl,rfl⟩
theorem qh9 (q:Nat→Bool):∀ n,(qal q n==0)=qds (fun i=>q i==false) n
 | 0=>rfl
 | n+1=>by
  have ih:=qh9 q n;have hb:=ql5 q n;rw [qal,qds,← ih]
  cases h:q n
  ·simp
  simp;omega
theorem qy9 (S:DSet):(qg1 S 5==0)=eqD S (fun _ _=>false):=by
 rw [Bool.eq_iff_iff,qqj,qfs,beq_iff_eq];have h1:∀ i,rowN S i 16=qal (S i) 1024:=fun i=>qe5 S i 16;have key:∀ n,qg1 S n=0↔∀ s,s < n→∀ c,c < 1024→S s c=false:=by
  intro n
  induction n with
  | zero=>simp [qg1]
  | succ n ih=>
   have hb:=qwh S n;have hr:=qux S n 16;have hc:=qh9 (S n) 1024;rw [qg1];constructor
   ·intro h s hs c dH
    by_cases e:s=n
    ·subst e
     have h0:qal (S s) 1024=0:=by rw [← h1];omega
     rw [h0] at hc;have h3:=(qcy _ _).1 hc.symm c dH;simpa using h3
    exact ih.1 (by omega) s (by omega) c dH
   intro h;have h2:=ih.2 fun s hs=>h s (by omega);have h3:qds (fun i=>S n i==false) 1024=true:=(qcy _ _).2 fun c dH=>by rw [h n (by omega) c dH];rfl
   rw [h3,beq_iff_eq] at hc;rw [h1,h2,hc];rfl
 rw [key 5]
theorem qsj {p:Part} {x:RP} (h:Says p x):qmi p=qlg x:=by
 have e1:(qc9 p.filter==0)=qds (fun i=>x.P i==false) 512:=by
  rw [qyw h.ok.f,qh9];exact qna 512 fun i hi=>by rw [h.P i hi]
 have e2:(qjy p.know==0)=eqD x.K (fun _ _=>false):=by rw [← jdp p.know h.ok.k,qy9,h.K]
 unfold qmi qlg;rw [e1,e2]
theorem qq7 {p q:Part} {x y:RP} (h:Says p x) (g:Says q y):qdn p q=qb4 x y:=by
 have h2:qb1 p.filter q.filter=0:=by rw [qb1,if_pos h.ok.f,g.ok.f]
 have k2:qdg p.know q.know=0:=by rw [qdg,if_pos (qb0.2 h.ok.k),qb0.2 g.ok.k]
 have e1:qcp qfw p.filter q.filter=qds (fun i=>(x.P i&&y.P i)==x.P i) 512:=by
  rw [qnw qym h2];refine qna 512 fun i hi=>?_;rw [h.P i hi,g.P i hi]
  cases x.P i <;> cases y.P i <;> rfl
 have e2:qef p.know q.know=eqD (andD x.K y.K) x.K:=by
  rw [jbu k2,h.K,g.K,Bool.eq_iff_iff,qqj,qqj,qfs,qfs];constructor
  ·intro e s hs c hc
   have:=e s hs c hc;simp only [orD,andD] at this ⊢
   cases h1:hasK p.know s c <;> cases h3:hasK q.know s c <;> simp_all
  intro e s hs c hc;have:=e s hs c hc;simp only [orD,andD] at this ⊢
  cases h1:hasK p.know s c <;> cases h3:hasK q.know s c <;> simp_all
 unfold qdn qb4;rw [e1,e2,Bool.and_comm]
section
variable {α β:Type} (nP:α→Bool) (uP:α→α→Bool) (nR:β→Bool) (uR:β→β→Bool) (H:α→β→Prop)
def qj4 (n:α→Bool) (u:α→α→Bool) (out:List α) (p:α):List α:=if (n p||out.any (fun q=>u p q))=true then out else (out.filter fun q=>!u q p)++[p]
theorem jbf {n:α→Bool} {u:α→α→Bool} {out:List α} {z y:α} (h:y∈qj4 n u out z):y∈out∨y=z:=by
 unfold qj4 at h;split at h
 ·exact .inl h
 rcases List.mem_append.1 h with h | h
 ·exact .inl (List.mem_filter.1 h).1
 exact .inr (List.mem_singleton.1 h)
theorem jbe (out:List (α×β)) (z:α×β):(qj4 (fun z=>nP z.1) (fun y z=>uP y.1 z.1) out z).map Prod.fst=qj4 nP uP (out.map Prod.fst) z.1:=by
 unfold qj4;have h1:(out.map Prod.fst).any (fun q=>uP z.1 q)=out.any (fun y=>uP z.1 y.1):=by rw [List.any_map];rfl
 rw [h1];split
 ·rfl
 rw [List.map_append,List.filter_map];rfl
theorem jbg (hn:∀ p x,H p x→nP p=nR x) (hu:∀ p q x y,H p x→H q y→uP p q=uR x y) (out:List (α×β)) (z:α×β) (hz:H z.1 z.2) (hO:∀ y∈out,H y.1 y.2) :
  (qj4 (fun z=>nP z.1) (fun y z=>uP y.1 z.1) out z).map Prod.snd=qj4 nR uR (out.map Prod.snd) z.2:=by
 have h1:(out.map Prod.snd).any (fun q=>uR z.2 q)=out.any (fun y=>uP z.1 y.1):=by
  rw [List.any_map,Bool.eq_iff_iff,List.any_eq_true,List.any_eq_true];constructor
  ·rintro ⟨y,hy,h⟩
   exact ⟨y,hy,(hu _ _ _ _ hz (hO y hy)).trans h⟩
  rintro ⟨y,hy,h⟩;exact ⟨y,hy,(hu _ _ _ _ hz (hO y hy)).symm.trans h⟩
 have h2:(out.map Prod.snd).filter (fun q=>!uR q z.2)=(out.filter fun y=>!uP y.1 z.1).map Prod.snd:=by
  rw [List.filter_map];have e:out.filter ((fun q=>!uR q z.2) ∘ Prod.snd)=out.filter fun y=>!uP y.1 z.1:=by
   apply List.filter_congr;intro y hy;simp only [Function.comp];rw [hu _ _ _ _ (hO y hy) hz]
  rw [e]
 unfold qj4;rw [h1,h2,← hn _ _ hz];split
 ·rfl
 rw [List.map_append];rfl
theorem qo0:∀ (L out:List (α×β)),(L.foldl (qj4 (fun z=>nP z.1) (fun y z=>uP y.1 z.1)) out).map Prod.fst=(L.map Prod.fst).foldl (qj4 nP uP) (out.map Prod.fst)
 | [],_=>rfl
 | z::r,out=>by rw [List.foldl_cons,qo0 r,List.map_cons,List.foldl_cons,jbe]
theorem qo1 (hn:∀ p x,H p x→nP p=nR x) (hu:∀ p q x y,H p x→H q y→uP p q=uR x y):∀ (L out:List (α×β)),(∀ z∈L,H z.1 z.2)→(∀ z∈out,H z.1 z.2)→
  (L.foldl (qj4 (fun z=>nP z.1) (fun y z=>uP y.1 z.1)) out).map Prod.snd=(L.map Prod.snd).foldl (qj4 nR uR) (out.map Prod.snd)∧∀ z∈L.foldl (qj4 (fun z=>nP z.1) (fun y z=>uP y.1 z.1)) out,H z.1 z.2
 | [],_,_,hO=>⟨rfl,hO⟩
 | z::r,out,hL,hO=>by
  have hz:=hL z (by simp);have hO2:∀ y∈qj4 (fun z:α×β=>nP z.1) (fun y z=>uP y.1 z.1) out z,H y.1 y.2:=by
   intro y hy;rcases jbf hy with hy | hy
   ·exact hO y hy
   rw [hy];exact hz
  obtain ⟨h1,h2⟩:=qo1 hn hu r _ (fun y hy=>hL y (by simp [hy])) hO2;rw [List.foldl_cons];exact ⟨by rw [h1,List.map_cons,List.foldl_cons,jbg nP uP nR uR H hn hu out z hz hO],h2⟩
end
structure SayOk (l:List Part) (want:List RP):Prop where
 len:l.length=want.length
 at_:∀ (i:Nat) (p:Part) (x:RP),l[i]?=some p→want[i]?=some x→p.filter.length≤16∧qa0 p.filter=0∧(∀ j,j < 512→pts p.filter j=x.P j)∧qb2 x.K=p.know∧p.know.more.length≤60
theorem qcu {f:List Box} (h:qa0 f=0):(qf0 f).length≤16∧qa0 (qf0 f)=0∧∀ j,j < 512→pts (qf0 f) j=pts f j:=
 ⟨qjh _,qkg _,fun j hj=>by unfold qf0;rw [qoc _ j hj,qic (qah h).2]⟩
theorem jes (L:List (Part×RP)) (h:∀ z∈L,Says z.1 z.2):SayOk (qcl (L.map Prod.fst)) (fewR (L.map Prod.snd)):=by
 obtain ⟨Z,hZ⟩:=ex1 (L.foldl (qj4 (fun z:Part×RP=>qmi z.1) (fun y z=>qdn y.1 z.1)) []);have h1:=qo0 (β:=RP) qmi qdn L [];obtain ⟨h2,h3⟩:=qo1 qmi qdn qlg qb4 Says (fun _ _=>qsj) (fun _ _ _ _=>qq7) L [] h (by simp);rw [← hZ] at h1 h2 h3;clear hZ;have e1:qcl (L.map Prod.fst)=(Z.map Prod.fst).map plainP:=by rw [h1];rfl
 have e2:fewR (L.map Prod.snd)=Z.map Prod.snd:=h2.symm;rw [e1,e2];refine ⟨by simp,fun i p x hp hx=>?_⟩;rw [List.getElem?_map,List.getElem?_map] at hp;rw [List.getElem?_map] at hx
 cases hz:Z[i]? with
 | none=>rw [hz] at hp;cases hp
 | some z=>
  rw [hz] at hp hx;simp only [Option.map_some,Option.some.injEq] at hp hx;subst hp hx;have hs:=h3 z (List.mem_of_getElem? hz);obtain ⟨p1,p2,p3⟩:=qcu hs.ok.f;exact ⟨p1,p2,fun j hj=>(p3 j hj).trans (hs.P j hj),by rw [hs.K];exact qqn hs.ok.k,hs.ok.k.mlen⟩
def qck (F:Nat→Bool) (x:RP):RP:=⟨fun i=>x.P i&&F i,x.K⟩
theorem SayOk.nil:SayOk [] []:=⟨rfl,by intro i p x h;simp at h⟩
structure Gone where
 id:ByteArray
 past:Know
structure Batch where
 site:Int
 stamp:Int
 vers:List Version
 gone:List Gone
 parts:List Part
def qak {α:Type} (f:α→Int):List α→Int
 | []=>0
 | x::r=>if f x=0 then qak f r else f x
theorem qbp {α:Type} (f:α→Int) (l:List α) (k:Nat) (hk:k < l.length):qak f (l.drop k)=if f l[k]=0 then qak f (l.drop (k+1)) else f l[k]:=by
 rw [List.drop_eq_getElem_cons hk,qak]
theorem qje {α:Type} (f:α→Int):∀ l:List α,qak f l=0↔∀ x∈l,f x=0
 | []=>by simp [qak]
 | x::r=>by
  rw [qak]
  by_cases h:f x=0
  ·rw [if_pos h,qje f r]
   simp [h]
  rw [if_neg h];exact ⟨fun e=>absurd e h,fun e=>absurd (e x (by simp)) h⟩
def qax (g:Gone):Int:=if idOk g.id=true then qa4 g.past else 3
structure GoneOk (g:Gone):Prop where
 id:idOk g.id=true
 k:KnowOk g.past
theorem qjf {g:Gone}:qax g=0↔GoneOk g:=by
 unfold qax
 by_cases h:idOk g.id=true
 ·rw [if_pos h,qb0]
  exact ⟨fun e=>⟨h,e⟩,fun e=>e.k⟩
 rw [if_neg h];exact ⟨fun e=>(by cases e),fun e=>absurd e.id h⟩
def qcz (b:Batch):Int:=if qak qas b.vers=0 then (if qak qax b.gone=0 then qac b.parts else qak qax b.gone) else qak qas b.vers
def qe7 (b:Batch):Int:=if b.vers.length≤60∧b.gone.length≤60 then qcz b else 2
def qan (b:Batch):Int:=if 0≤b.site∧b.site≤4∧0≤b.stamp then qe7 b else 1
structure TailOk (b:Batch):Prop where
 lv:b.vers.length≤60
 lg:b.gone.length≤60
 vers:∀ v∈b.vers,VerOk v
 gone:∀ g∈b.gone,GoneOk g
 lp:b.parts.length≤30
 parts:∀ p∈b.parts,PartOk p
theorem qlv {b:Batch} (h:qe7 b=0):TailOk b:=by
 unfold qe7 at h
 by_cases h0:b.vers.length≤60∧b.gone.length≤60
 ·rw [if_pos h0] at h
  unfold qcz at h
  by_cases h1:qak qas b.vers=0
  ·rw [if_pos h1] at h
   by_cases h2:qak qax b.gone=0
   ·rw [if_pos h2] at h
    obtain ⟨h3,h4⟩:=qci h;exact ⟨h0.1,h0.2,fun v hv=>qeq.1 ((qje _ _).1 h1 v hv),fun v hv=>qjf.1 ((qje _ _).1 h2 v hv),h3,h4⟩
   rw [if_neg h2] at h;exact absurd h h2
  rw [if_neg h1] at h;exact absurd h h1
 rw [if_neg h0] at h;cases h
def qgx {α:Type} (p:α→α→Bool):List α→List α→Bool
 | [],[]=>true
 | [],_::_=>false
 | _::_,[]=>false
 | x::r,y::s=>p x y&&qgx p r s
theorem qt2 {α:Type} (p:α→α→Bool):∀ l m:List α,qgx p l m=true→l.length=m.length
 | [],[]=>fun _=>rfl
 | [],_::_=>by intro h;cases h
 | _::_,[]=>by intro h;cases h
 | x::r,y::s=>by
  intro h;rw [qgx,Bool.and_eq_true] at h;simp [qt2 p r s h.2]
theorem jdm {α:Type} (p:α→α→Bool) (l m:List α) (h:l.length≠m.length):qgx p l m=false:=by
 cases hs:qgx p l m
 ·rfl
 exact absurd (qt2 p l m hs) h
theorem qy2 {α:Type} (p:α→α→Bool) (l m:List α) (k:Nat) (h:k < l.length) (h2:k < m.length):qgx p (l.drop k) (m.drop k)=(p l[k] m[k]&&qgx p (l.drop (k+1)) (m.drop (k+1))):=by
 rw [List.drop_eq_getElem_cons h,List.drop_eq_getElem_cons h2,qgx]
theorem jb0 {α:Type} (p:α→α→Bool) (l m:List α) (h:l.length=m.length):qgx p (l.drop l.length) (m.drop l.length)=true:=by
 rw [List.drop_length,h,List.drop_length];rfl
def qc4 (g h:Gone):Bool:=sEq g.id h.id&&decide (g.past=h.past)
theorem qrk:∀ x:List UInt8,Op.bytesLess x x=false
 | []=>rfl
 | a::x=>by
  have h:¬ a < a:=UInt8.lt_irrefl a;rw [Op.bytesLess];simp [h,qrk x]
theorem qts (a b:UInt8) (x y:List UInt8):Op.bytesLess (a::x) (b::y)=true↔a < b∨(a=b∧Op.bytesLess x y=true):=by
 rw [Op.bytesLess]
 by_cases h1:a < b
 ·simp [h1]
 by_cases h2:a=b
 ·subst h2;simp
 have h3:(a==b)=false:=by rw [beq_eq_false_iff_ne];exact h2
 simp [h1,h2]
theorem qvg:∀ x y z:List UInt8,Op.bytesLess x y=true→Op.bytesLess y z=true→Op.bytesLess x z=true
 | [],[],_,h,_=>by simp [Op.bytesLess] at h
 | [],_::_,[],_,h=>by simp [Op.bytesLess] at h
 | [],_::_,_::_,_,_=>by simp [Op.bytesLess]
 | _::_,[],_,h,_=>by simp [Op.bytesLess] at h
 | _::_,_::_,[],_,h=>by simp [Op.bytesLess] at h
 | a::x,b::y,c::z,h,k=>by
  rw [qts] at h k ⊢;rcases h with h | ⟨rfl,h⟩
  ·rcases k with k | ⟨rfl,k⟩
   ·left
    have h':a.toNat < b.toNat:=h;have k':b.toNat < c.toNat:=k;show a.toNat < c.toNat;omega
   exact .inl h
  rcases k with k | ⟨rfl,k⟩
  ·exact .inl k
  exact .inr ⟨rfl,qvg x y z h k⟩
theorem je9:∀ x y:List UInt8,Op.bytesLess x y=false→Op.bytesLess y x=false→x=y
 | [],[],_,_=>rfl
 | [],_::_,h,_=>by simp [Op.bytesLess] at h
 | _::_,[],_,h=>by simp [Op.bytesLess] at h
 | a::x,b::y,h,k=>by
  have h':=mt (qts a b x y).2 (by simp [h]);have k':=mt (qts b a y x).2 (by simp [k]);have e:a=b:=by
   apply UInt8.toNat_inj.1;have h3:¬ a.toNat < b.toNat:=fun q=>h' (.inl q);have h4:¬ b.toNat < a.toNat:=fun q=>k' (.inl q);omega
  subst e;have h5:Op.bytesLess x y=false:=by
   cases q:Op.bytesLess x y
   ·rfl
   exact absurd (.inr ⟨rfl,q⟩) h'
  have h6:Op.bytesLess y x=false:=by
   cases q:Op.bytesLess y x
   ·rfl
   exact absurd (.inr ⟨rfl,q⟩) k'
  rw [je9 x y h5 h6]
theorem jfn {a b:ByteArray} (h:a.toList=b.toList):a=b:=qhj.1 (by unfold sEq;rw [beq_iff_eq];exact h)
theorem qf1 {a b:Version}:qbi a b=true↔Op.bytesLess a.id.toList b.id.toList=true∨(a.id=b.id∧(a.dot.site < b.dot.site∨(a.dot.site=b.dot.site∧a.dot.count < b.dot.count))):=by
 unfold qbi
 by_cases h:a.id=b.id
 ·rw [if_pos (qhj.2 h)]
  have e:Op.bytesLess a.id.toList b.id.toList=false:=by rw [h];exact qrk _
  by_cases hs:a.dot.site=b.dot.site
  ·rw [if_pos hs]
   simp [h,hs,qrk]
  rw [if_neg hs];simp [h,hs,qrk]
 rw [if_neg (fun q=>h (qhj.1 q))];simp [h]
theorem qtn (a:Version):qbi a a=false:=by
 cases h:qbi a a
 ·rfl
 rw [qf1,qrk] at h;rcases h with h | ⟨_,h | h⟩
 ·cases h
 ·omega
 omega
theorem qer {a b c:Version} (h:qbi a b=true) (k:qbi b c=true):qbi a c=true:=by
 rw [qf1] at h k ⊢;rcases h with h | ⟨e,h⟩
 ·rcases k with k | ⟨f,k⟩
  ·exact .inl (qvg _ _ _ h k)
  exact .inl (by rw [← f];exact h)
 rcases k with k | ⟨f,k⟩
 ·exact .inl (by rw [e];exact k)
 exact .inr ⟨e.trans f,by omega⟩
theorem qp1 {a b:Version} (h:qbi a b=true):qbi b a=false:=by
 cases k:qbi b a
 ·rfl
 rw [← qer h k];exact qtn a
theorem qto {a b:Version} (h:qbi a b=false) (k:qbi b a=false):a.id=b.id∧a.dot=b.dot:=by
 have h':=mt (qf1 (a:=a) (b:=b)).2 (by simp [h]);have k':=mt (qf1 (a:=b) (b:=a)).2 (by simp [k]);have e:a.id=b.id:=jfn (je9 _ _ (by
  cases q:Op.bytesLess a.id.toList b.id.toList
  ·rfl
  ·exact absurd (.inl q) h') (by
  cases q:Op.bytesLess b.id.toList a.id.toList
  ·rfl
  exact absurd (.inl q) k'))
 have h2:¬ (a.dot.site < b.dot.site∨(a.dot.site=b.dot.site∧a.dot.count < b.dot.count)):=fun q=>h' (.inr ⟨e,q⟩);have k2:¬ (b.dot.site < a.dot.site∨(b.dot.site=a.dot.site∧b.dot.count < a.dot.count)):=fun q=>k' (.inr ⟨e.symm,q⟩);exact ⟨e,Dot.ext' (by omega) (by omega)⟩
theorem jbq {a b c:Version} (h1:a.id=b.id) (h2:a.dot=b.dot):qbi a c=qbi b c:=by
 rw [Bool.eq_iff_iff,qf1,qf1,h1,h2]
theorem verLt_key' {a b c:Version} (h1:a.id=b.id) (h2:a.dot=b.dot):qbi c a=qbi c b:=by
 rw [Bool.eq_iff_iff,qf1,qf1,h1,h2]
theorem jei:Ord qbi where
 asymm _ _ h:=qp1 h
 trans x y z h1 h2:=by
  cases h:qbi z x
  ·rfl
  cases h3:qbi x y
  ·obtain ⟨e1,e2⟩:=qto h3 h1
   rw [verLt_key' e1 e2,h2] at h;cases h
  rw [qer h h3] at h2;cases h2
def Inc (l:List Version):Prop:=l.Pairwise fun x y=>qbi x y=true
theorem qot:∀ (l:List Version) (prev:Option Version),qbz prev l=0→Inc l∧∀ u,prev=some u→∀ v∈l,qbi u v=true
 | [],_,_=>⟨List.Pairwise.nil,fun _ _ _ h=>by cases h⟩
 | v::r,prev,h=>by
  rw [qbz] at h
  by_cases h1:qas v=0
  ·rw [if_pos h1] at h
   by_cases h2:qju prev v=true
   ·rw [if_pos h2] at h;cases h
   rw [if_neg h2] at h;obtain ⟨a,b⟩:=qot r (some v) h;refine ⟨List.pairwise_cons.2 ⟨b v rfl,a⟩,?_⟩;rintro u rfl w hw;have h3:qbi u v=true:=by simpa [qju] using h2
   rcases List.mem_cons.1 hw with rfl | hw
   ·exact h3
   exact qer h3 (b v rfl w hw)
  rw [if_neg h1] at h;exact absurd h h1
theorem ShelfOk.inc {l:List Version} (h:ShelfOk l):Inc l:=(qot l none h.go).1
theorem qjg:∀ (l:List Version) (prev:Option Version),Inc l→(∀ v∈l,VerOk v)→(∀ u,prev=some u→∀ v∈l,qbi u v=true)→qbz prev l=0
 | [],_,_,_,_=>rfl
 | v::r,prev,h,ho,hp=>by
  rw [qbz,if_pos (qeq.2 (ho v (by simp)))];have h2:¬ qju prev v=true:=by
   cases prev with
   | none=>simp [qju]
   | some u=>simp [qju,hp u rfl v (by simp)]
  rw [if_neg h2];obtain ⟨a,b⟩:=List.pairwise_cons.1 h;exact qjg r (some v) b (fun w hw=>ho w (by simp [hw])) (by rintro u h w hw;injection h with h;subst h;exact a w hw)
theorem Inc.srt {l:List Version} (h:Inc l):Srt qbi l:=h.imp fun h=>qp1 h
theorem Inc.filter {l:List Version} (h:Inc l) (p:Version→Bool):Inc (l.filter p):=List.Pairwise.filter p h
def pos (l:List Version) (v:Version):Nat:=l.findIdx fun w=>!qbi w v
theorem qsr (l:List Version) (v:Version):pos l v≤l.length:=List.findIdx_le_length
theorem qok {l:List Version} {v:Version} {k:Nat} (h:k < l.length) (hk:k < pos l v):qbi l[k] v=true:=by
 have:=List.not_of_lt_findIdx hk;simpa using this
theorem jaq {l:List Version} {v:Version} (h:pos l v < l.length):qbi l[pos l v] v=false:=by
 have:=List.findIdx_getElem (w:=h);simp only [Bool.not_eq_true'] at this;exact this
theorem qq0 {l:List Version} {v:Version} (hi:Inc l) {k:Nat} (h:k < l.length) (hk:pos l v≤k):qbi l[k] v=false:=by
 have h0:=jaq (l:=l) (v:=v) (by omega);rcases Nat.lt_or_ge (pos l v) k with g | g
 ·cases h1:qbi l[k] v
  ·rfl
  have h2:=List.pairwise_iff_getElem.1 hi (pos l v) k (by omega) h g;rw [qer h2 h1] at h0;cases h0
 have:pos l v=k:=by omega
 subst this;exact h0
theorem jg5 {l:List Version} {v:Version} (hi:Inc l) {n:Nat} (hn:n≤l.length) (h1:∀ k (h:k < l.length),k < n→qbi l[k] v=true) (h2:∀ k (h:k < l.length),n≤k→qbi l[k] v=false):n=pos l v:=by
 have hp:=qsr l v;rcases Nat.lt_trichotomy n (pos l v) with g | g | g
 ·have a:=qok (l:=l) (v:=v) (k:=n) (by omega) g
  rw [h2 n (by omega) (Nat.le_refl _)] at a;cases a
 ·exact g
 have a:=qq0 hi (v:=v) (k:=pos l v) (by omega) (Nat.le_refl _);rw [h1 (pos l v) (by omega) g] at a;cases a
def qcv (l:List Version) (v:Version):Bool:=l.any fun w=>qbw w v==0
theorem qvv {l:List Version} {v:Version} (hi:Inc l) (h:pos l v < l.length→qbw (l[pos l v]?.getD v) v≠0):qcv l v=false:=by
 unfold qcv;rw [List.any_eq_false];intro w hw he;obtain ⟨k,hk,rfl⟩:=List.getElem_of_mem hw;have he':qbw l[k] v=0:=by simpa using he
 obtain ⟨e1,e2⟩:=qhn.1 he';have aD:qbi l[k] v=false:=by rw [jbq e1 e2];exact qtn v
 have hge:pos l v≤k:=by
  rcases Nat.lt_or_ge k (pos l v) with g | g
  ·rw [qok hk g] at aD;cases aD
  exact g
 rcases Nat.lt_or_ge (pos l v) k with g | g
 ·have h2:=List.pairwise_iff_getElem.1 hi (pos l v) k (by omega) hk g
  rw [verLt_key' e1 e2] at h2;rw [jaq (by omega)] at h2;cases h2
 have:pos l v=k:=by omega
 have h3:=h (by omega);rw [this,List.getElem?_eq_getElem hk] at h3;exact h3 he'
theorem jcy {l:List Version} {v:Version} (h:pos l v < l.length) (he:qbw l[pos l v] v=0):qcv l v=true:=by
 unfold qcv;rw [List.any_eq_true];exact ⟨_,List.getElem_mem h,by simp [he]⟩
def qeh (l:List Version) (v:Version):Bool:=qcv l v||l.any fun w=>over w v
def insV (l:List Version) (v:Version):List Version:=l.take (pos l v)++v::l.drop (pos l v)
def putL (l:List Version) (v:Version):List Version:=(insV l v).filter fun w=>!over v w
def qb7 (l:List Version) (v:Version):Int:=if qae l=0 then (if qas v=0 then (if qeh l v=true then 0 else if 60 < (putL l v).length then 2 else 0) else qas v) else qae l
def qbk (l:List Version) (v:Version):List Version:=if qae l=0 then (if qas v=0 then (if qeh l v=true then l else if 60 < (putL l v).length then [] else putL l v) else []) else []
theorem qol {l:List Version} {v:Version} (h0:qae l=0) (hv:qas v=0) (ha:qeh l v=false) (hn:60 < (putL l v).length):qb7 l v=2∧qbk l v=[]:=by
 unfold qb7 qbk;simp [h0,hv,ha,hn]
theorem qr2 {l:List Version} {v:Version} (h0:qae l=0) (hv:qas v=0) (ha:qeh l v=false) (hn:¬ 60 < (putL l v).length):qb7 l v=0∧qbk l v=putL l v:=by
 unfold qb7 qbk;simp [h0,hv,ha,hn]
theorem qmr (l:List Version) (v:Version):(insV l v).length=l.length+1:=by
 unfold insV;rw [List.length_append,List.length_cons,List.length_take,List.length_drop];have:=qsr l v;omega
theorem qo6 (l:List Version) (v:Version):(insV l v).Perm (v::l):=by
 unfold insV;refine List.perm_middle.trans ?_;rw [List.take_append_drop]
theorem qvt {l:List Version} {v:Version} (hi:Inc l) (h:qcv l v=false):Inc (insV l v):=by
 unfold insV;have hs:Inc (l.take (pos l v)++l.drop (pos l v)):=by rw [List.take_append_drop];exact hi
 obtain ⟨a,b,c⟩:=List.pairwise_append.1 hs;have h1:∀ x∈l.take (pos l v),qbi x v=true:=by
  intro x hx;obtain ⟨k,hk,rfl⟩:=List.getElem_of_mem hx;rw [List.length_take] at hk;rw [List.getElem_take];exact qok (by omega) (by omega)
 have h2:∀ x∈l.drop (pos l v),qbi v x=true:=by
  intro x hx;obtain ⟨k,hk,rfl⟩:=List.getElem_of_mem hx;rw [List.length_drop] at hk;rw [List.getElem_drop];have h3:=qq0 hi (v:=v) (k:=pos l v+k) (by omega) (by omega)
  cases h4:qbi v l[pos l v+k]
  ·have h5:qcv l v=true:=by
    unfold qcv;rw [List.any_eq_true];exact ⟨_,List.getElem_mem (by omega:pos l v+k < l.length),by rw [beq_iff_eq];exact qhn.2 (qto h3 h4)⟩
   rw [h] at h5;cases h5
  rfl
 refine List.pairwise_append.2 ⟨a,List.pairwise_cons.2 ⟨h2,b⟩,?_⟩;intro x hx y hy;rcases List.mem_cons.1 hy with rfl | hy
 ·exact h1 x hx
 exact c x hx y hy
theorem qsl {v:Version} (h:VerOk v):over v v=false:=by unfold over;rw [h.new,Bool.and_false]
theorem qy0 {l m:List Version} {v:Version} (hi:Inc l) (hv:VerOk v) (h:qcv l v=false) (hm:m.Perm (l.filter (fun w=>!over v w)++[v])) (hs:Srt qbi m):m=putL l v:=by
 have hp:(putL l v).Perm (l.filter (fun w=>!over v w)++[v]):=by
  unfold putL;refine ((qo6 l v).filter _).trans ?_;rw [List.filter_cons_of_pos (by simp [qsl hv])];exact (List.perm_append_singleton _ _).symm
 have hI:Inc (putL l v):=(qvt hi h).filter _;refine jgh (hm.trans hp.symm) hs hI.srt ?_;intro x hx y hy h1 h2;have hx':=(hm.trans hp.symm).mem_iff.1 hx;have hy':=(hm.trans hp.symm).mem_iff.1 hy;obtain ⟨i,hi',rfl⟩:=List.getElem_of_mem hx';obtain ⟨k,hk',rfl⟩:=List.getElem_of_mem hy';rcases Nat.lt_trichotomy i k with g | g | g
 ·rw [List.pairwise_iff_getElem.1 hI i k hi' hk' g] at h1;cases h1
 ·subst g;rfl
 rw [List.pairwise_iff_getElem.1 hI k i hk' hi' g] at h2;cases h2
theorem qr0 {l:List Version} {v w:Version} (h:w∈putL l v):w=v∨(w∈l∧over v w=false):=by
 unfold putL at h;obtain ⟨h1,h2⟩:=List.mem_filter.1 h;rcases List.mem_cons.1 ((qo6 l v).mem_iff.1 h1) with e | e
 ·exact .inl e
 exact .inr ⟨e,by simpa using h2⟩
theorem qsk {l:List Version} (h:qdx l=false) {u w:Version} (hu:u∈l) (hw:w∈l):over u w=false:=by
 unfold qdx at h;rw [List.any_eq_false] at h;have h1:=h w hw;simp only [Bool.not_eq_true] at h1;rw [List.any_eq_false] at h1;simpa using h1 u hu
theorem qsi {l:List Version} (h:∀ u∈l,∀ w∈l,over u w=false):qdx l=false:=by
 unfold qdx;rw [List.any_eq_false];intro w hw;simp only [Bool.not_eq_true];rw [List.any_eq_false];intro u hu;simp [h u hu w hw]
theorem ShelfOk.filter {l:List Version} (h:ShelfOk l) (p:Version→Bool):ShelfOk (l.filter p) where
 len:=Nat.le_trans (List.length_filter_le _ _) h.len
 all v hv:=h.all v (List.mem_filter.1 hv).1
 go:=qjg _ none (h.inc.filter p) (fun v hv=>h.all v (List.mem_filter.1 hv).1) (fun _ h=>by cases h)
 new:=qsi fun u hu w hw=>qsk h.new (List.mem_filter.1 hu).1 (List.mem_filter.1 hw).1
theorem jf7 {l:List Version} {v:Version} (h:ShelfOk l) (hv:VerOk v) (ha:qeh l v=false) (hn:(putL l v).length≤60):ShelfOk (putL l v):=by
 unfold qeh at ha;rw [Bool.or_eq_false_iff] at ha;have bL:∀ w∈putL l v,VerOk w:=by
  intro w hw;rcases qr0 hw with rfl | ⟨hw,_⟩
  ·exact hv
  exact h.all w hw
 refine ⟨hn,bL,qjg _ none ((qvt h.inc ha.1).filter _) bL (fun _ h=>by cases h),qsi ?_⟩;intro u hu w hw;rcases qr0 hu with e | ⟨hu,_⟩
 ·rw [e]
  exact (by simpa using (List.mem_filter.1 hw).2)
 rcases qr0 hw with e | ⟨hw,_⟩
 ·rw [e]
  have:=List.any_eq_false.1 ha.2 u hu;simpa using this
 exact qsk h.new hu hw
theorem qkk {l:List Version} {v:Version} (h:qb7 l v=0):ShelfOk l∧VerOk v∧ShelfOk (qbk l v)∧qbk l v=if qeh l v=true then l else putL l v:=by
 unfold qb7 at h;unfold qbk
 by_cases h1:qae l=0
 ·rw [if_pos h1] at h ⊢
  by_cases h2:qas v=0
  ·rw [if_pos h2] at h ⊢
   have a:=qcw h1;have b:=qeq.1 h2
   cases h3:qeh l v
   ·rw [h3] at h
    rw [if_neg (by simp)] at h ⊢
    by_cases h4:60 < (putL l v).length
    ·rw [if_pos h4] at h;cases h
    rw [if_neg h4];exact ⟨a,b,jf7 a b h3 (by omega),rfl⟩
   exact ⟨a,b,a,rfl⟩
  rw [if_neg h2] at h;exact absurd h h2
 rw [if_neg h1] at h;exact absurd h h1
def qpc (g:Gone) (v:Version):Bool:=sEq v.id g.id&&inK g.past v.dot
def qhr (l:List Version) (g:Gone):List Version:=l.filter fun v=>!qpc g v
def qbl (l:List Version) (g:Gone):Int:=if qae l=0 then qax g else qae l
def qbo (l:List Version) (g:Gone):List Version:=if qae l=0 then (if qax g=0 then qhr l g else []) else []
end Go.Proofs.YtngbfdogiciahaaGreat
