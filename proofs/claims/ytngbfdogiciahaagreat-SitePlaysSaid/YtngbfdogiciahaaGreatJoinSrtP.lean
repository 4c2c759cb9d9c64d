/- Texts joined. -/
import Derived.Test.YtngbfdogiciahaaGreatWalks
set_option maxRecDepth 100000
set_option maxHeartbeats 40000000
namespace Go.Proofs.YtngbfdogiciahaaGreat
open Go Go.RowKit
structure Ord {α:Type} (lt:α→α→Bool):Prop where
 asymm:∀ x y,lt x y=true→lt y x=false
 trans:∀ x y z,lt y x=false→lt z y=false→lt z x=false
section
variable {α:Type} {lt:α→α→Bool}
def Srt (lt:α→α→Bool) (l:List α):Prop:=l.Pairwise fun x y=>lt y x=false
def LeL (lt:α→α→Bool) (a b:List α):Prop:=∀ x∈a,∀ y∈b,lt y x=false
theorem qee {a b:List α}:Srt lt (a++b)↔Srt lt a∧Srt lt b∧LeL lt a b:=List.pairwise_append
theorem jfl:Srt lt ([]:List α):=List.Pairwise.nil
theorem qv6 (x:α):Srt lt [x]:=by simp [Srt]
theorem LeL.nil_left (b:List α):LeL lt [] b:=fun x hx=>by cases hx
theorem LeL.nil_right (a:List α):LeL lt a []:=fun _ _ y hy=>by cases hy
theorem LeL.app_left {a b c:List α} (h:LeL lt a c) (k:LeL lt b c):LeL lt (a++b) c:=fun x hx y hy=>(List.mem_append.1 hx).elim (fun m=>h x m y hy) (fun m=>k x m y hy)
theorem LeL.app_right {a b c:List α} (h:LeL lt a b) (k:LeL lt a c):LeL lt a (b++c):=fun x hx y hy=>(List.mem_append.1 hy).elim (fun m=>h x hx y m) (fun m=>k x hx y m)
theorem LeL.perm {a b a' b':List α} (h:LeL lt a b) (p:a'.Perm a) (q:b'.Perm b):LeL lt a' b':=fun x hx y hy=>h x (p.mem_iff.1 hx) y (q.mem_iff.1 hy)
theorem LeL.ends (O:Ord lt) {a b:List α} {z y:α} (ha:Srt lt (a++[z])) (hb:Srt lt (y::b)) (h:lt y z=false):LeL lt (a++[z]) (y::b):=by
 have h1:∀ x∈a++[z],lt y x=false:=by
  intro x hx;rcases List.mem_append.1 hx with m | m
  ·exact O.trans x z y ((qee.1 ha).2.2 x m z (by simp)) h
  rw [List.mem_singleton.1 m];exact h
 intro x hx u hu;rcases List.mem_cons.1 hu with rfl | m
 ·exact h1 x hx
 exact O.trans x y u (h1 x hx) ((List.pairwise_cons.1 hb).1 u m)
theorem qre (O:Ord lt) {a b:List α} {x:α} (h:Srt lt (a++b)) (h1:∀ z,a.getLast?=some z→lt x z=false) (h2:∀ y,b.head?=some y→lt y x=false):Srt lt (a++x::b):=by
 obtain ⟨ha,hb,hab⟩:=qee.1 h;have e1:LeL lt a [x]:=by
  rcases List.eq_nil_or_concat a with rfl | ⟨a',z,rfl⟩
  ·exact LeL.nil_left _
  rw [List.concat_eq_append] at ha h1 ⊢;exact LeL.ends O ha (qv6 x) (h1 z (by simp))
 have e2:LeL lt [x] b:=by
  cases b with
  | nil=>exact LeL.nil_right _
  | cons y b=>exact LeL.ends O (a:=[]) (qv6 x) hb (h2 y rfl)
 have e3:Srt lt (x::b):=List.pairwise_cons.2 ⟨fun y hy=>e2 x (by simp) y hy,hb⟩;refine qee.2 ⟨ha,e3,fun u hu v hv=>?_⟩;rcases List.mem_cons.1 hv with rfl | m
 ·exact e1 u hu _ (by simp)
 exact hab u hu v m
theorem qob (O:Ord lt) {L1 L2 R1 R2:List α} (hL:Srt lt (L1++L2)) (hR:Srt lt (R1++R2)) (h1:∀ z y,L1.getLast?=some z→R2.head?=some y→lt y z=false) (h2:∀ z y,R1.getLast?=some z→L2.head?=some y→lt z y=true):LeL lt (L1++R1) (L2++R2):=by
 obtain ⟨l1,l2,l12⟩:=qee.1 hL;obtain ⟨r1,r2,r12⟩:=qee.1 hR;have ends:∀ {a b:List α},Srt lt a→Srt lt b→(∀ z y,a.getLast?=some z→b.head?=some y→lt y z=false)→LeL lt a b:=by
  intro a b ha hb h;rcases List.eq_nil_or_concat a with rfl | ⟨a',z,rfl⟩
  ·exact LeL.nil_left _
  rw [List.concat_eq_append] at ha h ⊢
  cases b with
  | nil=>exact LeL.nil_right _
  | cons y b=>exact LeL.ends O ha hb (h z y (by simp) rfl)
 exact LeL.app_left (LeL.app_right l12 (ends l1 r2 h1)) (LeL.app_right (ends r1 l2 fun z y hz hy=>O.asymm _ _ (h2 z y hz hy)) r12)
theorem qdh {L1 L2 R1 R2 M1 M2:List α} (h:LeL lt (L1++R1) (L2++R2)) (p1:M1.Perm (L1++R1)) (p2:M2.Perm (L2++R2)) (s1:Srt lt M1) (s2:Srt lt M2):Srt lt (M1++M2)∧(M1++M2).Perm ((L1++L2)++(R1++R2)):=by
 refine ⟨qee.2 ⟨s1,s2,h.perm p1 p2⟩,(p1.append p2).trans ?_⟩;rw [List.append_assoc,List.append_assoc];refine List.Perm.append_left L1 ?_;rw [← List.append_assoc,← List.append_assoc];exact List.Perm.append_right R2 List.perm_append_comm
def Chk (lt:α→α→Bool) (k:Nat) (l:List α):Prop:=∀ i j x y,i < j→i / k=j / k→l[i]?=some x→l[j]?=some y→lt y x=false
theorem ql3 {k:Nat} {l:List α} (h:Chk lt k l) (hk:l.length≤k):Srt lt l:=by
 rw [Srt,List.pairwise_iff_getElem];intro i j hi hj de;have hk0:0 < k:=by omega
 exact h i j _ _ de (by rw [Nat.div_eq_of_lt (by omega),Nat.div_eq_of_lt (by omega)]) (List.getElem?_eq_getElem hi) (List.getElem?_eq_getElem hj)
theorem qog {k:Nat} {l:List α} (h:Srt lt l):Chk lt k l:=by
 intro i j x y de _ hx hy;rw [Srt,List.pairwise_iff_getElem] at h;obtain ⟨h1,rfl⟩:=List.getElem?_eq_some_iff.1 hx;obtain ⟨h2,rfl⟩:=List.getElem?_eq_some_iff.1 hy;exact h i j h1 h2 de
theorem qqf {k:Nat} {a b:List α} (h:Chk lt k (a++b)):Chk lt k a:=by
 intro i j x y de hq hx hy;have h1:=(List.getElem?_eq_some_iff.1 hx).1;have h2:=(List.getElem?_eq_some_iff.1 hy).1;exact h i j x y de hq (by rw [List.getElem?_append_left h1];exact hx) (by rw [List.getElem?_append_left h2];exact hy)
theorem qnf {k q:Nat} (hk:0 < k) {a b:List α} (ha:a.length=q*k) (h:Chk lt k (a++b)):Chk lt k b:=by
 intro i j x y de hd hx hy;refine h (a.length+i) (a.length+j) x y (by omega) ?_ (by rw [List.getElem?_append_right (by omega),Nat.add_sub_cancel_left];exact hx) (by rw [List.getElem?_append_right (by omega),Nat.add_sub_cancel_left];exact hy);rw [ha,Nat.add_comm (q*k) i,Nat.add_comm (q*k) j,Nat.add_mul_div_right _ _ hk,Nat.add_mul_div_right _ _ hk,hd]
theorem qne {k q:Nat} (hk:0 < k) {a b:List α} (ha:a.length=q*k) (h1:Chk lt k a) (h2:Chk lt k b):Chk lt k (a++b):=by
 intro i j x y de hd hx hy
 by_cases hj:j < a.length
 ·rw [List.getElem?_append_left hj] at hy
  rw [List.getElem?_append_left (by omega)] at hx;exact h1 i j x y de hd hx hy
 rw [List.getElem?_append_right (by omega)] at hy;have hi:¬ i < a.length:=by
  intro hi;have e1:i / k < q:=Nat.div_lt_of_lt_mul (by rw [Nat.mul_comm];omega);have e2:q≤j / k:=(Nat.le_div_iff_mul_le hk).2 (by omega);omega
 rw [List.getElem?_append_right (by omega)] at hx;refine h2 (i - a.length) (j - a.length) x y (by omega) ?_ hx hy;have e1:i=(i - a.length)+q*k:=by omega
 have e2:j=(j - a.length)+q*k:=by omega
 rw [e1,e2,Nat.add_mul_div_right _ _ hk,Nat.add_mul_div_right _ _ hk] at hd;omega
theorem jgh {l m:List α} (hp:l.Perm m) (hl:Srt lt l) (hm:Srt lt m) (hd:∀ x∈l,∀ y∈l,lt x y=false→lt y x=false→x=y):l=m:=
 hp.eq_of_pairwise (fun x y hx hy h1 h2=>hd x hx y (hp.mem_iff.2 hy) h2 h1) hl hm
end
def Srch (l:List Dot) (d:Dot) (lo hi:Nat):Prop:=(∀ (t:Nat) (h:t < l.length),t < lo→cmpD l[t] d < 0)∧(∀ (t:Nat) (h:t < l.length),hi≤t→0≤cmpD l[t] d)
theorem Srch.start (l:List Dot) (d:Dot):Srch l d 0 l.length:=⟨fun _ _ h=>absurd h (by omega),fun _ h g=>absurd h (by omega)⟩
theorem SortedD.lt_at {l:List Dot} {lo:Dot} (hs:SortedD lo l) {i j:Nat} (de:i < j) (hj:j < l.length):dlt (l[i]'(by omega)) l[j]=true:=by
 have h:=(List.pairwise_cons.1 hs).2;exact List.pairwise_iff_getElem.1 h i j (by omega) hj de
theorem qrr {a b d:Dot} (h:dlt a b=true) (k:cmpD b d < 0):cmpD a d < 0:=by
 rw [qqg] at k ⊢;exact qhz h k
theorem Srch.right {l:List Dot} {d lo0:Dot} {lo hi m:Nat} (hs:SortedD lo0 l) (h:Srch l d lo hi) (hm:m < l.length) (hc:cmpD l[m] d < 0):Srch l d (m+1) hi:=by
 refine ⟨fun t ht aD=>?_,h.2⟩;rcases Nat.lt_or_ge t m with g | g
 ·exact qrr (hs.lt_at g hm) hc
 obtain rfl:t=m:=by omega
 exact hc
theorem Srch.left {l:List Dot} {d lo0:Dot} {lo hi m:Nat} (hs:SortedD lo0 l) (h:Srch l d lo hi) (hm:m < l.length) (hc:0≤cmpD l[m] d):Srch l d lo m:=by
 refine ⟨h.1,fun t ht aD=>?_⟩;rcases Nat.lt_or_ge m t with g | g
 ·apply Int.not_lt.1
  intro k;have:=qrr (hs.lt_at g ht) k;omega
 obtain rfl:t=m:=by omega
 exact hc
theorem Srch.found {l:List Dot} {d lo0:Dot} {i:Nat} (hs:SortedD lo0 l) (h:Srch l d i i) (hi:i < l.length):l.contains d=decide (cmpD l[i] d=0):=by
 rw [Bool.eq_iff_iff,List.contains_iff_mem,decide_eq_true_iff];constructor
 ·intro hm
  obtain ⟨t,ht,e⟩:=List.getElem_of_mem hm;have h0:cmpD l[t] d=0:=qnh.2 e;rcases Nat.lt_trichotomy t i with g | g | g
  ·have:=h.1 t ht g
   omega
  ·subst g
   exact h0
  have h1:=hs.lt_at g ht;rw [e] at h1;have h2:=qqg.2 h1;have h3:=h.2 i hi (Nat.le_refl _);omega
 intro h0;rw [← qnh.1 h0];exact List.getElem_mem hi
theorem Srch.none {l:List Dot} {d:Dot} (h:Srch l d l.length l.length):l.contains d=false:=by
 rw [← Bool.not_eq_true,List.contains_iff_mem];intro hm;obtain ⟨t,ht,e⟩:=List.getElem_of_mem hm;have h0:cmpD l[t] d=0:=qnh.2 e;have:=h.1 t ht ht;omega
theorem quh (B:Nat) (A:Option Addr) (c:Nat) (l:List Dot) (d:Dot) (w:World) (h:qgm B w A l) (hl:l.length≤1000) (hs:SortedD ⟨-1,0⟩ l) (ho:∀ x∈l,qb8 x=true) (hd:qb8 d=true) :
  Calls Tryz.prog 202 #[.slice A l.length c,.agg #[.int .i64 d.site,.int .i64 d.count],.func (.func 192) #[] #[]] w fun e w'=>(∃ i:Nat,e=.returned (.tuple #[.int .i64 i,.bool (l.contains d)]))∧Ext w w':=by
 have HS:=hid hs;have HO:=hid ho;have HD:=hid hd;clear hs ho hd;have hx:=(Ext.refl w).alloc (.cells #[.int .i64 d.site,.int .i64 d.count] 35);go_enter Tryz.func202, Tryz.ntmps202;go_wp2_with fail;have q0:(w.alloc (.cells #[.int .i64 d.site,.int .i64 d.count] 35)).cell? ⟨w.heap.size,0,none⟩=some (.int .i64 d.site):=by go_simp
 have q1:(w.alloc (.cells #[.int .i64 d.site,.int .i64 d.count] 35)).cell? ⟨w.heap.size,1,none⟩=some (.int .i64 d.count):=by go_simp
 go_loopw [9,10] (fun x y wr=>∃ lo hi:Nat,x=.int .i64 lo∧y=.int .i64 hi∧lo≤hi∧hi≤l.length∧Srch l d lo hi∧Ext w wr∧wr.cell? ⟨w.heap.size,0,none⟩=some (.int .i64 d.site)∧wr.cell? ⟨w.heap.size,1,none⟩=some (.int .i64 d.count)) (fun x y _=>(intOf y).toNat - (intOf x).toNat)
 case atStart=>exact ⟨0,l.length,rfl,rfl,Nat.zero_le _,Nat.le_refl _,Srch.start l d,hx,q0,q1⟩
 clear hx q0 q1;obtain ⟨lo,hi,rfl,rfl,h1,h2,hsr,hx,q0,q1⟩:=hrel;have HR:=hid hsr;clear hsr
 by_cases aD:lo < hi
 ·obtain ⟨m,hm⟩:=ex1 ((lo+hi) / 2)
  have f8:m < l.length:=by omega
  have dZ:=hid f8;obtain ⟨b,off,rfl,hb,g0,g1⟩:=(h.ext RPair.mono hx).pair f8;have HC:=hid (fun w'=>qqr l[m] d w' (HO.out _ (List.getElem_mem dZ.out)) HD.out);generalize fV:l[m]=y at g0 g1 HC;have hy:=fV.symm;have HY:=hid hy;obtain ⟨C,hC⟩:=ex1 (cmpD y d);have HCC:=hid hC;rw [← hC] at HC;clear hy fV hC;have em:((lo:Int)+(hi:Int)) / 2=(m:Int):=by omega
  have HM:=hid hm;clear hm
  by_cases hc:C < 0
  ·have HN:=hid (HR.out.right HS.out dZ.out (show cmpD l[m] d < 0 by rw [← HY.out,← HCC.out];exact hc))
   have hc':decide (C < 0)=true:=decide_eq_true hc;clear hc;go_wp2_with fail;have aB:=hid (fun w' (x:Ext wr w')=>show w'.cell? ⟨w.heap.size,0,none⟩=some (.int .i64 d.site)∧w'.cell? ⟨w.heap.size,1,none⟩=some (.int .i64 d.count)∧w'.cell? ⟨b,off+m*2,none⟩=some (.int .i64 y.site)∧w'.cell? ⟨b,off+m*2+1,none⟩=some (.int .i64 y.count) from ⟨x.cell q0,x.cell q1,x.cell g0,x.cell g1⟩);have HQ0:=hid q0;have HQ1:=hid q1;clear q0 q1 g0 g1;refine qaj (fun w'=>Ext wr w') (by kernel_rfl) (by kernel_rfl) (Ext.refl _).drew ?_
   iterate 6
    refine wqg aB.out _ ?_;try simp only [pq]
   refine qn4 (by rfl) Tryz.call192 (by rfl) (fun w' x=>(HC.out w').mono fun _ _ h=>⟨h.1,x.trans h.2⟩) ?_;(try simp only [pq]);refine wqg aB.out _ ?_;(try simp only [pq]);(try simp only [hc']);refine qcf ?_;intro w25 aA;go_wp2_with fail;go_roundw
   case rel=>exact ⟨m+1,hi,by go_num,rfl,by have:=HM.out;omega,h2,HN.out,hx.trans aA,aA.cell HQ0.out,aA.cell HQ1.out⟩
   case measure=>have:=HM.out;simp [intOf];omega
  have HN:=hid (HR.out.left HS.out dZ.out (show 0≤cmpD l[m] d by rw [← HY.out,← HCC.out];omega));have hc':decide (C < 0)=false:=decide_eq_false hc;clear hc;go_wp2_with fail;have aB:=hid (fun w' (x:Ext wr w')=>show w'.cell? ⟨w.heap.size,0,none⟩=some (.int .i64 d.site)∧w'.cell? ⟨w.heap.size,1,none⟩=some (.int .i64 d.count)∧w'.cell? ⟨b,off+m*2,none⟩=some (.int .i64 y.site)∧w'.cell? ⟨b,off+m*2+1,none⟩=some (.int .i64 y.count) from ⟨x.cell q0,x.cell q1,x.cell g0,x.cell g1⟩);have HQ0:=hid q0;have HQ1:=hid q1;clear q0 q1 g0 g1;refine qaj (fun w'=>Ext wr w') (by kernel_rfl) (by kernel_rfl) (Ext.refl _).drew ?_
  iterate 6
   refine wqg aB.out _ ?_;try simp only [pq]
  refine qn4 (by rfl) Tryz.call192 (by rfl) (fun w' x=>(HC.out w').mono fun _ _ h=>⟨h.1,x.trans h.2⟩) ?_;(try simp only [pq]);refine wqg aB.out _ ?_;(try simp only [pq]);(try simp only [hc']);refine qcf ?_;intro w25 aA;go_wp2_with fail;go_roundw
  case rel=>exact ⟨lo,m,rfl,rfl,by have:=HM.out;omega,by omega,HN.out,hx.trans aA,aA.cell HQ0.out,aA.cell HQ1.out⟩
  case measure=>have:=HM.out;simp [intOf];omega
 ·obtain rfl:hi=lo:=by omega
  by_cases hn:hi < l.length
  focus
   have dZ:=hid hn;obtain ⟨b,off,rfl,hb,g0,g1⟩:=(h.ext RPair.mono hx).pair hn;have HC:=hid (fun w'=>qqr l[hi] d w' (HO.out _ (List.getElem_mem dZ.out)) HD.out);generalize fV:l[hi]=y at g0 g1 HC;have hy:=fV.symm;have HY:=hid hy;obtain ⟨C,hC⟩:=ex1 (cmpD y d);have HCC:=hid hC;rw [← hC] at HC;clear hy fV hC;have HF:=hid (show l.contains d=decide (C=0) by rw [HCC.out,HY.out];exact HR.out.found HS.out dZ.out);have hn':decide (hi < l.length)=true:=decide_eq_true hn;have hni:decide ((hi:Int) < l.length)=true:=decide_eq_true (by omega)
   by_cases hc:C=0
   focus
    have HN:=hid (show l.contains d=true by rw [HF.out];exact decide_eq_true hc);have hc':(C==0)=true:=beq_iff_eq.2 hc;clear hc;go_wp2_with fail;have aB:=hid (fun w' (x:Ext wr w')=>show w'.cell? ⟨w.heap.size,0,none⟩=some (.int .i64 d.site)∧w'.cell? ⟨w.heap.size,1,none⟩=some (.int .i64 d.count)∧w'.cell? ⟨b,off+hi*2,none⟩=some (.int .i64 y.site)∧w'.cell? ⟨b,off+hi*2+1,none⟩=some (.int .i64 y.count) from ⟨x.cell q0,x.cell q1,x.cell g0,x.cell g1⟩);have HQ0:=hid q0;have HQ1:=hid q1;clear q0 q1 g0 g1;refine qaj (fun w'=>Ext wr w') (by kernel_rfl) (by kernel_rfl) (Ext.refl _).drew ?_
    iterate 4
     refine wqg aB.out _ ?_;try simp only [pq]
    (try simp only [hc']);(try simp only [hn']);(try simp only [hni]);refine wqg aB.out _ ?_;try simp only [pq]
    iterate 6
     refine wqo aB.out _ (qa9 rfl rfl rfl) ?_;try simp only [pq]
    refine qj2 (by rfl) Tryz.call192 (qa9 rfl rfl rfl) (by rfl) (fun w' x=>(HC.out w').mono fun _ _ h=>⟨h.1,x.trans h.2⟩) ?_;(try simp only [pq]);refine wqo aB.out _ (qa9 rfl rfl rfl) ?_;(try simp only [pq]);(try simp only [hc']);(try simp only [hn']);try simp only [hni]
   rotate_left
   focus
    have HN:=hid (show l.contains d=false by rw [HF.out];exact decide_eq_false hc);have hc':(C==0)=false:=beq_eq_false_iff_ne.2 hc;clear hc;go_wp2_with fail;have aB:=hid (fun w' (x:Ext wr w')=>show w'.cell? ⟨w.heap.size,0,none⟩=some (.int .i64 d.site)∧w'.cell? ⟨w.heap.size,1,none⟩=some (.int .i64 d.count)∧w'.cell? ⟨b,off+hi*2,none⟩=some (.int .i64 y.site)∧w'.cell? ⟨b,off+hi*2+1,none⟩=some (.int .i64 y.count) from ⟨x.cell q0,x.cell q1,x.cell g0,x.cell g1⟩);have HQ0:=hid q0;have HQ1:=hid q1;clear q0 q1 g0 g1;refine qaj (fun w'=>Ext wr w') (by kernel_rfl) (by kernel_rfl) (Ext.refl _).drew ?_
    iterate 4
     refine wqg aB.out _ ?_;try simp only [pq]
    (try simp only [hc']);(try simp only [hn']);(try simp only [hni]);refine wqg aB.out _ ?_;try simp only [pq]
    iterate 6
     refine wqo aB.out _ (qa9 rfl rfl rfl) ?_;try simp only [pq]
    refine qj2 (by rfl) Tryz.call192 (qa9 rfl rfl rfl) (by rfl) (fun w' x=>(HC.out w').mono fun _ _ h=>⟨h.1,x.trans h.2⟩) ?_;(try simp only [pq]);refine wqo aB.out _ (qa9 rfl rfl rfl) ?_;(try simp only [pq]);(try simp only [hc']);(try simp only [hn']);try simp only [hni]
  rotate_left 2
  focus
   have HN:=hid (show l.contains d=false by
    obtain rfl:hi=l.length:=by omega
    exact HR.out.none)
   have hn':decide (hi < l.length)=false:=decide_eq_false hn;have hni:decide ((hi:Int) < l.length)=false:=decide_eq_false (by omega);clear hn;go_wp2_with fail;have aB:=hid (fun w' (_:Ext wr w')=>trivial);refine qaj (fun w'=>Ext wr w') (by kernel_rfl) (by kernel_rfl) (Ext.refl _).drew ?_
   iterate 4
    refine wqg aB.out _ ?_;try simp only [pq]
   (try simp only [hn']);(try simp only [hni]);refine wqg aB.out _ ?_;try simp only [pq]
   iterate 8
    refine qhq (qa9 rfl rfl rfl) ?_;try simp only [pq]
  all_goals
   iterate 3
    refine wqg aB.out _ ?_;try simp only [pq]
   refine qcf ?_;intro w25 aA;go_wp2_with fail;go_ret2;exact ⟨⟨hi,by rw [HN.out];rfl⟩,hx.trans aA⟩
end Go.Proofs.YtngbfdogiciahaaGreat
