/- Texts joined. -/
import Derived.Test.YtngbfdogiciahaaGreatJoinKnE
import Derived.Test.YtngbfdogiciahaaGreatShelfI
import Derived.ChangeMaps5
import Derived.MapKept
set_option maxRecDepth 100000
set_option maxHeartbeats 40000000
namespace Go.Proofs.YtngbfdogiciahaaGreat
open Go Go.RowKit
structure SiteS where
 me:Int
 made:Int
 stamp:Int
 filter:List Box
 shelf:List Version
 parts:List Part
structure AskS where
 site:Int
 stamp:Int
 filter:List Box
 parts:List Part
structure SiteOk (s:SiteS):Prop where
 me0:0≤s.me
 me4:s.me≤4
 made0:0≤s.made
 made1:s.made≤1000
 stamp0:0≤s.stamp
 filter:qa0 s.filter=0
 shelf:ShelfOk s.shelf
 lp:s.parts.length≤29
 parts:∀ x∈s.parts,PartOk x
def qdr (me:Int) (f:List Box):Int:=if 0≤me∧me≤4 then qa0 f else 1
def qe0 (me:Int) (f:List Box):SiteS:=⟨me,0,0,qf0 f,[],[]⟩
def ownV (me made:Int):List Int:=if made=0 then [] else List.replicate me.toNat 0++[made]
def ownP (s:SiteS):Part:=⟨qnt,⟨ownV s.me s.made,[]⟩⟩
def qch (s:SiteS):List Part:=qcl (ownP s::s.parts)
def qgh (s:SiteS) (id:ByteArray) (p:Point) (body:Int):Version:=⟨id,⟨s.me,s.made+1⟩,p,body,qbj s.shelf id⟩
def qdb (s:SiteS) (id:ByteArray) (p:Point) (body:Int):Int:=
 if idOk id=true then (if (qaz p&&qdu body)=true then (if s.made=1000 then 2 else if qbs s.shelf id=0 then qb7 s.shelf (qgh s id p body) else qbs s.shelf id) else 1) else 3
def qhe (s:SiteS) (id:ByteArray) (p:Point) (body:Int):Dot:=if qdb s id p body=0 then ⟨s.me,s.made+1⟩ else ⟨0,0⟩
def qke (s:SiteS) (id:ByteArray) (p:Point) (body:Int):SiteS:=if qdb s id p body=0 then { s with shelf:=qbk s.shelf (qgh s id p body),made:=s.made+1 } else s
def qbe (me:Int) (f:List Box) (v:Version):Bool:=decide (v.dot.site=me)||qbd f v.pt
def qjo (s:SiteS) (f:List Box):SiteS:=if qa0 f=0 then { s with filter:=qf0 f,stamp:=s.stamp+1,shelf:=s.shelf.filter (qbe s.me f),parts:=qbg s.parts f } else s
def askS (s:SiteS):AskS:=⟨s.me,s.stamp,s.filter,qch s⟩
def qca (a:AskS):Int:=if 0≤a.site∧a.site≤4∧0≤a.stamp then (if qa0 a.filter=0 then qac a.parts else qa0 a.filter) else 1
def qo3 (s:SiteS) (a:AskS):List Version:=s.shelf.filter fun v=>qbd a.filter v.pt&&!qdd a.parts v.pt v.dot
def qf9 (v:Version):Gone:=⟨v.id,v.past⟩
def qo2 (s:SiteS) (a:AskS):List Gone:=(s.shelf.filter fun v=>!qbd a.filter v.pt).map qf9
def qfd (s:SiteS) (a:AskS):Batch:=if qca a=0 then ⟨a.site,a.stamp,qo3 s a,qo2 s a,qbg (qch s) a.filter⟩ else ⟨0,0,[],[],[]⟩
def qcc:List Version→List Version→Int
 | _,[]=>0
 | l,v::r=>if qb7 l v=0 then qcc (qbk l v) r else qb7 l v
def qbt:List Version→List Version→List Version
 | l,[]=>l
 | l,v::r=>qbt (qbk l v) r
def qbc:List Version→List Gone→Int
 | _,[]=>0
 | l,g::r=>if qbl l g=0 then qbc (qbo l g) r else qbl l g
def qbu:List Version→List Gone→List Version
 | l,[]=>l
 | l,g::r=>qbu (qbo l g) r
def qco (s:SiteS) (b:Batch):Int:=
 if qcc s.shelf b.vers=0 then (if qbc (qbt s.shelf b.vers) b.gone=0 then (if qdl s.parts b.parts=0 then (if (qfu s.parts b.parts).length=30 then 2 else 0) else qdl s.parts b.parts) else qbc (qbt s.shelf b.vers) b.gone) else qcc s.shelf b.vers
def qba (s:SiteS) (b:Batch):Int:=if qan b=0 then (if b.site=s.me then (if b.stamp=s.stamp then qco s b else 6) else 1) else qan b
def qg3 (s:SiteS) (b:Batch):SiteS:=if qba s b=0 then { s with shelf:=qbu (qbt s.shelf b.vers) b.gone,parts:=qfu s.parts b.parts } else s
theorem qz7:qa0 qnt=0:=by decide +kernel
theorem jf5 {me made:Int} (h4:me≤4) (m0:0≤made) (m1:made≤1000):KnowOk ⟨ownV me made,[]⟩:=by
 have hc:(ownV me made).length≤5∧(∀ n∈ownV me made,0≤n∧n≤1000)∧(ownV me made).getLast?≠some 0:=by
  unfold ownV
  by_cases h:made=0
  ·rw [if_pos h];simp
  rw [if_neg h];refine ⟨by simp;omega,fun n hn=>?_,?_⟩
  ·rcases List.mem_append.1 hn with hn | hn
   ·rw [List.eq_of_mem_replicate hn];omega
   rw [List.mem_singleton.1 hn];omega
  simp [h]
 exact ⟨hc.1,Nat.zero_le _,hc.2.1,hc.2.2,by simp [SortedD],fun d hd=>by cases hd⟩
theorem quo {s:SiteS} (h:SiteOk s):PartOk (ownP s):=⟨qz7,jf5 h.me4 h.made0 h.made1⟩
theorem qu5 {l:List Part} (h:∀ x∈l,PartOk x):(qcl l).length≤l.length∧∀ x∈qcl l,PartOk x:=by
 refine ⟨by unfold qcl;rw [List.length_map];exact qqk l,fun x hx=>?_⟩;obtain ⟨y,hy,rfl⟩:=List.mem_map.1 hx;have hy2:=h y (qvn hy);exact ⟨(qcu hy2.f).2.1,hy2.k⟩
theorem qka {s:SiteS} (h:SiteOk s):(qch s).length≤30∧∀ x∈qch s,PartOk x:=by
 have hh:∀ x∈ownP s::s.parts,PartOk x:=by
  intro x hx;rcases List.mem_cons.1 hx with rfl | hx
  ·exact quo h
  exact h.parts x hx
 obtain ⟨a,b⟩:=qu5 hh;refine ⟨?_,b⟩;have:=h.lp;simp only [List.length_cons] at a;unfold qch;omega
theorem qis {l:List Part} {f:List Box} (h:∀ x∈l,PartOk x) (hl:l.length≤30) (hf:qa0 f=0):qhf l f=0∧qbg l f=qcl (l.map (qby f))∧(qbg l f).length≤l.length∧∀ x∈qbg l f,PartOk x:=by
 have e1:qhf l f=0:=by unfold qhf;rw [if_pos (qhh hl h),hf]
 have e2:qbg l f=qcl (l.map (qby f)):=by unfold qbg;rw [if_pos e1]
 have hh:∀ x∈l.map (qby f),PartOk x:=by
  intro x hx;obtain ⟨y,hy,rfl⟩:=List.mem_map.1 hx;exact qlf (h y hy) hf
 obtain ⟨a,b⟩:=qu5 hh;rw [List.length_map] at a;exact ⟨e1,e2,by rw [e2];exact a,by rw [e2];exact b⟩
theorem qlm {me:Int} {f:List Box} (h:qdr me f=0):SiteOk (qe0 me f):=by
 unfold qdr at h
 by_cases hm:0≤me∧me≤4
 ·rw [if_pos hm] at h
  exact ⟨hm.1,hm.2,Int.le_refl _,Int.le_trans (Int.le_refl 0) (by decide),Int.le_refl _,(qcu h).2.1,⟨Nat.zero_le _,(fun v hv=>by cases hv),rfl,rfl⟩,Nat.zero_le _,fun v hv=>by cases hv⟩
 rw [if_neg hm] at h;cases h
theorem qqu {s:SiteS} (h:SiteOk s) (id:ByteArray) (p:Point) (body:Int):SiteOk (qke s id p body):=by
 unfold qke
 by_cases he:qdb s id p body=0
 ·rw [if_pos he]
  unfold qdb at he
  by_cases h1:idOk id=true
  ·rw [if_pos h1] at he
   by_cases h2:(qaz p&&qdu body)=true
   ·rw [if_pos h2] at he
    by_cases h3:s.made=1000
    ·rw [if_pos h3] at he;cases he
    rw [if_neg h3] at he
    by_cases h4:qbs s.shelf id=0
    ·rw [if_pos h4] at he
     have a:=qkk he;have m0:=h.made0;have m1:=h.made1;exact ⟨h.me0,h.me4,by show 0≤s.made+1;omega,by show s.made+1≤1000;omega,h.stamp0,h.filter,a.2.2.1,h.lp,h.parts⟩
    rw [if_neg h4] at he;exact absurd he h4
   rw [if_neg h2] at he;cases he
  rw [if_neg h1] at he;cases he
 rw [if_neg he];exact h
theorem je2 {s:SiteS} (h:SiteOk s) (f:List Box):SiteOk (qjo s f):=by
 unfold qjo
 by_cases hf:qa0 f=0
 ·rw [if_pos hf]
  obtain ⟨_,_,a,b⟩:=qis h.parts (Nat.le_trans h.lp (by decide)) hf;have t0:=h.stamp0;exact ⟨h.me0,h.me4,h.made0,h.made1,by show 0≤s.stamp+1;omega,(qcu hf).2.1,h.shelf.filter _,Nat.le_trans a h.lp,b⟩
 rw [if_neg hf];exact h
theorem qlj:∀ (vs:List Version) (l:List Version),ShelfOk l→qcc l vs=0→ShelfOk (qbt l vs)
 | [],_,h,_=>h
 | v::r,l,h,he=>by
  rw [qcc] at he
  by_cases h1:qb7 l v=0
  ·rw [if_pos h1] at he
   exact qlj r (qbk l v) (qkk h1).2.2.1 he
  rw [if_neg h1] at he;exact absurd he h1
theorem ql6 {l:List Version} {g:Gone} (h:ShelfOk l) (he:qbl l g=0):ShelfOk (qbo l g)∧qbo l g=qhr l g:=by
 have h0:=qc5 h;unfold qbl at he;rw [if_pos h0] at he;have e:qbo l g=qhr l g:=by unfold qbo;rw [if_pos h0,if_pos he]
 exact ⟨by rw [e];exact h.filter _,e⟩
theorem qno:∀ (gs:List Gone) (l:List Version),ShelfOk l→qbc l gs=0→ShelfOk (qbu l gs)
 | [],_,h,_=>h
 | g::r,l,h,he=>by
  rw [qbc] at he
  by_cases h1:qbl l g=0
  ·rw [if_pos h1] at he
   exact qno r (qbo l g) (ql6 h h1).1 he
  rw [if_neg h1] at he;exact absurd he h1
theorem qoy {s:SiteS} {b:Batch} (h:qco s b=0):qcc s.shelf b.vers=0∧qbc (qbt s.shelf b.vers) b.gone=0∧qdl s.parts b.parts=0∧(qfu s.parts b.parts).length≠30:=by
 unfold qco at h
 by_cases h1:qcc s.shelf b.vers=0
 ·rw [if_pos h1] at h
  by_cases h2:qbc (qbt s.shelf b.vers) b.gone=0
  ·rw [if_pos h2] at h
   by_cases h3:qdl s.parts b.parts=0
   ·rw [if_pos h3] at h
    by_cases h4:(qfu s.parts b.parts).length=30
    ·rw [if_pos h4] at h;cases h
    exact ⟨h1,h2,h3,h4⟩
   rw [if_neg h3] at h;exact absurd h h3
  rw [if_neg h2] at h;exact absurd h h2
 rw [if_neg h1] at h;exact absurd h h1
theorem qvu {a b:List Part} (h:qdl a b=0):(∀ x∈a,PartOk x)∧(∀ x∈b,PartOk x)∧qfu a b=qcl (a++b)∧(qfu a b).length≤30∧∀ x∈qfu a b,PartOk x:=by
 have e:qfu a b=qcl (a++b):=by unfold qfu;rw [if_pos h]
 unfold qdl at h
 by_cases h1:qew a b=0
 ·rw [if_pos h1] at h
  have hab:qac a=0∧qac b=0:=by
   unfold qew at h1
   by_cases h2:qac a=0
   ·rw [if_pos h2] at h1;exact ⟨h2,h1⟩
   rw [if_neg h2] at h1;exact absurd h1 h2
  by_cases h3:30 < (qcl (a++b)).length
  ·rw [if_pos h3] at h;cases h
  have ha:=(qci hab.1).2;have hb:=(qci hab.2).2;have:=qu5 (l:=a++b) (fun x hx=>(List.mem_append.1 hx).elim (ha x) (hb x));exact ⟨ha,hb,e,by rw [e];omega,by rw [e];exact this.2⟩
 rw [if_neg h1] at h;exact absurd h h1
theorem jdy {s:SiteS} (h:SiteOk s) (b:Batch):SiteOk (qg3 s b):=by
 unfold qg3
 by_cases he:qba s b=0
 ·rw [if_pos he]
  unfold qba at he
  by_cases h1:qan b=0
  ·rw [if_pos h1] at he
   by_cases h2:b.site=s.me
   ·rw [if_pos h2] at he
    by_cases h3:b.stamp=s.stamp
    ·rw [if_pos h3] at he
     obtain ⟨a1,a2,a3,a4⟩:=qoy he;obtain ⟨_,_,_,b1,b2⟩:=qvu a3;exact ⟨h.me0,h.me4,h.made0,h.made1,h.stamp0,h.filter,qno _ _ (qlj _ _ h.shelf a1) a2,by show (qfu s.parts b.parts).length≤29;omega,b2⟩
    rw [if_neg h3] at he;cases he
   rw [if_neg h2] at he;cases he
  rw [if_neg h1] at he;exact absurd he h1
 rw [if_neg he];exact h
end Go.Proofs.YtngbfdogiciahaaGreat
namespace Go.Proofs.YtngbfdogiciahaaGreat
open Go Go.RowKit Go.ChangeShapes Go.WideShapes Go.Deep Go.Joins
def RGone (B:Nat) (w:World) (cs:List Value) (g:Gone):Prop:=∃ a m,cs=[.string g.id,a,m]∧qhu B w a g.past.vec∧IsDots B w m g.past.more∧g.id.size≤maxLen
theorem RGone.mono {B:Nat} {ts:List TypeId} (h3:3∉ts) (h4:35∉ts):Mono B ts (RGone B):=by
 rintro w w' cs v x ⟨a,m,rfl,ha,hm,hz⟩;exact ⟨a,m,rfl,ha.chg RInt.mono h3 x,hm.chg RPair.mono h4 x,hz⟩
theorem RGone.monoE {B:Nat}:Mono B [] (RGone B):=RGone.mono (by simp) (by simp)
theorem RGone.oneC {B:Nat}:OneC (RGone B):=by
 rintro w cs v ⟨a,m,rfl,⟨_,_,rfl,_⟩,⟨_,_,rfl,_⟩,_⟩ u hu;simp at hu;rcases hu with rfl | rfl | rfl <;> rfl
abbrev qh4 (B:Nat):=Sl B 103 (RGone B) 3
abbrev qyi (B:Nat):=IsSl B 103 (RGone B) 3
structure InG (B:Nat) (w:World) (Av:Option Addr) (cv:Nat) (Am:Option Addr) (cm:Nat) (v:Gone):Prop where
 lcv:v.past.vec.length≤cv∧cv≤maxLen
 lcm:v.past.more.length≤cm∧cm≤maxLen
 lid:v.id.size≤maxLen
 k:InK B w Av Am v.past
theorem InG.ext {B:Nat} {w w':World} {Av:Option Addr} {cv:Nat} {Am:Option Addr} {cm:Nat} {v:Gone} (h:InG B w Av cv Am cm v) (x:Ext w w'):InG B w' Av cv Am cm v:=⟨h.lcv,h.lcm,h.lid,h.k.ext x⟩
theorem InG.chg {B:Nat} {ts:List TypeId} {w w':World} {Av:Option Addr} {cv:Nat} {Am:Option Addr} {cm:Nat} {v:Gone} (h:InG B w Av cv Am cm v) (x:Chg B ts w w') (h3:3∉ts) (h4:35∉ts):InG B w' Av cv Am cm v:=⟨h.lcv,h.lcm,h.lid,h.k.chg x h3 h4⟩
theorem InG.isK {B:Nat} {w:World} {Av:Option Addr} {cv:Nat} {Am:Option Addr} {cm:Nat} {v:Gone} (h:InG B w Av cv Am cm v):IsK B w (.agg #[.slice Av v.past.vec.length cv,.slice Am v.past.more.length cm]) v.past:=
 ⟨Av,cv,Am,cm,rfl,h.lcv.1,h.lcv.2,h.lcm.1,h.lcm.2,h.k⟩
theorem InG.rgone {B:Nat} {w:World} {Av:Option Addr} {cv:Nat} {Am:Option Addr} {cm:Nat} {v:Gone} (h:InG B w Av cv Am cm v):RGone B w [.string v.id,.slice Av v.past.vec.length cv,.slice Am v.past.more.length cm] v:=
 ⟨_,_,rfl,⟨Av,cv,rfl,h.lcv.1,h.lcv.2,h.k.sv⟩,⟨Am,cm,rfl,h.lcm.1,h.lcm.2,h.k.sm⟩,h.lid⟩
theorem RGone.inG {B:Nat} {w:World} {cs:List Value} {v:Gone} (h:RGone B w cs v):∃ Av cv Am cm,cs=[.string v.id,.slice Av v.past.vec.length cv,.slice Am v.past.more.length cm]∧InG B w Av cv Am cm v:=by
 obtain ⟨a,m,rfl,⟨Av,cv,rfl,v1,v2,v3⟩,⟨Am,cm,rfl,m1,m2,m3⟩,hz⟩:=h;exact ⟨Av,cv,Am,cm,rfl,⟨⟨v1,v2⟩,⟨m1,m2⟩,hz,⟨by omega,by omega,v3,m3⟩⟩⟩
theorem Sl.gone {B:Nat} {w:World} {A:Option Addr} {l:List Gone} (h:qh4 B w A l) {i:Nat} (hi:i < l.length) :
  ∃ b off Av cv Am cm,A=some ⟨b,off,none⟩∧b < w.heap.size∧w.rangeAt b (off+i*3) [.string l[i].id,.slice Av l[i].past.vec.length cv,.slice Am l[i].past.more.length cm]∧InG B w Av cv Am cm l[i]:=by
 obtain ⟨b,off,cs,hA,hb,_,hc,hR⟩:=h.at_ hi;obtain ⟨Av,cv,Am,cm,rfl,hP⟩:=hR.inG;exact ⟨b,off,Av,cv,Am,cm,hA,hb,hc,hP⟩
structure InB (B:Nat) (w:World) (Ax:Option Addr) (cx:Nat) (Ag:Option Addr) (cg:Nat) (Ap:Option Addr) (cp:Nat) (b:Batch):Prop where
 lx:b.vers.length≤cx∧cx≤maxLen
 lg:b.gone.length≤cg∧cg≤maxLen
 lp:b.parts.length≤cp∧cp≤maxLen
 sx:qb6 B w Ax b.vers
 sg:qh4 B w Ag b.gone
 sp:qcg B w Ap b.parts
theorem InB.ext {B:Nat} {w w':World} {Ax:Option Addr} {cx:Nat} {Ag:Option Addr} {cg:Nat} {Ap:Option Addr} {cp:Nat} {b:Batch} (h:InB B w Ax cx Ag cg Ap cp b) (x:Ext w w'):InB B w' Ax cx Ag cg Ap cp b:=
 ⟨h.lx,h.lg,h.lp,h.sx.ext RVer.monoE x,h.sg.ext RGone.monoE x,h.sp.ext RPart.monoE x⟩
theorem InB.mx {B:Nat} {w:World} {Ax:Option Addr} {cx:Nat} {Ag:Option Addr} {cg:Nat} {Ap:Option Addr} {cp:Nat} {b:Batch} (h:InB B w Ax cx Ag cg Ap cp b):b.vers.length≤maxLen∧b.gone.length≤maxLen∧b.parts.length≤maxLen:=by
 have h1:=h.lx;have h2:=h.lg;have h3:=h.lp;omega
theorem InB.empty {B:Nat} {w:World} {s t:Int}:InB B w none 0 none 0 none 0 ⟨s,t,[],[],[]⟩:=⟨⟨Nat.zero_le _,Nat.zero_le _⟩,⟨Nat.zero_le _,Nat.zero_le _⟩,⟨Nat.zero_le _,Nat.zero_le _⟩,Sl.nil,Sl.nil,Sl.nil⟩
section
variable {H:Type} {enc:TypeId×Value→H} {w:World} {spare:Nat→Bool} {held:Bool}
theorem qww:Tryz.prog.cellsOf 103=3:=by kernel_rfl
theorem qx1:Tryz.prog.cellsOf 48=1:=by kernel_rfl
theorem qtw:Tryz.prog.cellsOf 88=1:=by kernel_rfl
theorem qlw:Tryz.prog.cellsOf 66=1:=by kernel_rfl
theorem qtu:Tryz.prog.cellsOf 90=5:=by kernel_rfl
theorem qzg (n:Nat) (cs:List Value) (y:DataW H×List MemPlace) (hl:cs.length=3) (h:DataW.trod enc Tryz.prog w 0 spare held n 103 cs=some y):∃ z:Gone,RGone w.heap.size w cs z∧True:=by
 obtain ⟨x,u,v,h1,⟨s,rfl,hz⟩,k,h3,h4⟩:=qpv (P:=Tryz.prog) (R0:=fun v=>∃ s:ByteArray,v=.string s∧s.size≤maxLen) (R1:=fun u v=>∃ k:Know,qhu w.heap.size w u k.vec∧IsDots w.heap.size w v k.more) Tryz.underlying103 (And.intro rfl rfl) (And.intro rfl rfl) qrq ql2 qrf ql8 n cs y hl h;exact ⟨⟨s,k⟩,⟨u,v,h1,h3,h4,hz⟩,trivial⟩
theorem jbr (n:Nat) (cs:List Value) (y:DataW H×List MemPlace) (h:DataW.trod enc Tryz.prog w 0 spare held n 48 cs=some y):∃ v,cs=[v]∧∃ l,qlt w.heap.size w v l:=by
 obtain ⟨v,l,h1,h2,_⟩:=qc6 (P:=Tryz.prog) (R:=RVer w.heap.size) (Q:=fun _=>True) Tryz.underlying48 qyq (by omega) je1 h;exact ⟨v,h1,l,h2⟩
theorem qxc (n:Nat) (cs:List Value) (y:DataW H×List MemPlace) (h:DataW.trod enc Tryz.prog w 0 spare held n 88 cs=some y):∃ v,cs=[v]∧∃ l,qyi w.heap.size w v l:=by
 obtain ⟨v,l,h1,h2,_⟩:=qc6 (P:=Tryz.prog) (R:=RGone w.heap.size) (Q:=fun _=>True) Tryz.underlying88 qww (by omega) qzg h;exact ⟨v,h1,l,h2⟩
theorem qpy (n:Nat) (cs:List Value) (y:DataW H×List MemPlace) (h:DataW.trod enc Tryz.prog w 0 spare held n 66 cs=some y):∃ v,cs=[v]∧∃ l,qja w.heap.size w v l:=by
 obtain ⟨v,l,h1,h2,_⟩:=qc6 (P:=Tryz.prog) (R:=RPart w.heap.size) (Q:=fun _=>True) Tryz.underlying66 qwy (by omega) jak h;exact ⟨v,h1,l,h2⟩
theorem jcn {P:Program} {t a b c d e:TypeId} {f0 f1 f2 f3 f4:Field} {R0 R1 R2 R3 R4:Value→Prop} (ht:P.underlying t=some (.struct #[f0,f1,f2,f3,f4])) (h0:f0.type=a∧f0.offset=0) (h1:f1.type=b∧f1.offset=1) (h2:f2.type=c∧f2.offset=2) (h3:f3.type=d∧f3.offset=3) (h4:f4.type=e∧f4.offset=4)
  (ha:P.cellsOf a=1) (hb:P.cellsOf b=1) (hc:P.cellsOf c=1) (hd:P.cellsOf d=1) (he:P.cellsOf e=1)
  (e0:∀ (n:Nat) (cs:List Value) (y:DataW H×List MemPlace),DataW.trod enc P w 0 spare held n a cs=some y→∃ v,cs=[v]∧R0 v)
  (e1:∀ (n:Nat) (cs:List Value) (y:DataW H×List MemPlace),DataW.trod enc P w 0 spare held n b cs=some y→∃ v,cs=[v]∧R1 v)
  (e2:∀ (n:Nat) (cs:List Value) (y:DataW H×List MemPlace),DataW.trod enc P w 0 spare held n c cs=some y→∃ v,cs=[v]∧R2 v)
  (e3:∀ (n:Nat) (cs:List Value) (y:DataW H×List MemPlace),DataW.trod enc P w 0 spare held n d cs=some y→∃ v,cs=[v]∧R3 v)
  (e4:∀ (n:Nat) (cs:List Value) (y:DataW H×List MemPlace),DataW.trod enc P w 0 spare held n e cs=some y→∃ v,cs=[v]∧R4 v)
  (n:Nat) (cs:List Value) (y:DataW H×List MemPlace) (hl:cs.length=5) (h:DataW.trod enc P w 0 spare held n t cs=some y):∃ x0 x1 x2 x3 x4,cs=[x0,x1,x2,x3,x4]∧R0 x0∧R1 x1∧R2 x2∧R3 x3∧R4 x4:=by
 obtain ⟨xs,m,_,_,_,hx,hg⟩:=DataW.trod_struct ht h
 match cs,hl with
 | [c0,c1,c2,c3,c4],_=>
  match xs,hx with
  | [y0,y1,y2,y3,y4],_=>
   have g0:=hg 0 f0 rfl;have g1:=hg 1 f1 rfl;have g2:=hg 2 f2 rfl;have g3:=hg 3 f3 rfl;have g4:=hg 4 f4 rfl;rw [h0.1,h0.2,ha] at g0;rw [h1.1,h1.2,hb] at g1;rw [h2.1,h2.2,hc] at g2;rw [h3.1,h3.2,hd] at g3;rw [h4.1,h4.2,he] at g4;obtain ⟨x0,q0,r0⟩:=e0 _ _ _ g0;obtain ⟨x1,q1,r1⟩:=e1 _ _ _ g1;obtain ⟨x2,q2,r2⟩:=e2 _ _ _ g2;obtain ⟨x3,q3,r3⟩:=e3 _ _ _ g3;obtain ⟨x4,q4,r4⟩:=e4 _ _ _ g4;simp at q0 q1 q2 q3 q4;subst q0 q1 q2 q3 q4;exact ⟨_,_,_,_,_,rfl,r0,r1,r2,r3,r4⟩
theorem qwq (n:Nat) (cs:List Value) (y:DataW H×List MemPlace) (hl:cs.length=5) (h:DataW.trod enc Tryz.prog w 0 spare held n 90 cs=some y):∃ z:Batch,(∃ Ax cx Ag cg Ap cp,cs=[.int .i64 z.site, .int .i64 z.stamp, .slice Ax z.vers.length cx, .slice Ag z.gone.length cg, .slice Ap z.parts.length cp]∧InB w.heap.size w Ax cx Ag cg Ap cp z)∧True:=by
 obtain ⟨x0,x1,x2,x3,x4,rfl,⟨s,rfl⟩,⟨t,rfl⟩,⟨lx,Ax,cx,rfl,a1,a2,a3⟩,⟨lg,Ag,cg,rfl,b1,b2,b3⟩,⟨lp,Ap,cp,rfl,c1,c2,c3⟩⟩:=jcn (P:=Tryz.prog) (R0:=fun v=>∃ s:Int,v=.int .i64 s) (R1:=fun v=>∃ s:Int,v=.int .i64 s) (R2:=fun v=>∃ l,qlt w.heap.size w v l) (R3:=fun v=>∃ l,qyi w.heap.size w v l) (R4:=fun v=>∃ l,qja w.heap.size w v l)
  Tryz.underlying90 (And.intro rfl rfl) (And.intro rfl rfl) (And.intro rfl rfl) (And.intro rfl rfl) (And.intro rfl rfl) qd0 qd0 qx1 qtw qlw qi6 qi6 jbr qxc qpy n cs y hl h
 exact ⟨⟨s,t,lx,lg,lp⟩,⟨Ax,cx,Ag,cg,Ap,cp,rfl,⟨⟨a1,a2⟩,⟨b1,b2⟩,⟨c1,c2⟩,a3,b3,c3⟩⟩,trivial⟩
end
theorem qih:qc0 Tryz.prog 103 3:=⟨⟨_,Tryz.underlying103,rfl⟩,by kernel_rfl⟩
theorem qcd:qc0 Tryz.prog 90 5:=⟨⟨_,Tryz.underlying90,rfl⟩,by kernel_rfl⟩
end Go.Proofs.YtngbfdogiciahaaGreat
namespace Go.Proofs.YtngbfdogiciahaaGreat
open Go Go.RowKit Go.MapKept
structure Fr (r:Nat) (w w':World):Prop where
 os:w'.os=w.os
 tape:w'.tape=w.tape
 output:w'.output=w.output
 size:w.heap.size≤w'.heap.size
 block:∀ k,k < w.heap.size→k≠r→w'.heap[k]?=w.heap[k]?
def MapR (w:World) (r:Nat) (R:Nat→Value→Prop):Prop:=∃ arr clock,w.heap[r]?=some (.map arr clock)∧∀ e∈arr.toList,∃ k:Nat,e.key=.int .i64 k∧R k e.val
section
variable {r:Nat} {a b c w w':World} {R S:Nat→Value→Prop}
theorem Fr.of_ext (h:Ext a b):Fr r a b:=⟨Below.os h,Below.tape h,Below.output h,h.size,fun _ hk _=>h.blockAt hk⟩
theorem Fr.refl (w:World):Fr r w w:=.of_ext (Ext.refl w)
theorem Fr.trans (h:Fr r a b) (k:Fr r b c):Fr r a c:=
 ⟨k.os.trans h.os,k.tape.trans h.tape,k.output.trans h.output,Nat.le_trans h.size k.size,fun i hi hr=>(k.block i (Nat.lt_of_lt_of_le hi h.size) hr).trans (h.block i hi hr)⟩
theorem Fr.drew (h:Fr r a w):Fr r a w.drew:=h.trans (.of_ext (Ext.refl w).drew)
theorem Fr.setCell (h:Fr r a w) {p:Addr} (hp:a.heap.size≤p.block) (u:Value):Fr r a (w.setCell p u):=
 ⟨h.os,h.tape,h.output,by simpa [World.setCell] using h.size,fun k hk hr=>(Below.heap_setCell w p u k (by omega)).trans (h.block k hk hr)⟩
theorem Fr.below {B:Nat} (h:Fr r a w) (k:Below B w b) (hB:a.heap.size≤B):Fr r a b:=
 ⟨k.os.trans h.os,k.tape.trans h.tape,k.output.trans h.output,Nat.le_trans h.size k.size,fun i hi hr=>(k.block i (by omega)).trans (h.block i hi hr)⟩
theorem Fr.ext (h:Fr r a b) (hr:a.heap.size≤r):Ext a b:=⟨h.os,h.tape,h.output,h.size,fun k hk=>h.block k hk (by omega)⟩
theorem MapR.lt (h:MapR w r R):r < w.heap.size:=by
 obtain ⟨_,_,h1,_⟩:=h;exact (Array.getElem?_eq_some_iff.1 h1).1
theorem MapR.imp (h:MapR w r R) (f:∀ k v,R k v→S k v):MapR w r S:=by
 obtain ⟨arr,cl,h1,h2⟩:=h;exact ⟨arr,cl,h1,fun e he=>by obtain ⟨k,h3,h4⟩:=h2 e he;exact ⟨k,h3,f _ _ h4⟩⟩
theorem MapR.at_ (h:MapR w r R) (e:w'.heap[r]?=w.heap[r]?):MapR w' r R:=by
 obtain ⟨arr,cl,h1,h2⟩:=h;exact ⟨arr,cl,e.trans h1,h2⟩
theorem MapR.ext (h:MapR w r R) (x:Ext w w'):MapR w' r R:=h.at_ (x.blockAt h.lt)
theorem Fr.ne (hm:MapR w r R) {k o:Nat} {u:Value} (hc:w.cell? ⟨k,o,none⟩=some u):k≠r:=by
 rintro rfl;obtain ⟨arr,cl,h1,_⟩:=hm;simp [World.cell?,h1] at hc
theorem Fr.cell (h:Fr r w w') (hm:MapR w r R) {k o:Nat} {u:Value} (hc:w.cell? ⟨k,o,none⟩=some u):w'.cell? ⟨k,o,none⟩=some u:=
 (World.cell?_of_block (w:=w) (h.block k (World.block_lt_of_cell? _ _ hc) (Fr.ne hm hc))).trans hc
theorem Fr.blk (h:Fr r w w') (hm:MapR w r R) {k:Nat} {e:TypeId} {cs:Array Value} (hb:Blk w k e cs):Blk w' k e cs:=by
 refine (h.block k hb.lt ?_).trans hb;rintro rfl;obtain ⟨arr,cl,h1,_⟩:=hm;unfold Blk at hb;rw [h1] at hb
 cases hb
theorem Sl.fr {α:Type} {B:Nat} {e:TypeId} {Q:World→List Value→α→Prop} {sz:Nat} {A:Option Addr} {l:List α} (aW:0 < sz) (h:Sl B e Q sz w A l) (x:Fr r w w') (hm:MapR w r R) (hq:∀ cs y,Q w cs y→Q w' cs y):Sl B e Q sz w' A l:=by
 intro i y hi;obtain ⟨b,off,cs,hA,hb,ho,hl,hc,hy⟩:=h i y hi;have h0:=hc 0 cs[0] (by simp);have aV:=Fr.ne hm h0;refine ⟨b,off,cs,hA,Nat.lt_of_lt_of_le hb x.size,?_,hl,fun j u hu=>x.cell hm (hc j u hu),hq _ _ hy⟩;rcases ho with ho | ho
 ·exact .inl ho
 exact .inr (by rw [qep (x.block b hb aV)];exact ho)
end
section
variable {P:Program} {t kt et:TypeId} {w:World} {r i:Nat} {R:Nat→Value→Prop}
variable {ops:Array Oper} {rest:List Oper} {o:Oper} {a:Act} {Q:Exit→Act→World→Prop}
end
end Go.Proofs.YtngbfdogiciahaaGreat
namespace Go.Proofs.YtngbfdogiciahaaGreat
open Go Go.RowKit
theorem Fr.setR {r:Nat} {a w:World} (h:Fr r a w) (o:Nat) (u:Value):Fr r a (w.setCell ⟨r,o,none⟩ u):=
 ⟨h.os,h.tape,h.output,by simpa [World.setCell] using h.size,fun k hk hr=>(Below.heap_setCell w ⟨r,o,none⟩ u k hr).trans (h.block k hk hr)⟩
theorem Fr.chg {B r:Nat} {w w':World} {t:TypeId} (x:Fr r w w') (ht:tyAt w r=some t) (hB:B≤r):Chg B [t] w w':=
 ⟨x.os,x.tape,x.output,x.size,fun k hk hc=>x.block k hk (by
  rintro rfl;rcases hc with hc | hc
  ·omega
  exact hc t (by simp) ht)⟩
theorem Fr.blkO {r b:Nat} {w w':World} {e:TypeId} {cs:Array Value} (x:Fr r w w') (h:Blk w b e cs) (aV:b≠r):Blk w' b e cs:=(x.block b h.lt aV).trans h
structure SiteAt (B:Nat) (w:World) (r:Nat) (Af:Option Addr) (cf:Nat) (Ax:Option Addr) (cx:Nat) (Ap:Option Addr) (cp:Nat) (s:SiteS):Prop where
 blk:Blk w r 159 #[.int .i64 s.me, .int .i64 s.made, .int .i64 s.stamp, .slice Af s.filter.length cf, .slice Ax s.shelf.length cx, .slice Ap s.parts.length cp]
 sf:qaw B w Af s.filter
 sx:qb6 B w Ax s.shelf
 sp:qcg B w Ap s.parts
theorem SiteAt.ext {B:Nat} {w w':World} {r:Nat} {Af:Option Addr} {cf:Nat} {Ax:Option Addr} {cx:Nat} {Ap:Option Addr} {cp:Nat} {s:SiteS} (h:SiteAt B w r Af cf Ax cx Ap cp s) (x:Ext w w'):SiteAt B w' r Af cf Ax cx Ap cp s:=
 ⟨h.blk.ext x,h.sf.ext RBox.monoE x,h.sx.ext RVer.monoE x,h.sp.ext RPart.monoE x⟩
def IsSite (B:Nat) (w:World) (r:Nat) (s:SiteS):Prop:=∃ Af cf Ax cx Ap cp,SiteAt B w r Af cf Ax cx Ap cp s
theorem IsSite.ext {B:Nat} {w w':World} {r:Nat} {s:SiteS} (h:IsSite B w r s) (x:Ext w w'):IsSite B w' r s:=by
 obtain ⟨Af,cf,Ax,cx,Ap,cp,h⟩:=h;exact ⟨Af,cf,Ax,cx,Ap,cp,h.ext x⟩
theorem SiteAt.is {B:Nat} {w:World} {r:Nat} {Af:Option Addr} {cf:Nat} {Ax:Option Addr} {cx:Nat} {Ap:Option Addr} {cp:Nat} {s:SiteS} (h:SiteAt B w r Af cf Ax cx Ap cp s):IsSite B w r s:=⟨Af,cf,Ax,cx,Ap,cp,h⟩
theorem IsSite.ty {B:Nat} {w:World} {r:Nat} {s:SiteS} (h:IsSite B w r s):tyAt w r=some 159:=by
 obtain ⟨Af,cf,Ax,cx,Ap,cp,h⟩:=h;exact h.blk.ty
theorem IsSite.lt {B:Nat} {w:World} {r:Nat} {s:SiteS} (h:IsSite B w r s):r < w.heap.size:=by
 obtain ⟨Af,cf,Ax,cx,Ap,cp,h⟩:=h;exact h.blk.lt
theorem IsSite.other {B:Nat} {w w':World} {r r':Nat} {s:SiteS} (h:IsSite B w r s) (x:Fr r' w w') (ht:tyAt w r'=some 159) (hB:B≤r') (aV:r≠r'):IsSite B w' r s:=by
 obtain ⟨Af,cf,Ax,cx,Ap,cp,h⟩:=h;have hc:=x.chg ht hB;exact ⟨Af,cf,Ax,cx,Ap,cp,x.blkO h.blk aV,h.sf.chg (RBox.mono (by decide)) (by decide) hc,h.sx.chg (RVer.mono (by decide) (by decide)) (by decide) hc,h.sp.chg (RPart.mono (by decide) (by decide) (by decide) (by decide)) (by decide) hc⟩
section
variable {B:Nat} {w:World} {r:Nat} {Af:Option Addr} {cf:Nat} {Ax:Option Addr} {cx:Nat} {Ap:Option Addr} {cp:Nat} {s:SiteS}
theorem SiteAt.chgS (h:SiteAt B w r Af cf Ax cx Ap cp s) (hB:B≤r) (o:Nat) (u:Value):Chg B [159] w (w.setCell ⟨r,o,none⟩ u):=(Chg.refl w).setCell (p:=⟨r,o,none⟩) h.blk.ty (by simp) u hB
theorem SiteAt.setMade (h:SiteAt B w r Af cf Ax cx Ap cp s) (hB:B≤r) (n:Int):SiteAt B (w.setCell ⟨r,1,none⟩ (.int .i64 n)) r Af cf Ax cx Ap cp { s with made:=n }:=by
 have hc:=h.chgS hB 1 (.int .i64 n);exact ⟨by simpa using h.blk.set 1 (.int .i64 n),h.sf.chg (RBox.mono (by decide)) (by decide) hc,h.sx.chg (RVer.mono (by decide) (by decide)) (by decide) hc,h.sp.chg (RPart.mono (by decide) (by decide) (by decide) (by decide)) (by decide) hc⟩
theorem SiteAt.setStamp (h:SiteAt B w r Af cf Ax cx Ap cp s) (hB:B≤r) (n:Int):SiteAt B (w.setCell ⟨r,2,none⟩ (.int .i64 n)) r Af cf Ax cx Ap cp { s with stamp:=n }:=by
 have hc:=h.chgS hB 2 (.int .i64 n);exact ⟨by simpa using h.blk.set 2 (.int .i64 n),h.sf.chg (RBox.mono (by decide)) (by decide) hc,h.sx.chg (RVer.mono (by decide) (by decide)) (by decide) hc,h.sp.chg (RPart.mono (by decide) (by decide) (by decide) (by decide)) (by decide) hc⟩
theorem SiteAt.setFilter (h:SiteAt B w r Af cf Ax cx Ap cp s) (hB:B≤r) {A:Option Addr} {c:Nat} {f:List Box} (hf:qaw B w A f):SiteAt B (w.setCell ⟨r,3,none⟩ (.slice A f.length c)) r A c Ax cx Ap cp { s with filter:=f }:=by
 have hc:=h.chgS hB 3 (.slice A f.length c);exact ⟨by simpa using h.blk.set 3 (.slice A f.length c),hf.chg (RBox.mono (by decide)) (by decide) hc,h.sx.chg (RVer.mono (by decide) (by decide)) (by decide) hc,h.sp.chg (RPart.mono (by decide) (by decide) (by decide) (by decide)) (by decide) hc⟩
theorem SiteAt.setShelf (h:SiteAt B w r Af cf Ax cx Ap cp s) (hB:B≤r) {A:Option Addr} {c:Nat} {l:List Version} (hl:qb6 B w A l):SiteAt B (w.setCell ⟨r,4,none⟩ (.slice A l.length c)) r Af cf A c Ap cp { s with shelf:=l }:=by
 have hc:=h.chgS hB 4 (.slice A l.length c);exact ⟨by simpa using h.blk.set 4 (.slice A l.length c),h.sf.chg (RBox.mono (by decide)) (by decide) hc,hl.chg (RVer.mono (by decide) (by decide)) (by decide) hc,h.sp.chg (RPart.mono (by decide) (by decide) (by decide) (by decide)) (by decide) hc⟩
theorem SiteAt.setParts (h:SiteAt B w r Af cf Ax cx Ap cp s) (hB:B≤r) {A:Option Addr} {c:Nat} {l:List Part} (hl:qcg B w A l):SiteAt B (w.setCell ⟨r,5,none⟩ (.slice A l.length c)) r Af cf Ax cx A c { s with parts:=l }:=by
 have hc:=h.chgS hB 5 (.slice A l.length c);exact ⟨by simpa using h.blk.set 5 (.slice A l.length c),h.sf.chg (RBox.mono (by decide)) (by decide) hc,h.sx.chg (RVer.mono (by decide) (by decide)) (by decide) hc,hl.chg (RPart.mono (by decide) (by decide) (by decide) (by decide)) (by decide) hc⟩
end
structure InA (B:Nat) (w:World) (Af:Option Addr) (cf:Nat) (Ap:Option Addr) (cp:Nat) (a:AskS):Prop where
 lf:a.filter.length≤maxLen
 lp:a.parts.length≤maxLen
 sf:qaw B w Af a.filter
 sp:qcg B w Ap a.parts
theorem InA.ext {B:Nat} {w w':World} {Af:Option Addr} {cf:Nat} {Ap:Option Addr} {cp:Nat} {a:AskS} (h:InA B w Af cf Ap cp a) (x:Ext w w'):InA B w' Af cf Ap cp a:=⟨h.lf,h.lp,h.sf.ext RBox.monoE x,h.sp.ext RPart.monoE x⟩
end Go.Proofs.YtngbfdogiciahaaGreat
