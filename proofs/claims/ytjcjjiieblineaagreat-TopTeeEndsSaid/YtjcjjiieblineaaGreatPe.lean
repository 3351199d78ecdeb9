/- Walks and plain facts. No condition. -/
import Derived.Test.YtjcjjiieblineaaGreatPc
namespace Go.Proofs.YtjcjjiieblineaaGreat
open Go.Proofs.Tryz Mo
set_option maxHeartbeats 8000000
set_option maxRecDepth 100000
set_option linter.all false
variable {α:Type}{l:List Int}{dir tags handle value:Int}
namespace Mo
theorem kU{n a b:Int}:kD n a b=true↔a<=n/\n<=b:=by unfold kD;simp
theorem dy{r:Rs}:ew r=true↔(0<=r.seq/\r.seq<=1048575/\0<=r.cs/\r.cs<=15/\0<=r.code/\r.code<=255/\0<=r.value/\r.value<=4294967295):=by unfold ew;simp
structure pR (c:bA) (h:Hl):Prop where
 eN:aU c=true
 kind:c.kind=3
 tick:0<=h.az/\h.az<=4294967295
 SI:(h.chans.length:Int)=c.chans
 SJ:(h.waits.length:Int)=c.threads
 Jg:(h.done.length:Int)=c.threads
 dn:∀r∈h.done,ew r=true
 ch:∀x∈h.chans,k8 c x=true
 wt:∀x∈h.waits,fU x=true
theorem q8{c:bA}{h:Hl}:gq c h=true↔pR c h:=by
 unfold gq lO;simp only[cA,beq_iff_eq,bP,List.all_eq_true,kU];constructor
 ·rintro⟨⟨⟨⟨⟨⟨⟨a,b⟩,d⟩,e⟩,f⟩,g⟩,i⟩,j⟩;exact⟨a,b,d,e,f,g.1,g.2,i,j⟩
 ·rintro⟨a,b,d,e,f,g,k,i,j⟩;exact⟨⟨⟨⟨⟨⟨⟨a,b⟩,d⟩,e⟩,f⟩,g,k⟩,i⟩,j⟩
theorem dA{c:bA}{x:Ch}:k8 c x=true↔(0<=x.gen/\x.gen<=4095)/\(0<=x.cap/\x.cap<=c.cap)/\((x.buf.length:Int)<=x.cap/\∀v∈x.buf,0<=v/\v<=4294967295)/\(x.used=true\/x.closed=false/\x.cap=0):=by unfold k8 gA;simp[kU,and_assoc]
theorem oa{k:Cs}:j7 k=true↔(k.1=1\/k.1=2)/\(0<=k.2.1/\k.2.1<65536)/\(0<=k.2.2/\k.2.2<4294967296):=by unfold j7 fits;simp[and_assoc]
theorem kJ{q:Rq}:bk q=true↔(1<=q.kind/\q.kind<=9)/\(0<=q.arg/\q.arg<65536)/\(0<=q.value/\q.value<4294967296)/\q.cases.length<=3/\∀k∈q.cases,j7 k=true:=by unfold bk fits;simp only[cA,bP,List.all_eq_true,and_assoc]
theorem oc{x:Wt}:fU x=true↔if x.on=false then x.az=0/\x.seq=0/\x.cases.length=0 else(0<=x.az/\x.az<=4294967295)/\(0<=x.seq/\x.seq<=1048575)/\(1<=x.cases.length/\x.cases.length<=3)/\∀k∈x.cases,j7 k=true:=by
 unfold fU;by_cases h:x.on=false
 ·rw[au h,au h];simp[and_assoc]
 ·rw[ah h,ah h];simp only[cA,kU,kJ];constructor
  ·rintro⟨⟨⟨a,b⟩,d⟩,_,_,_,e,f⟩;exact⟨a,b,⟨aa,e⟩,f⟩
  ·rintro⟨a,b,d,e⟩;exact⟨⟨⟨a,b⟩,aa,aa⟩,aa,aa,aa,d.2,e⟩
theorem xW{x:Wt}(h:fU x=true):0<=x.seq/\x.seq<=1048575:=by have:=oc.1 h;split at this<;>omega
theorem mI{x:Wt}(h:fU x=true):x.cases.length<=3:=by have:=oc.1 h;split at this<;>omega
theorem Dt{x:Wt}(h:fU x=true){k:Cs}(a:k∈x.cases):j7 k=true:=by
 have:=oc.1 h;split at this
 ·have b:=List.length_eq_zero_iff.1 this.2.2;rw[b]at a;cases a
 ·exact this.2.2.2 k a
theorem mem_set{l:List α}{i:Nat}{y x:α}(h:x∈l.set i y):x∈l\/x=y:=List.mem_or_eq_of_mem_set h
theorem mJ{l:List α}{i:Nat}{d:α}:l.getD i d∈l\/l.getD i d=d:=by
 rw[cZ];cases h:l[i]? with
 |none=>exact .inr rfl
 |some x=>exact .inl (dB h)
theorem BQ:fU iz=true:=ag
theorem Ga{l:List Wt}(h:∀x∈l,fU x=true)(t:Nat):fU (l.getD t iz)=true:=by
 rcases mJ (l:=l) (i:=t) (d:=iz)with a|a
 ·exact h _ a
 ·rw[a];exact BQ
theorem BR{l:List Wt}(h:∀x∈l,fU x=true)(t:Nat):∀x∈gY l t,fU x=true:=by
 intro x b;rcases mem_set b with a|rfl
 ·exact h _ a
 ·exact BQ
theorem Jh(l:List Wt)(t:Nat):(gY l t).length=l.length:=by unfold gY;simp
theorem Ji{l:List Wt}(h:∀x∈l,fU x=true)(L:List Nat):(∀x∈L.foldl gY l,fU x=true)/\(L.foldl gY l).length=l.length:=by
 induction L generalizing l with
 |nil=>exact⟨h,rfl⟩
 |cons t L a=>have:=a (BR h t);exact⟨this.1,by rw[List.foldl_cons,this.2,Jh]⟩
theorem Jj{d:List Rs}(h:∀r∈d,ew r=true)(l:List Told)(a:∀x∈l,ew x.res=true):(∀r∈fV d l,ew r=true)/\(fV d l).length=d.length:=by
 unfold fV;induction l generalizing d with
 |nil=>exact⟨h,rfl⟩
 |cons x l f =>
  have:=f (d:=d.set x.th x.res) (fun r c=>by
   rcases mem_set c with b|rfl
   ·exact h _ b
   ·exact a x aD) (fun y e=>a y (by simp[e]))
  exact⟨this.1,by rw[List.foldl_cons,this.2,cq]⟩
theorem Oz{w:Wt}{i:Nat}(h:lT w dir handle=some i):i<w.cases.length/\w.on=true:=by
 unfold lT at h;split at h
 ·rename_i b;obtain⟨a,_⟩:=List.findIdx?_eq_some_iff_getElem.1 h;exact⟨a,b⟩
 ·cases h
theorem nu{l:List Wt}{b a:Int}:∀{n t i:Nat},eI l b a n=some (t,i)->∃x,l[t]?=some x/\lT x b a=some i
 |0,_,_,h=>by cases h
 |n+1,t,i,h=>by
  unfold eI at h
  cases d:l[n]? with
  |none=>rw[d]at h;exact nu h
  |some x =>
   rw[d]at h;dsimp only at h;cases c:lT x b a with
   |none=>rw[c]at h;exact nu h
   |some j =>
    rw[c]at h;dsimp only at h;cases e:eI l b a n with
    |none=>rw[e]at h;injection h with h;injection h with h1 h2;subst h1;subst h2;exact⟨x,d,c⟩
    |some p =>
     obtain⟨g,f⟩:=p;rw[e]at h;dsimp only at h;split at h
     ·injection h with h;injection h with h1 h2;subst h1;subst h2;exact⟨x,d,c⟩
     ·injection h with h;injection h with h1 h2;subst h1;subst h2;exact nu e
theorem xX{l:List Wt}{t i:Nat}(h:dW l dir handle=some (t,i)):∃x,l[t]?=some x/\lT x dir handle=some i:=nu h
theorem xY{l:List Wt}(h:∀x∈l,fU x=true)(t which:Nat)(code value:Int)(c:which<=15)(a:0<=code/\code<=255)(b:0<=value/\value<=4294967295):ew (iX l t which code value).res=true:=by have:=xW (Ga h t);unfold iX;rw[dy];dsimp only;omega
structure Du (c:bA) (n:Nat) (G:p9):Prop where
 ch:k8 c G.c=true
 wt:∀x∈G.l,fU x=true
 len:G.l.length=n
 res:ew G.r=true
 told:∀x∈G.told,ew x.res=true
theorem oY:ew dD=true:=ag
theorem mK{e:Int}(h:0<=e/\e<=255):ew (bI e)=true:=by unfold bI;rw[dy];dsimp only;omega
theorem OA{y:Wt}(b:fU y=true)(a:Int):nJ y a<=15:=by
 unfold nJ;have:=mI b;cases h:y.cases.findIdx? fun c=>c.2.1==a with
 |none=>exact aV _
 |some i=>have:=(List.findIdx?_eq_some_iff_getElem.1 h).1;show i<=15;omega
section
variable{c:bA} {x:Ch} {l:List Wt} (hx:k8 c x=true) (hl:∀y∈l,fU y=true)
include hx hl
theorem TP(h:0<=value/\value<=4294967295)(a:dt x handle l 1=true)(k:x.closed=false):Du c l.length (mD x handle l value):=by
 unfold mD;cases g:dW l 2 handle with
 |some p=>obtain⟨t,i⟩:=p;obtain⟨y,n,m⟩:=xX g;have j:=hl y (dB n);have:=mI j;have:=(Oz m).1;refine⟨hx,BR hl t,Jh _ _,oY,?_⟩;intro z e;rw[List.mem_singleton]at e;subst e;exact xY hl _ _ _ _ aa ag h
 |none =>
  have b:=dA.1 hx;refine⟨?_,hl,rfl,oY,fun z e=>by cases e⟩;have o:(x.buf.length:Int)<x.cap:=by
   unfold dt at a;split at a
   ·cases a
   ·rw[au rfl,k,g]at a;simpa using a
  refine dA.2 ⟨b.1,b.2.1,⟨?_,?_⟩,b.2.2.2⟩
  ·show((x.buf++[value]).length:Int)<=x.cap;simp;omega
  ·intro v f;rcases List.mem_append.1 f with d|d
   ·exact b.2.2.1.2 v d
   ·rw[List.mem_singleton]at d;subst d;exact h
theorem TQ:Du c l.length (mE x handle l):=by
 have a:=dA.1 hx;unfold mE;cases n:dW l 1 handle with
 |none =>
  refine⟨?_,hl,rfl,?_,fun z b=>by cases b⟩
  ·refine dA.2 ⟨a.1,a.2.1,⟨?_,?_⟩,a.2.2.2⟩
   ·show((x.buf.drop 1).length:Int)<=x.cap;rw[ie];omega
   ·intro v j;exact a.2.2.1.2 v (List.mem_of_mem_drop j)
  ·have:0<=x.buf.getD 0 0/\x.buf.getD 0 0<=4294967295:=by
    rcases mJ (l:=x.buf) (i:=0) (d:=(0:Int))with h|h
    ·exact a.2.2.1.2 _ h
    ·rw[h];decide
   rw[dy];dsimp only;omega
 |some p =>
  obtain⟨t,i⟩:=p;obtain⟨y,k,o⟩:=xX n;have f:=hl y (dB k);have r:=mI f;have m:=(Oz o).1;have e:l.getD t iz=y:=by rw[cZ,k];rfl
  have q:j7 (y.cases.getD i (0,0,0))=true:=by
   refine Dt f ?_;rcases mJ (l:=y.cases) (i:=i) (d:=((0,0,0):Cs))with h|h
   ·exact h
   ·rw[cZ,cY m];exact List.getElem_mem m
  have j:=(oa.1 q).2.2;have g:∀v∈x.buf++[(y.cases.getD i (0,0,0)).2.2],0<=v/\v<=4294967295:=by
   intro v h;rcases List.mem_append.1 h with h|h
   ·exact a.2.2.1.2 v h
   ·rw[List.mem_singleton]at h;subst h;omega
  dsimp only;rw[e];refine⟨?_,BR hl t,Jh _ _,?_,?_⟩
  ·refine dA.2 ⟨a.1,a.2.1,⟨?_,?_⟩,a.2.2.2⟩
   ·show(((x.buf++[(y.cases.getD i (0,0,0)).2.2]).drop 1).length:Int)<=x.cap;have:=a.2.2.1.1;rw[ie];simp;omega
   ·intro v h;exact g v (List.mem_of_mem_drop h)
  ·have:0<=(x.buf++[(y.cases.getD i (0,0,0)).2.2]).getD 0 0/\(x.buf++[(y.cases.getD i (0,0,0)).2.2]).getD 0 0<=4294967295:=by
    rcases mJ (l:=x.buf++[(y.cases.getD i (0,0,0)).2.2]) (i:=0) (d:=(0:Int))with h|h
    ·exact g _ h
    ·rw[h];decide
   rw[dy];dsimp only;omega
  ·intro z b;rw[List.mem_singleton]at b;subst b;exact xY hl _ _ _ _ aa ag ag
theorem abu(e:0<=value/\value<=4294967295):Du c l.length (xm x handle l dir value):=by
 unfold xm;split
 ·exact Y2
 ·rename_i a;have a:dt x handle l dir=true:=by simpa using a
  split
  ·rename_i b;obtain⟨rfl,d⟩:=b;exact TP hx hl e a d
  ·split
   ·exact TQ hx hl
   ·exact Y2
theorem TR:Du c l.length (pD x handle l):=by
 unfold pD;split
 ·exact Y2
 ·rename_i b;have d:x.used=true:=by
   cases h:x.used with
   |true=>rfl
   |false=>exact absurd (.inl h) b
  have a:=dA.1 hx;refine⟨dA.2 ⟨a.1,a.2.1,a.2.2.1,.inl d⟩,(Ji hl _).1,(Ji hl _).2,mK ag,?_⟩;intro z hz;obtain⟨t,_,rfl⟩:=List.mem_map.1 hz;exact xY hl _ _ _ _ (OA (Ga hl t) _) ag ag
end
theorem tC{h:Hl}{c:Int}{i:Nat}(a:bW h c=some i):∃x,h.chans[i]?=some x/\x.used=true/\gm h i=x:=by
 unfold bW at a;split at a
 ·cases a
 ·split at a
  ·cases a
  ·rename_i x b;split at a
   ·rename_i d;injection a with a
    subst a;exact⟨x,b,d.1,by unfold gm;rw[cZ,b];rfl⟩
   ·cases a
def nP(c:bA)(p:Hl×Rs):Prop:=pR c p.1/\ew p.2=true
section
variable{c:bA} {h:Hl}
theorem uH:∀(n i:Nat) (b:Bool) (j:Nat),fA c.bt h.chans i b n=.inl j->∃x,h.chans[j]?=some x/\x.used=false/\x.gen<min c.bt 4095
 |0,i,b,j,e=>by unfold fA at e;cases e
 |n+1,i,b,j,e=>by
  unfold fA at e
  cases a:h.chans[i]? with
  |none=>rw[a]at e;cases e
  |some x =>
   rw[a]at e;dsimp only at e;split at e
   ·exact uH n _ _ j e
   ·rename_i d;split at e
    ·exact uH n _ _ j e
    ·rename_i f;injection e with e
     subst e;exact⟨x,a,by simpa using d,aa⟩
theorem Dv(n i:Nat)(f:Bool)(e:Int)(a:fA c.bt h.chans i f n=.inr e):e=7\/e=6:=by
 induction n generalizing i f with
 |zero=>unfold fA at a;injection a with a;split at a<;>omega
 |succ n d =>
  unfold fA at a;cases b:h.chans[i]? with
  |none=>rw[b]at a;injection a with a;split at a<;>omega
  |some x =>
   rw[b]at a;dsimp only at a;split at a
   ·exact d _ _ a
   ·split at a
    ·exact d _ _ a
    ·cases a
theorem Dw(l:List Cs):0<=eP h l/\eP h l<=255:=by
 unfold eP;split
 ·decide
 ·split
  ·decide
  ·split<;>decide
variable(F:pR c h)
include F
theorem pR.same{r:Rs}(a:ew r=true):nP c (h,r):=⟨F,a⟩
theorem pR.code{e:Int}(he:0<=e/\e<=255):nP c (h,bI e):=⟨F,mK he⟩
theorem pR.OB(i:Nat){x:Ch}(a:h.chans[i]?=some x):k8 c x=true:=F.ch x (dB a)
theorem pR.WX(i:Nat){x:Ch}(b:k8 c x=true):pR c {h with chans:=h.chans.set i x}:=⟨F.eN,F.kind,F.tick,by show((h.chans.set i x).length:Int)=_;rw[cq];exact F.SI,F.SJ,F.Jg,F.dn,fun y d=>by rcases mem_set d with a|rfl;exact F.ch _ a;exact b,F.wt⟩
theorem pR.got(i:Nat){G:p9}(a:Du c h.waits.length G):pR c {h with chans:=h.chans.set i G.c,waits:=G.l,done:=fV h.done G.told}:=by
 have b:=Jj F.dn G.told a.told;refine⟨F.eN,F.kind,F.tick,?_,?_,?_,b.1,fun y e=>?_,a.wt⟩
 ·show((h.chans.set i G.c).length:Int)=_;rw[cq];exact F.SI
 ·show(G.l.length:Int)=_;rw[a.len];exact F.SJ
 ·show((fV h.done G.told).length:Int)=_;rw[b.2];exact F.Jg
 ·rcases mem_set e with d|rfl
  ·exact F.ch _ d
  ·exact a.ch
theorem OC(a:Int):nP c (rQ c h a):=by
 unfold rQ;split
 ·exact F.code ag
 ·rename_i j;cases b:fA c.bt h.chans 0 false h.chans.length with
  |inr e=>rcases Dv _ _ _ _ b with rfl|rfl<;>exact F.code ag
  |inl i =>
   obtain⟨x,d,m,l⟩:=uH _ _ _ _ b;have k:=dA.1 (F.OB i d);have f:gm h i=x:=by unfold gm;rw[cZ,d];rfl
   dsimp only;rw[f];have n:x.gen<4095:=aa;refine⟨F.WX i (dA.2 ⟨by dsimp only;omega,by dsimp only;omega,⟨by dsimp only;simp;omega,fun v g=>by cases g⟩,.inl rfl⟩),?_⟩;show ew ⟨0,0,0,nh i (x.gen+1)⟩=true;rw[dy];dsimp only;unfold nh;split<;>omega
theorem OD(a:Int):nP c (qa h a):=by
 unfold qa;cases e:bW h a with
 |none=>exact F.code ag
 |some i =>
  dsimp only;split
  ·exact F.code ag
  ·obtain⟨x,g,j,d⟩:=tC e;have b:=dA.1 (F.OB i g);rw[d];exact⟨F.WX i (dA.2 ⟨b.1,by dsimp only;omega,⟨aD,fun v f=>by cases f⟩,.inr ⟨rfl,rfl⟩⟩),oY⟩
theorem TS{which:Nat}{k:Cs}(f:j7 k=true)(m:which<=15)(e:(bW h k.2.1).isSome=true):nP c (wJ h which k):=by obtain⟨i,b⟩:=Option.isSome_iff_exists.1 e;obtain⟨x,g,j,d⟩:=tC b;unfold wJ;dsimp only;rw[b];dsimp only[Option.getD_some];rw[d];have a:=abu (F.OB i g) F.wt (handle:=k.2.1) (dir:=k.1) (value:=k.2.2) (by have:=(oa.1 f).2.2;omega);refine⟨F.got i a,?_⟩;have:=dy.1 a.res;rw[dy];dsimp only;omega
theorem OE(a:Int):nP c (n7 h a):=by
 unfold n7;cases e:bW h a with
 |none=>exact F.code ag
 |some i=>obtain⟨x,f,g,d⟩:=tC e;dsimp only;rw[d];have b:=TR (F.OB i f) F.wt (handle:=a);refine⟨F.got i b,mK ?_⟩;have:=dy.1 b.res;omega
theorem OG(q:Rq):nP c (h,pE h q):=by
 refine⟨F,?_⟩;unfold pE;cases e:bW h q.arg with
 |none=>exact mK ag
 |some i =>
  obtain⟨x,f,j,d⟩:=tC e;have g:=dA.1 (F.OB i f);have a:=F.eN;have k:c.cap<=16:=by unfold aU rA at a;simp only[cA]at a;have b:=a.2;rw[ah (by rw[F.kind];decide),au F.kind]at b;simp only[cA,kU]at b;omega
  dsimp only;rw[d];split<;>(rw[dy];dsimp only;omega)
theorem Gb(i t n:Int):nP c (jf h i t n):=by
 unfold jf;split
 ·exact F.code ag
 ·rename_i d;have f:(h.waits.getD t.toNat iz).seq=n:=by
   by_cases e:(h.waits.getD t.toNat iz).seq=n
   ·exact e
   ·exact absurd (.inr (.inr (.inr (.inr e)))) d
  have g:=xW (Ga F.wt t.toNat);rw[f]at g;have a:=Jj F.dn [⟨t.toNat,⟨n,0,11,0⟩⟩] (fun x b=>by rw[List.mem_singleton]at b;subst b;rw[dy];dsimp only;omega);refine⟨⟨F.eN,F.kind,F.tick,F.SI,?_,?_,a.1,F.ch,BR F.wt _⟩,oY⟩
  ·show((gY h.waits t.toNat).length:Int)=_;rw[Jh];exact F.SJ
  ·show((fV h.done _).length:Int)=_;rw[a.2];exact F.Jg
theorem Gc{t d:Int}{q:Rq}(u:0<=d/\d<=1048575)(r:bk q=true):nP c (ey h t d q):=by
 unfold ey;split
 ·exact F.code (Dw _)
 ·rename_i a;have a:eP h q.cases=0:=by by_cases e:eP h q.cases=0;exact e;exact absurd e a
  have m:=kJ.1 r;have f:∀k∈q.cases,(bW h k.2.1).isSome=true:=by
   intro k p;unfold eP at a;split at a
   ·cases a
   ·split at a
    ·cases a
    ·split at a
     ·cases a
     ·rename_i o;cases e:bW h k.2.1 with
      |some i=>rfl
      |none=>exact absurd (List.any_eq_true.2 ⟨k,p,by rw[e];rfl⟩) o
  have hlen:q.cases.length≠0:=by intro e;unfold eP at a;rw[au (.inl e)]at a;cases a
  cases s:q.cases.findIdx? (fun k=>dt (gm h ((bW h k.2.1).getD 0)) k.2.1 h.waits k.1)with
  |some i =>
   have g:=(List.findIdx?_eq_some_iff_getElem.1 s).1;have j:q.cases.getD i (0,0,0)∈q.cases:=by rw[cZ,cY g];exact List.getElem_mem g
   exact TS F (m.2.2.2.2 _ j) aa (f _ j)
  |none =>
   dsimp only;split
   ·exact F.code ag
   ·split
    ·exact F.code ag
    ·rename_i y;cases b:wI h.waits t ⟨false,h.az,d,q.cases⟩with
     |none=>exact F.code ag
     |some l =>
      unfold wI at b;split at b
      ·cases b
      ·split at b
       ·cases b
       ·split at b
        ·cases b
        ·injection b with b
         subst b;have w:=F.tick;refine⟨⟨F.eN,F.kind,by dsimp only;omega,F.SI,?_,F.Jg,F.dn,F.ch,?_⟩,mK ag⟩
         ·show((h.waits.set _ _).length:Int)=_;rw[cq];exact F.SJ
         ·intro x v;rcases mem_set v with n|rfl
          ·exact F.wt _ n
          ·rw[oc];rw[ah (fun e=>by cases e)];exact⟨by dsimp only;omega,u,by dsimp only;omega,m.2.2.2.2⟩
theorem Dx{t seq:Int}{q:Rq}(b:0<=seq/\seq<=1048575)(a:bk q=true):nP c (ia c h t seq q):=by
 unfold ia;split
 ·exact OC F _
 ·split
  ·exact OD F _
  ·split
   ·exact Gc F b a
   ·split
    ·exact OE F _
    ·split
     ·exact OG F _
     ·split
      ·exact Gb F _ _ _
      ·exact F.code ag
theorem uI{t seq:Int}{q:Rq}(f:0<=seq/\seq<=1048575)(d:bk q=true):pR c (fB c h t seq q):=by
 have a:=Dx F (t:=t) f d;unfold fB fB.BH;dsimp only;have g:=dy.1 a.2;split
 ·exact⟨a.1.eN,a.1.kind,a.1.tick,a.1.SI,a.1.SJ,a.1.Jg,a.1.dn,a.1.ch,a.1.wt⟩
 ·refine⟨a.1.eN,a.1.kind,a.1.tick,a.1.SI,a.1.SJ,by rw[cq];exact a.1.Jg,?_,a.1.ch,a.1.wt⟩;intro r e;rcases mem_set e with b|rfl
  ·exact a.1.dn _ b
  ·rw[dy];dsimp only;omega
end
theorem lx(l:List Int)(n:Nat)(h:l.length<=n):(k9 l n).length=n:=by unfold k9;simp;omega
theorem Gd{α:Type}(f:α->List Int)(m:Nat):∀(l:List α),(∀x∈l,(f x).length=m)->(l.flatMap f).length=l.length*m
 |[],_=>by simp
 |x::l,h=>by rw[List.flatMap_cons,eW,h x aD,Gd f m l (fun y a=>h y (by simp[a])),List.length_cons,Nat.succ_mul];omega
theorem aK{c:bA}(h:aU c=true):(1<=c.threads/\c.threads<=64)/\(1<=c.nodes/\c.nodes<=64)/\(1<=c.aL/\c.aL<=32)/\(0<=c.aF/\c.aF<=4)/\(1<=c.tags/\c.tags<=4294967295)/\(1<=c.bG/\c.bG<=1048575)/\(0<=c.cap/\c.cap<=16)/\(0<=c.chans/\c.chans<=8):=by
 unfold aU at h;simp only[cA,kU]at h;obtain⟨⟨⟨⟨⟨⟨b,d⟩,e⟩,f⟩,g⟩,i⟩,a⟩:=h;refine⟨b,d,e,f,g,i,?_⟩;unfold rA at a;split at a
 ·simp only[cA,kU,beq_iff_eq,bP]at a;omega
 ·split at a
  ·simp only[cA,kU,bP]at a;omega
  ·cases a
theorem xZ{c:bA}{h:Hl}(F:pR c h):((lg c h).length:Int)=bn c:=by
 have i:=aK F.eN;unfold lg;rw[au (q8.2 F)];have f:(h.chans.flatMap (kE c)).length=h.chans.length*(1+c.cap.toNat):=Gd _ _ _ (fun x a=>by
  have:=dA.1 (F.ch x a)
  unfold kE
  rw[List.length_cons,lx _ _ aa];omega)
 have g:(h.waits.flatMap j8).length=h.waits.length*4:=Gd _ _ _ (fun x a=>by
  have:=mI (F.wt x a)
  unfold j8
  simp;omega)
 rw[List.length_cons,eW,eW,f,g,cW];unfold bn eX;rw[ah (by rw[F.eN];decide),ah (by rw[F.eN];decide),au F.kind];have d:=F.SI;have b:=F.SJ;have e:=F.Jg;rw[<-d, <-b];push_cast;rw[Int.toNat_of_nonneg i.2.2.2.2.2.2.1.1];rw[<-b]at e;omega
theorem ya{c:bA}{x:Cl}(F:nZ c x=true):((lS c x).length:Int)=bn c:=by unfold lS;rw[au F];unfold nZ gA lO at F;simp only[cA,beq_iff_eq,bne_iff_ne,bP]at F;obtain⟨⟨⟨⟨a,e⟩,g⟩,b⟩,d⟩:=F;have f:=aK a;rw[List.length_cons,eW,lx _ _ (by have:=b.1;omega),cW];unfold bn eX;rw[ah (by rw[a];decide),ah (by rw[a];decide),ah e];push_cast;rw[Int.toNat_of_nonneg f.2.2.2.2.2.2.1.1];have:=d.1;omega
theorem size_pos{c:bA}(h:aU c=true):2<=bn c:=by have a:=aK h;have b:0<=c.chans*(1+c.cap):=ly a.2.2.2.2.2.2.2.1 aa;unfold bn eX;rw[ah (by rw[h];decide),ah (by rw[h];decide)];split<;>omega
theorem uJ{c:bA}{h:Hl}(a:j9 c l=some h):pR c h:=by
 unfold j9 at a;split at a
 ·rename_i d;injection a with a
  subst a;simp only[cA,beq_iff_eq,bP]at d;obtain⟨⟨⟨g,i⟩,f⟩,b⟩:=d;by_cases e:gq c (nI c l)=true
  ·exact q8.1 e
  ·unfold lg at b;rw[ah e]at b;rw[<-b]at f;have:=size_pos g;simp at f;omega
 ·cases a
theorem AD{c:bA}{x:Cl}(a:mA c l=some x):nZ c x=true:=by
 unfold mA at a;split at a
 ·rename_i d;injection a with a
  subst a;simp only[cA,bP]at d;obtain⟨⟨⟨g,h⟩,f⟩,b⟩:=d;by_cases e:nZ c (cellsOf c l)=true
  ·exact e
  ·unfold lS at b;rw[ah e]at b;rw[<-b]at f;have:=size_pos g;simp at f;omega
 ·cases a
end Mo
namespace Mo
structure uK (c:bA) (x:Cl):Prop where
 eN:aU c=true
 kind:c.kind≠3
 cap:x.cap=c.cap
 len:(x.list.length:Int)<=c.cap
 val:∀v∈x.list,0<=v/\v<=4294967295
 Jg:(x.done.length:Int)=c.threads
 dn:∀r∈x.done,ew r=true
theorem ml{c:bA}{x:Cl}:nZ c x=true↔uK c x:=by
 unfold nZ gA lO;simp only[cA,beq_iff_eq,bne_iff_ne,bP,List.all_eq_true,kU];constructor
 ·rintro⟨⟨⟨⟨a,b⟩,d⟩,e,f⟩,g,i⟩;exact⟨a,b,d,e,f,g,i⟩
 ·rintro⟨a,b,d,e,f,g,i⟩;exact⟨⟨⟨⟨a,b⟩,d⟩,e,f⟩,g,i⟩
theorem TT{l:List Rs}(h:∀r∈l,ew r=true)(t:Int){r:Rs}(b:ew r=true):(∀y∈jg l t r,ew y=true)/\(jg l t r).length=l.length:=by
 unfold jg;split
 ·exact⟨h,rfl⟩
 ·refine⟨fun y c=>?_,cq⟩;rcases mem_set c with a|rfl
  ·exact h _ a
  ·exact b
section
variable{c:bA} {x:Cl} (F:uK c x)
include F
theorem uK.tell(a:(l.length:Int)<=c.cap)(e:∀v∈l,0<=v/\v<=4294967295)(t:Int){r:Rs}(d:ew r=true):uK c ⟨x.cap,l,jg x.done t r⟩ :=
 have h:=TT F.dn t d
 ⟨F.eN,F.kind,F.cap,a,e,by show((jg x.done t r).length:Int)=_;rw[h.2];exact F.Jg,h.1⟩
theorem uK.told(t:Int){r:Rs}(a:ew r=true):uK c {x with done:=jg x.done t r}:=F.tell F.len F.val t a
theorem uK.head:0<=x.list.getD 0 0/\x.list.getD 0 0<=4294967295:=by
 rcases mJ (l:=x.list) (i:=0) (d:=(0:Int))with h|h
 ·exact F.val _ h
 ·rw[h];decide
theorem uK.Nu:x.list.length<=16/\0<=x.cap/\x.cap<=16:=by have:=aK F.eN;have:=F.len;have:=F.cap;omega
theorem Jl{t d:Int}{q:Rq}(k:0<=d/\d<=1048575)(i:bk q=true):uK c (ib x t d q):=by
 have l:=(kJ.1 i).2.2.1;have f:=F.head;have j:=F.Nu;have m:=F.cap;have e:∀{code value:Int},0<=code/\code<=255->0<=value/\value<=4294967295->ew ⟨d,0,code,value⟩=true:=fun a b=>by rw[dy];dsimp only;omega
 unfold ib;split
 ·split
  ·exact F.told t (e ag ag)
  ·refine F.tell ?_ ?_ t (e ag ag)
   ·rw[eW];simp;omega
   ·exact WY
 ·split
  ·split
   ·exact F.told t (e ag ag)
   ·refine F.tell ?_ (fun v g=>F.val v (List.mem_of_mem_drop g)) t (e ag f);have:=F.len;rw[ie];omega
  ·split
   ·exact F.told t (e ag aa)
   ·split
    ·exact F.told t (e ag aa)
    ·exact F.told t (e ag ag)
theorem Jm{t g:Int}{q:Rq}(p:0<=g/\g<=1048575)(n:bk q=true):uK c (nk x t g q):=by
 have s:=(kJ.1 n).2.2.1;have o:=F.Nu;have u:=F.cap;have k:0<=x.list.getLastD 0/\x.list.getLastD 0<=4294967295:=by
  rw[List.getLastD_eq_getLast?];cases h:x.list.getLast? with
  |none=>decide
  |some v=>exact F.val v (List.mem_of_getLast? h)
 unfold nk;have f:∀(l:List Int) (r:Rs),(l.length:Int)<=c.cap->(∀v∈l,0<=v/\v<=4294967295)->ew r=true->uK c ⟨x.cap,l,jg x.done t {r with seq:=g}⟩:=by intro l r a b d;refine F.tell a b t ?_;have:=dy.1 d;rw[dy];dsimp only;omega
 have j:∀{e:Int},0<=e/\e<=255->ew (bI e)=true:=mK;have i:∀{value:Int},0<=value/\value<=4294967295->ew ⟨0,0,0,value⟩=true:=fun b=>by rw[dy];dsimp only;omega
 unfold jR;split
 ·refine f _ _ ?_ ?_ oY
  ·rename_i h;rw[eW];simp;omega
  ·exact WY
 ·split
  ·refine f _ _ ?_ (fun v m=>F.val v (List.dropLast_subset _ m)) (i k);have:=F.len;rw[List.length_dropLast];omega
  ·split
   ·exact f _ _ F.len F.val (j ag)
   ·split
    ·exact f _ _ F.len F.val (i aa)
    ·split
     ·exact f _ _ F.len F.val (i aa)
     ·exact f _ _ F.len F.val (j ag)
end
theorem Ge{c:bA}{t a:Int}{q:Rq}(h:(l.length:Int)=bn c):((eR c l t a q).length:Int)=bn c:=by
 unfold eR;split
 ·exact h
 ·rename_i g;have f:0<=a/\a<=1048575:=aa;have b:bk q=true:=by
   cases e:bk q with
   |true=>rfl
   |false=>exact absurd (.inr (.inr (.inr (.inr e)))) g
  split
  ·cases d:mA c l with
   |none=>exact h
   |some x =>
    have F:=ml.1 (AD d);dsimp only;split
    ·exact ya (ml.2 (Jm F f b))
    ·exact ya (ml.2 (Jl F f b))
  ·cases d:j9 c l with
   |none=>exact h
   |some x=>exact xZ (uI (uJ d) f b)
theorem yb{c:bA}(a:List Op)(h:(l.length:Int)=bn c):((nK c l a).length:Int)=bn c:=by
 unfold nK;induction a generalizing l with
 |nil=>exact h
 |cons o a b=>exact b (Ge h)
theorem yc{c:bA}(a:aU c=true)(f:c.kind=3):pR c (ik c):=by
 have j:=aK a;refine⟨a,f,⟨cI 0,(by decide:(0:Int)<=4294967295)⟩,?_,?_,?_,?_,?_,?_⟩
 ·unfold ik;simp;omega
 ·unfold ik;simp;omega
 ·unfold ik;simp;omega
 ·intro r h;unfold ik at h;rw[(List.mem_replicate.1 h).2];exact oY
 ·intro x d;unfold ik at d;obtain⟨i,_,rfl⟩:=List.mem_map.1 d;cases l:c.start[i]? with
  |none=>exact dA.2 ⟨⟨cI 0,(by decide:(0:Int)<=4095)⟩,⟨cI 0,j.2.2.2.2.2.2.1.1⟩,⟨cI 0,fun v g=>by cases g⟩,.inr ⟨rfl,rfl⟩⟩
  |some k =>
   have b:0<=k/\k<=c.cap:=by unfold aU rA at a;simp only[cA]at a;have e:=a.2;rw[ah (by rw[f];decide),au f]at e;simp only[cA,List.all_eq_true,kU]at e;exact e.2 k (dB l)
   exact dA.2 ⟨⟨(by decide:(0:Int)<=1),(by decide:(1:Int)<=4095)⟩,b,⟨by simpa using b.1,fun v g=>by cases g⟩,.inl rfl⟩
 ·intro x d;unfold ik at d;rw[(List.mem_replicate.1 d).2];exact BQ
theorem ye{c:bA}(a:aU c=true)(b:¬c.kind=3):uK c ⟨c.cap,[],List.replicate c.threads.toNat dD⟩:=by
 have d:=aK a;refine⟨a,b,rfl,by simpa using d.2.2.2.2.2.2.1.1,fun v f=>(by cases f),?_,?_⟩
 ·show((List.replicate c.threads.toNat dD).length:Int)=_;rw[gp];omega
 ·intro r e;rw[(List.mem_replicate.1 e).2];exact oY
theorem Gf{c:bA}(a:aU c=true):((lI c).length:Int)=bn c:=by
 unfold lI;rw[ah (by rw[a];decide)];split
 ·exact xZ (yc a bc)
 ·exact ya (ml.2 (ye a bc))
end Mo
namespace Mo
def uj(w:Int):Prop:=0<=w/\w<18446744073709551616
def fE(l:List Int):Prop:=∀w∈l,uj w
theorem dJ{w:Int}(b:0<=w)(c:w<=18446744073709551615):uj w:=⟨b,aa⟩
theorem fE.nil:fE []:=fun w h=>by cases h
theorem fE.cons{w:Int}(h:uj w)(k:fE l):fE (w::l):=fun x b=>by
 rcases List.mem_cons.1 b with rfl|a
 ·exact h
 ·exact k x a
theorem fE.app{m:List Int}(h:fE l)(k:fE m):fE (l++m):=fun x b=>by
 rcases List.mem_append.1 b with a|a
 ·exact h x a
 ·exact k x a
theorem fE.one{w:Int}(h:uj w):fE [w]:=fE.cons h fE.nil
theorem fE.at_(h:fE l)(a:Int):uj (ay l a):=by
 unfold ay;split
 ·exact dJ ag ag
 ·rcases mJ (l:=l) (i:=a.toNat) (d:=(0:Int))with b|b
  ·exact h _ b
  ·rw[b];exact dJ ag ag
theorem fE.bj(h:fE l)(a:Int){w:Int}(e:uj w):fE (setAt l a w):=by
 unfold setAt;split
 ·exact h
 ·intro x c;rcases mem_set c with b|rfl
  ·exact h x b
  ·exact e
theorem fE.zeros(n:Nat):fE (List.replicate n 0):=fun x a=>by rw[(List.mem_replicate.1 a).2];exact dJ ag ag
theorem fE.flat(f:α->List Int)(l:List α)(h:∀x∈l,fE (f x)):fE (l.flatMap f):=fun w a=>by
 obtain⟨x,b,a⟩:=List.mem_flatMap.1 a
 exact h x b w a
theorem fE.map(f:α->Int)(l:List α)(h:∀x∈l,uj (f x)):fE (l.map f):=fun w a=>by
 obtain⟨x,b,rfl⟩:=List.mem_map.1 a
 exact h x b
theorem tD(r:Rs):uj (fG r):=by
 unfold fG;split
 ·rename_i h;have:=dy.1 h;exact dJ aa aa
 ·exact dJ ag ag
theorem tE(r:Rf):uj (bF r):=by
 unfold bF jz;split
 ·rename_i h;have:=of_decide_eq_true h;exact dJ aa aa
 ·exact dJ ag ag
theorem OH{k:Cs}(h:j7 k=true):uj (nj k):=by have:=oa.1 h;unfold nj;exact dJ aa aa
theorem OI{a:List Cs}(h:∀k∈a,j7 k=true)(n:Nat):fE (a.map nj++List.replicate n 0):=(fE.map _ _ fun k b=>OH (h k b)).app (fE.zeros _)
theorem o7(b:Bool):0<=flag b/\flag b<=1:=by unfold flag;split<;>decide
theorem OJ{q:Rq}(b:bk q=true){ph:Int}(c:0<=ph)(e:ph<4294967296):fE (iM q ph)/\(iM q ph).length=5:=by
 have a:=kJ.1 b;have d:fits ph 4294967296=true:=by unfold fits;simp;omega
 unfold iM;rw[au (by rw[b,d];rfl)];refine⟨fE.cons ?_ ((OI a.2.2.2.2 _).app (fE.one (dJ c aa))),by simp;omega⟩;unfold Of;exact dJ (by split<;>omega) (by split<;>omega)
theorem Jn{c:bA}{h:Hl}(F:pR c h):fE (lg c h):=by
 have l:=aK F.eN;have e:=F.tick;unfold lg;rw[au (q8.2 F)];refine fE.cons (dJ e.1 aa) ((fE.app (fE.flat _ _ fun x b=>?_) (fE.flat _ _ fun x b=>?_)).app (fE.map _ _ fun r _=>tD r))
 ·have a:=dA.1 (F.ch x b);have f1:=o7 x.used;have f2:=o7 x.closed;unfold kE rP;refine fE.cons (dJ aa aa) ?_;unfold k9;refine fE.app (fun w f=>?_) (fE.zeros _);have:=a.2.2.1.2 w (List.mem_of_mem_take f);exact dJ this.1 aa
 ·have a:=F.wt x b;have g:=mI a;have i:=xW a;have f1:=o7 x.on;have j:0<=x.az/\x.az<=4294967295:=by
   have:=oc.1 a;split at this<;>omega
  unfold j8;exact fE.cons (dJ aa aa) (OI (fun k d=>Dt a d) _)
theorem BS{c:bA}{x:Cl}(F:uK c x):fE (lS c x):=by have b:=F.Nu;unfold lS;rw[au (ml.2 F)];refine fE.cons (dJ aa aa) (fE.app ?_ (fE.map _ _ fun r _=>tD r));unfold k9;refine fE.app (fun w a=>?_) (fE.zeros _);have:=F.val w (List.mem_of_mem_take a);exact dJ this.1 aa
theorem KP{c:bA}{t a:Int}{q:Rq}(h:fE l):fE (eR c l t a q):=by
 unfold eR;split
 ·exact h
 ·rename_i g;have f:0<=a/\a<=1048575:=aa;have b:bk q=true:=by
   cases e:bk q with
   |true=>rfl
   |false=>exact absurd (.inr (.inr (.inr (.inr e)))) g
  split
  ·cases d:mA c l with
   |none=>exact h
   |some x =>
    have F:=ml.1 (AD d);dsimp only;split
    ·exact BS (Jm F f b)
    ·exact BS (Jl F f b)
  ·cases d:j9 c l with
   |none=>exact h
   |some x=>exact Jn (uI (uJ d) f b)
theorem Jo{c:bA}(a:List Op)(h:fE l):fE (nK c l a):=by
 unfold nK;induction a generalizing l with
 |nil=>exact h
 |cons o a b=>exact b (KP h)
theorem mL{w:Int}(h:uj w):ew (cL w)=true:=by unfold uj at h;unfold cL;rw[dy];dsimp only;omega
def wL(s:Rf):Prop:=0<=s.ix/\s.ix<=65534/\0<=s.tag/\s.tag<=4294967295
theorem TU(w:Int):wL (g9 w).1:=by
 unfold g9;split
 ·unfold wL;decide
 ·rename_i h;have a:bF ⟨w%65536-1,w/65536%4294967296⟩=w/\w≠0:=by
   refine⟨?_,fun e=>h (.inr e)⟩;by_cases e:bF ⟨w%65536-1,w/65536%4294967296⟩=w
   ·exact e
   ·exact absurd (.inl e) h
  have b:jz ⟨w%65536-1,w/65536%4294967296⟩=true:=by
   cases e:jz ⟨w%65536-1,w/65536%4294967296⟩with
   |true=>rfl
   |false=>have:=a.1;unfold bF at this;rw[e]at this;exact absurd this.symm a.2
  unfold jz at b;have:=of_decide_eq_true b;unfold wL;dsimp only at this ⊢;omega
structure PB (n:Int) (p:Pl):Prop where
 own:wL p.own
 TV:p.own.tag=0->p.own=pO
 free:∀s∈p.free,wL s
 old:∀o∈p.old,wL o.ref/\0<=o.gF/\o.gF<=n
 sp:0<=p.spent
 len:(p.free.length:Int)+p.old.length+p.spent<=n
theorem PB.mono{n m:Int}{p:Pl}(h:PB n p)(e:n<=m):PB m p:=⟨h.own,h.TV,h.free,fun o a=>by have:=h.old o a;exact⟨this.1,this.2.1,aa⟩,h.sp,by have:=h.len;omega⟩
theorem uL:wL pO:=by unfold wL;decide
theorem Dy{s:Rf}(h:(fy s tags).2=true):wL (fy s tags).1/\(fy s tags).1.tag≠0:=by
 unfold fy at *;split at h
 ·cases h
 ·split at h
  ·rename_i b a;rw[ah b,au a];unfold jz at a;have:=of_decide_eq_true a;unfold wL;dsimp only at this ⊢;omega
  ·cases h
theorem Jp(a:Int):∀(l:List Rf),(∀s∈l,wL s)->wL (dY a l).1/\((dY a l).1.tag=0->(dY a l).1=pO)/\(∀s∈(dY a l).2.1,wL s)/\(dY a l).2.1.length+(dY a l).2.2<=l.length
 |[],_=>⟨uL,fun _=>rfl,fun s h=>(by cases h),aS _⟩
 |s::l,h=>by
  unfold dY
  by_cases e:(fy s a).2=true
  ·rw[au e];exact⟨(Dy e).1,fun d=>absurd d (Dy e).2,fun x c=>h x (by simp[c]),aD⟩
  ·rw[ah e];have b:=Jp a l (fun x c=>h x (by simp[c]));exact⟨b.1,b.2.1,b.2.2.1,by have:=b.2.2.2;simp;omega⟩
theorem TX{n:Int}{p:Pl}(h:PB n p):PB n (jA p tags).1:=by
 unfold jA;split
 ·have a:=Jp tags p.free h.free;exact⟨a.1,a.2.1,a.2.2.1,h.old,by have:=h.sp;dsimp only;omega,by have:=h.len;have:=a.2.2.2;dsimp only;omega⟩
 ·exact h
theorem OK{n:Int}{p:Pl}(h:PB n p):PB n (eH p):=⟨uL,fun _=>rfl,h.free,h.old,h.sp,h.len⟩
theorem TY{n:Int}{p:Pl}(h:PB n p){r:Rf}{g:Int}(d:wL r)(b:0<=g)(e:g<=n):PB (n+1) (lQ p r g):=by
 refine⟨h.own,h.TV,h.free,fun o c=>?_,h.sp,?_⟩
 ·rcases List.mem_append.1 c with a|a
  ·have:=h.old o a;exact⟨this.1,this.2.1,aa⟩
  ·rw[List.mem_singleton]at a;subst a;exact⟨d,b,by dsimp only;omega⟩
 ·have:=h.len;unfold lQ;dsimp only;rw[eW];simp;omega
theorem KQ(l:List Od)(f:Od->Bool):((l.filter f).map (·.ref)).length+(l.filter fun o=> !f o).length=l.length:=by
 rw[cW];induction l with
 |nil=>rfl
 |cons o l a=>cases e:f o<;>simp[e]<;>omega
theorem ra{n:Int}{p:Pl}(h:PB n p)(f:Od->Bool):PB n (lh p f):=by
 refine⟨h.own,h.TV,fun s c=>?_,fun o b=>h.old o ((List.mem_filter.1 b).1),h.sp,?_⟩
 ·rcases List.mem_append.1 c with a|a
  ·exact h.free s a
  ·obtain⟨o,b,rfl⟩:=List.mem_map.1 a;exact(h.old o ((List.mem_filter.1 b).1)).1
 ·have:=h.len;have:=KQ p.old f;unfold lh;dsimp only;rw[eW];omega
theorem KR(p:Pl):0<=zR p/\zR p<=255:=by unfold zR;split;decide;split<;>decide
end Mo
namespace Mo
theorem o8(L:List Int)(a w b:Int):ay (setAt L a w) b=ay L b\/(a=b/\ay (setAt L a w) b=w):=by
 unfold setAt;by_cases d:a<0
 ·rw[au d];exact .inl rfl
 ·rw[ah d];unfold ay;by_cases c:b<0
  ·rw[au c,au c];exact .inl rfl
  ·rw[ah c,ah c,cZ,cZ];by_cases e:a.toNat=b.toNat
   ·by_cases f:a.toNat<L.length
    ·exact .inr ⟨aa,by rw[<-e,List.getElem?_set_self f];rfl⟩
    ·rw[List.set_eq_of_length_le aa];exact .inl rfl
   ·rw[List.getElem?_set_ne e];exact .inl rfl
theorem Dz{L:List Int}{a w n:Int}(h:ay L 1<=n)(b:a≠1):ay (setAt L a w) 1<=n:=by
 rcases o8 L a w 1 with e|e
 ·rw[e];exact h
 ·exact absurd e.1 b
structure TZ (c:bA) (n:Int) (k:Tk):Prop where
 seq:0<=k.seq/\k.seq<=c.bG
 round:0<=k.round/\k.round<=n
 i:0<=k.i/\k.i<=n
 j:0<=k.j/\k.j<=n
 tr:0<=k.bS/\k.bS<=n
 ep:0<=k.fW/\k.fW<=n
 base:wL k.base
 buf:fE k.buf
 T2:(k.buf.length:Int)<=bn c
 nxt:fE k.next
 abv:(k.next.length:Int)<=bn c
 word:uj k.word
 args:fE k.args
 OL:k.args.length<=5
 found:(k.found.length:Int)<=n
 seen:fE k.seen
 tF:(k.seen.length:Int)<=n
 res:ew k.res=true
 aA:PB n k.aA
def mM(p z n e i j g h f q:Int):Prop:=(0<=e/\e<=38)/\(e=7->i<z/\g=i)/\((8<=e/\e<=12)\/(25<=e/\e<=27)->i<p)/\(8<=e/\e<=15->g=z)/\(13<=e/\e<=15->h=z)/\(13<=e/\e<=14->i<z)/\(e=25\/e=26->q<=n)/\(e=9->f=j/\j<5)/\(e=17->f=5/\j<5)
structure wM (c:bA) (n:Int) (k:Tk):Prop where
 a:mM c.threads (bn c) n k.pc k.i k.j k.buf.length k.next.length k.args.length k.word
 aN:k.pc≠0->bk k.aN=true
structure RB (c:bA) (n:Int) (r:Rn):Prop where
 k:TZ c n r.k
 f:wM c n r.k
 L:fE r.L
 g:ay r.L 1<=n
structure NB (c:bA) (n:Int) (r:Rn):Prop where
 k:TZ c n r.k
 aN:bk r.k.aN=true
 L:fE r.L
 g:ay r.L 1<=n
theorem TZ.mono{c:bA}{n m:Int}{k:Tk}(h:TZ c n k)(e:n<=m):TZ c m k :={h with round:=⟨h.round.1,by have:=h.round.2;omega⟩,i:=⟨h.i.1,by have:=h.i.2;omega⟩,j:=⟨h.j.1,by have:=h.j.2;omega⟩,tr:=⟨h.tr.1,by have:=h.tr.2;omega⟩,ep:=⟨h.ep.1,by have:=h.ep.2;omega⟩,found:=by have:=h.found;omega,tF:=by have:=h.tF;omega,aA:=h.aA.mono e}
theorem wM.mono{c:bA}{n m:Int}{k:Tk}(h:wM c n k)(e:n<=m):wM c m k:=⟨by have:=h.a;unfold mM at *;omega,h.aN⟩
theorem RB.nb{c:bA}{n:Int}{r:Rn}(h:RB c n r)(b:r.k.pc≠0):NB c n r:=⟨h.k,h.f.aN b,h.L,h.g⟩
theorem NB.mono{c:bA}{n m:Int}{r:Rn}(h:NB c n r)(e:n<=m):NB c m r:=⟨h.k.mono e,h.aN,h.L,by have:=h.g;omega⟩
def fj(p:Int):Prop:=(0<=p/\p<=6)\/p=16\/(18<=p/\p<=24)\/(28<=p/\p<=38)
theorem wM.fO{c:bA}{n:Int}{k:Tk}(h:fj k.pc)(b:k.pc≠0->bk k.aN=true):wM c n k:=by unfold fj at h;exact⟨by unfold mM;omega,b⟩
section
variable{c:bA} {t n:Int} {r:Rn}
theorem NB.tG(h:NB c n r){p:Int}(b:fj p):RB c n (r.pc p):=⟨{h.k with},wM.fO b fun _=>h.aN,h.L,h.g⟩
theorem Jq(h:NB c n r):RB c n (Rn.again c r):=by
 unfold Rn.again;split
 ·exact h.tG (by unfold fj;omega)
 ·split
  ·exact h.tG (by unfold fj;omega)
  ·exact h.tG (by unfold fj;omega)
theorem Gg(h:NB c n r):RB c (n+1) (Rn.fail c r):=by unfold Rn.fail;have H:=h.mono (m:=n+1) aa;have a:=h.k.round;have b:=h.k.i;exact Jq ⟨{H.k with round:=⟨by dsimp only;omega,by dsimp only;omega⟩,found:=by simp;omega},H.aN,H.L,H.g⟩
theorem OM(h:NB c n r)(a:c.bG<=1048575):RB c n r.refuse:=by unfold Rn.refuse;have:=KR r.k.aA;have:=h.k.seq;exact⟨{h.k with res:=by rw[dy];dsimp only;omega},wM.fO (by unfold fj;dsimp only;omega) fun _=>h.aN,h.L,h.g⟩
theorem OO(h:NB c n r)(b:c.bG<=1048575):RB c n (Rn.take c r):=by
 unfold Rn.take;dsimp only;have a:=TX (tags:=c.tags) h.k.aA;split
 ·exact Jq ⟨{h.k with aA:=a},h.aN,h.L,h.g⟩
 ·split
  ·exact⟨{h.k with aA:=a},wM.fO (by unfold fj;dsimp only;omega) fun _=>h.aN,h.L,h.g⟩
  ·exact OM ⟨{h.k with aA:=a},h.aN,h.L,h.g⟩ b
theorem uM(h:NB c n r)(a:c.bG<=1048575):RB c n (Rn.cB c r):=by
 unfold Rn.cB;split
 ·exact OO h a
 ·exact h.tG (by unfold fj;omega)
theorem OP{c:bA}{n k d:Int}{q:Rq}{p:Pl}{g:Rs}{b:Bool}(e:0<=n)(f:0<=bn c)(j:0<=d/\d<=c.bG)(h:PB n p)(i:ew g=true):TZ c n (eY k d q p g b):=by unfold eY;exact⟨j,by dsimp only;omega,by dsimp only;omega,by dsimp only;omega,by dsimp only;omega,by dsimp only;omega,uL,fE.nil,by simpa using f,fE.nil,by simpa using f,dJ (cI 0) (by decide:(0:Int)<=18446744073709551615),fE.nil,aD,by simpa using e,fE.nil,by simpa using e,i,h⟩
theorem yf(h:NB c n r)(b:0<=n)(d:0<=bn c):RB c n r.finish:=by unfold Rn.finish;exact⟨OP b d h.k.seq h.k.aA h.k.res,wM.fO (by unfold fj eY;dsimp only;omega) fun e=>absurd rfl e,h.L,h.g⟩
theorem Jr(h:NB c n r)(a:0<=n)(b:0<=bn c):RB c n (Rn.owned c r):=by
 unfold Rn.owned;split
 ·exact yf h a b
 ·split
  ·exact h.tG (by unfold fj;omega)
  ·exact h.tG (by unfold fj;omega)
theorem uN(h:NB c n r)(e:(r.k.buf.length:Int)=bn c)(f:r.k.i<c.threads)(b:r.k.i+1<=n)(a:0<=n):RB c n (Rn.ee c r):=by
 have d:=h.k.i;unfold Rn.ee;split
 ·exact WZ
 ·exact⟨{h.k with i:=⟨by dsimp only;omega,by dsimp only;omega⟩},⟨by unfold mM;dsimp only;omega,fun _=>h.aN⟩,h.L,h.g⟩
theorem yg(b:α->α->Bool)(x:α)(l:List α):(ij b x l).length=l.length+1:=by
 induction l with
 |nil=>rfl
 |cons y l a=>unfold ij;split<;>simp[a]
theorem jS(b:α->α->Bool)(l:List α):(dX b l).length=l.length:=by
 unfold dX;rw[List.length_reverse];have:∀(l a:List α),(l.foldl (fun a x=>ij b x a) a).length=a.length+l.length:=by
  intro l;induction l with
  |nil=>intro a;rfl
  |cons x l c=>intro a;rw[List.foldl_cons,c,yg,List.length_cons];omega
 rw[this];simp
theorem yh(h:NB c n r)(a:(r.k.buf.length:Int)=bn c)(g:r.k.i<c.threads)(e:r.k.i+1<=n)(d:0<=n)(j:1<=bn c)(b:(r.k.found.length:Int)+1<=n):RB c n (Rn.cU c t r):=by
 have f:=h.k.i;unfold Rn.cU;dsimp only;split
 ·exact WZ
 ·have i:=yb (c:=c) (il r.k.found++(if r.k.ke=true then[]else[⟨t,r.k.seq,0,r.k.aN⟩])) a;refine⟨{h.k with i:=⟨by dsimp only;omega,by dsimp only;omega⟩,tr:=⟨by dsimp only;omega,by dsimp only;omega⟩,nxt:=Jo _ h.k.buf,abv:=by dsimp only;omega,found:=?_},⟨by unfold mM;dsimp only;omega,fun _=>h.aN⟩,h.L,h.g⟩;dsimp only;rw[eW];unfold il;rw[jS];split<;>simp<;>omega
theorem yi(c:bA)(h:fE l)(i:Int):ew (eT c l i)=true:=by
 unfold eT jq;split
 ·exact mL (dJ ag ag)
 ·exact mL (h.at_ _)
theorem tH(c:bA)(h:fE l)(i:Int):uj (jq c l i):=by
 unfold jq;split
 ·exact dJ ag ag
 ·exact h.at_ _
end
end Mo
namespace Mo
structure CB (c:bA) (t:Int):Prop where
 eN:aU c=true
 t0:0<=t
 t1:t<c.threads
section
variable{c:bA} {t n:Int} {r r':Rn}
theorem CB.bG(C:CB c t):c.bG<=1048575:=(aK C.eN).2.2.2.2.2.1.2
theorem CB.th(C:CB c t):1<=c.threads/\c.threads<=64:=(aK C.eN).1
theorem CB.size(C:CB c t):2<=bn c:=size_pos C.eN
theorem NB.store(h:NB c n r){a w:Int}(b:a≠1)(d:uj w):NB c n (r.store a w):=⟨h.k,h.aN,h.L.bj a d,Dz h.g b⟩
theorem T3(C:CB c t){i:Int}(b:0<=i):12<=bu c i:=by have a:=C.th;have d:=C.size;have:0<=i*(1+bn c):=ly b aa;unfold bu;omega
theorem AE{g:Int}(b:0<=g)(d:g<=100000000):uj (ig g):=by unfold ig;exact dJ aa aa
theorem T4(C:CB c t)(h:RB c n r)(f:0<=n)(b:n<=100000000)(d:1<=r.k.pc)(e:r.k.pc<=5):RB c (n+1) (Rn.enter c t r):=by
 have N:=h.nb aa;have M:=N.mono (m:=n+1) aa;have g:=C.th;have i:=C.t0;unfold Rn.enter;split
 ·exact W6
 ·split
  ·have a:=N.k.ep;exact OO (M.store (by unfold nL;omega) (AE a.1 aa)) C.bG
  ·split
   ·exact W7
   ·split
    ·exact(M.store (by unfold iq;omega) (tE _)).tG (by unfold fj;omega)
    ·split
     ·split
      ·exact Gg N
      ·exact M.tG (by unfold fj;omega)
     ·omega
theorem OQ(C:CB c t)(h:RB c n r)(k:0<=n)(g:6<=r.k.pc)(i:r.k.pc<=7):RB c (n+1) (Rn.eZ c t r):=by
 have N:=h.nb (by omega);have M:=N.mono (m:=n+1) (by omega);have l:=C.size;have o:=C.th;have e:=h.f.a;unfold mM at e;unfold Rn.eZ;split
 ·split
  ·exact Gg N
  ·exact⟨{M.k with i:=⟨cI 0,by dsimp only;omega⟩,buf:=fE.nil,T2:=by simp;omega},⟨by unfold mM;dsimp only;simp;omega,fun _=>M.aN⟩,M.L,M.g⟩
 ·have p:=h.k.i;have f:((r.k.buf++[ay r.L (bu c r.k.base.ix+1+r.k.i)]).length:Int)=r.k.buf.length+1:=by rw[eW];simp
  have a:fE (r.k.buf++[ay r.L (bu c r.k.base.ix+1+r.k.i)]):=N.k.buf.app (fE.one (h.L.at_ _));have j:=N.k.found;dsimp only;generalize r.k.buf++[ay r.L (bu c r.k.base.ix+1+r.k.i)]=b at *;split
  ·exact⟨{M.k with i:=⟨by dsimp only;omega,by dsimp only;omega⟩,buf:=a,T2:=by dsimp only;omega},⟨by unfold mM;dsimp only;omega,fun _=>M.aN⟩,M.L,M.g⟩
  ·have d:TZ c (n+1) {r.k with buf:=b,i:=0,found:=[],pc:=8}:={M.k with i:=⟨cI 0,by dsimp only;omega⟩,buf:=a,T2:=by dsimp only;omega,found:=by simp;omega}
   split
   ·exact⟨{d with res:=yi c a t},wM.fO (by unfold fj;dsimp only;omega) fun _=>M.aN,M.L,M.g⟩
   ·exact⟨d,⟨by unfold mM;dsimp only;omega,fun _=>M.aN⟩,M.L,M.g⟩
theorem OS(C:CB c t)(h:RB c n r)(o:0<=n)(j:8<=r.k.pc)(k:r.k.pc<=10):RB c (n+1) (Rn.fc c r):=by
 have N:=h.nb aa;have M:=N.mono (m:=n+1) aa;have p:=C.size;have q:=C.th;have f:=h.f.a;unfold mM at f;have s:=h.k.i;have a:(r.k.buf.length:Int)=bn c:=aa;have e:r.k.i<c.threads:=aa;have i:=h.k.found;unfold Rn.fc;split
 ·dsimp only;split
  ·exact uN (r:={r with k:={r.k with word:=ay r.L (lJ c r.k.i)}}) ⟨{M.k with word:=h.L.at_ _},M.aN,M.L,M.g⟩ a e (by dsimp only;omega) aa
  ·exact⟨{M.k with word:=h.L.at_ _,j:=⟨cI 0,by dsimp only;omega⟩,args:=fE.nil,OL:=by simp},⟨by unfold mM;dsimp only;simp;omega,fun _=>M.aN⟩,M.L,M.g⟩
 ·split
  ·have l:=h.k.j;have g:((r.k.args++[ay r.L (iY c r.k.i+r.k.j)]).length:Int)=r.k.args.length+1:=by rw[eW];simp
   have d:fE (r.k.args++[ay r.L (iY c r.k.i+r.k.j)]):=N.k.args.app (fE.one (h.L.at_ _));dsimp only;generalize r.k.args++[ay r.L (iY c r.k.i+r.k.j)]=b at *;refine⟨{M.k with args:=d,OL:=by dsimp only;omega,j:=⟨by dsimp only;omega,by dsimp only;omega⟩},⟨?_,fun _=>M.aN⟩,M.L,M.g⟩;unfold mM;dsimp only;split<;>omega
  ·split
   ·dsimp only;split
    ·exact uN (r:={r with k:={r.k with found:=r.k.found++[⟨r.k.i,r.k.word,(eC r.k.args).2.1,(eC r.k.args).1⟩]}}) ⟨{M.k with found:=by dsimp only;rw[eW];simp;omega},M.aN,M.L,M.g⟩ a e (by dsimp only;omega) aa
    ·exact uN M a e aa aa
   ·omega
theorem KT(C:CB c t)(h:RB c n r)(o:0<=n)(j:11<=r.k.pc)(k:r.k.pc<=12):RB c (n+1) (Rn.eV c t r):=by
 have N:=h.nb aa;have M:=N.mono (m:=n+1) aa;have l:=C.size;have p:=C.th;have f:=h.f.a;unfold mM at f;have q:=h.k.i;have d:(r.k.buf.length:Int)=bn c:=aa;have e:r.k.i<c.threads:=aa;have i:=h.k.found;have g:=h.k.tr;unfold Rn.eV;dsimp only;split
 ·split
  ·exact yh (r:={r with k:={r.k with word:=ay r.L (bZ c r.k.i)}}) ⟨{M.k with word:=h.L.at_ _},M.aN,M.L,M.g⟩ d e (by dsimp only;omega) aa aa (by dsimp only;omega)
  ·exact⟨{M.k with word:=h.L.at_ _},⟨by unfold mM Rn.pc;dsimp only;omega,fun _=>M.aN⟩,M.L,M.g⟩
 ·have a:∀(b:Rn),b=(if ay r.L (bZ c r.k.i)=r.k.word then r.store (bZ c r.k.i) (jq c r.k.buf r.k.i)else r)->NB c (n+1) {b with k:={r.k with bS:=r.k.bS+1}}:=by
   rintro b rfl;split
   ·exact⟨{M.k with tr:=⟨by dsimp only;omega,by dsimp only;omega⟩},M.aN,M.L.bj _ (tH c N.k.buf _),Dz M.g (by unfold bZ;omega)⟩
   ·exact⟨{M.k with tr:=⟨by dsimp only;omega,by dsimp only;omega⟩},M.aN,M.L,M.g⟩
  have a:=a _ rfl
  split
  ·exact yh a d e (by dsimp only;omega) aa aa (by dsimp only;omega)
  ·exact⟨{a.k with},⟨by unfold mM Rn.pc;dsimp only;omega,fun _=>M.aN⟩,a.L,a.g⟩
theorem OU(C:CB c t)(h:RB c n r)(f:13<=r.k.pc)(g:r.k.pc<=15):RB c (n+1) (Rn.writes c t r):=by
 have N:=h.nb aa;have M:=N.mono (m:=n+1) aa;have j:=C.size;have k:=C.th;have e:=h.f.a;unfold mM at e;have l:=h.k.i;have hown:=h.k.aA.own;have d:=T3 C (i:=r.k.aA.own.ix) hown.1;unfold wL at hown;unfold Rn.writes;dsimp only;split
 ·have b:NB c (n+1) (r.store (bu c r.k.aA.own.ix) r.k.aA.own.tag):=M.store aa (dJ aa aa);exact⟨{b.k with},⟨by unfold mM Rn.pc Rn.store;dsimp only;omega,fun _=>M.aN⟩,b.L,b.g⟩
 ·split
  ·have b:NB c (n+1) {r.store (bu c r.k.aA.own.ix+1+r.k.i) (ay r.k.next r.k.i)with k:={r.k with i:=r.k.i+1}} :=
    ⟨{M.k with i:=⟨by dsimp only;omega,by dsimp only;omega⟩},M.aN,M.L.bj _ (N.k.nxt.at_ _),Dz M.g aa⟩
   split
   ·exact⟨{b.k with},⟨by unfold mM Rn.pc Rn.store;dsimp only;omega,fun _=>M.aN⟩,b.L,b.g⟩
   ·exact⟨b.k,⟨by unfold mM Rn.store;dsimp only;omega,fun _=>M.aN⟩,b.L,b.g⟩
  ·split
   ·split
    ·exact Gg N
    ·exact⟨{M.k with res:=yi c N.k.nxt t,aA:=OK M.k.aA},wM.fO (by unfold fj;dsimp only;omega) fun _=>M.aN,M.L.bj 0 (tE r.k.aA.own),Dz (a:=0) M.g aa⟩
   ·omega
theorem Gh(C:CB c t)(h:RB c n r)(o:0<=n)(i:16<=r.k.pc)(j:r.k.pc<=19):RB c (n+1) (Rn.bT c t r):=by
 have N:=h.nb aa;have M:=N.mono (m:=n+1) aa;have l:=C.size;have p:=C.th;have q:=C.t0;have g:=C.bG;have e:=h.f.a;unfold mM at e;have s:=h.k.i;have k:=h.k.j;unfold Rn.bT;dsimp only;split
 ·have f:=h.L.at_ 2;unfold uj at f;have b:=OJ N.aN (ph:=ay r.L 2%4294967296) aa aa;have d:=M.store (a:=2) (w:=(ay r.L 2+1)%18446744073709551616) aa (dJ aa aa);refine⟨{M.k with args:=b.1,OL:=by dsimp only;omega,j:=⟨cI 0,by dsimp only;omega⟩},⟨by unfold mM Rn.store;dsimp only;omega,fun _=>M.aN⟩,d.L,d.g⟩
 ·split
  ·refine⟨{M.k with j:=⟨by dsimp only;omega,by dsimp only;omega⟩},⟨?_,fun _=>M.aN⟩,M.L.bj _ (N.k.args.at_ _),Dz M.g (by unfold iY;omega)⟩;unfold mM Rn.store;dsimp only;split<;>omega
  ·split
   ·have d:=h.k.seq;exact⟨{M.k with round:=⟨(by decide:(0:Int)<=1),by dsimp only;omega⟩},wM.fO (by unfold fj;dsimp only;omega) fun _=>M.aN,M.L.bj _ (dJ aa aa),Dz M.g (by unfold lJ;omega)⟩
   ·split
    ·exact⟨{M.k with res:=mL (h.L.at_ _)},wM.fO (by unfold fj;dsimp only;omega) fun _=>M.aN,M.L,M.g⟩
    ·omega
theorem Y4(C:CB c t)(h:RB c n r)(j:0<=n)(g:20<=r.k.pc)(i:r.k.pc<=23):RB c (n+1) (Rn.ends c t r):=by
 have N:=h.nb aa;have M:=N.mono (m:=n+1) aa;have k:=C.size;have l:=C.th;have o:=C.t0;have f:=h.k.tr;unfold Rn.ends;dsimp only;split
 ·refine⟨{M.k with tr:=⟨cI 0,by dsimp only;omega⟩},wM.fO ?_ fun _=>M.aN,M.L.bj _ (dJ (cI 0) (by decide:(0:Int)<=18446744073709551615)),Dz M.g (by unfold iq;omega)⟩;unfold fj;dsimp only;split<;>omega
 ·split
  ·have e:=h.g;have d:=h.L.at_ 1;unfold uj at d;exact⟨{M.k with aA:=TY h.k.aA h.k.base d.1 e},wM.fO (by unfold fj;dsimp only;omega) fun _=>M.aN,M.L,M.g⟩
  ·split
   ·split
    ·exact Jr (r:={r with k:={r.k with word:=ay r.L (bZ c t)}}) ⟨{M.k with word:=h.L.at_ _},M.aN,M.L,M.g⟩ aa aa
    ·exact⟨{M.k with word:=h.L.at_ _},wM.fO (by unfold fj Rn.pc;dsimp only;omega) fun _=>M.aN,M.L,M.g⟩
   ·split
    ·have a:∀(b:Rn),b=(if ay r.L (bZ c t)=r.k.word then r.store (bZ c t) (fG r.k.res)else r)->NB c (n+1) {b with k:={r.k with bS:=r.k.bS+1,pc:=22}}:=by
      rintro b rfl;split
      ·exact⟨{M.k with tr:=⟨by dsimp only;omega,by dsimp only;omega⟩},M.aN,M.L.bj _ (tD _),Dz M.g (by unfold bZ;omega)⟩
      ·exact⟨{M.k with tr:=⟨by dsimp only;omega,by dsimp only;omega⟩},M.aN,M.L,M.g⟩
     have a:=a _ rfl
     split
     ·exact Jr a aa aa
     ·exact⟨a.k,wM.fO (by unfold fj;dsimp only;omega) fun _=>M.aN,a.L,a.g⟩
    ·omega
theorem KU(C:CB c t)(h:RB c n r)(x:0<=n)(o:n<=100000000)(p:24<=r.k.pc)(q:r.k.pc<=27):RB c (n+1) (Rn.cV c t r):=by
 have N:=h.nb (by omega);have M:=N.mono (m:=n+1) (by omega);have y:=C.size;have z:=C.th;have A:=C.t0;have i:=h.f.a;unfold mM at i;have B:=h.k.i;unfold Rn.cV;dsimp only;split
 ·have u:=h.g;have g:TZ c (n+1) {r.k with word:=ay r.L 1,aA:=eU r.k.aA (ay r.L 1),i:=0,all:=true,pc:=25}:={M.k with word:=h.L.at_ 1,aA:=ra M.k.aA _,i:=⟨cI 0,by dsimp only;omega⟩}
  split
  ·exact uM (r:={r with k:={r.k with word:=ay r.L 1,aA:=eU r.k.aA (ay r.L 1),i:=0,all:=true,pc:=25}}) ⟨g,M.aN,M.L,M.g⟩ C.bG
  ·exact⟨g,⟨by unfold mM;dsimp only;omega,fun _=>M.aN⟩,M.L,M.g⟩
 ·split
  ·split
   ·exact⟨{M.k with i:=⟨by dsimp only;omega,by dsimp only;omega⟩},⟨by unfold mM;dsimp only;omega,fun _=>M.aN⟩,M.L,M.g⟩
   ·refine⟨{M.k with i:=⟨cI 0,by dsimp only;omega⟩,seen:=fE.nil,tF:=by simp;omega},⟨?_,fun _=>M.aN⟩,M.L,M.g⟩;unfold mM;dsimp only;split<;>omega
  ·split
   ·have j:=h.k.word;unfold uj at j;have a:∀(b:Rn),b=(if ay r.L 1=r.k.word then{r.store 1 (r.k.word+1)with k:={r.k with aA:=eU r.k.aA (r.k.word+1)}}else r)->NB c (n+1) b/\b.k.i=r.k.i:=by
     rintro b rfl;split
     ·refine⟨⟨{M.k with aA:=ra M.k.aA _},M.aN,fE.bj (w:=r.k.word+1) M.L 1 (dJ (by omega) (by omega)),?_⟩,rfl⟩;rcases o8 r.L 1 (r.k.word+1) 1 with e|e
      ·show ay (setAt r.L 1 (r.k.word+1)) 1<=_;rw[e];exact M.g
      ·show ay (setAt r.L 1 (r.k.word+1)) 1<=_;rw[e.2];omega
     ·exact⟨M,rfl⟩
    generalize(if ay r.L 1=r.k.word then{r.store 1 (r.k.word+1)with k:={r.k with aA:=eU r.k.aA (r.k.word+1)}}else r)=b at *;obtain⟨a,v⟩:=a _ rfl;have f:NB c (n+1) (b.pc 27):=⟨{a.k with},a.aN,a.L,a.g⟩
    split
    ·exact uM f C.bG
    ·exact⟨f.k,⟨by unfold mM Rn.pc;dsimp only;omega,fun _=>a.aN⟩,a.L,a.g⟩
   ·split
    ·have k:((r.k.seen++[ay r.L (iq c r.k.i)]).length:Int)=r.k.seen.length+1:=by rw[eW];simp
     have d:fE (r.k.seen++[ay r.L (iq c r.k.i)]):=N.k.seen.app (fE.one (h.L.at_ _));have l:=h.k.tF;generalize r.k.seen++[ay r.L (iq c r.k.i)]=s at *;split
     ·exact uM (r:={r with k:={r.k with seen:=s,i:=r.k.i+1,aA:=lU r.k.aA s}}) ⟨{M.k with i:=⟨by dsimp only;omega,by dsimp only;omega⟩,seen:=d,tF:=by dsimp only;omega,aA:=ra M.k.aA _},M.aN,M.L,M.g⟩ C.bG
     ·exact⟨{M.k with i:=⟨by dsimp only;omega,by dsimp only;omega⟩,seen:=d,tF:=by dsimp only;omega},⟨by unfold mM;dsimp only;omega,fun _=>M.aN⟩,M.L,M.g⟩
    ·omega
theorem T7(C:CB c t)(h:RB c n r)(e:0<=n)(d:r.k.pc=28):RB c (n+1) (Rn.leave c t r):=by
 have N:=h.nb aa;have M:=N.mono (m:=n+1) aa;have f:=C.size;have g:=C.th;have i:=C.t0;have b:=M.store (a:=nL c t) (w:=0) (by unfold nL;omega) (dJ ag ag);unfold Rn.leave;dsimp only;split
 ·exact yf b aa aa
 ·refine⟨OP aa aa M.k.seq M.k.aA M.k.res,wM.fO ?_ fun _=>M.aN,b.L,b.g⟩;unfold fj eY;dsimp only;omega
theorem wO{p:Prop}[Decidable p]{x y:Rn}(b:p->RB c n x)(d:¬p->RB c n y):RB c n (if p then x else y):=by
 by_cases h:p
 ·rw[au h];exact b h
 ·rw[ah h];exact d h
theorem T8(C:CB c t)(h:RB c n r)(j:0<=n)(g:n<=100000000)(i:29<=r.k.pc):RB c (n+1) (Rn.waits c t r):=by
 have N:=h.nb aa;have M:=N.mono (m:=n+1) aa;have k:=C.size;have l:=C.th;have o:=C.t0;have d:=h.f.a;unfold mM at d;have f:=N.k.ep;unfold Rn.waits;dsimp only;refine wO (fun e=>?_) (fun e=>?_)
 ·refine wO (fun e=>?_) (fun e=>?_)
  ·exact yf (r:={r with k:={r.k with res:=cL (ay r.L (bZ c t)),pc:=30}}) ⟨{M.k with res:=mL (h.L.at_ _)},M.aN,M.L,M.g⟩ aa aa
  ·exact M.tG (by unfold fj;omega)
 ·refine wO (fun e=>?_) (fun e=>?_)
  ·exact W6
  ·refine wO (fun e=>?_) (fun e=>?_)
   ·exact(M.store (by unfold nL;omega) (AE f.1 aa)).tG (by unfold fj;omega)
   ·refine wO (fun e=>?_) (fun e=>?_)
    ·exact W7
    ·refine wO (fun e=>?_) (fun e=>?_)
     ·exact(M.store (by unfold iq;omega) (tE _)).tG (by unfold fj;omega)
     ·refine wO (fun e=>?_) (fun e=>?_)
      ·refine⟨{M.k with word:=dJ (cI 0) (by decide:(0:Int)<=18446744073709551615)},wM.fO ?_ fun _=>M.aN,M.L,M.g⟩;unfold fj;dsimp only;split<;>omega
      ·refine wO (fun e=>?_) (fun e=>?_)
       ·exact M.tG (by unfold fj;split<;>omega)
       ·refine wO (fun e=>?_) (fun e=>?_)
        ·exact⟨{M.k with word:=h.L.at_ _},wM.fO (by unfold fj;dsimp only;omega) fun _=>M.aN,M.L,M.g⟩
        ·refine wO (fun e=>?_) (fun e=>?_)
         ·exact(M.store (a:=iq c t) (w:=0) (by unfold iq;omega) (dJ ag ag)).tG (by unfold fj;omega)
         ·refine wO (fun e=>?_) (fun e=>?_)
          ·have b:=M.store (a:=nL c t) (w:=0) (by unfold nL;omega) (dJ ag ag);refine wO (fun e=>?_) (fun e=>?_)
           ·exact⟨{b.k with res:=mL N.k.word,tr:=⟨cI 0,by dsimp only;omega⟩},wM.fO (by unfold fj;dsimp only;omega) fun _=>M.aN,b.L,b.g⟩
           ·exact b.tG (by unfold fj;omega)
          ·omega
theorem Y6(C:CB c t)(h:RB c n r)(a:0<=n)(b:n<=100000000):RB c (n+1) (eD c t r):=by
 have d:=h.f.a;unfold mM at d;unfold eD;split
 ·exact⟨h.k.mono aa,h.f.mono aa,h.L,by have:=h.g;omega⟩
 ·split
  ·exact T4 C h a b aa aa
  ·split
   ·exact OQ C h a aa aa
   ·split
    ·exact OS C h a aa aa
    ·split
     ·exact KT C h a aa aa
     ·split
      ·exact OU C h aa aa
      ·split
       ·exact Gh C h a aa aa
       ·split
        ·exact Y4 C h a aa aa
        ·split
         ·exact KU C h a b aa aa
         ·split
          ·exact T7 C h a aa
          ·exact T8 C h a b aa
end
end Mo
end Go.Proofs.YtjcjjiieblineaaGreat
