/- Walks and plain facts. No condition. -/
import Derived.Test.YtjcjjiieblineaaGreatPc
namespace Go.Proofs.YtjcjjiieblineaaGreat
open Go.Proofs.Tryz
set_option maxHeartbeats 8000000
set_option maxRecDepth 100000
set_option linter.all false
variable {α:Type}{i:Nat}{l:List Int}{dir seq tags handle value:Int}
namespace Mo
theorem jW{n a b:Int}:iy n a b=true↔a<=n/\n<=b:=by unfold iy;simp
theorem cI{r:Rs}:eJ r=true↔(0<=r.seq/\r.seq<=1048575/\0<=r.cs/\r.cs<=15/\0<=r.code/\r.code<=255/\0<=r.value/\r.value<=4294967295):=by unfold eJ;simp
structure oz (c:bH) (h:Hl):Prop where
 dL:aN c=true
 kind:c.kind=3
 tick:0<=h.ay/\h.ay<=4294967295
 Py:(h.chans.length:Int)=c.chans
 Pz:(h.waits.length:Int)=c.threads
 Gi:(h.done.length:Int)=c.threads
 dn:∀r∈h.done,eJ r=true
 ch:∀x∈h.chans,kZ c x=true
 wt:∀x∈h.waits,gi x=true
theorem pF{c:bH}{h:Hl}:jo c h=true↔oz c h:=by
 unfold jo lV;simp only[dI,beq_iff_eq,cU,List.all_eq_true,jW];constructor
 ·rintro⟨⟨⟨⟨⟨⟨⟨a,b⟩,d⟩,e⟩,f⟩,g⟩,i⟩,j⟩;exact⟨a,b,d,e,f,g.1,g.2,i,j⟩
 ·rintro⟨a,b,d,e,f,g,g',i,j⟩;exact⟨⟨⟨⟨⟨⟨⟨a,b⟩,d⟩,e⟩,f⟩,g,g'⟩,i⟩,j⟩
theorem cJ{c:bH}{x:Ch}:kZ c x=true↔(0<=x.gen/\x.gen<=4095)/\(0<=x.cap/\x.cap<=c.cap)/\((x.buf.length:Int)<=x.cap/\∀v∈x.buf,0<=v/\v<=4294967295)/\(x.used=true\/x.closed=false/\x.cap=0):=by unfold kZ gz;simp[jW,and_assoc]
theorem mU{k:Cs}:mL k=true↔(k.1=1\/k.1=2)/\(0<=k.2.1/\k.2.1<65536)/\(0<=k.2.2/\k.2.2<4294967296):=by unfold mL fits;simp[and_assoc]
theorem jM{q:Rq}:bt q=true↔(1<=q.kind/\q.kind<=9)/\(0<=q.arg/\q.arg<65536)/\(0<=q.value/\q.value<4294967296)/\q.cases.length<=3/\∀k∈q.cases,mL k=true:=by unfold bt fits;simp only[dI,cU,List.all_eq_true,and_assoc]
theorem mV{x:Wt}:gi x=true↔if x.on=false then x.ay=0/\x.seq=0/\x.cases.length=0 else(0<=x.ay/\x.ay<=4294967295)/\(0<=x.seq/\x.seq<=1048575)/\(1<=x.cases.length/\x.cases.length<=3)/\∀k∈x.cases,mL k=true:=by
 unfold gi;by_cases h:x.on=false
 ·rw[au h,au h];simp[and_assoc]
 ·rw[ai h,ai h];simp only[dI,jW,jM];constructor
  ·rintro⟨⟨⟨a,b⟩,d⟩,_,_,_,e,f⟩;exact⟨a,b,⟨ae,e⟩,f⟩
  ·rintro⟨a,b,d,e⟩;exact⟨⟨⟨a,b⟩,ae,ae⟩,ae,ae,ae,d.2,e⟩
theorem vz{x:Wt}(h:gi x=true):0<=x.seq/\x.seq<=1048575:=by have:=mV.1 h;split at this<;>omega
theorem lv{x:Wt}(h:gi x=true):x.cases.length<=3:=by have:=mV.1 h;split at this<;>omega
theorem Bt{x:Wt}(h:gi x=true){k:Cs}(hk:k∈x.cases):mL k=true:=by
 have:=mV.1 h;split at this
 ·have h0:=List.length_eq_zero_iff.1 this.2.2;rw[h0]at hk;cases hk
 ·exact this.2.2.2 k hk
theorem mem_set{l:List α}{y x:α}(h:x∈l.set i y):x∈l\/x=y:=List.mem_or_eq_of_mem_set h
theorem lx{l:List α}{d:α}:l.getD i d∈l\/l.getD i d=d:=by
 rw[eR];cases h:l[i]? with
 |none=>exact .inr rfl
 |some x=>exact .inl (dO h)
theorem zJ:gi gK=true:=ah
theorem Ec{l:List Wt}(h:∀x∈l,gi x=true)(t:Nat):gi (l.getD t gK)=true:=by
 rcases lx (l:=l) (i:=t) (d:=gK)with h1|h1
 ·exact h _ h1
 ·rw[h1];exact zJ
theorem zK{l:List Wt}(h:∀x∈l,gi x=true)(t:Nat):∀x∈gL l t,gi x=true:=by
 intro x hx;rcases mem_set hx with h1|rfl
 ·exact h _ h1
 ·exact zJ
theorem Gj(l:List Wt)(t:Nat):(gL l t).length=l.length:=by unfold gL;simp
theorem Gk{l:List Wt}(h:∀x∈l,gi x=true)(L:List Nat):(∀x∈L.foldl gL l,gi x=true)/\(L.foldl gL l).length=l.length:=by
 induction L generalizing l with
 |nil=>exact⟨h,rfl⟩
 |cons t L ih=>have:=ih (zK h t);exact⟨this.1,by rw[List.foldl_cons,this.2,Gj]⟩
theorem Gl{d:List Rs}(h:∀r∈d,eJ r=true)(l:List Told)(hl:∀x∈l,eJ x.res=true):(∀r∈gj d l,eJ r=true)/\(gj d l).length=d.length:=by
 unfold gj;induction l generalizing d with
 |nil=>exact⟨h,rfl⟩
 |cons x l ih =>
  have:=ih (d:=d.set x.th x.res) (fun r hr=>by
   rcases mem_set hr with h1|rfl
   ·exact h _ h1
   ·exact hl x aF) (fun y hy=>hl y (by simp[hy]))
  exact⟨this.1,by rw[List.foldl_cons,this.2,cK]⟩
theorem Lt{w:Wt}(h:mP w dir handle=some i):i<w.cases.length/\w.on=true:=by
 unfold mP at h;split at h
 ·rename_i ho;obtain⟨h1,_⟩:=List.findIdx?_eq_some_iff_getElem.1 h;exact⟨h1,ho⟩
 ·cases h
theorem l8{l:List Wt}{dir handle:Int}:∀{n t i:Nat},eU l dir handle n=some (t,i)->∃x,l[t]?=some x/\mP x dir handle=some i
 |0,_,_,h=>by cases h
 |n+1,t,i,h=>by
  unfold eU at h
  cases hx:l[n]? with
  |none=>rw[hx]at h;exact l8 h
  |some x =>
   rw[hx]at h;dsimp only at h;cases hw:mP x dir handle with
   |none=>rw[hw]at h;exact l8 h
   |some j =>
    rw[hw]at h;dsimp only at h;cases hf:eU l dir handle n with
    |none=>rw[hf]at h;injection h with h;injection h with h1 h2;subst h1;subst h2;exact⟨x,hx,hw⟩
    |some p =>
     obtain⟨t',j'⟩:=p;rw[hf]at h;dsimp only at h;split at h
     ·injection h with h;injection h with h1 h2;subst h1;subst h2;exact⟨x,hx,hw⟩
     ·injection h with h;injection h with h1 h2;subst h1;subst h2;exact l8 hf
theorem vA{l:List Wt}{t:Nat}(h:dX l dir handle=some (t,i)):∃x,l[t]?=some x/\mP x dir handle=some i:=l8 h
theorem vB{l:List Wt}(h:∀x∈l,gi x=true)(t which:Nat)(code value:Int)(hw:which<=15)(hc:0<=code/\code<=255)(hv:0<=value/\value<=4294967295):eJ (nE l t which code value).res=true:=by have:=vz (Ec h t);unfold nE;rw[cI];dsimp only;omega
structure Bu (c:bH) (n:Nat) (G:vh):Prop where
 ch:kZ c G.c=true
 wt:∀x∈G.l,gi x=true
 len:G.l.length=n
 res:eJ G.r=true
 told:∀x∈G.told,eJ x.res=true
theorem nM:eJ dC=true:=ah
theorem ly{e:Int}(h:0<=e/\e<=255):eJ (bD e)=true:=by unfold bD;rw[cI];dsimp only;omega
theorem Lu{y:Wt}(hy:gi y=true)(handle:Int):nG y handle<=15:=by
 unfold nG;have:=lv hy;cases h:y.cases.findIdx? fun c=>c.2.1==handle with
 |none=>exact aY _
 |some i=>have:=(List.findIdx?_eq_some_iff_getElem.1 h).1;show i<=15;omega
section
variable{c:bH} {x:Ch} {l:List Wt} (hx:kZ c x=true) (hl:∀y∈l,gi y=true)
include hx hl
theorem QF(hv:0<=value/\value<=4294967295)(hr:dH x handle l 1=true)(hc:x.closed=false):Bu c l.length (nY x handle l value):=by
 unfold nY;cases hf:dX l 2 handle with
 |some p=>obtain⟨t,i⟩:=p;obtain⟨y,hy,hi⟩:=vA hf;have hy':=hl y (dO hy);have:=lv hy';have:=(Lt hi).1;refine⟨hx,zK hl t,Gj _ _,nM,?_⟩;intro z hz;rw[List.mem_singleton]at hz;subst hz;exact vB hl _ _ _ _ ae ah hv
 |none =>
  have h1:=cJ.1 hx;refine⟨?_,hl,rfl,nM,fun z hz=>by cases hz⟩;have h2:(x.buf.length:Int)<x.cap:=by
   unfold dH at hr;split at hr
   ·cases hr
   ·rw[au rfl,hc,hf]at hr;simpa using hr
  refine cJ.2 ⟨h1.1,h1.2.1,⟨?_,?_⟩,h1.2.2.2⟩
  ·show((x.buf++[value]).length:Int)<=x.cap;simp;omega
  ·intro v hv';rcases List.mem_append.1 hv' with h3|h3
   ·exact h1.2.2.1.2 v h3
   ·rw[List.mem_singleton]at h3;subst h3;exact hv
theorem QG:Bu c l.length (nZ x handle l):=by
 have h1:=cJ.1 hx;unfold nZ;cases hf:dX l 1 handle with
 |none =>
  refine⟨?_,hl,rfl,?_,fun z hz=>by cases hz⟩
  ·refine cJ.2 ⟨h1.1,h1.2.1,⟨?_,?_⟩,h1.2.2.2⟩
   ·show((x.buf.drop 1).length:Int)<=x.cap;rw[gm];omega
   ·intro v hv;exact h1.2.2.1.2 v (List.mem_of_mem_drop hv)
  ·have:0<=x.buf.getD 0 0/\x.buf.getD 0 0<=4294967295:=by
    rcases lx (l:=x.buf) (i:=0) (d:=(0:Int))with h|h
    ·exact h1.2.2.1.2 _ h
    ·rw[h];decide
   rw[cI];dsimp only;omega
 |some p =>
  obtain⟨t,i⟩:=p;obtain⟨y,hy,hi⟩:=vA hf;have hy':=hl y (dO hy);have vE:=lv hy';have hi':=(Lt hi).1;have hgd:l.getD t gK=y:=by rw[eR,hy];rfl
  have hk:mL (y.cases.getD i (0,0,0))=true:=by
   refine Bt hy' ?_;rcases lx (l:=y.cases) (i:=i) (d:=((0,0,0):Cs))with h|h
   ·exact h
   ·rw[eR,cD hi'];exact List.getElem_mem hi'
  have hv:=(mU.1 hk).2.2;have hb:∀v∈x.buf++[(y.cases.getD i (0,0,0)).2.2],0<=v/\v<=4294967295:=by
   intro v h;rcases List.mem_append.1 h with h|h
   ·exact h1.2.2.1.2 v h
   ·rw[List.mem_singleton]at h;subst h;omega
  dsimp only;rw[hgd];refine⟨?_,zK hl t,Gj _ _,?_,?_⟩
  ·refine cJ.2 ⟨h1.1,h1.2.1,⟨?_,?_⟩,h1.2.2.2⟩
   ·show(((x.buf++[(y.cases.getD i (0,0,0)).2.2]).drop 1).length:Int)<=x.cap;have:=h1.2.2.1.1;rw[gm];simp;omega
   ·intro v h;exact hb v (List.mem_of_mem_drop h)
  ·have:0<=(x.buf++[(y.cases.getD i (0,0,0)).2.2]).getD 0 0/\(x.buf++[(y.cases.getD i (0,0,0)).2.2]).getD 0 0<=4294967295:=by
    rcases lx (l:=x.buf++[(y.cases.getD i (0,0,0)).2.2]) (i:=0) (d:=(0:Int))with h|h
    ·exact hb _ h
    ·rw[h];decide
   rw[cI];dsimp only;omega
  ·intro z hz;rw[List.mem_singleton]at hz;subst hz;exact vB hl _ _ _ _ ae ah ah
theorem Z8(hv:0<=value/\value<=4294967295):Bu c l.length (xK x handle l dir value):=by
 unfold xK;split
 ·exact VN
 ·rename_i h0;have h0:dH x handle l dir=true:=by simpa using h0
  split
  ·rename_i h1;obtain⟨rfl,h2⟩:=h1;exact QF hx hl hv h0 h2
  ·split
   ·exact QG hx hl
   ·exact VN
theorem QH:Bu c l.length (q7 x handle l):=by
 unfold q7;split
 ·exact VN
 ·rename_i h0;have hu:x.used=true:=by
   cases h:x.used with
   |true=>rfl
   |false=>exact absurd (.inl h) h0
  have h1:=cJ.1 hx;refine⟨cJ.2 ⟨h1.1,h1.2.1,h1.2.2.1,.inl hu⟩,(Gk hl _).1,(Gk hl _).2,ly ah,?_⟩;intro z hz;obtain⟨t,_,rfl⟩:=List.mem_map.1 hz;exact vB hl _ _ _ _ (Lu (Ec hl t) _) ah ah
end
theorem rj{h:Hl}{hd:Int}(hf:cC h hd=some i):∃x,h.chans[i]?=some x/\x.used=true/\gD h i=x:=by
 unfold cC at hf;split at hf
 ·cases hf
 ·split at hf
  ·cases hf
  ·rename_i x hx;split at hf
   ·rename_i hu;injection hf with hf
    subst hf;exact⟨x,hx,hu.1,by unfold gD;rw[eR,hx];rfl⟩
   ·cases hf
def mq(c:bH)(p:Hl×Rs):Prop:=oz c p.1/\eJ p.2=true
section
variable{c:bH} {h:Hl}
theorem sK:∀(n i:Nat) (sp:Bool) (j:Nat),ey c.ba h.chans i sp n=.inl j->∃x,h.chans[j]?=some x/\x.used=false/\x.gen<min c.ba 4095
 |0,i,sp,j,e=>by unfold ey at e;cases e
 |n+1,i,sp,j,e=>by
  unfold ey at e
  cases hx:h.chans[i]? with
  |none=>rw[hx]at e;cases e
  |some x =>
   rw[hx]at e;dsimp only at e;split at e
   ·exact sK n _ _ j e
   ·rename_i hu;split at e
    ·exact sK n _ _ j e
    ·rename_i hg;injection e with e
     subst e;exact⟨x,hx,by simpa using hu,ae⟩
theorem Bw(n i:Nat)(sp:Bool)(e:Int)(h0:ey c.ba h.chans i sp n=.inr e):e=7\/e=6:=by
 induction n generalizing i sp with
 |zero=>unfold ey at h0;injection h0 with h0;split at h0<;>omega
 |succ n ih =>
  unfold ey at h0;cases hx:h.chans[i]? with
  |none=>rw[hx]at h0;injection h0 with h0;split at h0<;>omega
  |some x =>
   rw[hx]at h0;dsimp only at h0;split at h0
   ·exact ih _ _ h0
   ·split at h0
    ·exact ih _ _ h0
    ·cases h0
theorem Bx(l:List Cs):0<=eA h l/\eA h l<=255:=by
 unfold eA;split
 ·decide
 ·split
  ·decide
  ·split<;>decide
variable(F:oz c h)
include F
theorem oz.same{r:Rs}(hr:eJ r=true):mq c (h,r):=⟨F,hr⟩
theorem oz.code{e:Int}(he:0<=e/\e<=255):mq c (h,bD e):=⟨F,ly he⟩
theorem oz.Lv(i:Nat){x:Ch}(hx:h.chans[i]?=some x):kZ c x=true:=F.ch x (dO hx)
theorem oz.TD(i:Nat){x:Ch}(hx:kZ c x=true):oz c {h with chans:=h.chans.set i x}:=⟨F.dL,F.kind,F.tick,by show((h.chans.set i x).length:Int)=_;rw[cK];exact F.Py,F.Pz,F.Gi,F.dn,fun y hy=>by rcases mem_set hy with h1|rfl;exact F.ch _ h1;exact hx,F.wt⟩
theorem oz.got(i:Nat){G:vh}(hg:Bu c h.waits.length G):oz c {h with chans:=h.chans.set i G.c,waits:=G.l,done:=gj h.done G.told}:=by
 have ht:=Gl F.dn G.told hg.told;refine⟨F.dL,F.kind,F.tick,?_,?_,?_,ht.1,fun y hy=>?_,hg.wt⟩
 ·show((h.chans.set i G.c).length:Int)=_;rw[cK];exact F.Py
 ·show(G.l.length:Int)=_;rw[hg.len];exact F.Pz
 ·show((gj h.done G.told).length:Int)=_;rw[ht.2];exact F.Gi
 ·rcases mem_set hy with h1|rfl
  ·exact F.ch _ h1
  ·exact hg.ch
theorem Lx(cap:Int):mq c (pZ c h cap):=by
 unfold pZ;split
 ·exact F.code ah
 ·rename_i h0;cases ho:ey c.ba h.chans 0 false h.chans.length with
  |inr e=>rcases Bw _ _ _ _ ho with rfl|rfl<;>exact F.code ah
  |inl i =>
   obtain⟨x,hx,hu,hg⟩:=sK _ _ _ _ ho;have h1:=cJ.1 (F.Lv i hx);have hc:gD h i=x:=by unfold gD;rw[eR,hx];rfl
   dsimp only;rw[hc];have hg1:x.gen<4095:=ae;refine⟨F.TD i (cJ.2 ⟨by dsimp only;omega,by dsimp only;omega,⟨by dsimp only;simp;omega,fun v hv=>by cases hv⟩,.inl rfl⟩),?_⟩;show eJ ⟨0,0,0,lU i (x.gen+1)⟩=true;rw[cI];dsimp only;unfold lU;split<;>omega
theorem Lz(hd:Int):mq c (oJ h hd):=by
 unfold oJ;cases hf:cC h hd with
 |none=>exact F.code ah
 |some i =>
  dsimp only;split
  ·exact F.code ah
  ·obtain⟨x,hx,hu,hc⟩:=rj hf;have h1:=cJ.1 (F.Lv i hx);rw[hc];exact⟨F.TD i (cJ.2 ⟨h1.1,by dsimp only;omega,⟨aF,fun v hv=>by cases hv⟩,.inr ⟨rfl,rfl⟩⟩),nM⟩
theorem QI{which:Nat}{k:Cs}(hk:mL k=true)(hw:which<=15)(hf:(cC h k.2.1).isSome=true):mq c (Bk h which k):=by obtain⟨i,hi⟩:=Option.isSome_iff_exists.1 hf;obtain⟨x,hx,hu,hc⟩:=rj hi;unfold Bk;dsimp only;rw[hi];dsimp only[Option.getD_some];rw[hc];have hg:=Z8 (F.Lv i hx) F.wt (handle:=k.2.1) (dir:=k.1) (value:=k.2.2) (by have:=(mU.1 hk).2.2;omega);refine⟨F.got i hg,?_⟩;have:=cI.1 hg.res;rw[cI];dsimp only;omega
theorem LA(hd:Int):mq c (q8 h hd):=by
 unfold q8;cases hf:cC h hd with
 |none=>exact F.code ah
 |some i=>obtain⟨x,hx,hu,hc⟩:=rj hf;dsimp only;rw[hc];have hg:=QH (F.Lv i hx) F.wt (handle:=hd);refine⟨F.got i hg,ly ?_⟩;have:=cI.1 hg.res;omega
theorem LB(q:Rq):mq c (h,n7 h q):=by
 refine⟨F,?_⟩;unfold n7;cases hf:cC h q.arg with
 |none=>exact ly ah
 |some i =>
  obtain⟨x,hx,hu,hc⟩:=rj hf;have h1:=cJ.1 (F.Lv i hx);have h2:=F.dL;have kg:c.cap<=16:=by unfold aN mM at h2;simp only[dI]at h2;have h3:=h2.2;rw[ai (by rw[F.kind];decide),au F.kind]at h3;simp only[dI,jW]at h3;omega
  dsimp only;rw[hc];split<;>(rw[cI];dsimp only;omega)
theorem Ed(me t n:Int):mq c (gX h me t n):=by
 unfold gX;split
 ·exact F.code ah
 ·rename_i h0;have hs:(h.waits.getD t.toNat gK).seq=n:=by
   by_cases e:(h.waits.getD t.toNat gK).seq=n
   ·exact e
   ·exact absurd (.inr (.inr (.inr (.inr e)))) h0
  have hw:=vz (Ec F.wt t.toNat);rw[hs]at hw;have ht:=Gl F.dn [⟨t.toNat,⟨n,0,11,0⟩⟩] (fun x hx=>by rw[List.mem_singleton]at hx;subst hx;rw[cI];dsimp only;omega);refine⟨⟨F.dL,F.kind,F.tick,F.Py,?_,?_,ht.1,F.ch,zK F.wt _⟩,nM⟩
  ·show((gL h.waits t.toNat).length:Int)=_;rw[Gj];exact F.Pz
  ·show((gj h.done _).length:Int)=_;rw[ht.2];exact F.Gi
theorem Ee{t:Int}{q:Rq}(hs:0<=seq/\seq<=1048575)(hq:bt q=true):mq c (eB h t seq q):=by
 unfold eB;split
 ·exact F.code (Bx _)
 ·rename_i h0;have h0:eA h q.cases=0:=by by_cases e:eA h q.cases=0;exact e;exact absurd e h0
  have hq':=jM.1 hq;have acz:∀k∈q.cases,(cC h k.2.1).isSome=true:=by
   intro k hk;unfold eA at h0;split at h0
   ·cases h0
   ·split at h0
    ·cases h0
    ·split at h0
     ·cases h0
     ·rename_i h3;cases e:cC h k.2.1 with
      |some i=>rfl
      |none=>exact absurd (List.any_eq_true.2 ⟨k,hk,by rw[e];rfl⟩) h3
  have hlen:q.cases.length≠0:=by intro e;unfold eA at h0;rw[au (.inl e)]at h0;cases h0
  cases hr:q.cases.findIdx? (fun k=>dH (gD h ((cC h k.2.1).getD 0)) k.2.1 h.waits k.1)with
  |some i =>
   have hi:=(List.findIdx?_eq_some_iff_getElem.1 hr).1;have hm:q.cases.getD i (0,0,0)∈q.cases:=by rw[eR,cD hi];exact List.getElem_mem hi
   exact QI F (hq'.2.2.2.2 _ hm) ae (acz _ hm)
  |none =>
   dsimp only;split
   ·exact F.code ah
   ·split
    ·exact F.code ah
    ·rename_i ht;cases hp:Bj h.waits t ⟨false,h.ay,seq,q.cases⟩with
     |none=>exact F.code ah
     |some l =>
      unfold Bj at hp;split at hp
      ·cases hp
      ·split at hp
       ·cases hp
       ·split at hp
        ·cases hp
        ·injection hp with hp
         subst hp;have Br:=F.tick;refine⟨⟨F.dL,F.kind,by dsimp only;omega,F.Py,?_,F.Gi,F.dn,F.ch,?_⟩,ly ah⟩
         ·show((h.waits.set _ _).length:Int)=_;rw[cK];exact F.Pz
         ·intro x hx;rcases mem_set hx with h1|rfl
          ·exact F.wt _ h1
          ·rw[mV];rw[ai (fun e=>by cases e)];exact⟨by dsimp only;omega,hs,by dsimp only;omega,hq'.2.2.2.2⟩
theorem Bz{t:Int}{q:Rq}(hs:0<=seq/\seq<=1048575)(hq:bt q=true):mq c (ik c h t seq q):=by
 unfold ik;split
 ·exact Lx F _
 ·split
  ·exact Lz F _
  ·split
   ·exact Ee F hs hq
   ·split
    ·exact LA F _
    ·split
     ·exact LB F _
     ·split
      ·exact Ed F _ _ _
      ·exact F.code ah
theorem sL{t:Int}{q:Rq}(hs:0<=seq/\seq<=1048575)(hq:bt q=true):oz c (iA c h t seq q):=by
 have h1:=Bz F (t:=t) hs hq;unfold iA iA.DV;dsimp only;have h2:=cI.1 h1.2;split
 ·exact⟨h1.1.dL,h1.1.kind,h1.1.tick,h1.1.Py,h1.1.Pz,h1.1.Gi,h1.1.dn,h1.1.ch,h1.1.wt⟩
 ·refine⟨h1.1.dL,h1.1.kind,h1.1.tick,h1.1.Py,h1.1.Pz,by rw[cK];exact h1.1.Gi,?_,h1.1.ch,h1.1.wt⟩;intro r hr;rcases mem_set hr with h3|rfl
  ·exact h1.1.dn _ h3
  ·rw[cI];dsimp only;omega
end
theorem kj(l:List Int)(n:Nat)(h:l.length<=n):(lM l n).length=n:=by unfold lM;simp;omega
theorem Ef{α:Type}(f:α->List Int)(m:Nat):∀(l:List α),(∀x∈l,(f x).length=m)->(l.flatMap f).length=l.length*m
 |[],_=>by simp
 |x::l,h=>by rw[List.flatMap_cons,eN,h x aF,Ef f m l (fun y hy=>h y (by simp[hy])),List.length_cons,Nat.succ_mul];omega
theorem aG{c:bH}(h:aN c=true):(1<=c.threads/\c.threads<=64)/\(1<=c.nodes/\c.nodes<=64)/\(1<=c.aJ/\c.aJ<=32)/\(0<=c.aB/\c.aB<=4)/\(1<=c.tags/\c.tags<=4294967295)/\(1<=c.bn/\c.bn<=1048575)/\(0<=c.cap/\c.cap<=16)/\(0<=c.chans/\c.chans<=8):=by
 unfold aN at h;simp only[dI,jW]at h;obtain⟨⟨⟨⟨⟨⟨h1,h2⟩,h3⟩,h4⟩,h5⟩,h6⟩,h7⟩:=h;refine⟨h1,h2,h3,h4,h5,h6,?_⟩;unfold mM at h7;split at h7
 ·simp only[dI,jW,beq_iff_eq,cU]at h7;omega
 ·split at h7
  ·simp only[dI,jW,cU]at h7;omega
  ·cases h7
theorem vG{c:bH}{h:Hl}(F:oz c h):((oq c h).length:Int)=aZ c:=by
 have hp:=aG F.dL;unfold oq;rw[au (pF.2 F)];have h1:(h.chans.flatMap (mO c)).length=h.chans.length*(1+c.cap.toNat):=Ef _ _ _ (fun x hx=>by
  have:=cJ.1 (F.ch x hx)
  unfold mO
  rw[List.length_cons,kj _ _ ae];omega)
 have h2:(h.waits.flatMap lW).length=h.waits.length*4:=Ef _ _ _ (fun x hx=>by
  have:=lv (F.wt x hx)
  unfold lW
  simp;omega)
 rw[List.length_cons,eN,eN,h1,h2,eK];unfold aZ dm;rw[ai (by rw[F.dL];decide),ai (by rw[F.dL];decide),au F.kind];have e1:=F.Py;have e2:=F.Pz;have e3:=F.Gi;rw[<-e1, <-e2];push_cast;rw[Int.toNat_of_nonneg hp.2.2.2.2.2.2.1.1];rw[<-e2]at e3;omega
theorem vH{c:bH}{x:Cl}(F:mN c x=true):((kD c x).length:Int)=aZ c:=by unfold kD;rw[au F];unfold mN gz lV at F;simp only[dI,beq_iff_eq,bne_iff_ne,cU]at F;obtain⟨⟨⟨⟨hc,hk⟩,h1⟩,h2⟩,h3⟩:=F;have hp:=aG hc;rw[List.length_cons,eN,kj _ _ (by have:=h2.1;omega),eK];unfold aZ dm;rw[ai (by rw[hc];decide),ai (by rw[hc];decide),ai hk];push_cast;rw[Int.toNat_of_nonneg hp.2.2.2.2.2.2.1.1];have:=h3.1;omega
theorem size_pos{c:bH}(h:aN c=true):2<=aZ c:=by have hp:=aG h;have h1:0<=c.chans*(1+c.cap):=gO hp.2.2.2.2.2.2.2.1 ae;unfold aZ dm;rw[ai (by rw[h];decide),ai (by rw[h];decide)];split<;>omega
theorem sM{c:bH}{h:Hl}(hr:oI c l=some h):oz c h:=by
 unfold oI at hr;split at hr
 ·rename_i h0;injection hr with hr
  subst hr;simp only[dI,beq_iff_eq,cU]at h0;obtain⟨⟨⟨hc,hk⟩,hl⟩,he⟩:=h0;by_cases hf:jo c (ve c l)=true
  ·exact pF.1 hf
  ·unfold oq at he;rw[ai hf]at he;rw[<-he]at hl;have:=size_pos hc;simp at hl;omega
 ·cases hr
theorem yE{c:bH}{x:Cl}(hr:ld c l=some x):mN c x=true:=by
 unfold ld at hr;split at hr
 ·rename_i h0;injection hr with hr
  subst hr;simp only[dI,cU]at h0;obtain⟨⟨⟨hc,hk⟩,hl⟩,he⟩:=h0;by_cases hf:mN c (cellsOf c l)=true
  ·exact hf
  ·unfold kD at he;rw[ai hf]at he;rw[<-he]at hl;have:=size_pos hc;simp at hl;omega
 ·cases hr
end Mo
namespace Mo
structure sN (c:bH) (x:Cl):Prop where
 dL:aN c=true
 kind:c.kind≠3
 cap:x.cap=c.cap
 len:(x.list.length:Int)<=c.cap
 val:∀v∈x.list,0<=v/\v<=4294967295
 Gi:(x.done.length:Int)=c.threads
 dn:∀r∈x.done,eJ r=true
theorem kT{c:bH}{x:Cl}:mN c x=true↔sN c x:=by
 unfold mN gz lV;simp only[dI,beq_iff_eq,bne_iff_ne,cU,List.all_eq_true,jW];constructor
 ·rintro⟨⟨⟨⟨a,b⟩,d⟩,e,f⟩,g,i⟩;exact⟨a,b,d,e,f,g,i⟩
 ·rintro⟨a,b,d,e,f,g,i⟩;exact⟨⟨⟨⟨a,b⟩,d⟩,e,f⟩,g,i⟩
theorem QJ{l:List Rs}(h:∀r∈l,eJ r=true)(t:Int){r:Rs}(hr:eJ r=true):(∀y∈gY l t r,eJ y=true)/\(gY l t r).length=l.length:=by
 unfold gY;split
 ·exact⟨h,rfl⟩
 ·refine⟨fun y hy=>?_,cK⟩;rcases mem_set hy with h1|rfl
  ·exact h _ h1
  ·exact hr
section
variable{c:bH} {x:Cl} (F:sN c x)
include F
theorem sN.tell(hl:(l.length:Int)<=c.cap)(hv:∀v∈l,0<=v/\v<=4294967295)(t:Int){r:Rs}(hr:eJ r=true):sN c ⟨x.cap,l,gY x.done t r⟩ :=
 have h:=QJ F.dn t hr
 ⟨F.dL,F.kind,F.cap,hl,hv,by show((gY x.done t r).length:Int)=_;rw[h.2];exact F.Gi,h.1⟩
theorem sN.told(t:Int){r:Rs}(hr:eJ r=true):sN c {x with done:=gY x.done t r}:=F.tell F.len F.val t hr
theorem sN.head:0<=x.list.getD 0 0/\x.list.getD 0 0<=4294967295:=by
 rcases lx (l:=x.list) (i:=0) (d:=(0:Int))with h|h
 ·exact F.val _ h
 ·rw[h];decide
theorem sN.lim:x.list.length<=16/\0<=x.cap/\x.cap<=16:=by have:=aG F.dL;have:=F.len;have:=F.cap;omega
theorem Gm{t:Int}{q:Rq}(hs:0<=seq/\seq<=1048575)(hq:bt q=true):sN c (fR x t seq q):=by
 have hv:=(jM.1 hq).2.2.1;have h0:=F.head;have h1:=F.lim;have kg:=F.cap;have hr:∀{code value:Int},0<=code/\code<=255->0<=value/\value<=4294967295->eJ ⟨seq,0,code,value⟩=true:=fun a b=>by rw[cI];dsimp only;omega
 unfold fR;split
 ·split
  ·exact F.told t (hr ah ah)
  ·refine F.tell ?_ ?_ t (hr ah ah)
   ·rw[eN];simp;omega
   ·exact TE
 ·split
  ·split
   ·exact F.told t (hr ah ah)
   ·refine F.tell ?_ (fun v hm=>F.val v (List.mem_of_mem_drop hm)) t (hr ah h0);have:=F.len;rw[gm];omega
  ·split
   ·exact F.told t (hr ah ae)
   ·split
    ·exact F.told t (hr ah ae)
    ·exact F.told t (hr ah ah)
theorem Gn{t:Int}{q:Rq}(hs:0<=seq/\seq<=1048575)(hq:bt q=true):sN c (lX x t seq q):=by
 have hv:=(jM.1 hq).2.2.1;have h1:=F.lim;have kg:=F.cap;have hl:0<=x.list.getLastD 0/\x.list.getLastD 0<=4294967295:=by
  rw[List.getLastD_eq_getLast?];cases h:x.list.getLast? with
  |none=>decide
  |some v=>exact F.val v (List.mem_of_getLast? h)
 unfold lX;have key:∀(l:List Int) (r:Rs),(l.length:Int)<=c.cap->(∀v∈l,0<=v/\v<=4294967295)->eJ r=true->sN c ⟨x.cap,l,gY x.done t {r with seq:=seq}⟩:=by intro l r a b d;refine F.tell a b t ?_;have:=cI.1 d;rw[cI];dsimp only;omega
 have hc:∀{e:Int},0<=e/\e<=255->eJ (bD e)=true:=ly;have hr:∀{value:Int},0<=value/\value<=4294967295->eJ ⟨0,0,0,value⟩=true:=fun b=>by rw[cI];dsimp only;omega
 unfold iZ;split
 ·refine key _ _ ?_ ?_ nM
  ·rename_i h;rw[eN];simp;omega
  ·exact TE
 ·split
  ·refine key _ _ ?_ (fun v hm=>F.val v (List.dropLast_subset _ hm)) (hr hl);have:=F.len;rw[List.length_dropLast];omega
  ·split
   ·exact key _ _ F.len F.val (hc ah)
   ·split
    ·exact key _ _ F.len F.val (hr ae)
    ·split
     ·exact key _ _ F.len F.val (hr ae)
     ·exact key _ _ F.len F.val (hc ah)
end
theorem Eg{c:bH}{t:Int}{q:Rq}(h:(l.length:Int)=aZ c):((fu c l t seq q).length:Int)=aZ c:=by
 unfold fu;split
 ·exact h
 ·rename_i h0;have hs:0<=seq/\seq<=1048575:=ae;have hq:bt q=true:=by
   cases e:bt q with
   |true=>rfl
   |false=>exact absurd (.inr (.inr (.inr (.inr e)))) h0
  split
  ·cases hr:ld c l with
   |none=>exact h
   |some x =>
    have F:=kT.1 (yE hr);dsimp only;split
    ·exact vH (kT.2 (Gn F hs hq))
    ·exact vH (kT.2 (Gm F hs hq))
  ·cases hr:oI c l with
   |none=>exact h
   |some x=>exact vG (sL (sM hr) hs hq)
theorem vI{c:bH}(ops:List Op)(h:(l.length:Int)=aZ c):((ot c l ops).length:Int)=aZ c:=by
 unfold ot;induction ops generalizing l with
 |nil=>exact h
 |cons o ops ih=>exact ih (Eg h)
theorem vJ{c:bH}(hc:aN c=true)(hk:c.kind=3):oz c (fW c):=by
 have hp:=aG hc;refine⟨hc,hk,⟨bW 0,(by decide:(0:Int)<=4294967295)⟩,?_,?_,?_,?_,?_,?_⟩
 ·unfold fW;simp;omega
 ·unfold fW;simp;omega
 ·unfold fW;simp;omega
 ·intro r hr;unfold fW at hr;rw[(List.mem_replicate.1 hr).2];exact nM
 ·intro x hx;unfold fW at hx;obtain⟨i,_,rfl⟩:=List.mem_map.1 hx;cases hs:c.start[i]? with
  |none=>exact cJ.2 ⟨⟨bW 0,(by decide:(0:Int)<=4095)⟩,⟨bW 0,hp.2.2.2.2.2.2.1.1⟩,⟨bW 0,fun v hv=>by cases hv⟩,.inr ⟨rfl,rfl⟩⟩
  |some k =>
   have hk2:0<=k/\k<=c.cap:=by unfold aN mM at hc;simp only[dI]at hc;have h3:=hc.2;rw[ai (by rw[hk];decide),au hk]at h3;simp only[dI,List.all_eq_true,jW]at h3;exact h3.2 k (dO hs)
   exact cJ.2 ⟨⟨(by decide:(0:Int)<=1),(by decide:(1:Int)<=4095)⟩,hk2,⟨by simpa using hk2.1,fun v hv=>by cases hv⟩,.inl rfl⟩
 ·intro x hx;unfold fW at hx;rw[(List.mem_replicate.1 hx).2];exact zJ
theorem vK{c:bH}(hc:aN c=true)(hk:¬c.kind=3):sN c ⟨c.cap,[],List.replicate c.threads.toNat dC⟩:=by
 have hp:=aG hc;refine⟨hc,hk,rfl,by simpa using hp.2.2.2.2.2.2.1.1,fun v hv=>(by cases hv),?_,?_⟩
 ·show((List.replicate c.threads.toNat dC).length:Int)=_;rw[gf];omega
 ·intro r hr;rw[(List.mem_replicate.1 hr).2];exact nM
theorem Eh{c:bH}(hc:aN c=true):((lg c).length:Int)=aZ c:=by
 unfold lg;rw[ai (by rw[hc];decide)];split
 ·exact vG (vJ hc bE)
 ·exact vH (kT.2 (vK hc bE))
end Mo
namespace Mo
def r9(w:Int):Prop:=0<=w/\w<18446744073709551616
def eH(l:List Int):Prop:=∀w∈l,r9 w
theorem cV{w:Int}(h0:0<=w)(h1:w<=18446744073709551615):r9 w:=⟨h0,ae⟩
theorem eH.nil:eH []:=fun w h=>by cases h
theorem eH.cons{w:Int}(h:r9 w)(k:eH l):eH (w::l):=fun x hx=>by
 rcases List.mem_cons.1 hx with rfl|h1
 ·exact h
 ·exact k x h1
theorem eH.app{m:List Int}(h:eH l)(k:eH m):eH (l++m):=fun x hx=>by
 rcases List.mem_append.1 hx with h1|h1
 ·exact h x h1
 ·exact k x h1
theorem eH.one{w:Int}(h:r9 w):eH [w]:=eH.cons h eH.nil
theorem eH.at_(h:eH l)(a:Int):r9 (ax l a):=by
 unfold ax;split
 ·exact cV ah ah
 ·rcases lx (l:=l) (i:=a.toNat) (d:=(0:Int))with h1|h1
  ·exact h _ h1
  ·rw[h1];exact cV ah ah
theorem eH.bb(h:eH l)(a:Int){w:Int}(hw:r9 w):eH (setAt l a w):=by
 unfold setAt;split
 ·exact h
 ·intro x hx;rcases mem_set hx with h1|rfl
  ·exact h x h1
  ·exact hw
theorem eH.zeros(n:Nat):eH (List.replicate n 0):=fun x hx=>by rw[(List.mem_replicate.1 hx).2];exact cV ah ah
theorem eH.flat(f:α->List Int)(l:List α)(h:∀x∈l,eH (f x)):eH (l.flatMap f):=fun w hw=>by
 obtain⟨x,hx,hw⟩:=List.mem_flatMap.1 hw
 exact h x hx w hw
theorem eH.map(f:α->Int)(l:List α)(h:∀x∈l,r9 (f x)):eH (l.map f):=fun w hw=>by
 obtain⟨x,hx,rfl⟩:=List.mem_map.1 hw
 exact h x hx
theorem rk(r:Rs):r9 (fQ r):=by
 unfold fQ;split
 ·rename_i h;have:=cI.1 h;exact cV ae ae
 ·exact cV ah ah
theorem rp(r:Rf):r9 (bL r):=by
 unfold bL iI;split
 ·rename_i h;have:=of_decide_eq_true h;exact cV ae ae
 ·exact cV ah ah
theorem LC{k:Cs}(h:mL k=true):r9 (oH k):=by have:=mU.1 h;unfold oH;exact cV ae ae
theorem LD{cs:List Cs}(h:∀k∈cs,mL k=true)(n:Nat):eH (cs.map oH++List.replicate n 0):=(eH.map _ _ fun k hk=>LC (h k hk)).app (eH.zeros _)
theorem nN(b:Bool):0<=flag b/\flag b<=1:=by unfold flag;split<;>decide
theorem LG{q:Rq}(hq:bt q=true){ph:Int}(h0:0<=ph)(h1:ph<4294967296):eH (jH q ph)/\(jH q ph).length=5:=by
 have hf:=jM.1 hq;have hp:fits ph 4294967296=true:=by unfold fits;simp;omega
 unfold jH;rw[au (by rw[hq,hp];rfl)];refine⟨eH.cons ?_ ((LD hf.2.2.2.2 _).app (eH.one (cV h0 ae))),by simp;omega⟩;unfold Tv;exact cV (by split<;>omega) (by split<;>omega)
theorem Gp{c:bH}{h:Hl}(F:oz c h):eH (oq c h):=by
 have hp:=aG F.dL;have ht:=F.tick;unfold oq;rw[au (pF.2 F)];refine eH.cons (cV ht.1 ae) ((eH.app (eH.flat _ _ fun x hx=>?_) (eH.flat _ _ fun x hx=>?_)).app (eH.map _ _ fun r _=>rk r))
 ·have h1:=cJ.1 (F.ch x hx);have f1:=nN x.used;have f2:=nN x.closed;unfold mO yu;refine eH.cons (cV ae ae) ?_;unfold lM;refine eH.app (fun w hw=>?_) (eH.zeros _);have:=h1.2.2.1.2 w (List.mem_of_mem_take hw);exact cV this.1 ae
 ·have h1:=F.wt x hx;have h2:=lv h1;have h3:=vz h1;have f1:=nN x.on;have h4:0<=x.ay/\x.ay<=4294967295:=by
   have:=mV.1 h1;split at this<;>omega
  unfold lW;exact eH.cons (cV ae ae) (LD (fun k hk=>Bt h1 hk) _)
theorem zO{c:bH}{x:Cl}(F:sN c x):eH (kD c x):=by have h1:=F.lim;unfold kD;rw[au (kT.2 F)];refine eH.cons (cV ae ae) (eH.app ?_ (eH.map _ _ fun r _=>rk r));unfold lM;refine eH.app (fun w hw=>?_) (eH.zeros _);have:=F.val w (List.mem_of_mem_take hw);exact cV this.1 ae
theorem Il{c:bH}{t:Int}{q:Rq}(h:eH l):eH (fu c l t seq q):=by
 unfold fu;split
 ·exact h
 ·rename_i h0;have hs:0<=seq/\seq<=1048575:=ae;have hq:bt q=true:=by
   cases e:bt q with
   |true=>rfl
   |false=>exact absurd (.inr (.inr (.inr (.inr e)))) h0
  split
  ·cases hr:ld c l with
   |none=>exact h
   |some x =>
    have F:=kT.1 (yE hr);dsimp only;split
    ·exact zO (Gn F hs hq)
    ·exact zO (Gm F hs hq)
  ·cases hr:oI c l with
   |none=>exact h
   |some x=>exact Gp (sL (sM hr) hs hq)
theorem Gq{c:bH}(ops:List Op)(h:eH l):eH (ot c l ops):=by
 unfold ot;induction ops generalizing l with
 |nil=>exact h
 |cons o ops ih=>exact ih (Il h)
theorem lz{w:Int}(h:r9 w):eJ (cS w)=true:=by unfold r9 at h;unfold cS;rw[cI];dsimp only;omega
def ur(s:Rf):Prop:=0<=s.ix/\s.ix<=65534/\0<=s.tag/\s.tag<=4294967295
theorem QK(w:Int):ur (gy w).1:=by
 unfold gy;split
 ·unfold ur;decide
 ·rename_i h;have h1:bL ⟨w%65536-1,w/65536%4294967296⟩=w/\w≠0:=by
   refine⟨?_,fun e=>h (.inr e)⟩;by_cases e:bL ⟨w%65536-1,w/65536%4294967296⟩=w
   ·exact e
   ·exact absurd (.inl e) h
  have h2:iI ⟨w%65536-1,w/65536%4294967296⟩=true:=by
   cases e:iI ⟨w%65536-1,w/65536%4294967296⟩with
   |true=>rfl
   |false=>have:=h1.1;unfold bL at this;rw[e]at this;exact absurd this.symm h1.2
  unfold iI at h2;have:=of_decide_eq_true h2;unfold ur;dsimp only at this ⊢;omega
structure PB (n:Int) (p:Pl):Prop where
 own:ur p.own
 QL:p.own.tag=0->p.own=oK
 free:∀s∈p.free,ur s
 old:∀o∈p.old,ur o.ref/\0<=o.fD/\o.fD<=n
 sp:0<=p.spent
 len:(p.free.length:Int)+p.old.length+p.spent<=n
theorem PB.mono{n m:Int}{p:Pl}(h:PB n p)(hm:n<=m):PB m p:=⟨h.own,h.QL,h.free,fun o ho=>by have:=h.old o ho;exact⟨this.1,this.2.1,ae⟩,h.sp,by have:=h.len;omega⟩
theorem sO:ur oK:=by unfold ur;decide
theorem BA{s:Rf}(h:(ej s tags).2=true):ur (ej s tags).1/\(ej s tags).1.tag≠0:=by
 unfold ej at *;split at h
 ·cases h
 ·split at h
  ·rename_i h1 h2;rw[ai h1,au h2];unfold iI at h2;have:=of_decide_eq_true h2;unfold ur;dsimp only at this ⊢;omega
  ·cases h
theorem Gr(tags:Int):∀(l:List Rf),(∀s∈l,ur s)->ur (dt tags l).1/\((dt tags l).1.tag=0->(dt tags l).1=oK)/\(∀s∈(dt tags l).2.1,ur s)/\(dt tags l).2.1.length+(dt tags l).2.2<=l.length
 |[],_=>⟨sO,fun _=>rfl,fun s h=>(by cases h),aS _⟩
 |s::l,h=>by
  unfold dt
  by_cases e:(ej s tags).2=true
  ·rw[au e];exact⟨(BA e).1,fun h0=>absurd h0 (BA e).2,fun x hx=>h x (by simp[hx]),aF⟩
  ·rw[ai e];have ih:=Gr tags l (fun x hx=>h x (by simp[hx]));exact⟨ih.1,ih.2.1,ih.2.2.1,by have:=ih.2.2.2;simp;omega⟩
theorem QM{n:Int}{p:Pl}(h:PB n p):PB n (jI p tags).1:=by
 unfold jI;split
 ·have ht:=Gr tags p.free h.free;exact⟨ht.1,ht.2.1,ht.2.2.1,h.old,by have:=h.sp;dsimp only;omega,by have:=h.len;have:=ht.2.2.2;dsimp only;omega⟩
 ·exact h
theorem LH{n:Int}{p:Pl}(h:PB n p):PB n (dN p):=⟨sO,fun _=>rfl,h.free,h.old,h.sp,h.len⟩
theorem QN{n:Int}{p:Pl}(h:PB n p){r:Rf}{g:Int}(hr:ur r)(h0:0<=g)(h1:g<=n):PB (n+1) (lh p r g):=by
 refine⟨h.own,h.QL,h.free,fun o ho=>?_,h.sp,?_⟩
 ·rcases List.mem_append.1 ho with h2|h2
  ·have:=h.old o h2;exact⟨this.1,this.2.1,ae⟩
  ·rw[List.mem_singleton]at h2;subst h2;exact⟨hr,h0,by dsimp only;omega⟩
 ·have:=h.len;unfold lh;dsimp only;rw[eN];simp;omega
theorem Io(l:List Od)(f:Od->Bool):((l.filter f).map (·.ref)).length+(l.filter fun o=> !f o).length=l.length:=by
 rw[eK];induction l with
 |nil=>rfl
 |cons o l ih=>cases e:f o<;>simp[e]<;>omega
theorem pG{n:Int}{p:Pl}(h:PB n p)(f:Od->Bool):PB n (j7 p f):=by
 refine⟨h.own,h.QL,fun s hs=>?_,fun o ho=>h.old o ((List.mem_filter.1 ho).1),h.sp,?_⟩
 ·rcases List.mem_append.1 hs with h1|h1
  ·exact h.free s h1
  ·obtain⟨o,ho,rfl⟩:=List.mem_map.1 h1;exact(h.old o ((List.mem_filter.1 ho).1)).1
 ·have:=h.len;have:=Io p.old f;unfold j7;dsimp only;rw[eN];omega
theorem Ip(p:Pl):0<=xL p/\xL p<=255:=by unfold xL;split;decide;split<;>decide
end Mo
namespace Mo
theorem nO(L:List Int)(a w b:Int):ax (setAt L a w) b=ax L b\/(a=b/\ax (setAt L a w) b=w):=by
 unfold setAt;by_cases h0:a<0
 ·rw[au h0];exact .inl rfl
 ·rw[ai h0];unfold ax;by_cases h1:b<0
  ·rw[au h1,au h1];exact .inl rfl
  ·rw[ai h1,ai h1,eR,eR];by_cases h2:a.toNat=b.toNat
   ·by_cases h3:a.toNat<L.length
    ·exact .inr ⟨ae,by rw[<-h2,List.getElem?_set_self h3];rfl⟩
    ·rw[List.set_eq_of_length_le ae];exact .inl rfl
   ·rw[List.getElem?_set_ne h2];exact .inl rfl
theorem BB{L:List Int}{a w n:Int}(h:ax L 1<=n)(ha:a≠1):ax (setAt L a w) 1<=n:=by
 rcases nO L a w 1 with e|e
 ·rw[e];exact h
 ·exact absurd e.1 ha
structure QO (c:bH) (n:Int) (k:Tk):Prop where
 seq:0<=k.seq/\k.seq<=c.bn
 round:0<=k.round/\k.round<=n
 i:0<=k.i/\k.i<=n
 j:0<=k.j/\k.j<=n
 tr:0<=k.cu/\k.cu<=n
 ep:0<=k.il/\k.il<=n
 base:ur k.base
 buf:eH k.buf
 QP:(k.buf.length:Int)<=aZ c
 nxt:eH k.next
 Z9:(k.next.length:Int)<=aZ c
 word:r9 k.word
 args:eH k.args
 LI:k.args.length<=5
 found:(k.found.length:Int)<=n
 seen:eH k.seen
 rr:(k.seen.length:Int)<=n
 res:eJ k.res=true
 az:PB n k.az
def lA(th z n pc i j bl nl al wd:Int):Prop:=(0<=pc/\pc<=38)/\(pc=7->i<z/\bl=i)/\((8<=pc/\pc<=12)\/(25<=pc/\pc<=27)->i<th)/\(8<=pc/\pc<=15->bl=z)/\(13<=pc/\pc<=15->nl=z)/\(13<=pc/\pc<=14->i<z)/\(pc=25\/pc=26->wd<=n)/\(pc=9->al=j/\j<5)/\(pc=17->al=5/\j<5)
structure uu (c:bH) (n:Int) (k:Tk):Prop where
 a:lA c.threads (aZ c) n k.pc k.i k.j k.buf.length k.next.length k.args.length k.word
 aQ:k.pc≠0->bt k.aQ=true
structure RB (c:bH) (n:Int) (r:Rn):Prop where
 k:QO c n r.k
 f:uu c n r.k
 L:eH r.L
 g:ax r.L 1<=n
structure NB (c:bH) (n:Int) (r:Rn):Prop where
 k:QO c n r.k
 aQ:bt r.k.aQ=true
 L:eH r.L
 g:ax r.L 1<=n
theorem QO.mono{c:bH}{n m:Int}{k:Tk}(h:QO c n k)(hm:n<=m):QO c m k :={h with round:=⟨h.round.1,by have:=h.round.2;omega⟩,i:=⟨h.i.1,by have:=h.i.2;omega⟩,j:=⟨h.j.1,by have:=h.j.2;omega⟩,tr:=⟨h.tr.1,by have:=h.tr.2;omega⟩,ep:=⟨h.ep.1,by have:=h.ep.2;omega⟩,found:=by have:=h.found;omega,rr:=by have:=h.rr;omega,az:=h.az.mono hm}
theorem uu.mono{c:bH}{n m:Int}{k:Tk}(h:uu c n k)(hm:n<=m):uu c m k:=⟨by have:=h.a;unfold lA at *;omega,h.aQ⟩
theorem RB.nb{c:bH}{n:Int}{r:Rn}(h:RB c n r)(h0:r.k.pc≠0):NB c n r:=⟨h.k,h.f.aQ h0,h.L,h.g⟩
theorem NB.mono{c:bH}{n m:Int}{r:Rn}(h:NB c n r)(hm:n<=m):NB c m r:=⟨h.k.mono hm,h.aQ,h.L,by have:=h.g;omega⟩
def eb(p:Int):Prop:=(0<=p/\p<=6)\/p=16\/(18<=p/\p<=24)\/(28<=p/\p<=38)
theorem uu.eV{c:bH}{n:Int}{k:Tk}(h:eb k.pc)(hq:k.pc≠0->bt k.aQ=true):uu c n k:=by unfold eb at h;exact⟨by unfold lA;omega,hq⟩
section
variable{c:bH} {t n:Int} {r:Rn}
theorem NB.ru(h:NB c n r){p:Int}(hp:eb p):RB c n (r.pc p):=⟨{h.k with},uu.eV hp fun _=>h.aQ,h.L,h.g⟩
theorem Gs(h:NB c n r):RB c n (Rn.again c r):=by
 unfold Rn.again;split
 ·exact h.ru (by unfold eb;omega)
 ·split
  ·exact h.ru (by unfold eb;omega)
  ·exact h.ru (by unfold eb;omega)
theorem Ei(h:NB c n r):RB c (n+1) (Rn.fail c r):=by unfold Rn.fail;have H:=h.mono (m:=n+1) ae;have h1:=h.k.round;have h2:=h.k.i;exact Gs ⟨{H.k with round:=⟨by dsimp only;omega,by dsimp only;omega⟩,found:=by simp;omega},H.aQ,H.L,H.g⟩
theorem LJ(h:NB c n r)(hc:c.bn<=1048575):RB c n r.refuse:=by unfold Rn.refuse;have:=Ip r.k.az;have:=h.k.seq;exact⟨{h.k with res:=by rw[cI];dsimp only;omega},uu.eV (by unfold eb;dsimp only;omega) fun _=>h.aQ,h.L,h.g⟩
theorem LK(h:NB c n r)(hc:c.bn<=1048575):RB c n (Rn.take c r):=by
 unfold Rn.take;dsimp only;have hp:=QM (tags:=c.tags) h.k.az;split
 ·exact Gs ⟨{h.k with az:=hp},h.aQ,h.L,h.g⟩
 ·split
  ·exact⟨{h.k with az:=hp},uu.eV (by unfold eb;dsimp only;omega) fun _=>h.aQ,h.L,h.g⟩
  ·exact LJ ⟨{h.k with az:=hp},h.aQ,h.L,h.g⟩ hc
theorem sP(h:NB c n r)(hc:c.bn<=1048575):RB c n (Rn.dy c r):=by
 unfold Rn.dy;split
 ·exact LK h hc
 ·exact h.ru (by unfold eb;omega)
theorem LL{c:bH}{n pc:Int}{q:Rq}{p:Pl}{rs:Rs}{b:Bool}(hn:0<=n)(hz:0<=aZ c)(hs:0<=seq/\seq<=c.bn)(hp:PB n p)(hr:eJ rs=true):QO c n (eX pc seq q p rs b):=by unfold eX;exact⟨hs,by dsimp only;omega,by dsimp only;omega,by dsimp only;omega,by dsimp only;omega,by dsimp only;omega,sO,eH.nil,by simpa using hz,eH.nil,by simpa using hz,cV (bW 0) (by decide:(0:Int)<=18446744073709551615),eH.nil,aF,by simpa using hn,eH.nil,by simpa using hn,hr,hp⟩
theorem vL(h:NB c n r)(hn:0<=n)(hz:0<=aZ c):RB c n r.finish:=by unfold Rn.finish;exact⟨LL hn hz h.k.seq h.k.az h.k.res,uu.eV (by unfold eb eX;dsimp only;omega) fun e=>absurd rfl e,h.L,h.g⟩
theorem Gt(h:NB c n r)(hn:0<=n)(hz:0<=aZ c):RB c n (Rn.owned c r):=by
 unfold Rn.owned;split
 ·exact vL h hn hz
 ·split
  ·exact h.ru (by unfold eb;omega)
  ·exact h.ru (by unfold eb;omega)
theorem sQ(h:NB c n r)(hf:(r.k.buf.length:Int)=aZ c)(hi:r.k.i<c.threads)(h1:r.k.i+1<=n)(h0:0<=n):RB c n (Rn.eC c r):=by
 have h2:=h.k.i;unfold Rn.eC;split
 ·exact TF
 ·exact⟨{h.k with i:=⟨by dsimp only;omega,by dsimp only;omega⟩},⟨by unfold lA;dsimp only;omega,fun _=>h.aQ⟩,h.L,h.g⟩
theorem vM(lt:α->α->Bool)(x:α)(l:List α):(iz lt x l).length=l.length+1:=by
 induction l with
 |nil=>rfl
 |cons y l ih=>unfold iz;split<;>simp[ih]
theorem jb(lt:α->α->Bool)(l:List α):(dF lt l).length=l.length:=by
 unfold dF;rw[List.length_reverse];have:∀(l acc:List α),(l.foldl (fun acc x=>iz lt x acc) acc).length=acc.length+l.length:=by
  intro l;induction l with
  |nil=>intro acc;rfl
  |cons x l ih=>intro acc;rw[List.foldl_cons,ih,vM,List.length_cons];omega
 rw[this];simp
theorem vN(h:NB c n r)(hf:(r.k.buf.length:Int)=aZ c)(hi:r.k.i<c.threads)(h1:r.k.i+1<=n)(h0:0<=n)(hz:1<=aZ c)(hfn:(r.k.found.length:Int)+1<=n):RB c n (Rn.cL c t r):=by
 have h2:=h.k.i;unfold Rn.cL;dsimp only;split
 ·exact TF
 ·have hl:=vI (c:=c) (jq r.k.found++(if r.k.slow=true then[]else[⟨t,r.k.seq,0,r.k.aQ⟩])) hf;refine⟨{h.k with i:=⟨by dsimp only;omega,by dsimp only;omega⟩,tr:=⟨by dsimp only;omega,by dsimp only;omega⟩,nxt:=Gq _ h.k.buf,Z9:=by dsimp only;omega,found:=?_},⟨by unfold lA;dsimp only;omega,fun _=>h.aQ⟩,h.L,h.g⟩;dsimp only;rw[eN];unfold jq;rw[jb];split<;>simp<;>omega
theorem vP(c:bH)(h:eH l)(i:Int):eJ (fS c l i)=true:=by
 unfold fS j6;split
 ·exact lz (cV ah ah)
 ·exact lz (h.at_ _)
theorem rv(c:bH)(h:eH l)(i:Int):r9 (j6 c l i):=by
 unfold j6;split
 ·exact cV ah ah
 ·exact h.at_ _
end
end Mo
namespace Mo
structure CB (c:bH) (t:Int):Prop where
 dL:aN c=true
 t0:0<=t
 t1:t<c.threads
section
variable{c:bH} {t n:Int} {r r':Rn}
theorem CB.bn(C:CB c t):c.bn<=1048575:=(aG C.dL).2.2.2.2.2.1.2
theorem CB.th(C:CB c t):1<=c.threads/\c.threads<=64:=(aG C.dL).1
theorem CB.size(C:CB c t):2<=aZ c:=size_pos C.dL
theorem NB.store(h:NB c n r){a w:Int}(ha:a≠1)(hw:r9 w):NB c n (r.store a w):=⟨h.k,h.aQ,h.L.bb a hw,BB h.g ha⟩
theorem QQ(C:CB c t){i:Int}(hi:0<=i):12<=bA c i:=by have h1:=C.th;have h2:=C.size;have:0<=i*(1+aZ c):=gO hi ae;unfold bA;omega
theorem yF{g:Int}(h0:0<=g)(h1:g<=100000000):r9 (iw g):=by unfold iw;exact cV ae ae
theorem QR(C:CB c t)(h:RB c n r)(hn:0<=n)(Gu:n<=100000000)(h1:1<=r.k.pc)(h5:r.k.pc<=5):RB c (n+1) (Rn.enter c t r):=by
 have N:=h.nb ae;have M:=N.mono (m:=n+1) ae;have ji:=C.th;have r8:=C.t0;unfold Rn.enter;split
 ·exact TG
 ·split
  ·have he:=N.k.ep;exact LK (M.store (by unfold ou;omega) (yF he.1 ae)) C.bn
  ·split
   ·exact TH
   ·split
    ·exact(M.store (by unfold gZ;omega) (rp _)).ru (by unfold eb;omega)
    ·split
     ·split
      ·exact Ei N
      ·exact M.ru (by unfold eb;omega)
     ·omega
theorem LM(C:CB c t)(h:RB c n r)(hn:0<=n)(h1:6<=r.k.pc)(h5:r.k.pc<=7):RB c (n+1) (Rn.eD c t r):=by
 have N:=h.nb (by omega);have M:=N.mono (m:=n+1) (by omega);have hz:=C.size;have ji:=C.th;have hA:=h.f.a;unfold lA at hA;unfold Rn.eD;split
 ·split
  ·exact Ei N
  ·exact⟨{M.k with i:=⟨bW 0,by dsimp only;omega⟩,buf:=eH.nil,QP:=by simp;omega},⟨by unfold lA;dsimp only;simp;omega,fun _=>M.aQ⟩,M.L,M.g⟩
 ·have hi':=h.k.i;have hbl:((r.k.buf++[ax r.L (bA c r.k.base.ix+1+r.k.i)]).length:Int)=r.k.buf.length+1:=by rw[eN];simp
  have VP:eH (r.k.buf++[ax r.L (bA c r.k.base.ix+1+r.k.i)]):=N.k.buf.app (eH.one (h.L.at_ _));have hf:=N.k.found;dsimp only;generalize r.k.buf++[ax r.L (bA c r.k.base.ix+1+r.k.i)]=b at *;split
  ·exact⟨{M.k with i:=⟨by dsimp only;omega,by dsimp only;omega⟩,buf:=VP,QP:=by dsimp only;omega},⟨by unfold lA;dsimp only;omega,fun _=>M.aQ⟩,M.L,M.g⟩
  ·have hk:QO c (n+1) {r.k with buf:=b,i:=0,found:=[],pc:=8}:={M.k with i:=⟨bW 0,by dsimp only;omega⟩,buf:=VP,QP:=by dsimp only;omega,found:=by simp;omega}
   split
   ·exact⟨{hk with res:=vP c VP t},uu.eV (by unfold eb;dsimp only;omega) fun _=>M.aQ,M.L,M.g⟩
   ·exact⟨hk,⟨by unfold lA;dsimp only;omega,fun _=>M.aQ⟩,M.L,M.g⟩
theorem LN(C:CB c t)(h:RB c n r)(hn:0<=n)(h1:8<=r.k.pc)(h5:r.k.pc<=10):RB c (n+1) (Rn.eE c r):=by
 have N:=h.nb ae;have M:=N.mono (m:=n+1) ae;have hz:=C.size;have ji:=C.th;have hA:=h.f.a;unfold lA at hA;have hi':=h.k.i;have yG:(r.k.buf.length:Int)=aZ c:=ae;have hi:r.k.i<c.threads:=ae;have QS:=h.k.found;unfold Rn.eE;split
 ·dsimp only;split
  ·exact sQ (r:={r with k:={r.k with word:=ax r.L (lN c r.k.i)}}) ⟨{M.k with word:=h.L.at_ _},M.aQ,M.L,M.g⟩ yG hi (by dsimp only;omega) ae
  ·exact⟨{M.k with word:=h.L.at_ _,j:=⟨bW 0,by dsimp only;omega⟩,args:=eH.nil,LI:=by simp},⟨by unfold lA;dsimp only;simp;omega,fun _=>M.aQ⟩,M.L,M.g⟩
 ·split
  ·have hj:=h.k.j;have LP:((r.k.args++[ax r.L (iK c r.k.i+r.k.j)]).length:Int)=r.k.args.length+1:=by rw[eN];simp
   have acA:eH (r.k.args++[ax r.L (iK c r.k.i+r.k.j)]):=N.k.args.app (eH.one (h.L.at_ _));dsimp only;generalize r.k.args++[ax r.L (iK c r.k.i+r.k.j)]=b at *;refine⟨{M.k with args:=acA,LI:=by dsimp only;omega,j:=⟨by dsimp only;omega,by dsimp only;omega⟩},⟨?_,fun _=>M.aQ⟩,M.L,M.g⟩;unfold lA;dsimp only;split<;>omega
  ·split
   ·dsimp only;split
    ·exact sQ (r:={r with k:={r.k with found:=r.k.found++[⟨r.k.i,r.k.word,(iJ r.k.args).2.1,(iJ r.k.args).1⟩]}}) ⟨{M.k with found:=by dsimp only;rw[eN];simp;omega},M.aQ,M.L,M.g⟩ yG hi (by dsimp only;omega) ae
    ·exact sQ M yG hi ae ae
   ·omega
theorem Iq(C:CB c t)(h:RB c n r)(hn:0<=n)(h1:11<=r.k.pc)(h5:r.k.pc<=12):RB c (n+1) (Rn.eF c t r):=by
 have N:=h.nb ae;have M:=N.mono (m:=n+1) ae;have hz:=C.size;have ji:=C.th;have hA:=h.f.a;unfold lA at hA;have hi':=h.k.i;have yG:(r.k.buf.length:Int)=aZ c:=ae;have hi:r.k.i<c.threads:=ae;have QS:=h.k.found;have htr:=h.k.tr;unfold Rn.eF;dsimp only;split
 ·split
  ·exact vN (r:={r with k:={r.k with word:=ax r.L (cn c r.k.i)}}) ⟨{M.k with word:=h.L.at_ _},M.aQ,M.L,M.g⟩ yG hi (by dsimp only;omega) ae ae (by dsimp only;omega)
  ·exact⟨{M.k with word:=h.L.at_ _},⟨by unfold lA Rn.pc;dsimp only;omega,fun _=>M.aQ⟩,M.L,M.g⟩
 ·have hs:∀(r1:Rn),r1=(if ax r.L (cn c r.k.i)=r.k.word then r.store (cn c r.k.i) (j6 c r.k.buf r.k.i)else r)->NB c (n+1) {r1 with k:={r.k with cu:=r.k.cu+1}}:=by
   rintro r1 rfl;split
   ·exact⟨{M.k with tr:=⟨by dsimp only;omega,by dsimp only;omega⟩},M.aQ,M.L.bb _ (rv c N.k.buf _),BB M.g (by unfold cn;omega)⟩
   ·exact⟨{M.k with tr:=⟨by dsimp only;omega,by dsimp only;omega⟩},M.aQ,M.L,M.g⟩
  have hs:=hs _ rfl
  split
  ·exact vN hs yG hi (by dsimp only;omega) ae ae (by dsimp only;omega)
  ·exact⟨{hs.k with},⟨by unfold lA Rn.pc;dsimp only;omega,fun _=>M.aQ⟩,hs.L,hs.g⟩
theorem LQ(C:CB c t)(h:RB c n r)(h1:13<=r.k.pc)(h5:r.k.pc<=15):RB c (n+1) (Rn.writes c t r):=by
 have N:=h.nb ae;have M:=N.mono (m:=n+1) ae;have hz:=C.size;have ji:=C.th;have hA:=h.f.a;unfold lA at hA;have hi':=h.k.i;have hown:=h.k.az.own;have adG:=QQ C (i:=r.k.az.own.ix) hown.1;unfold ur at hown;unfold Rn.writes;dsimp only;split
 ·have hs:NB c (n+1) (r.store (bA c r.k.az.own.ix) r.k.az.own.tag):=M.store ae (cV ae ae);exact⟨{hs.k with},⟨by unfold lA Rn.pc Rn.store;dsimp only;omega,fun _=>M.aQ⟩,hs.L,hs.g⟩
 ·split
  ·have hs:NB c (n+1) {r.store (bA c r.k.az.own.ix+1+r.k.i) (ax r.k.next r.k.i)with k:={r.k with i:=r.k.i+1}} :=
    ⟨{M.k with i:=⟨by dsimp only;omega,by dsimp only;omega⟩},M.aQ,M.L.bb _ (N.k.nxt.at_ _),BB M.g ae⟩
   split
   ·exact⟨{hs.k with},⟨by unfold lA Rn.pc Rn.store;dsimp only;omega,fun _=>M.aQ⟩,hs.L,hs.g⟩
   ·exact⟨hs.k,⟨by unfold lA Rn.store;dsimp only;omega,fun _=>M.aQ⟩,hs.L,hs.g⟩
  ·split
   ·split
    ·exact Ei N
    ·exact⟨{M.k with res:=vP c N.k.nxt t,az:=LH M.k.az},uu.eV (by unfold eb;dsimp only;omega) fun _=>M.aQ,M.L.bb 0 (rp r.k.az.own),BB (a:=0) M.g ae⟩
   ·omega
theorem Ej(C:CB c t)(h:RB c n r)(hn:0<=n)(h1:16<=r.k.pc)(h5:r.k.pc<=19):RB c (n+1) (Rn.bT c t r):=by
 have N:=h.nb ae;have M:=N.mono (m:=n+1) ae;have hz:=C.size;have ji:=C.th;have r8:=C.t0;have Gv:=C.bn;have hA:=h.f.a;unfold lA at hA;have hi':=h.k.i;have hj:=h.k.j;unfold Rn.bT;dsimp only;split
 ·have hw:=h.L.at_ 2;unfold r9 at hw;have hcw:=LG N.aQ (ph:=ax r.L 2%4294967296) ae ae;have hs:=M.store (a:=2) (w:=(ax r.L 2+1)%18446744073709551616) ae (cV ae ae);refine⟨{M.k with args:=hcw.1,LI:=by dsimp only;omega,j:=⟨bW 0,by dsimp only;omega⟩},⟨by unfold lA Rn.store;dsimp only;omega,fun _=>M.aQ⟩,hs.L,hs.g⟩
 ·split
  ·refine⟨{M.k with j:=⟨by dsimp only;omega,by dsimp only;omega⟩},⟨?_,fun _=>M.aQ⟩,M.L.bb _ (N.k.args.at_ _),BB M.g (by unfold iK;omega)⟩;unfold lA Rn.store;dsimp only;split<;>omega
  ·split
   ·have hs:=h.k.seq;exact⟨{M.k with round:=⟨(by decide:(0:Int)<=1),by dsimp only;omega⟩},uu.eV (by unfold eb;dsimp only;omega) fun _=>M.aQ,M.L.bb _ (cV ae ae),BB M.g (by unfold lN;omega)⟩
   ·split
    ·exact⟨{M.k with res:=lz (h.L.at_ _)},uu.eV (by unfold eb;dsimp only;omega) fun _=>M.aQ,M.L,M.g⟩
    ·omega
theorem VQ(C:CB c t)(h:RB c n r)(hn:0<=n)(h1:20<=r.k.pc)(h5:r.k.pc<=23):RB c (n+1) (Rn.ends c t r):=by
 have N:=h.nb ae;have M:=N.mono (m:=n+1) ae;have hz:=C.size;have ji:=C.th;have r8:=C.t0;have htr:=h.k.tr;unfold Rn.ends;dsimp only;split
 ·refine⟨{M.k with tr:=⟨bW 0,by dsimp only;omega⟩},uu.eV ?_ fun _=>M.aQ,M.L.bb _ (cV (bW 0) (by decide:(0:Int)<=18446744073709551615)),BB M.g (by unfold gZ;omega)⟩;unfold eb;dsimp only;split<;>omega
 ·split
  ·have hg:=h.g;have hw:=h.L.at_ 1;unfold r9 at hw;exact⟨{M.k with az:=QN h.k.az h.k.base hw.1 hg},uu.eV (by unfold eb;dsimp only;omega) fun _=>M.aQ,M.L,M.g⟩
  ·split
   ·split
    ·exact Gt (r:={r with k:={r.k with word:=ax r.L (cn c t)}}) ⟨{M.k with word:=h.L.at_ _},M.aQ,M.L,M.g⟩ ae ae
    ·exact⟨{M.k with word:=h.L.at_ _},uu.eV (by unfold eb Rn.pc;dsimp only;omega) fun _=>M.aQ,M.L,M.g⟩
   ·split
    ·have hs:∀(r1:Rn),r1=(if ax r.L (cn c t)=r.k.word then r.store (cn c t) (fQ r.k.res)else r)->NB c (n+1) {r1 with k:={r.k with cu:=r.k.cu+1,pc:=22}}:=by
      rintro r1 rfl;split
      ·exact⟨{M.k with tr:=⟨by dsimp only;omega,by dsimp only;omega⟩},M.aQ,M.L.bb _ (rk _),BB M.g (by unfold cn;omega)⟩
      ·exact⟨{M.k with tr:=⟨by dsimp only;omega,by dsimp only;omega⟩},M.aQ,M.L,M.g⟩
     have hs:=hs _ rfl
     split
     ·exact Gt hs ae ae
     ·exact⟨hs.k,uu.eV (by unfold eb;dsimp only;omega) fun _=>M.aQ,hs.L,hs.g⟩
    ·omega
theorem Ir(C:CB c t)(h:RB c n r)(hn:0<=n)(Gu:n<=100000000)(h1:24<=r.k.pc)(h5:r.k.pc<=27):RB c (n+1) (Rn.cH c t r):=by
 have N:=h.nb (by omega);have M:=N.mono (m:=n+1) (by omega);have hz:=C.size;have ji:=C.th;have r8:=C.t0;have hA:=h.f.a;unfold lA at hA;have hi':=h.k.i;unfold Rn.cH;dsimp only;split
 ·have hg:=h.g;have hk:QO c (n+1) {r.k with word:=ax r.L 1,az:=fA r.k.az (ax r.L 1),i:=0,all:=true,pc:=25}:={M.k with word:=h.L.at_ 1,az:=pG M.k.az _,i:=⟨bW 0,by dsimp only;omega⟩}
  split
  ·exact sP (r:={r with k:={r.k with word:=ax r.L 1,az:=fA r.k.az (ax r.L 1),i:=0,all:=true,pc:=25}}) ⟨hk,M.aQ,M.L,M.g⟩ C.bn
  ·exact⟨hk,⟨by unfold lA;dsimp only;omega,fun _=>M.aQ⟩,M.L,M.g⟩
 ·split
  ·split
   ·exact⟨{M.k with i:=⟨by dsimp only;omega,by dsimp only;omega⟩},⟨by unfold lA;dsimp only;omega,fun _=>M.aQ⟩,M.L,M.g⟩
   ·refine⟨{M.k with i:=⟨bW 0,by dsimp only;omega⟩,seen:=eH.nil,rr:=by simp;omega},⟨?_,fun _=>M.aQ⟩,M.L,M.g⟩;unfold lA;dsimp only;split<;>omega
  ·split
   ·have hw:=h.k.word;unfold r9 at hw;have hs:∀(r1:Rn),r1=(if ax r.L 1=r.k.word then{r.store 1 (r.k.word+1)with k:={r.k with az:=fA r.k.az (r.k.word+1)}}else r)->NB c (n+1) r1/\r1.k.i=r.k.i:=by
     rintro r1 rfl;split
     ·refine⟨⟨{M.k with az:=pG M.k.az _},M.aQ,eH.bb (w:=r.k.word+1) M.L 1 (cV (by omega) (by omega)),?_⟩,rfl⟩;rcases nO r.L 1 (r.k.word+1) 1 with e|e
      ·show ax (setAt r.L 1 (r.k.word+1)) 1<=_;rw[e];exact M.g
      ·show ax (setAt r.L 1 (r.k.word+1)) 1<=_;rw[e.2];omega
     ·exact⟨M,rfl⟩
    generalize(if ax r.L 1=r.k.word then{r.store 1 (r.k.word+1)with k:={r.k with az:=fA r.k.az (r.k.word+1)}}else r)=r1 at *;obtain⟨hs,hi⟩:=hs _ rfl;have h2:NB c (n+1) (r1.pc 27):=⟨{hs.k with},hs.aQ,hs.L,hs.g⟩
    split
    ·exact sP h2 C.bn
    ·exact⟨h2.k,⟨by unfold lA Rn.pc;dsimp only;omega,fun _=>hs.aQ⟩,hs.L,hs.g⟩
   ·split
    ·have PA:((r.k.seen++[ax r.L (gZ c r.k.i)]).length:Int)=r.k.seen.length+1:=by rw[eN];simp
     have aaa:eH (r.k.seen++[ax r.L (gZ c r.k.i)]):=N.k.seen.app (eH.one (h.L.at_ _));have hsn:=h.k.rr;generalize r.k.seen++[ax r.L (gZ c r.k.i)]=s at *;split
     ·exact sP (r:={r with k:={r.k with seen:=s,i:=r.k.i+1,az:=nH r.k.az s}}) ⟨{M.k with i:=⟨by dsimp only;omega,by dsimp only;omega⟩,seen:=aaa,rr:=by dsimp only;omega,az:=pG M.k.az _},M.aQ,M.L,M.g⟩ C.bn
     ·exact⟨{M.k with i:=⟨by dsimp only;omega,by dsimp only;omega⟩,seen:=aaa,rr:=by dsimp only;omega},⟨by unfold lA;dsimp only;omega,fun _=>M.aQ⟩,M.L,M.g⟩
    ·omega
theorem QT(C:CB c t)(h:RB c n r)(hn:0<=n)(h1:r.k.pc=28):RB c (n+1) (Rn.leave c t r):=by
 have N:=h.nb ae;have M:=N.mono (m:=n+1) ae;have hz:=C.size;have ji:=C.th;have r8:=C.t0;have hs:=M.store (a:=ou c t) (w:=0) (by unfold ou;omega) (cV ah ah);unfold Rn.leave;dsimp only;split
 ·exact vL hs ae ae
 ·refine⟨LL ae ae M.k.seq M.k.az M.k.res,uu.eV ?_ fun _=>M.aQ,hs.L,hs.g⟩;unfold eb eX;dsimp only;omega
theorem uv{p:Prop}[Decidable p]{x y:Rn}(h1:p->RB c n x)(h2:¬p->RB c n y):RB c n (if p then x else y):=by
 by_cases h:p
 ·rw[au h];exact h1 h
 ·rw[ai h];exact h2 h
theorem QU(C:CB c t)(h:RB c n r)(hn:0<=n)(Gu:n<=100000000)(h1:29<=r.k.pc):RB c (n+1) (Rn.waits c t r):=by
 have N:=h.nb ae;have M:=N.mono (m:=n+1) ae;have hz:=C.size;have ji:=C.th;have r8:=C.t0;have hA:=h.f.a;unfold lA at hA;have he:=N.k.ep;unfold Rn.waits;dsimp only;refine uv (fun e=>?_) (fun e=>?_)
 ·refine uv (fun e=>?_) (fun e=>?_)
  ·exact vL (r:={r with k:={r.k with res:=cS (ax r.L (cn c t)),pc:=30}}) ⟨{M.k with res:=lz (h.L.at_ _)},M.aQ,M.L,M.g⟩ ae ae
  ·exact M.ru (by unfold eb;omega)
 ·refine uv (fun e=>?_) (fun e=>?_)
  ·exact TG
  ·refine uv (fun e=>?_) (fun e=>?_)
   ·exact(M.store (by unfold ou;omega) (yF he.1 ae)).ru (by unfold eb;omega)
   ·refine uv (fun e=>?_) (fun e=>?_)
    ·exact TH
    ·refine uv (fun e=>?_) (fun e=>?_)
     ·exact(M.store (by unfold gZ;omega) (rp _)).ru (by unfold eb;omega)
     ·refine uv (fun e=>?_) (fun e=>?_)
      ·refine⟨{M.k with word:=cV (bW 0) (by decide:(0:Int)<=18446744073709551615)},uu.eV ?_ fun _=>M.aQ,M.L,M.g⟩;unfold eb;dsimp only;split<;>omega
      ·refine uv (fun e=>?_) (fun e=>?_)
       ·exact M.ru (by unfold eb;split<;>omega)
       ·refine uv (fun e=>?_) (fun e=>?_)
        ·exact⟨{M.k with word:=h.L.at_ _},uu.eV (by unfold eb;dsimp only;omega) fun _=>M.aQ,M.L,M.g⟩
        ·refine uv (fun e=>?_) (fun e=>?_)
         ·exact(M.store (a:=gZ c t) (w:=0) (by unfold gZ;omega) (cV ah ah)).ru (by unfold eb;omega)
         ·refine uv (fun e=>?_) (fun e=>?_)
          ·have hs:=M.store (a:=ou c t) (w:=0) (by unfold ou;omega) (cV ah ah);refine uv (fun e=>?_) (fun e=>?_)
           ·exact⟨{hs.k with res:=lz N.k.word,tr:=⟨bW 0,by dsimp only;omega⟩},uu.eV (by unfold eb;dsimp only;omega) fun _=>M.aQ,hs.L,hs.g⟩
           ·exact hs.ru (by unfold eb;omega)
          ·omega
theorem VR(C:CB c t)(h:RB c n r)(hn:0<=n)(Gu:n<=100000000):RB c (n+1) (dY c t r):=by
 have hA:=h.f.a;unfold lA at hA;unfold dY;split
 ·exact⟨h.k.mono ae,h.f.mono ae,h.L,by have:=h.g;omega⟩
 ·split
  ·exact QR C h hn Gu ae ae
  ·split
   ·exact LM C h hn ae ae
   ·split
    ·exact LN C h hn ae ae
    ·split
     ·exact Iq C h hn ae ae
     ·split
      ·exact LQ C h ae ae
      ·split
       ·exact Ej C h hn ae ae
       ·split
        ·exact VQ C h hn ae ae
        ·split
         ·exact Ir C h hn Gu ae ae
         ·split
          ·exact QT C h hn ae
          ·exact QU C h hn Gu ae
end
end Mo
end Go.Proofs.YtjcjjiieblineaaGreat
