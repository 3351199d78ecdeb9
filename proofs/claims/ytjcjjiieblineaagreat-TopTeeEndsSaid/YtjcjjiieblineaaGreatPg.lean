/- Walks and plain facts. No condition. -/
import Derived.Test.YtjcjjiieblineaaGreatPc
namespace Go.Proofs.YtjcjjiieblineaaGreat
open Go.Proofs.Tryz Mo
set_option maxHeartbeats 8000000
set_option maxRecDepth 100000
set_option linter.all false
variable {α:Type}{t kd:Nat}{l hs:List Int}{N:Int}{k':Tk}{r1:Rn}{x':Mc}
namespace Mo
inductive Tr|lf (x:Int)|nd (l r:Tr)
def wP:Tr->Nat->Int
 |.lf x,_=>x
 |.nd l r,n=>if n%2=0 then wP l (n/2)else wP r (n/2)
def rG:Tr->Nat->Int->Tr
 |.lf _,_,w=>.lf w
 |.nd l r,n,w=>if n%2=0 then .nd (rG l (n/2) w) r else .nd l (rG r (n/2) w)
def kinds(c:bA):List Nat:=0::((List.replicate c.chans.toNat (0::List.replicate c.cap.toNat 1)).flatten++((List.replicate c.threads.toNat [0,2,2,2]).flatten++List.replicate c.threads.toNat 3))
def od(c:bA)(i:Nat):Nat:=(kinds c).getD i 0
def Jv(i:Nat):Nat:=if i=0\/3<i then 0 else 2
def kdM(c:bA)(a:Nat):Nat :=
 let b:=c.threads.toNat
 if a<3+b then 0 else if a<3+b*6 then Jv ((a-3-b)%5)else if a<3+b*8 then 0 else if a<3+b*9 then 3
 else let r:=(a-3-b*9)%(1+(kinds c).length);if r=0 then 0 else od c (r-1)
section
variable(c:bA) (t:Int)
abbrev Et:=Option (Rn×Tr)
def rdE(T:Tr)(b:Nat)(a:Int):Option Int:=if 0<=a/\a<bB c/\kdM c a.toNat=b then some (wP T a.toNat)else none
def wrE(T:Tr)(b:Nat)(a w:Int):Option Tr:=if 0<=a/\a<bB c/\kdM c a.toNat=b then some (rG T a.toNat w)else none
def rk(T:Tr)(b:Nat)(a:Int)(f:Int->Et):Et:=match rdE c T b a with|none=>none|some v=>f v
def wk(T:Tr)(b:Nat)(a w:Int)(r:Rn):Et:=match wrE c T b a w with|none=>none|some T1=>some (r,T1)
def gd(b:Bool)(e:Et):Et:=if b=true then e else none
def Xa(i:Int):Bool:=decide (0<=i) && od c (eX c+i).toNat==3
def Gk(l:List Int):List Op->Option (List Int)
 |[]=>if(j9 c l).isSome=true then some l else none
 |o::os=>if((j9 c l).isSome && bk o.aN && (o.aN.kind==3 || o.aN.kind==4))=true then Gk (eR c l o.th o.seq o.aN) os else none
def DB(r:Rn)(T:Tr):Et :=
 if r.k.i+1<c.threads then some ({r with k:={r.k with i:=r.k.i+1,bS:=0,pc:=11}},T)
 else
  let a:=il r.k.found++(if r.k.ke=true then[]else[⟨t,r.k.seq,0,r.k.aN⟩])
  match Gk c r.k.buf a with
  |none=>none
  |some l=>some ({r with k:={r.k with bS:=0,found:=a,next:=l,i:=0,pc:=13}},T)
def apart(v w:Int):Bool:=decide (v=w) || decide (v/4294967296≠w/4294967296)
def Gl(r:Rn)(T:Tr):Et :=
 let k:=r.k
 if k.pc=1 then rk c T 0 1 fun v=>some ({r with k:={k with fW:=v,pc:=2}},T)
 else if k.pc=2 then wk c T 0 (nL c t) (ig k.fW) (Rn.take c r)
 else if k.pc=3 then rk c T 0 0 fun v=>some ({r with k:={k with base:=(g9 v).1,pc:=4}},T)
 else if k.pc=4 then wk c T 0 (iq c t) (bF k.base) (r.pc 5)
 else rk c T 0 0 fun v=>some (if v≠bF k.base then Rn.fail c r else r.pc 6,T)
def BV(r:Rn)(T:Tr):Et :=
 let k:=r.k
 if k.pc=6 then rk c T 0 (bu c k.base.ix) fun v=>some (if v≠k.base.tag then Rn.fail c r else{r with k:={k with i:=0,buf:=[],pc:=7}},T)
 else rk c T (od c k.buf.length) (bu c k.base.ix+1+k.i) fun v=>gd (Xa c t)
  (let b:=k.buf++[v]
  if k.i+1<bn c then some ({r with k:={k with buf:=b,i:=k.i+1}},T)
  else
   let r1:Rn:={r with k:={k with buf:=b,i:=0,found:=[],pc:=8}}
   some (if k.ke=true/\(eT c b t).seq=k.seq then{r1 with k:={r1.k with res:=eT c b t,pc:=20}}else r1,T))
def BW(r:Rn)(T:Tr):Et :=
 let k:=r.k
 if k.pc=8 then rk c T 0 (lJ c k.i) fun v=>gd (Xa c k.i)
  (let r1:Rn:={r with k:={k with word:=v}}
  some (if 1048575<v\/v<=(eT c k.buf k.i).seq then Rn.ee c r1 else{r1 with k:={r1.k with j:=0,args:=[],pc:=9}},T))
 else if k.pc=9 then rk c T (Jv k.args.length) (iY c k.i+k.j) fun v=>some ({r with k:={k with args:=k.args++[v],j:=k.j+1,pc:=if k.j+1=5 then 10 else 9}},T)
 else rk c T 0 (lJ c k.i) fun v=>gd ((eC k.args).2.2)
  (some (Rn.ee c (if v=k.word then{r with k:={k with found:=k.found++[⟨k.i,k.word,(eC k.args).2.1,(eC k.args).1⟩]}}else r),T))
def yj(r:Rn)(T:Tr):Et :=
 let k:=r.k
 if k.pc=11 then rk c T 3 (bZ c k.i) fun v=>gd (Xa c k.i)
  (let r1:Rn:={r with k:={k with word:=v}}
  if behind v (jq c k.buf k.i)=false then DB c t r1 T else some (r1.pc 12,T))
 else rk c T 3 (bZ c k.i) fun v=>gd (Xa c k.i && apart v k.word)
  (let r1:Rn:={r with k:={k with bS:=k.bS+1}}
  if v=k.word then(match wrE c T 3 (bZ c k.i) (jq c k.buf k.i)with|none=>none|some T1=>DB c t r1 T1)
  else if k.bS+1=2 then DB c t r1 T else some (r1.pc 11,T))
def BX(r:Rn)(T:Tr):Et :=
 let k:=r.k
 if k.pc=13 then wk c T 0 (bu c k.aA.own.ix) k.aA.own.tag (r.pc 14)
 else if k.pc=14 then gd (decide (0<=k.i)) (wk c T (od c k.i.toNat) (bu c k.aA.own.ix+1+k.i) (ay k.next k.i)
  (let r1:Rn:={r with k:={k with i:=k.i+1}}
  if k.i+1=k.next.length then r1.pc 15 else r1))
 else rk c T 0 0 fun v =>
  if v≠bF k.base then some (Rn.fail c r,T)
  else gd (Xa c t) (wk c T 0 0 (bF k.aA.own) {r with fR:=true,ops:=k.found,k:={k with fR:=true,res:=eT c k.next t,aA:=eH k.aA,pc:=20}})
def uP(r:Rn)(T:Tr):Et :=
 let k:=r.k
 if k.pc=16 then rk c T 0 2 fun v=>gd (bk k.aN) (wk c T 0 2 ((v+1)%18446744073709551616) {r with k:={k with args:=iM k.aN (v%4294967296),j:=0,pc:=17}})
 else if k.pc=17 then gd (decide (0<=k.j)) (wk c T (Jv k.j.toNat) (iY c t+k.j) (ay k.args k.j) {r with k:={k with j:=k.j+1,pc:=if k.j+1=5 then 18 else 17}})
 else if k.pc=18 then wk c T 0 (lJ c t) k.seq {r with k:={k with ke:=true,round:=1,pc:=3}}
 else rk c T 3 (bZ c t) fun v=>some ({r with k:={k with res:=cL v,pc:=20}},T)
def OY(r:Rn)(T:Tr):Et :=
 let k:=r.k
 if k.pc=20 then wk c T 0 (iq c t) 0 {r with k:={k with bS:=0,pc:=if k.fR=true then 21 else 22}}
 else if k.pc=21 then rk c T 0 1 fun v=>some ({r with k:={k with aA:=lQ k.aA k.base v,pc:=22}},T)
 else if k.pc=22 then rk c T 3 (bZ c t) fun v=>gd (ew k.res)
  (let r1:Rn:={r with k:={k with word:=v}}
  some (if behind v (fG k.res)=false then Rn.owned c r1 else r1.pc 23,T))
 else rk c T 3 (bZ c t) fun v=>gd (ew k.res && apart v k.word)
  (let r1:Rn:={r with k:={k with bS:=k.bS+1,pc:=22}}
  if v=k.word then wk c T 3 (bZ c t) (fG k.res) (Rn.owned c r1)else some (if k.bS+1=2 then Rn.owned c r1 else r1,T))
def yl(r:Rn)(T:Tr):Et :=
 let k:=r.k
 if k.pc=24 then rk c T 0 1 fun g =>
  (let r1:Rn:={r with k:={k with word:=g,aA:=eU k.aA g,i:=0,all:=true,pc:=25}}
  some (if needs r1.k.aA c.aL=false then Rn.cB c r1 else r1,T))
 else if k.pc=25 then rk c T 0 (nL c k.i) fun v =>
  (let a:=k.all && (decide (k.i=t) || lets v k.word)
  some (if k.i+1<c.threads then{r with k:={k with all:=a,i:=k.i+1}}
  else{r with k:={k with all:=a,i:=0,seen:=[],pc:=if a=true then 26 else 27}},T))
 else if k.pc=26 then rk c T 0 1 fun v =>
  (let e (r1:Rn):Rn:=if needs r1.k.aA c.aL=false then Rn.cB c (r1.pc 27)else r1.pc 27
  if v=k.word then wk c T 0 1 (k.word+1) (e {r with k:={k with aA:=eU k.aA (k.word+1)}})else some (e r,T))
 else rk c T 0 (iq c k.i) fun v =>
  (let s:=k.seen++[v]
  let r1:Rn:={r with k:={k with seen:=s,i:=k.i+1}}
  some (if k.i+1=c.threads then Rn.cB c {r1 with k:={r1.k with aA:=lU k.aA s}}else r1,T))
def Gm(r:Rn)(T:Tr):Et :=
 let k:=r.k
 if k.pc=29 then rk c T 3 (bZ c t) fun v=>some (if kf k v=true then Rn.finish {r with k:={k with res:=cL v,pc:=30}}else r.pc 30,T)
 else if k.pc=30 then rk c T 0 1 fun v=>some ({r with k:={k with fW:=v,pc:=31}},T)
 else if k.pc=31 then wk c T 0 (nL c t) (ig k.fW) (r.pc 32)
 else if k.pc=32 then rk c T 0 0 fun v=>some ({r with k:={k with base:=(g9 v).1,pc:=33}},T)
 else wk c T 0 (iq c t) (bF k.base) (r.pc 34)
def Gn(r:Rn)(T:Tr):Et :=
 let k:=r.k
 if k.pc=34 then rk c T 0 0 fun v=>some ({r with k:={k with word:=0,pc:=if v=bF k.base then 35 else 37}},T)
 else if k.pc=35 then rk c T 0 (bu c k.base.ix) fun v=>some (r.pc (if v=k.base.tag then 36 else 37),T)
 else if k.pc=36 then rk c T 3 (bu c k.base.ix+1+bn c-c.threads+t) fun v=>some ({r with k:={k with word:=v,pc:=37}},T)
 else if k.pc=37 then wk c T 0 (iq c t) 0 (r.pc 38)
 else wk c T 0 (nL c t) 0 (if kf k k.word=true then{r with k:={k with res:=cL k.word,bS:=0,pc:=22}}else r.pc 29)
def Gp(r:Rn)(T:Tr):Et :=
 let k:=r.k
 wk c T 0 (nL c t) 0 (if k.res.code≠14 then r.finish else{r with note:=2,k:=eY 29 k.seq k.aN k.aA k.res true})
def OZ(r:Rn)(T:Tr):Et :=
 if r.k.pc<=12 then(if r.k.pc<=5 then Gl c t r T else if r.k.pc<=7 then BV c t r T else if r.k.pc<=10 then BW c r T else yj c t r T)
 else if r.k.pc<=23 then(if r.k.pc<=15 then BX c t r T else if r.k.pc<=19 then uP c t r T else OY c t r T)
 else if r.k.pc<=28 then(if r.k.pc<=27 then yl c t r T else Gp c t r T)else if r.k.pc<=33 then Gm c t r T else Gn c t r T
end
structure Me where
 L:Tr
 T:List Tk
 P:List Pm
 V:Nat
def lY:Tk:=eY 0 0 nN ⟨pO,[],[],0⟩ dD false
def uQ(c:bA)(x:Me)(t:Nat)(q:Rq):Option Me :=
 let b:=dE c (x.T.getD t lY) q
 if b.2≠0 then none else some {x with T:=x.T.set t b.1}
def AI(c:bA)(x:Me)(t:Nat)(q:Rq):Option Me:=if(x.T.getD t lY).pc≠0\/(x.P.getD t kA).on=true\/bk q=false then none else uQ c x t q
def DC(c:bA)(x:Me)(t:Nat):Option Me:=match fe (x.P.getD t kA)with
 |none=>some x
 |some q=>if(x.T.getD t lY).pc≠0 then some x else uQ c x t q
def DD(c:bA)(x:Me)(t:Nat):Option Me:=match DC c x t with
 |none=>none
 |some x1 =>
  if(x1.T.getD t lY).pc=0 then some x1 else if(x1.T.getD t lY).pc<1\/38<(x1.T.getD t lY).pc then none else match OZ c t ⟨x1.T.getD t lY,[],0,false,[]⟩ x1.L with
  |none=>none
  |some (r,T)=>some ⟨T,x1.T.set t r.k,if r.note=3/\(x1.P.getD t kA).on=true then x1.P.set t (gG (x1.P.getD t kA) r.k.res)else x1.P,if r.fR=true then x1.V+r.ops.length else x1.V⟩
def zT:Nat->Tr
 |0=>.lf 0
 |n+1=>.nd (zT n) (zT n)
def Y9(L:Tr)(a:Nat):List Int->Tr
 |[]=>L
 |w::l=>Y9 (rG L a w) (a+1) l
def cg(n:Nat):bA:=⟨3,2+n,1+n,1,12,2,1,4294967295,1048575,1,if n=2 then[1,0,1]else[1,0]⟩
def kB(n:Nat):List Int:=if n=2 then[9,10]else[9]
def Gq(c:bA):Tr:=Y9 (rG (rG (zT 11) 0 (bF ⟨0,1⟩)) (bu c 0).toNat 1) ((bu c 0).toNat+1) (lI c)
def Za(n:Nat):Me:=⟨Gq (cg n),(List.range (2+n)).map fun(t:Nat)=>lV (cg n) t,(List.replicate (2+n) kA).set 1 ⟨true,false,false,8,kB n,0,0⟩,0⟩
end Mo
namespace Mo
structure jb (f:Int->Int):Prop where
 z:f 0=0
 b:∀x,0<=f x/\f x<=4294967295
section
variable(f:Int->Int)
def fi(x:Int):Int:=f (x%4294967296)
def sK:Nat->Int->Int
 |1,x=>fi f x
 |2,x=>x%4294967296+fi f (x/4294967296)*4294967296
 |3,x=>x/4294967296*4294967296+fi f x
 |_,x=>x
def sC(k:Cs):Cs:=(k.1,k.2.1,fi f k.2.2)
def sQ(q:Rq):Rq:={q with cases:=q.cases.map (sC f)}
def vM(x:Ch):Ch:={x with buf:=x.buf.map (fi f)}
def sW(w:Wt):Wt:={w with cases:=w.cases.map (sC f)}
def sS(r:Rs):Rs:={r with value:=fi f r.value}
def sH(h:Hl):Hl:=⟨h.az,h.chans.map (vM f),h.waits.map (sW f),h.done.map (sS f)⟩
def sO(o:Op):Op:={o with aN:=sQ f o.aN}
def sT(x:Told):Told:=⟨x.th,sS f x.res⟩
def sG(g:p9):p9:=⟨vM f g.c,g.l.map (sW f),sS f g.r,g.told.map (sT f)⟩
def sR(a:Nat->Nat)(l:List Int):List Int:=l.mapIdx fun i x=>sK f (a i) x
end
section
variable{f:Int->Int}
theorem jb.fz(h:jb f):fi f 0=0:=h.z
theorem jb.fb(h:jb f)(x:Int):0<=fi f x/\fi f x<=4294967295:=h.b _
theorem KZ(h:jb f):∀k,sK f k 0=0
 |0=>rfl
 |1=>h.fz
 |2=>by show 0%4294967296+fi f (0/4294967296)*4294967296=0;rw[Int.zero_ediv,h.fz];rfl
 |3=>by show 0/4294967296*4294967296+fi f 0=0;rw[h.fz];rfl
 |_+4=>rfl
theorem O0(h:jb f)(x:Int):pZ (sK f 2 x)=sC f (pZ x):=by
 have a:=h.fb (x/4294967296);unfold pZ sC;show((x%4294967296+fi f (x/4294967296)*4294967296)%256,(x%4294967296+fi f (x/4294967296)*4294967296)/256%65536,(x%4294967296+fi f (x/4294967296)*4294967296)/4294967296)=(x%256,x/256%65536,fi f (x/4294967296))
 generalize fi f (x/4294967296)=y at *;refine Prod.ext ?_ (Prod.ext ?_ ?_);all_goals dsimp only
 all_goals omega
theorem pd(h:jb f)(x:Int):cL (sK f 3 x)=sS f (cL x):=by
 have a:=h.fb x;have e:fi f (x%4294967296)=fi f x:=by unfold fi;rw[Int.emod_emod_of_dvd _ (Int.dvd_refl _)]
 unfold cL sS;dsimp only;rw[e];show Rs.mk ((x/4294967296*4294967296+fi f x)/17592186044416) ((x/4294967296*4294967296+fi f x)/1099511627776%16) ((x/4294967296*4294967296+fi f x)/4294967296%256) ((x/4294967296*4294967296+fi f x)%4294967296)=_;generalize fi f x=y at *;congr 1;all_goals omega
theorem BZ(h:jb f){r:Rs}(a:ew r=true):fG (sS f r)=sK f 3 (fG r):=by
 have d:=h.fb r.value;have b:=a;unfold ew at b;rw[bP]at b;have c:ew (sS f r)=true:=by unfold ew sS;rw[bP];dsimp only;omega
 unfold fG;rw[au a,au c];have e:fi f (r.seq*17592186044416+r.cs*1099511627776+r.code*4294967296+r.value)=fi f r.value:=by unfold fi;congr 1;omega
 show r.seq*17592186044416+r.cs*1099511627776+r.code*4294967296+fi f r.value=(r.seq*17592186044416+r.cs*1099511627776+r.code*4294967296+r.value)/4294967296*4294967296+fi f (r.seq*17592186044416+r.cs*1099511627776+r.code*4294967296+r.value);rw[e];generalize fi f r.value=y at *;omega
theorem O3(h:jb f)(x:Int):Oe (cL (sK f 3 x))=Oe (cL x):=by rw[pd h];rfl
theorem DF(h:jb f)(x y:Int):behind (sK f 3 x) (sK f 3 y)=behind x y:=by unfold behind;rw[O3 h,O3 h]
theorem Jw(h:jb f){k:Tk}(a:k'.seq=k.seq)(x:Int):kf k' (sK f 3 x)=kf k x:=by unfold kf;rw[pd h,a];rfl
theorem Jx(h:jb f){v w:Int}(a:apart v w=true):(sK f 3 v=sK f 3 w)↔v=w:=by
 constructor
 ·intro e;unfold apart at a;rw[Bool.or_eq_true,bP,bP]at a;rcases a with a|a
  ·exact a
  ·have c:=h.fb v;have d:=h.fb w;have b:v/4294967296*4294967296+fi f v=w/4294967296*4294967296+fi f w:=e;omega
 ·intro e;rw[e]
theorem Zb(h:jb f){k:Cs}(a:j7 k=true):j7 (sC f k)=true:=by have b:=h.fb k.2.2;unfold j7 fits sC at *;simp only[cA,bP]at *;exact⟨a.1,by omega⟩
theorem tJ(h:jb f){q:Rq}(a:bk q=true):bk (sQ f q)=true:=by unfold bk sQ at *;simp only[cA,cW,List.all_map,List.all_eq_true]at *;exact⟨a.1,fun x b=>Zb h (a.2 x b)⟩
theorem pg(h:jb f){k:Cs}(a:j7 k=true):nj (sC f k)=sK f 2 (nj k):=by
 unfold j7 fits at a;simp only[cA,Bool.or_eq_true,beq_iff_eq,bP]at a;have e:(k.1+k.2.1*256+k.2.2*4294967296)/4294967296=k.2.2:=by omega
 unfold nj sC;show k.1+k.2.1*256+fi f k.2.2*4294967296=(k.1+k.2.1*256+k.2.2*4294967296)%4294967296+fi f ((k.1+k.2.1*256+k.2.2*4294967296)/4294967296)*4294967296;rw[e];generalize fi f k.2.2=y;omega
theorem Jy(h:jb f){q:Rq}(e:bk q=true){i:Int}(j:fits i 4294967296=true):iM (sQ f q) i=sR f Jv (iM q i):=by
 unfold iM;rw[au (by rw[tJ h e,j];rfl),au (by rw[e,j];rfl)];obtain⟨kind,k,value,dflt,l⟩:=q;unfold bk at e;simp only[cA,bP,List.all_eq_true]at e;have g:=e.1.2;have c:=e.2;unfold sQ Of;dsimp only at *;rw[cW];match l,g,c with
 |[],_,_=>simp[sR,Jv,List.mapIdx_cons,List.replicate,sK,h.fz]
 |[a],_,c=>simp[sR,Jv,List.mapIdx_cons,List.replicate,pg h (c a (by simp)),sK,h.fz]
 |[a,b],_,c=>simp[sR,Jv,List.mapIdx_cons,List.replicate,pg h (c a (by simp)),pg h (c b (by simp)),sK,h.fz]
 |[a,b,d],_,c=>simp[sR,Jv,List.mapIdx_cons,List.replicate,pg h (c a (by simp)),pg h (c b (by simp)),pg h (c d (by simp)),sK]
 |_::_::_::_::_,g,_=>exact absurd g (by simp)
end
end Mo
namespace Mo
section
variable{f:Int->Int} {kd:Nat->Nat} {l:List Int} {c:bA}
theorem B8:(sR f kd l).length=l.length:=by unfold sR;simp
theorem uR(i:Nat):(sR f kd l)[i]?=l[i]?.map (sK f (kd i)):=by unfold sR;rw[List.getElem?_mapIdx]
theorem pj(h:jb f)(i:Nat):(sR f kd l).getD i 0=sK f (kd i) (l.getD i 0):=by
 rw[cZ,cZ,uR];cases l[i]? with
 |none=>exact(KZ h _).symm
 |some x=>rfl
theorem ym(h:jb f)(a:Int):ay (sR f kd l) a=sK f (kd a.toNat) (ay l a):=by
 unfold ay;split
 ·exact(KZ h _).symm
 ·exact pj h _
theorem O4(x:Int):sR f kd (l++[x])=sR f kd l++[sK f (kd l.length) x]:=by unfold sR;simp
theorem Gr(a b:List Int):sR f kd (a++b)=sR f kd a++sR f (fun i=>kd (i+a.length)) b:=by unfold sR;rw[List.mapIdx_append]
theorem Ca(a:Int):sR f kd (a::l)=sK f (kd 0) a::sR f (fun i=>kd (i+1)) l:=by unfold sR;rw[List.mapIdx_cons]
theorem pn(n:Nat):(sR f kd l).drop n=sR f (fun i=>kd (n+i)) (l.drop n):=by apply List.ext_getElem?;intro i;rw[List.getElem?_drop,uR,uR,List.getElem?_drop]
theorem tK(n:Nat):(sR f kd l).take n=sR f kd (l.take n):=by apply List.ext_getElem?;intro i;rw[List.getElem?_take,uR,uR,List.getElem?_take];split<;>rfl
theorem uS{k n:Nat}(a:∀i,i<n->kd i=k)(d:l.length<=n):sR f kd l=l.map (sK f k):=by
 apply List.ext_getElem?;intro i;rw[uR,List.getElem?_map];by_cases b:i<l.length
 ·rw[a i (by omega)]
 ·rw[List.getElem?_eq_none (by omega)];rfl
structure K0 (c:bA):Prop where
 ck:aU c=true
 k3:c.kind=3
 sz:0<bn c
 z:od c 0=0
 ch:∀j,j<c.chans.toNat->od c (1+j*(1+c.cap.toNat))=0/\∀i,i<c.cap.toNat->od c (1+j*(1+c.cap.toNat)+(1+i))=1
 wt:∀j,j<c.threads.toNat->od c (1+(1+c.cap.toNat)*c.chans.toNat+j*4)=0/\∀i,i<3->od c (1+(1+c.cap.toNat)*c.chans.toNat+j*4+(1+i))=2
 dn:∀j,j<c.threads.toNat->od c (1+(1+c.cap.toNat)*c.chans.toNat+4*c.threads.toNat+j)=3
theorem tL{α:Type}(g:List Int->α)(s:α->α)(m:Nat):∀(n:Nat) (kd:Nat->Nat) (l:List Int),(∀j l,j<n->g (sR f (fun i=>kd (j*m+i)) l)=s (g l))->pieces g m n (sR f kd l)=(pieces g m n l).map s
 |0,_,_,_=>rfl
 |n+1,kd,l,hg=>by
  have a:=hg 0 l (by omega)
  simp only[Nat.zero_mul,Nat.zero_add]at a
  show g (sR f kd l)::pieces g m n ((sR f kd l).drop m)=s (g l)::(pieces g m n (l.drop m)).map s
  rw[a,pn,tL g s m n (fun i=>kd (m+i)) (l.drop m) fun j l b=>by
   have:=hg (j+1) l (by omega)
   rw[show(fun i=>kd ((j+1)*m+i))=fun i=>kd (m+(j*m+i))from funext fun i=>by rw[show m+(j*m+i)=(j+1)*m+i from by rw[Nat.add_mul];omega]]at this
   exact this]
theorem Zc(x:Int):fi f (x%4294967296)=fi f x:=by unfold fi;rw[Int.emod_emod_of_dvd _ (Int.dvd_refl _)]
theorem Zd(h:jb f)(x:Int):fi f x%4294967296=fi f x:=by have:=h.fb x;omega
theorem O5(h:jb f)(a:kd 0=0)(b:∀i,i<c.cap.toNat->kd (1+i)=1):jt c (sR f kd l)=vM f (jt c l):=by
 unfold jt vM;dsimp only;rw[pj h,a,pn,tK,tK,uS (k:=1) (n:=c.cap.toNat) b (by simp;omega)];show Ch.mk _ _ _ _ _=Ch.mk _ _ _ _ _;congr 1;rw[List.map_map,List.map_map];congr 1;funext x
 show fi f x%4294967296=fi f (x%4294967296);rw[Zc,Zd h]
theorem O6(h:jb f)(a:kd 0=0)(b:∀i,i<3->kd (1+i)=2):jL (sR f kd l)=sW f (jL l):=by
 unfold jL sW;dsimp only;rw[pj h,a,pn,tK,tK,uS (k:=2) (n:=3) b (by simp;omega)];show Wt.mk _ _ _ _=Wt.mk _ _ _ _;congr 1;rw[List.map_map,List.map_map];congr 1;funext x
 exact O0 h x
theorem DG(h:jb f)(K:K0 c):nI c (sR f (od c) l)=sH f (nI c l):=by unfold nI sH;dsimp only;rw[pj h,K.z,pn,pn,pn];rw[tL (jt c) (vM f) _ _ (fun i=>od c (1+i)) _ fun j l a=>O5 h ((congrArg (od c) (by omega)).trans (K.ch j a).1) fun i b=>(congrArg (od c) (by omega)).trans ((K.ch j a).2 i b)];rw[tL jL (sW f) _ _ (fun i=>od c (1+((1+c.cap.toNat)*c.chans.toNat+i))) _ fun j l a=>O6 h ((congrArg (od c) (by omega)).trans (K.wt j a).1) fun i b=>(congrArg (od c) (by omega)).trans ((K.wt j a).2 i b)];rw[tL (fun l=>cL (l.getD 0 0)) (sS f) _ _ (fun i=>od c (1+((1+c.cap.toNat)*c.chans.toNat+(4*c.threads.toNat+i)))) _ fun j l a=>by rw[pj h,show od c (1+((1+c.cap.toNat)*c.chans.toNat+(4*c.threads.toNat+(j*1+0))))=3 from(congrArg (od c) (by omega)).trans (K.dn j a)];exact pd h _];rfl
theorem Gs{α:Type}(w:α->List Int)(s:α->α)(m:Nat):∀(c:List α) (kd:Nat->Nat),(∀j x,j<c.length->x∈c->(w x).length=m/\sR f (fun i=>kd (j*m+i)) (w x)=w (s x))->sR f kd (c.flatMap w)=(c.map s).flatMap w/\(c.flatMap w).length=c.length*m
 |[],_,_=>⟨rfl,by simp⟩
 |x::c,kd,hg=>by
  obtain⟨d,e⟩:=hg 0 x (by simp) (by simp)
  simp only[Nat.zero_mul,Nat.zero_add]at e
  obtain⟨h,k⟩:=Gs w s m c (fun i=>kd (m+i)) fun j y l g=>by
   obtain⟨a,b⟩:=hg (j+1) y (by simp;omega) (by simp[g])
   refine⟨a,?_⟩
   rw[show(fun i=>kd ((j+1)*m+i))=fun i=>kd (m+(j*m+i))from funext fun i=>by rw[show m+(j*m+i)=(j+1)*m+i from by rw[Nat.add_mul];omega]]at b
   exact b
  constructor
  ·rw[List.flatMap_cons,Gr,e,List.map_cons,List.flatMap_cons, <-h,d];congr 2;funext i
   rw[Nat.add_comm]
  ·rw[List.flatMap_cons,eW,d,k,List.length_cons,Nat.add_mul];omega
theorem Jz{l:List Int}{n:Nat}(h:l.length<=n):(k9 l n).length=n:=by unfold k9;simp;omega
theorem Ub(h:jb f){x:Ch}(a:x.buf.length<=c.cap.toNat)(b:kd 0=0)(d:∀i,i<c.cap.toNat->kd (1+i)=1):(kE c x).length=1+c.cap.toNat/\sR f kd (kE c x)=kE c (vM f x):=by unfold kE;refine⟨by rw[List.length_cons,Jz a];omega,?_⟩;rw[Ca,b,uS (k:=1) (n:=c.cap.toNat) (fun i e=>by rw[Nat.add_comm];exact d i e) (by rw[Jz a];exact aS _)];show _::_=rP (vM f x)::k9 (x.buf.map (fi f)) c.cap.toNat;rw[show rP (vM f x)=rP x from by unfold rP vM;rw[cW]];congr 1;unfold k9;rw[List.map_append,List.map_take,List.map_replicate,cW];show _++List.replicate _ (fi f 0)=_;rw[h.fz];rfl
theorem DI{x:Wt}(h:fU x=true):x.cases.length<=3/\∀k∈x.cases,j7 k=true:=by
 unfold fU at h;split at h
 ·simp only[cA,bP]at h;have:x.cases=[]:=List.length_eq_zero_iff.1 h.2;rw[this];exact⟨by simp,by simp⟩
 ·unfold bk kD at h;simp only[cA,bP,List.all_eq_true]at h;exact⟨h.2.1.2,h.2.2⟩
theorem Uc(h:jb f){x:Wt}(j:fU x=true)(d:kd 0=0)(e:∀i,i<3->kd (1+i)=2):(j8 x).length=4/\sR f kd (j8 x)=j8 (sW f x):=by obtain⟨a,b⟩:=DI j;unfold j8;refine⟨by simp;omega,?_⟩;rw[Ca,d,uS (k:=2) (n:=3) (fun i c=>by rw[Nat.add_comm];exact e i c) (by simp;omega)];unfold sW;dsimp only;rw[cW];congr 1;rw[List.map_append,List.map_map,List.map_map,List.map_replicate,KZ h];congr 1;exact List.map_congr_left fun k g=>(pg h (b k g)).symm
theorem O7(h:jb f)(K:K0 c){g:Hl}(u:gq c g=true):lg c (sH f g)=sR f (od c) (lg c g):=by
 have b:=u;unfold gq kD lO at b;simp only[cA,bP,List.all_eq_true]at b;obtain⟨⟨⟨⟨⟨⟨B,D⟩,H⟩,E⟩,G⟩,F,t⟩,s⟩:=b.1;have v:=b.2;have l:∀x∈g.chans,x.buf.length<=c.cap.toNat:=fun x d=>by
  have:=s x d
  unfold k8 kD gA at this
  simp only[cA,bP]at this
  omega
 have m:gq c (sH f g)=true:=by
  unfold gq kD lO;simp only[cA,bP,List.all_eq_true];unfold sH;simp only[cW,List.mem_map,forall_exists_index,and_imp,forall_apply_eq_imp_iff₂];refine⟨⟨⟨⟨⟨⟨⟨B,D⟩,H⟩,E⟩,G⟩,F,fun r p=>?_⟩,fun x d=>?_⟩,fun x d=>?_⟩
  ·have a:=t r p;have I:=h.fb r.value;unfold ew sS at *;rw[bP]at *;dsimp only;omega
  ·have a:=s x d;unfold k8 kD gA vM at *;simp only[cA,bP,List.all_eq_true,cW,List.mem_map,forall_exists_index,and_imp,forall_apply_eq_imp_iff₂]at *;exact⟨⟨a.1.1,a.1.2.1,fun y _=>by unfold kD;rw[bP];exact h.fb y⟩,a.2⟩
  ·have a:=v x d;unfold fU sW at *;dsimp only;split
   ·rw[au (by assumption)]at a;simpa using a
   ·rw[ah (by assumption)]at a;rw[cA]at *;rw[cW];exact⟨a.1,tJ h a.2⟩
 obtain⟨w,q⟩:=Gs (f:=f) (kE c) (vM f) (1+c.cap.toNat) g.chans (fun i=>od c (i+1)) fun j x C d=>Ub h (l x d) ((congrArg (od c) (by omega)).trans (K.ch j (by omega)).1) fun i e=>(congrArg (od c) (by omega)).trans ((K.ch j (by omega)).2 i e)
 have o:(1+c.cap.toNat)*c.chans.toNat=g.chans.length*(1+c.cap.toNat):=by rw[Nat.mul_comm,show c.chans.toNat=g.chans.length from by omega]
 obtain⟨z,A⟩:=Gs (f:=f) j8 (sW f) 4 g.waits (fun i=>od c (i+g.chans.length*(1+c.cap.toNat)+1)) fun j x C d=>Uc h (v x d) ((congrArg (od c) (by rw[o];omega)).trans (K.wt j (by omega)).1) fun i e=>(congrArg (od c) (by rw[o];omega)).trans ((K.wt j (by omega)).2 i e)
 unfold lg;rw[au u,au m,Ca,K.z,Gr,Gr,w,q,z,eW,q,A];rw[uS (k:=3) (n:=c.threads.toNat) (fun i e=>(congrArg (od c) (by rw[o];omega)).trans (K.dn i e)) (by simp;omega)];unfold sH;dsimp only;show _::_=_::_;congr 2;rw[List.map_map,List.map_map];exact List.map_congr_left fun r p=>BZ h (t r p)
theorem Ud(h:jb f)(K:K0 c){g:Hl}(b:j9 c l=some g):j9 c (sR f (od c) l)=some (sH f g)/\lg c g=l/\gq c g=true:=by
 unfold j9 at b;split at b
 ·rename_i a;injection b with b
  subst b;simp only[cA,bP]at a;have i:gq c (nI c l)=true:=by
   cases j:gq c (nI c l)with
   |true=>rfl
   |false=>have d:=a.2;unfold lg at d;rw[ah (by rw[j];decide)]at d;have e:=a.1.2;rw[<-d]at e;have:=K.sz;simp at e;omega
  refine⟨?_,a.2,i⟩;unfold j9;rw[au,DG h K];simp only[cA,bP];exact⟨⟨a.1.1,by rw[B8];exact a.1.2⟩,by rw[DG h K,O7 h K i,a.2]⟩
 ·cases b
end
end Mo
namespace Mo
section
variable{f:Int->Int} {l:List Wt} {hd:Int}
theorem Ze(w:Wt)(d:Int):lT (sW f w) d hd=lT w d hd:=by unfold lT sW;dsimp only;rw[List.findIdx?_map];rfl
theorem Gt(t:Nat):(l.map (sW f)).getD t iz=sW f (l.getD t iz):=by rw[cZ,cZ,List.getElem?_map];cases l[t]?<;>rfl
theorem AJ(d:Int):∀k,eI (l.map (sW f)) d hd k=eI l d hd k
 |0=>rfl
 |k+1=>by
  unfold eI
  rw[AJ d k,List.getElem?_map]
  cases l[k]? with
  |none=>rfl
  |some w =>
   dsimp only[Option.map_some];rw[Ze];cases lT w d hd with
   |none=>rfl
   |some i =>
    dsimp only;cases eI l d hd k with
    |none=>rfl
    |some p=>dsimp only;have e:=Gt (f:=f) (l:=l) p.1;unfold iz at e;rw[e];rfl
theorem qf(d:Int):dW (l.map (sW f)) d hd=dW l d hd:=by unfold dW;rw[cW,AJ]
theorem abC:qY (l.map (sW f)) hd=qY l hd:=by
 unfold qY;rw[cW];have e:∀t,iG (l.map (sW f)) t=iG l t:=fun t=>by unfold iG;rw[Gt];rfl
 simp only[e,Gt];congr 1;apply List.filter_congr;intro t _;unfold sW;dsimp only;rw[List.any_map];rfl
theorem Gu(t:Nat):gY (l.map (sW f)) t=(gY l t).map (sW f):=by unfold gY;rw[List.map_set];rfl
theorem AK:∀(k:List Nat) (l:List Wt),k.foldl gY (l.map (sW f))=(k.foldl gY l).map (sW f)
 |[],_=>rfl
 |t::k,l=>by rw[List.foldl_cons,List.foldl_cons,Gu,AK k]
theorem DJ(c:Ch)(d:Int):dt (vM f c) hd (l.map (sW f)) d=dt c hd l d:=by unfold dt vM;dsimp only;rw[qf,qf,cW]
theorem DK(h:jb f)(t i:Nat)(e:Int):iX (l.map (sW f)) t i e 0=sT f (iX l t i e 0):=by unfold iX sT sS;rw[Gt];dsimp only;rw[h.fz];rfl
theorem O8(t i:Nat)(e v:Int):iX (l.map (sW f)) t i e (fi f v)=sT f (iX l t i e v):=by unfold iX sT sS;rw[Gt];rfl
theorem kg(h:jb f)(e:Int):sS f (bI e)=bI e:=by unfold sS bI;dsimp only;rw[h.fz]
theorem Cb(h:jb f):sS f dD=dD:=by unfold sS dD;dsimp only;rw[h.fz]
theorem Xb(h:jb f)(b:List Int):(b.map (fi f)).getD 0 0=fi f (b.getD 0 0):=by cases b with|nil=>exact h.fz.symm|cons x b=>rfl
theorem Ue(h:jb f)(c:Ch)(v:Int):mD (vM f c) hd (l.map (sW f)) (fi f v)=sG f (mD c hd l v):=by
 unfold mD;rw[qf];cases dW l 2 hd with
 |none=>show p9.mk _ _ _ _=p9.mk _ _ _ _;rw[Cb h];unfold vM;simp
 |some p=>show p9.mk _ _ _ _=p9.mk _ _ _ _;rw[Cb h,O8,Gu];rfl
theorem Zf(h:jb f)(w:Wt)(i:Nat):((sW f w).cases.getD i (0,0,0)).2.2=fi f (w.cases.getD i (0,0,0)).2.2:=by
 unfold sW;dsimp only;rw[cZ,cZ,List.getElem?_map];cases w.cases[i]? with
 |none=>exact h.fz.symm
 |some x=>rfl
theorem Uf(h:jb f)(c:Ch):mE (vM f c) hd (l.map (sW f))=sG f (mE c hd l):=by
 unfold mE;rw[qf];cases dW l 1 hd with
 |none=>show p9.mk _ _ _ _=p9.mk _ _ _ _;unfold vM sS;dsimp only;rw[Xb h,List.map_drop];rfl
 |some p=>dsimp only;rw[Gt,Zf h,DK h,Gu];show p9.mk _ _ _ _=p9.mk _ _ _ _;unfold vM sS;dsimp only;rw[List.map_drop,List.map_append, <-Xb h,List.map_append];rfl
theorem abD(h:jb f)(c:Ch)(d v:Int):xm (vM f c) hd (l.map (sW f)) d (fi f v)=sG f (xm c hd l d v):=by
 unfold xm;rw[DJ,qf,Ue h,Uf h,show(vM f c).closed=c.closed from rfl,show(vM f c).buf.length=c.buf.length from cW ..];split
 ·unfold sG;rw[kg h];rfl
 split
 ·rfl
 split
 ·rfl
 ·unfold sG;rw[kg h];rfl
theorem Ug(h:jb f)(c:Ch):pD (vM f c) hd (l.map (sW f))=sG f (pD c hd l):=by
 unfold pD;rw[abC,AK,show(vM f c).closed=c.closed from rfl,show(vM f c).used=c.used from rfl];split
 ·unfold sG;rw[kg h];rfl
 ·unfold sG;rw[kg h];show p9.mk _ _ _ _=p9.mk _ _ _ _;rw[List.map_map];congr 1;apply List.map_congr_left;intro t _;show iX _ _ _ _ _=sT f (iX _ _ _ _ _);rw[DK h,Gt];unfold nJ sW;dsimp only;rw[List.findIdx?_map];rfl
theorem Cc:∀(k:List Told) (d:List Rs),fV (d.map (sS f)) (k.map (sT f))=(fV d k).map (sS f)
 |[],_=>rfl
 |x::k,d=>by
  unfold fV
  rw[List.map_cons,List.foldl_cons,List.foldl_cons]
  have:=Cc k (d.set x.th x.res)
  unfold fV at this
  rw[<-this,List.map_set]
  rfl
variable{g:Hl}
theorem xq(x:Int):bW (sH f g) x=bW g x:=by
 unfold bW;split
 ·rfl
 ·have e:(sH f g).chans[(eO x).1.toNat]?=(g.chans[(eO x).1.toNat]?).map (vM f):=List.getElem?_map ..;rw[e];cases g.chans[(eO x).1.toNat]?<;>rfl
theorem Gv(i:Nat):gm (sH f g) i=vM f (gm g i):=by unfold gm sH;dsimp only;rw[cZ,cZ,List.getElem?_map];cases g.chans[i]?<;>rfl
theorem O9(h:jb f){k:List Cs}(i:∀x∈k,j7 x=true):eP (sH f g) (k.map (sC f))=eP g k:=by
 unfold eP;rw[cW,List.any_map,List.any_map];have d:k.any ((fun k=>(k.1 !=1 && k.1 !=2) || decide (k.2.2<0) || decide (4294967295<k.2.2)) ∘ sC f)=k.any (fun k=>(k.1 !=1 && k.1 !=2) || decide (k.2.2<0) || decide (4294967295<k.2.2)):=by
  rw[Bool.eq_iff_iff,List.any_eq_true,List.any_eq_true];constructor
  ·rintro⟨x,a,b⟩;have c:=h.fb x.2.2;refine⟨x,a,?_⟩;unfold sC at b;simp only[Function.comp,Bool.or_eq_true,cA,bne_iff_ne,ne_eq,bP]at b ⊢;omega
  ·rintro⟨x,a,b⟩;have c:=i x a;refine⟨x,a,?_⟩;unfold j7 fits at c;unfold sC;have j:=h.fb x.2.2;simp only[Function.comp,Bool.or_eq_true,cA,bne_iff_ne,ne_eq,bP]at *;omega
 rw[d];have e:((fun k:Cs=>(bW (sH f g) k.2.1).isNone) ∘ sC f)=fun k=>(bW g k.2.1).isNone:=by funext x;show(bW _ _).isNone=_;rw[xq];rfl
 rw[e]
theorem Zg(h:jb f)(i:Nat)(k:Cs):wJ (sH f g) i (sC f k)=(sH f (wJ g i k).1,sS f (wJ g i k).2):=by unfold wJ;dsimp only;rw[xq,Gv,show(sC f k).2.2=fi f k.2.2 from rfl,show(sC f k).2.1=k.2.1 from rfl,show(sC f k).1=k.1 from rfl,show(sH f g).waits=g.waits.map (sW f)from rfl,abD h];unfold sG sH;dsimp only;rw[Cc,List.map_set];rfl
theorem Zh(t:Int)(w:Wt):wI (l.map (sW f)) t (sW f w)=(wI l t w).map (List.map (sW f)):=by
 unfold wI;split
 ·rfl
 ·rw[List.getElem?_map];cases l[t.toNat]? with
  |none=>rfl
  |some x =>
   dsimp only[Option.map_some];show(if x.on=true then none else _)=_;split
   ·rfl
   ·rw[Option.map_some,List.map_set];rfl
theorem K1(h:jb f){q:Rq}(b:bk q=true)(t a:Int):ey (sH f g) t a (sQ f q)=(sH f (ey g t a q).1,sS f (ey g t a q).2):=by
 have d:∀x∈q.cases,j7 x=true:=by unfold bk at b;simp only[cA,List.all_eq_true]at b;exact b.2
 unfold ey;rw[show(sQ f q).cases=q.cases.map (sC f)from rfl,O9 h d,List.findIdx?_map,show(sQ f q).dflt=q.dflt from rfl];have e:((fun k:Cs=>dt (gm (sH f g) ((bW (sH f g) k.2.1).getD 0)) k.2.1 (sH f g).waits k.1) ∘ sC f)=fun k=>dt (gm g ((bW g k.2.1).getD 0)) k.2.1 g.waits k.1:=by
  funext x
  show dt (gm (sH f g) ((bW (sH f g) x.2.1).getD 0)) x.2.1 (g.waits.map (sW f)) x.1=_;rw[xq,Gv,DJ]
 rw[e];split
 ·rw[kg h]
 cases q.cases.findIdx? (fun k=>dt (gm g ((bW g k.2.1).getD 0)) k.2.1 g.waits k.1)with
 |some i =>
  dsimp only;have c:(q.cases.map (sC f)).getD i (0,0,0)=sC f (q.cases.getD i (0,0,0)):=by
   rw[cZ,cZ,List.getElem?_map];cases q.cases[i]? with
   |none=>show((0,0,0):Cs)=(0,0,fi f 0);rw[h.fz]
   |some x=>rfl
  rw[c];exact Zg h i _
 |none =>
  dsimp only;split
  ·rw[kg h]
  split
  ·rw[au (by assumption),kg h]
  rw[ah (by assumption),show(sH f g).waits=g.waits.map (sW f)from rfl,show(⟨false,(sH f g).az,a,q.cases.map (sC f)⟩:Wt)=sW f ⟨false,g.az,a,q.cases⟩from rfl,Zh];cases wI g.waits t ⟨false,g.az,a,q.cases⟩with
  |none=>rw[Option.map_none,kg h]
  |some l=>rw[Option.map_some,kg h];rfl
theorem Uh(h:jb f)(x:Int):n7 (sH f g) x=(sH f (n7 g x).1,sS f (n7 g x).2):=by
 unfold n7;rw[xq];cases bW g x with
 |none=>dsimp only;rw[kg h]
 |some i=>dsimp only;rw[Gv,show(sH f g).waits=g.waits.map (sW f)from rfl,Ug h,kg h];unfold sG sH;dsimp only;rw[Cc,List.map_set];rfl
theorem Pa(h:jb f){c:bA}{q:Rq}(d:bk q=true)(b:q.kind=3\/q.kind=4)(t a:Int):fB c (sH f g) t a (sQ f q)=sH f (fB c g t a q):=by
 have e:ia c (sH f g) t a (sQ f q)=(sH f (ia c g t a q).1,sS f (ia c g t a q).2):=by
  unfold ia;rw[show(sQ f q).kind=q.kind from rfl];rcases b with b|b
  ·rw[b,ah (by decide),ah (by decide),au rfl,ah (by decide),ah (by decide),au rfl];exact K1 h d t a
  ·rw[b,ah (by decide),ah (by decide),ah (by decide),au rfl,ah (by decide),ah (by decide),ah (by decide),au rfl];exact Uh h _
 unfold fB;rw[e];unfold sH;dsimp only;congr 1;unfold fB.BH;split
 ·rfl
 ·rw[List.map_set];rfl
variable{c:bA}
theorem Pb(h:jb f)(K:K0 c):∀(a:List Op) (l b:List Int),Gk c l a=some b->nK c (sR f (od c) l) (a.map (sO f))=sR f (od c) b/\nK c l a=b
 |[],l,b,he=>by
  unfold Gk at he
  split at he
  ·injection he with he;subst he;exact⟨rfl,rfl⟩
  ·cases he
 |o::p,l,b,he=>by
  unfold Gk at he
  split at he
  ·rename_i d;simp only[cA,Bool.or_eq_true,beq_iff_eq]at d;obtain⟨⟨t,i⟩,s⟩:=d;obtain⟨u,v⟩:=Pb h K p _ b he;obtain⟨g,j⟩:=Option.isSome_iff_exists.1 t;obtain⟨w,A,B⟩:=Ud h K j;have e:eR c (sR f (od c) l) o.th o.seq (sQ f o.aN)=sR f (od c) (eR c l o.th o.seq o.aN):=by
    unfold eR;rw[tJ h i,i];split
    ·rfl
    rw[ah (by rw[K.k3];decide),ah (by rw[K.k3];decide),w,j];dsimp only;rw[Pa h i s];have x:eR c l o.th o.seq o.aN=lg c (fB c g o.th o.seq o.aN):=by unfold eR;rw[i,ah (by assumption),ah (by rw[K.k3];decide),j]
    have r:gq c (fB c g o.th o.seq o.aN)=true:=by
     rw[x]at he;have m:(j9 c (lg c (fB c g o.th o.seq o.aN))).isSome=true:=by
      cases p with
      |nil=>unfold Gk at he;split at he;assumption;cases he
      |cons z p =>
       unfold Gk at he;split at he
       ·rename_i d;simp only[cA]at d;exact d.1.1
       ·cases he
     cases k:gq c (fB c g o.th o.seq o.aN)with
     |true=>rfl
     |false =>
      unfold lg at m;rw[ah (by rw[k];decide)]at m;obtain⟨y,n⟩:=Option.isSome_iff_exists.1 m;unfold j9 at n;split at n
      ·rename_i q;simp only[cA,bP]at q;have:=K.sz;have:=q.1.2;simp at this;omega
      ·cases n
    exact O7 h K r
   constructor
   ·rw[<-u];unfold nK;rw[List.map_cons,List.foldl_cons,show(sO f o).aN=sQ f o.aN from rfl,show(sO f o).th=o.th from rfl,show(sO f o).seq=o.seq from rfl,e]
   ·rw[<-v];rfl
  ·cases he
end
end Mo
namespace Mo
def full:Nat->Tr->Prop
 |0,.lf _=>True
 |d+1,.nd l r=>full d l/\full d r
 |_,_=>False
theorem oh:∀(d:Nat) (T:Tr) (a:Nat) (w:Int),full d T->full d (rG T a w)
 |0,.lf _,_,_,h=>h
 |d+1,.nd l r,a,w,h=>by unfold rG;split;exact⟨oh d l _ w h.1,h.2⟩;exact⟨h.1,oh d r _ w h.2⟩
 |0,.nd _ _,_,_,h=>h.elim
 |_+1,.lf _,_,_,h=>h.elim
theorem xo:∀(d:Nat) (T:Tr) (a b:Nat) (w:Int),full d T->a<2 ^ d->b<2 ^ d->wP (rG T a w) b=if a=b then w else wP T b
 |0,.lf _,a,b,w,_,ha,hb=>by rw[au (by simp at ha hb;omega)];rfl
 |d+1,.nd l r,a,b,w,h,ha,hb=>by
  rw[Nat.pow_succ]at ha hb
  have c:=xo d l (a/2) (b/2) w h.1 (by omega) (by omega)
  have f:=xo d r (a/2) (b/2) w h.2 (by omega) (by omega)
  unfold rG
  by_cases p:a%2=0<;>by_cases q:b%2=0
  ·rw[au p];simp only[wP,au q,c];by_cases e:a=b
   ·rw[au e,au (by omega)]
   ·rw[ah e,ah (by omega)]
  ·rw[au p];simp only[wP,ah q];rw[ah (by omega)]
  ·rw[ah p];simp only[wP,au q];rw[ah (by omega)]
  ·rw[ah p];simp only[wP,ah q,f];by_cases e:a=b
   ·rw[au e,au (by omega)]
   ·rw[ah e,ah (by omega)]
 |0,.nd _ _,_,_,_,h,_,_=>h.elim
 |_+1,.lf _,_,_,_,h,_,_=>h.elim
section
variable(f:Int->Int) (c:bA)
structure mZ (T:Tr) (L:List Int):Prop where
 len:(L.length:Int)=bB c
 C9:bB c<=2048
 fl:full 11 T
 at_:∀a:Nat,(a:Int)<bB c->L.getD a 0=sK f (kdM c a) (wP T a)
def Nv(w:Int)(k:Tk):Tk:={k with aN:=sQ f k.aN,buf:=sR f (od c) k.buf,next:=sR f (od c) k.next,word:=w,args:=sR f Jv k.args,found:=k.found.map (sO f),res:=sS f k.res}
def sN(w:Int)(L:List Int)(r:Rn):Rn:=⟨Nv f c w r.k,L,r.note,r.fR,r.ops.map (sO f)⟩
def kj(k:Tk)(w:Int):Prop:=(k.pc=12\/k.pc=23\/35<=k.pc->w=sK f 3 k.word)/\(k.pc=9\/k.pc=10\/k.pc=25\/k.pc=26->w=k.word)
def wS(a:Rn)(p:Rn×Tr):Prop:=∃L w,a=sN f c w L p.1/\kj f p.1.k w/\mZ f c p.2 L
def JA(L:List Int)(b a:Rn):Prop:=∃w,b=sN f c w L a/\kj f a.k w
end
section
variable{f:Int->Int} {c:bA} {T:Tr} {L:List Int} {t w:Int} {r:Rn} {p:Rn×Tr}
theorem Nw(f:Int->Int)(c:bA)(w:Int)(L:List Int)(r:Rn):(sN f c w L r).L=L/\(sN f c w L r).k.pc=r.k.pc/\(sN f c w L r).k.seq=r.k.seq/\(sN f c w L r).k.aN=sQ f r.k.aN/\(sN f c w L r).k.ke=r.k.ke/\(sN f c w L r).k.round=r.k.round/\(sN f c w L r).k.i=r.k.i/\(sN f c w L r).k.j=r.k.j/\(sN f c w L r).k.bS=r.k.bS/\(sN f c w L r).k.fW=r.k.fW/\(sN f c w L r).k.all=r.k.all/\(sN f c w L r).k.base=r.k.base/\(sN f c w L r).k.buf=sR f (od c) r.k.buf/\(sN f c w L r).k.next=sR f (od c) r.k.next/\(sN f c w L r).k.word=w/\(sN f c w L r).k.args=sR f Jv r.k.args/\(sN f c w L r).k.found=r.k.found.map (sO f)/\(sN f c w L r).k.seen=r.k.seen/\(sN f c w L r).k.aA=r.k.aA/\(sN f c w L r).k.res=sS f r.k.res/\(sN f c w L r).k.fR=r.k.fR/\(sN f c w L r).k.waits=r.k.waits/\(sN f c w L r).k.iN=r.k.iN/\(sN f c w L r).note=r.note/\(sN f c w L r).fR=r.fR/\(sN f c w L r).ops=r.ops.map (sO f):=⟨rfl,rfl,rfl,rfl,rfl,rfl,rfl,rfl,rfl,rfl,rfl,rfl,rfl,rfl,rfl,rfl,rfl,rfl,rfl,rfl,rfl,rfl,rfl,rfl,rfl,rfl⟩
theorem JA.st{a:Rn}(h:JA f c L a r1)(b:mZ f c T L):wS f c a (r1,T):=h.elim fun w h=>⟨L,w,h.1,h.2,b⟩
theorem eJ{a:Int}{F:Int->Et}(h:rk c T kd a F=some p)(d:mZ f c T L):∃v,ay L a=sK f kd v/\F v=some p:=by
 unfold rk rdE at h;split at h
 ·cases h
 ·rename_i v b;split at b
  ·rename_i e;injection b with b
   refine⟨v,?_,h⟩;unfold ay;rw[ah (by omega),d.at_ _ (by omega),e.2.2,b]
  ·cases b
theorem JB{g:Tr}{a x:Int}(h:wrE c T kd a x=some g)(d:mZ f c T L):mZ f c g (setAt L a (sK f kd x)):=by
 unfold wrE at h;split at h
 ·rename_i j;injection h with h
  subst h;have k:=d.C9;have l:=d.len;unfold setAt;rw[ah (by omega)];refine⟨by rw[cq];exact d.len,k,oh _ _ _ _ d.fl,fun b i=>?_⟩;rw[xo 11 T _ _ _ d.fl (by omega) (by omega)];split
  ·rename_i e;rw[<-e,j.2.2,cZ,List.getElem?_set_self (by omega)];rfl
  ·rename_i e;rw[cZ,List.getElem?_set_ne e, <-cZ];exact d.at_ b i
 ·cases h
theorem gB{a x:Int}(h:wk c T kd a x r1=some p)(d:mZ f c T L):p.1=r1/\mZ f c p.2 (setAt L a (sK f kd x)):=by
 unfold wk at h;split at h
 ·cases h
 ·rename_i e b;injection h with h
  subst h;exact⟨rfl,JB b d⟩
theorem kV{b:Bool}{e:Et}(h:gd b e=some p):b=true/\e=some p:=by
 unfold gd at h;split at h
 ·exact⟨by assumption,h⟩
 ·cases h
theorem kj.mU{k:Tk}(h:decide (k.pc<35/\k.pc≠12/\k.pc≠23/\k.pc≠9/\k.pc≠10/\k.pc≠25/\k.pc≠26)=true):kj f k w:=by rw[bP]at h;exact⟨by omega,by omega⟩
theorem JC:JA f c L (Rn.again c (sN f c w L r)) (Rn.again c r):=by
 refine⟨w,?_,?_⟩
 ·show(if r.k.ke=false/\c.aF<r.k.round then _ else if r.k.ke=true/\3<r.k.round then _ else _)=_;unfold Rn.again;split
  ·rfl
  split<;>rfl
 ·unfold Rn.again;split
  ·exact kj.mU rfl
  split<;>exact kj.mU rfl
theorem Gw:JA f c L (Rn.fail c (sN f c w L r)) (Rn.fail c r):=JC (r:={r with k:={r.k with round:=r.k.round+1,found:=[]}})
theorem Pc(a:jb f):JA f c L (Rn.take c (sN f c w L r)) (Rn.take c r):=by
 unfold Rn.take;dsimp only;show JA f c L (if(jA r.k.aA c.tags).2=true then _ else if 0<(jA r.k.aA c.tags).1.old.length/\r.k.iN=false then _ else _) _;split
 ·exact JC (r:={r with k:={r.k with aA:=(jA r.k.aA c.tags).1,iN:=false}})
 split
 ·exact⟨w,rfl,kj.mU rfl⟩
 ·refine⟨w,?_,kj.mU rfl⟩;unfold Rn.refuse;show Rn.mk _ _ _ _ _=_;congr 1;show Tk.mk ..=Tk.mk ..;congr 1;show Rs.mk _ _ _ _=sS f (Rs.mk _ _ _ _);unfold sS;dsimp only;rw[a.fz];rfl
theorem uT:JA f c L (Rn.ee c (sN f c w L r)) (Rn.ee c r):=by unfold Rn.ee;show JA f c L (if r.k.i+1=c.threads then _ else _) _;split<;>exact⟨w,rfl,kj.mU rfl⟩
theorem Pd(d a:Int)(q:Rq)(o:Pl)(s:Rs)(b:Bool):eY d a (sQ f q) o (sS f s) b=Nv f c 0 (eY d a q o s b):=rfl
theorem Pf:JA f c L (Rn.finish (sN f c w L r)) (Rn.finish r):=⟨0,rfl,kj.mU rfl⟩
theorem uU(a:jb f):JA f c L (Rn.cB c (sN f c w L r)) (Rn.cB c r):=by
 unfold Rn.cB;show JA f c L (if r.k.iN=true then _ else _) _;split
 ·exact Pc a
 ·exact⟨w,rfl,kj.mU rfl⟩
theorem Ce:JA f c L (Rn.owned c (sN f c w L r)) (Rn.owned c r):=by
 unfold Rn.owned;show JA f c L (if r.k.waits=true then _ else if needs r.k.aA c.aL=true then _ else _) _;split
 ·exact Pf
 split<;>exact⟨w,rfl,kj.mU rfl⟩
theorem Ui(i:jb f)(a:mZ f c T L)(h:Gl c t r T=some p)(j:1<=r.k.pc/\r.k.pc<=5):wS f c (Rn.enter c t (sN f c w L r)) p:=by
 unfold Gl at h;unfold Rn.enter;rcases(by omega:r.k.pc=1\/r.k.pc=2\/r.k.pc=3\/r.k.pc=4\/r.k.pc=5)with e|e|e|e|e
 all_goals
  simp only[e,Nw, ↓reduceIte,Int.reduceEq]at h ⊢
 ·obtain⟨v,b,h⟩:=eJ h a;injection h with h
  subst h;rw[b];exact⟨L,w,rfl,kj.mU rfl,a⟩
 ·obtain⟨d,g⟩:=gB h a;have:=(Pc (c:=c) (L:=setAt L (nL c t) (ig r.k.fW)) (w:=w) (r:=r) i).st g;rw[<-d]at this;exact this
 ·obtain⟨v,b,h⟩:=eJ h a;injection h with h
  subst h;rw[b];exact⟨L,w,rfl,kj.mU rfl,a⟩
 ·obtain⟨d,g⟩:=gB h a;exact⟨_,w,by rw[d];rfl,by rw[d];exact kj.mU rfl,g⟩
 ·obtain⟨v,b,h⟩:=eJ h a;injection h with h
  subst h;rw[b];show wS f c (if v≠bF r.k.base then Rn.fail c (sN f c w L r)else Rn.pc (sN f c w L r) 6) _;split
  ·exact Gw.st a
  ·exact⟨L,w,rfl,kj.mU rfl,a⟩
end
end Mo
namespace Mo
section
variable{f:Int->Int} {c:bA} {T:Tr} {L:List Int} {t w:Int} {r:Rn} {p:Rn×Tr}
theorem Cf(h:jb f){i:Int}(a:Xa c i=true)(l:List Int):jq c (sR f (od c) l) i=sK f 3 (jq c l i):=by
 unfold Xa at a;simp only[cA,bP,beq_iff_eq]at a;unfold jq;rw[B8];split
 ·exact(KZ h 3).symm
 ·rw[ym h,a.2]
theorem Cg(h:jb f){i:Int}(a:Xa c i=true)(l:List Int):eT c (sR f (od c) l) i=sS f (eT c l i):=by unfold eT;rw[Cf h a,pd h]
theorem Pg(j:jb f)(a:mZ f c T L)(h:BV c t r T=some p)(g:r.k.pc=6\/r.k.pc=7):wS f c (Rn.eZ c t (sN f c w L r)) p:=by
 unfold BV at h;unfold Rn.eZ;rcases g with e|e
 all_goals
  simp only[e,Nw, ↓reduceIte,Int.reduceEq]at h ⊢
 ·obtain⟨v,d,h⟩:=eJ h a;injection h with h
  subst h;rw[d];show wS f c (if v≠r.k.base.tag then Rn.fail c (sN f c w L r)else _) _;split
  ·exact Gw.st a
  ·exact⟨L,w,rfl,kj.mU rfl,a⟩
 ·obtain⟨v,d,h⟩:=eJ h a;obtain⟨i,h⟩:=kV h;rw[d, <-O4,Cg j i];generalize r.k.buf++[v]=b at *;show wS f c (if r.k.i+1<bn c then _ else if r.k.ke=true/\(eT c b t).seq=r.k.seq then _ else _) p;split at h
  ·injection h with h
   subst h;rw[au (by assumption)];exact⟨L,w,rfl,kj.mU rfl,a⟩
  ·rw[ah (by assumption)];injection h with h
   subst h;split
   ·exact⟨L,w,rfl,kj.mU rfl,a⟩
   ·exact⟨L,w,rfl,kj.mU rfl,a⟩
theorem Uj(h:jb f)(u:(eC l).2.2=true):eC (sR f Jv l)=(sQ f (eC l).1,(eC l).2):=by
 have c:=u;unfold eC at c;dsimp only at c;split at c
 ·rename_i r;obtain⟨b,g,j,a⟩:=r;have e:eC l=(⟨l.getD 0 0%256,l.getD 0 0/65536%65536,l.getD 0 0/4294967296,l.getD 0 0/4096%2==1,((l.drop 1).take (l.getD 0 0/256%16).toNat).map pZ⟩,l.getD 4 0,true):=by
   unfold eC;dsimp only;rw[au ⟨b,g,j,a⟩]
  rw[e];generalize q:(⟨l.getD 0 0%256,l.getD 0 0/65536%65536,l.getD 0 0/4294967296,l.getD 0 0/4096%2==1,((l.drop 1).take (l.getD 0 0/256%16).toNat).map pZ⟩:Rq)=Q at *;have o:(sR f Jv l).getD 0 0=l.getD 0 0:=pj h 0;have p:(sR f Jv l).getD 4 0=l.getD 4 0:=pj h 4;have m:(⟨l.getD 0 0%256,l.getD 0 0/65536%65536,l.getD 0 0/4294967296,l.getD 0 0/4096%2==1,(((sR f Jv l).drop 1).take (l.getD 0 0/256%16).toNat).map pZ⟩:Rq)=sQ f Q:=by
   rw[<-q];unfold sQ;dsimp only;rw[pn,tK,uS (k:=2) (n:=3) (fun i s=>by match i,s with|0,_=>rfl|1,_=>rfl|2,_=>rfl) (by rw[fF];omega),List.map_map,List.map_map];congr 2;funext x
   exact O0 h x
  have d:(bk Q && fits (l.getD 4 0) 4294967296)=true:=by
   cases t:(bk Q && fits (l.getD 4 0) 4294967296)with
   |true=>rfl
   |false=>unfold iM at a;rw[t,ah (by decide)]at a;rw[<-a]at b;cases b
  rw[cA]at d;unfold eC;dsimp only;rw[o,p,m,au ⟨by rw[B8];exact b,g,j,by rw[Jy h d.1 d.2,a]⟩]
 ·cases c
theorem Ph(j:jb f)(b:mZ f c T L)(k:kj f r.k w)(h:BW c r T=some p)(m:8<=r.k.pc/\r.k.pc<=10):wS f c (Rn.fc c (sN f c w L r)) p:=by
 unfold BW at h;unfold Rn.fc;rcases(by omega:r.k.pc=8\/r.k.pc=9\/r.k.pc=10)with e|e|e
 all_goals
  simp only[e,Nw, ↓reduceIte,Int.reduceEq]at h ⊢
 ·obtain⟨v,g,h⟩:=eJ h b;obtain⟨i,h⟩:=kV h;injection h with h
  subst h;rw[g];show wS f c (if 1048575<v\/v<=(eT c (sR f (od c) r.k.buf) r.k.i).seq then _ else _) _;rw[Cg j i];show wS f c (if 1048575<v\/v<=(eT c r.k.buf r.k.i).seq then _ else _) _;split
  ·exact(uT (w:=v) (r:={r with k:={r.k with word:=v}})).st b
  ·exact⟨L,v,rfl,⟨fun h=>absurd (show(9:Int)=12\/(9:Int)=23\/(35:Int)<=9 from h) (by decide),fun _=>rfl⟩,b⟩
 ·obtain⟨v,g,h⟩:=eJ h b;injection h with h
  subst h;have d:w=r.k.word:=k.2 (.inl e);rw[g, <-O4];exact⟨L,w,rfl,⟨fun h=>by
   have h:(if r.k.j+1=5 then(10:Int)else 9)=12\/(if r.k.j+1=5 then(10:Int)else 9)=23\/35<=(if r.k.j+1=5 then(10:Int)else 9):=h
   split at h<;>omega,fun _=>d⟩,b⟩
 ·obtain⟨v,g,h⟩:=eJ h b;obtain⟨i,h⟩:=kV h;injection h with h
  subst h;have d:w=r.k.word:=k.2 (.inr (.inl e));subst d;rw[g];rw[Uj j i];dsimp only;by_cases a:v=r.k.word
  ·rw[au ⟨a,i⟩,au a];have:=(uT (f:=f) (c:=c) (L:=L) (w:=r.k.word) (r:={r with k:={r.k with pc:=10,found:=r.k.found++[⟨r.k.i,r.k.word,(eC r.k.args).2.1,(eC r.k.args).1⟩]}})).st b;have l:r.k.found.map (sO f)++[Op.mk r.k.i r.k.word (eC r.k.args).2.1 (sQ f (eC r.k.args).1)]=(r.k.found++[Op.mk r.k.i r.k.word (eC r.k.args).2.1 (eC r.k.args).1]).map (sO f):=by rw[List.map_append];rfl
   rw[l];exact this
  ·rw[ah (fun h=>a h.1),ah a];exact uT.st b
theorem tM{α:Type}(g:α->α)(d:α->α->Bool)(h:∀a b,d (g a) (g b)=d a b)(x:α):∀l,ij d (g x) (l.map g)=(ij d x l).map g
 |[]=>rfl
 |y::l=>by
  show(if d (g x) (g y)=true then g y::ij d (g x) (l.map g)else g x::g y::l.map g)=(if d x y=true then y::ij d x l else x::y::l).map g
  rw[h,tM g d h x l]
  split<;>rfl
theorem uV(g:α->α)(d:α->α->Bool)(h:∀a b,d (g a) (g b)=d a b)(l:List α):dX d (l.map g)=(dX d l).map g:=by
 unfold dX;rw[List.map_reverse];congr 1;suffices H:∀(l c:List α),(l.map g).foldl (fun c x=>ij d x c) (c.map g)=(l.foldl (fun c x=>ij d x c) c).map g from H l []
 intro l;induction l with
 |nil=>intro c;rfl
 |cons y l e=>intro c;rw[List.map_cons,List.foldl_cons,List.foldl_cons,tM g d h,e]
theorem Gx(i:jb f)(K:K0 c)(e:mZ f c T L)(h:DB c t r T=some p):wS f c (Rn.cU c t (sN f c w L r)) p:=by
 unfold DB at h;unfold Rn.cU;simp only[Nw];split at h
 ·injection h with h
  subst h;rw[au (by assumption)];exact⟨L,w,rfl,kj.mU rfl,e⟩
 ·rw[ah (by assumption)];dsimp only at h;have g:il (r.k.found.map (sO f))++(if r.k.ke=true then[]else[Op.mk t r.k.seq 0 (sQ f r.k.aN)])=(il r.k.found++if r.k.ke=true then[]else[Op.mk t r.k.seq 0 r.k.aN]).map (sO f):=by
   unfold il;rw[uV (sO f) _ fun a b=>rfl,List.map_append];congr 1;split<;>rfl
  rw[g];generalize(il r.k.found++if r.k.ke=true then[]else[Op.mk t r.k.seq 0 r.k.aN])=d at *;split at h
  ·cases h
  ·rename_i l j;injection h with h
   subst h;rw[(Pb i K d _ l j).1];exact⟨L,w,rfl,kj.mU rfl,e⟩
theorem K2(a:jb f)(K:K0 c)(b:mZ f c T L)(o:kj f r.k w)(h:yj c t r T=some p)(m:r.k.pc=11\/r.k.pc=12):wS f c (Rn.eV c t (sN f c w L r)) p:=by
 unfold yj at h;unfold Rn.eV;rcases m with e|e
 all_goals
  simp only[e,Nw, ↓reduceIte,Int.reduceEq]at h ⊢;obtain⟨v,n,h⟩:=eJ h b;obtain⟨g,h⟩:=kV h;rw[n]
 ·rw[Cf a g,DF a];split at h
  ·rw[au (by assumption)];exact Gx (w:=sK f 3 v) (r:={r with k:={r.k with pc:=11,word:=v}}) a K b h
  ·rw[ah (by assumption)];injection h with h
   subst h;exact⟨L,sK f 3 v,rfl,⟨fun _=>rfl,fun h=>absurd (show(12:Int)=9\/(12:Int)=10\/(12:Int)=25\/(12:Int)=26 from h) (by decide)⟩,b⟩
 ·rw[cA]at g;have k:=o.1 (.inl e);subst k;have i:=Jx a g.2;rw[Cf a g.1];by_cases d:v=r.k.word
  ·rw[au d]at h;split at h
   ·cases h
   ·rename_i q l;rw[au (.inl (i.2 d)),au (i.2 d)];exact Gx (w:=sK f 3 r.k.word) (r:={r with k:={r.k with pc:=12,bS:=r.k.bS+1}}) a K (JB l b) h
  ·have j:=fun h=>d (i.1 h);rw[ah d]at h;rw[ah j];split at h
   ·rw[au (.inr (by assumption))];exact Gx (w:=sK f 3 r.k.word) (r:={r with k:={r.k with pc:=12,bS:=r.k.bS+1}}) a K b h
   ·rw[ah (fun h=>h.elim j (by assumption))];injection h with h
    subst h;exact⟨L,sK f 3 r.k.word,rfl,kj.mU rfl,b⟩
end
end Mo
namespace Mo
section
variable{f:Int->Int} {c:bA} {T:Tr} {L:List Int} {t w:Int} {r:Rn} {p:Rn×Tr}
theorem Pj(i:jb f)(d:mZ f c T L)(h:BX c t r T=some p)(k:13<=r.k.pc/\r.k.pc<=15):wS f c (Rn.writes c t (sN f c w L r)) p:=by
 unfold BX at h;unfold Rn.writes;rcases(by omega:r.k.pc=13\/r.k.pc=14\/r.k.pc=15)with e|e|e
 all_goals simp only[e,Nw, ↓reduceIte,Int.reduceEq]at h ⊢
 ·obtain⟨a,b⟩:=gB h d;exact⟨_,w,by rw[a];rfl,by rw[a];exact kj.mU rfl,b⟩
 ·obtain⟨g,h⟩:=kV h;obtain⟨a,b⟩:=gB h d;rw[ym i,B8];refine⟨setAt L (bu c r.k.aA.own.ix+1+r.k.i) (sK f (od c r.k.i.toNat) (ay r.k.next r.k.i)),w,?_,?_,b⟩
  ·rw[a];split<;>rfl
  ·rw[a];split<;>exact kj.mU rfl
 ·obtain⟨v,j,h⟩:=eJ h d;rw[j];show wS f c (if v≠bF r.k.base then Rn.fail c (sN f c w L r)else _) p;split at h
  ·rw[au (by assumption)];injection h with h
   subst h;exact Gw.st d
  ·rw[ah (by assumption)];obtain⟨g,h⟩:=kV h;obtain⟨a,b⟩:=gB h d;rw[Cg i g];exact⟨_,w,by rw[a];rfl,by rw[a];exact kj.mU rfl,b⟩
theorem Gy(g:jb f)(b:mZ f c T L)(h:uP c t r T=some p)(m:16<=r.k.pc/\r.k.pc<=19):wS f c (Rn.bT c t (sN f c w L r)) p:=by
 unfold uP at h;unfold Rn.bT;rcases(by omega:r.k.pc=16\/r.k.pc=17\/r.k.pc=18\/r.k.pc=19)with e|e|e|e
 all_goals simp only[e,Nw, ↓reduceIte,Int.reduceEq]at h ⊢
 ·obtain⟨v,i,h⟩:=eJ h b;obtain⟨k,h⟩:=kV h;obtain⟨a,d⟩:=gB h b;rw[i];show wS f c (Rn.mk {(sN f c w L r).k with pc:=17,args:=iM (sQ f r.k.aN) (v%4294967296),j:=0} (setAt L 2 ((v+1)%18446744073709551616)) r.note r.fR _) p;rw[Jy g k (by unfold fits;rw[bP];omega)];exact⟨_,w,by rw[a];rfl,by rw[a];exact kj.mU rfl,d⟩
 ·obtain⟨k,h⟩:=kV h;obtain⟨a,d⟩:=gB h b;rw[ym g];refine⟨_,w,by rw[a];rfl,?_,d⟩;rw[a];by_cases j:r.k.j+1=5
  ·simp only[au j];exact kj.mU rfl
  ·simp only[ah j];exact kj.mU rfl
 ·obtain⟨a,d⟩:=gB h b;exact⟨_,w,by rw[a];rfl,by rw[a];exact kj.mU rfl,d⟩
 ·obtain⟨v,i,h⟩:=eJ h b;injection h with h
  subst h;rw[i,pd g];exact⟨L,w,rfl,kj.mU rfl,b⟩
theorem Zi(k:jb f)(a:mZ f c T L)(q:kj f r.k w)(h:OY c t r T=some p)(s:20<=r.k.pc/\r.k.pc<=23):wS f c (Rn.ends c t (sN f c w L r)) p:=by
 unfold OY at h;unfold Rn.ends;rcases(by omega:r.k.pc=20\/r.k.pc=21\/r.k.pc=22\/r.k.pc=23)with e|e|e|e
 all_goals simp only[e,Nw, ↓reduceIte,Int.reduceEq]at h ⊢
 ·obtain⟨j,b⟩:=gB h a;refine⟨_,w,by rw[j];rfl,?_,b⟩;rw[j];by_cases m:r.k.fR=true
  ·simp only[au m];exact kj.mU rfl
  ·simp only[ah m];exact kj.mU rfl
 ·obtain⟨v,i,h⟩:=eJ h a;injection h with h
  subst h;rw[i];exact⟨L,w,rfl,kj.mU rfl,a⟩
 ·obtain⟨v,i,h⟩:=eJ h a;obtain⟨g,h⟩:=kV h;injection h with h
  subst h;rw[i,BZ k g,DF k];split
  ·exact(Ce (w:=sK f 3 v) (r:={r with k:={r.k with pc:=22,word:=v}})).st a
  ·exact⟨L,sK f 3 v,rfl,⟨fun _=>rfl,fun h=>absurd (show(23:Int)=9\/(23:Int)=10\/(23:Int)=25\/(23:Int)=26 from h) (by decide)⟩,a⟩
 ·obtain⟨v,i,h⟩:=eJ h a;obtain⟨g,h⟩:=kV h;rw[cA]at g;have o:=q.1 (.inr (.inl e));subst o;have l:=Jx k g.2;rw[i,BZ k g.1];by_cases d:v=r.k.word
  ·rw[au d]at h;obtain⟨j,b⟩:=gB h a;rw[au (.inl (l.2 d)),au (l.2 d)];have:=(Ce (c:=c) (w:=sK f 3 r.k.word) (L:=setAt L (bZ c t) (sK f 3 (fG r.k.res))) (r:={r with k:={r.k with pc:=22,bS:=r.k.bS+1}})).st b;rw[<-j]at this;exact this
  ·have n:=fun h=>d (l.1 h);rw[ah d]at h;rw[ah n];injection h with h
   subst h;by_cases b:r.k.bS+1=2
   ·rw[au (.inr b),au b];exact(Ce (w:=sK f 3 r.k.word) (r:={r with k:={r.k with pc:=22,bS:=r.k.bS+1}})).st a
   ·rw[ah (fun h=>h.elim n b),ah b];exact⟨L,sK f 3 r.k.word,rfl,kj.mU rfl,a⟩
theorem K3(i:jb f)(a:mZ f c T L)(k:kj f r.k w)(h:yl c t r T=some p)(o:24<=r.k.pc/\r.k.pc<=27):wS f c (Rn.cV c t (sN f c w L r)) p:=by
 unfold yl at h;unfold Rn.cV;rcases(by omega:r.k.pc=24\/r.k.pc=25\/r.k.pc=26\/r.k.pc=27)with e|e|e|e
 all_goals simp only[e,Nw, ↓reduceIte,Int.reduceEq]at h ⊢
 all_goals
  obtain⟨v,n,h⟩:=eJ h a;rw[n]
 ·injection h with h
  subst h;show wS f c (if needs (eU r.k.aA v) c.aL=false then _ else _) _;split
  ·exact(uU (w:=v) (r:={r with k:={r.k with word:=v,aA:=eU r.k.aA v,i:=0,all:=true,pc:=25}}) i).st a
  ·exact⟨L,v,rfl,⟨fun h=>absurd (show(25:Int)=12\/(25:Int)=23\/(35:Int)<=25 from h) (by decide),fun _=>rfl⟩,a⟩
 ·have g:w=r.k.word:=k.2 (.inr (.inr (.inl e)));subst g;injection h with h
  subst h;show wS f c (if r.k.i+1<c.threads then _ else _) _;split
  ·exact⟨L,r.k.word,rfl,⟨fun h=>absurd (show(25:Int)=12\/(25:Int)=23\/(35:Int)<=25 from h) (by decide),fun _=>rfl⟩,a⟩
  ·refine⟨L,r.k.word,rfl,?_,a⟩;by_cases j:(r.k.all && (decide (r.k.i=t) || lets v r.k.word))=true
   ·simp only[sK,au j];exact⟨fun h=>absurd (show(26:Int)=12\/(26:Int)=23\/(35:Int)<=26 from h) (by decide),fun _=>rfl⟩
   ·simp only[sK,ah j];exact kj.mU rfl
 ·have g:w=r.k.word:=k.2 (.inr (.inr (.inr e)));subst g;rw[show sK f 0 v=v from rfl];have E:∀d (q:Rn),q.k.word=r.k.word->JA f c d (if needs q.k.aA c.aL=false then Rn.cB c (sN f c r.k.word d (q.pc 27))else sN f c r.k.word d (q.pc 27)) (if needs q.k.aA c.aL=false then Rn.cB c (q.pc 27)else q.pc 27):=fun d q s=>by
   split
   ·exact uU i
   ·exact⟨_,rfl,kj.mU rfl⟩
  by_cases b:v=r.k.word
  ·rw[au b]at h;obtain⟨l,m⟩:=gB h a;simp only[au b];have:=(E (setAt L 1 (r.k.word+1)) {r with k:={r.k with pc:=26,aA:=eU r.k.aA (r.k.word+1)}} rfl).st m;rw[show p=(p.1,p.2)from rfl,l];exact this
  ·rw[ah b]at h;injection h with h
   subst h;simp only[ah b];exact(E L r rfl).st a
 ·injection h with h
  subst h;show wS f c (if r.k.i+1=c.threads then _ else _) _;split
  ·exact(uU (w:=w) (r:={r with k:={r.k with pc:=27,seen:=r.k.seen++[v],i:=r.k.i+1,aA:=lU r.k.aA (r.k.seen++[v])}}) i).st a
  ·exact⟨L,w,rfl,kj.mU rfl,a⟩
theorem Uk(e:mZ f c T L)(h:Gp c t r T=some p):wS f c (Rn.leave c t (sN f c w L r)) p:=by
 unfold Gp at h;unfold Rn.leave;obtain⟨a,b⟩:=gB h e;show wS f c (if r.k.res.code≠14 then _ else _) p;by_cases d:r.k.res.code≠14
 ·rw[au d]at a ⊢;exact⟨_,0,by rw[a];rfl,by rw[a];exact kj.mU rfl,b⟩
 ·rw[ah d]at a ⊢;exact⟨_,0,by rw[a];rfl,by rw[a];exact kj.mU rfl,b⟩
theorem Ul(i:jb f)(a:mZ f c T L)(h:Gm c t r T=some p)(j:29<=r.k.pc/\r.k.pc<=33):wS f c (Rn.waits c t (sN f c w L r)) p:=by
 unfold Gm at h;unfold Rn.waits;rcases(by omega:r.k.pc=29\/r.k.pc=30\/r.k.pc=31\/r.k.pc=32\/r.k.pc=33)with e|e|e|e|e
 all_goals simp only[e,Nw, ↓reduceIte,Int.reduceEq]at h ⊢
 ·obtain⟨v,d,h⟩:=eJ h a;injection h with h
  subst h;rw[d,Jw (k:=r.k) (k':=(sN f c w L r).k) i rfl,pd i];split
  ·exact⟨L,0,rfl,kj.mU rfl,a⟩
  ·exact⟨L,w,rfl,kj.mU rfl,a⟩
 ·obtain⟨v,d,h⟩:=eJ h a;injection h with h
  subst h;rw[d];exact⟨L,w,rfl,kj.mU rfl,a⟩
 ·obtain⟨b,g⟩:=gB h a;exact⟨_,w,by rw[b];rfl,by rw[b];exact kj.mU rfl,g⟩
 ·obtain⟨v,d,h⟩:=eJ h a;injection h with h
  subst h;rw[d];exact⟨L,w,rfl,kj.mU rfl,a⟩
 ·obtain⟨b,g⟩:=gB h a;exact⟨_,w,by rw[b];rfl,by rw[b];exact kj.mU rfl,g⟩
theorem Um(j:jb f)(b:mZ f c T L)(m:kj f r.k w)(h:Gn c t r T=some p)(n:34<=r.k.pc/\r.k.pc<=38):wS f c (Rn.waits c t (sN f c w L r)) p:=by
 unfold Gn at h;unfold Rn.waits;rcases(by omega:r.k.pc=34\/r.k.pc=35\/r.k.pc=36\/r.k.pc=37\/r.k.pc=38)with e|e|e|e|e
 all_goals simp only[e,Nw, ↓reduceIte,Int.reduceEq]at h ⊢
 ·obtain⟨v,g,h⟩:=eJ h b;injection h with h
  subst h;rw[g];refine⟨L,0,rfl,⟨fun _=>(KZ j 3).symm,fun h=>?_⟩,b⟩;have h:(if v=bF r.k.base then(35:Int)else 37)=9\/(if v=bF r.k.base then(35:Int)else 37)=10\/(if v=bF r.k.base then(35:Int)else 37)=25\/(if v=bF r.k.base then(35:Int)else 37)=26:=h;split at h<;>omega
 ·obtain⟨v,g,h⟩:=eJ h b;injection h with h
  subst h;rw[g];have d:=m.1 (.inr (.inr (by omega)));refine⟨L,w,rfl,⟨fun _=>d,fun h=>?_⟩,b⟩;have h:(if v=r.k.base.tag then(36:Int)else 37)=9\/(if v=r.k.base.tag then(36:Int)else 37)=10\/(if v=r.k.base.tag then(36:Int)else 37)=25\/(if v=r.k.base.tag then(36:Int)else 37)=26:=h;split at h<;>omega
 ·obtain⟨v,g,h⟩:=eJ h b;injection h with h
  subst h;rw[g];exact⟨L,sK f 3 v,rfl,⟨fun _=>rfl,fun h=>absurd (show(37:Int)=9\/(37:Int)=10\/(37:Int)=25\/(37:Int)=26 from h) (by decide)⟩,b⟩
 ·obtain⟨a,i⟩:=gB h b;have d:=m.1 (.inr (.inr (by omega)));exact⟨_,w,by rw[a];rfl,by rw[a];exact⟨fun _=>d,fun h=>absurd (show(38:Int)=9\/(38:Int)=10\/(38:Int)=25\/(38:Int)=26 from h) (by decide)⟩,i⟩
 ·obtain⟨a,i⟩:=gB h b;have d:=m.1 (.inr (.inr (by omega)));subst d;rw[Jw (k:=r.k) (k':=(sN f c (sK f 3 r.k.word) L r).k) j rfl,pd j];split
  ·rw[au (by assumption)]at a;exact⟨_,sK f 3 r.k.word,by rw[a];rfl,by rw[a];exact kj.mU rfl,i⟩
  ·rw[ah (by assumption)]at a;exact⟨_,sK f 3 r.k.word,by rw[a];rfl,by rw[a];exact kj.mU rfl,i⟩
theorem Zj(b:jb f)(K:K0 c)(a:mZ f c T L)(j:kj f r.k w)(h:OZ c t r T=some p)(s:1<=r.k.pc/\r.k.pc<=38):wS f c (eD c t (sN f c w L r)) p:=by
 unfold OZ at h;unfold eD;simp only[Nw];rw[ah (by omega)];by_cases d:r.k.pc<=5
 ·rw[au (by omega),au d]at h;rw[au d];exact Ui b a h ⟨by omega,d⟩
 rw[ah d];by_cases g:r.k.pc<=7
 ·rw[au (by omega),ah d,au g]at h;rw[au g];exact Pg b a h (by omega)
 rw[ah g];by_cases k:r.k.pc<=10
 ·rw[au (by omega),ah d,ah g,au k]at h;rw[au k];exact Ph b a j h (by omega)
 rw[ah k];by_cases o:r.k.pc<=12
 ·rw[au (by omega),ah d,ah g,ah k]at h;rw[au o];exact K2 b K a j h (by omega)
 rw[ah o]at h ⊢;by_cases i:r.k.pc<=15
 ·rw[au (by omega),au i]at h;rw[au i];exact Pj b a h (by omega)
 rw[ah i];by_cases l:r.k.pc<=19
 ·rw[au (by omega),ah i,au l]at h;rw[au l];exact Gy b a h (by omega)
 rw[ah l];by_cases n:r.k.pc<=23
 ·rw[au n,ah i,ah l]at h;rw[au n];exact Zi b a j h (by omega)
 rw[ah n]at h ⊢;by_cases m:r.k.pc<=27
 ·rw[au (by omega),au m]at h;rw[au m];exact K3 b a j h (by omega)
 rw[ah m];by_cases q:r.k.pc=28
 ·rw[au (by omega),ah m]at h;rw[au q];exact Uk a h
 rw[ah (by omega)]at h ⊢;by_cases e:r.k.pc<=33
 ·rw[au e]at h;exact Ul b a h (by omega)
 ·rw[ah e]at h;exact Um b a j h (by omega)
end
end Mo
namespace Mo
section
variable(f:Int->Int)
def sP(p:Pm):Pm:={p with value:=fi f p.value}
structure MR (n:Nat) (x:Mc) (y:Me):Prop where
 c:x.c=cg n
 L:mZ f (cg n) y.L x.L
 T:x.T.length=y.T.length
 tk:∀(t:Nat) (k:Tk),y.T[t]?=some k->∃w,x.T[t]?=some (Nv f (cg n) w k)/\kj f k w
 P:x.P=y.P.map (sP f)
 V:(x.V.map fun v=>v.ops.length).sum=y.V
end
section
variable{f:Int->Int} {n:Nat} {x:Mc} {y y1:Me} {t:Nat} {q:Rq}
theorem MR.Zk(h:MR f n x y)(d:t<y.T.length):∃w,bm x t=Nv f (cg n) w (y.T.getD t lY)/\kj f (y.T.getD t lY) w:=by
 have e:y.T[t]?=some (y.T.getD t lY):=by rw[cZ,cY d];rfl
 obtain⟨w,a,b⟩:=h.tk t _ e;refine⟨w,?_,b⟩;unfold bm;rw[cZ,a];rfl
theorem MR.pm_(a:jb f)(h:MR f n x y):gH x t=sP f (y.P.getD t kA):=by
 unfold gH;rw[h.P,cZ,cZ,List.getElem?_map];cases y.P[t]? with
 |none=>unfold sP kA;dsimp only[Option.map_none,Option.getD_none];rw[a.fz]
 |some p=>rfl
theorem MR.same(h:MR f n x y)(m:x'.c=x.c)(r:x'.L=x.L)(j:x'.T=x.T)(s:x'.P=x.P)(u:x'.V=x.V):MR f n x' y:=by obtain⟨a,b,c,d,e,g⟩:=h;exact⟨m.trans a,r▸b,j▸c,j▸d,s.trans e,u▸g⟩
theorem MR.rG(h:MR f n x y){k:Tk}{w:Int}(r:kj f k w)(g:x'.c=x.c)(j:x'.L=x.L)(d:x'.T=x.T.set t (Nv f (cg n) w k))(m:x'.P=x.P)(p:x'.V=x.V):MR f n x' {y with T:=y.T.set t k}:=by
 refine⟨g.trans h.c,j▸h.L,by rw[d,cq,cq];exact h.T,fun s i b=>?_,m.trans h.P,p▸h.V⟩;rw[d];by_cases e:t=s
 ·subst e;have c:t<y.T.length:=by
   have:=List.getElem?_eq_some_iff.1 b;obtain⟨a,-⟩:=this;rwa [cq]at a
  rw[List.getElem?_set_self c]at b;injection b with b
  subst b;exact⟨w,by rw[List.getElem?_set_self (by rw[h.T];exact c)],r⟩
 ·rw[List.getElem?_set_ne e]at b;rw[List.getElem?_set_ne e];exact h.tk s i b
theorem Pk(a:jb f){c:bA}{k:Tk}(w:Int)(h:(dE c k q).2=0):dE c (Nv f c w k) (sQ f q)=(Nv f c 0 (dE c k q).1,0)/\k.pc=0/\(dE c k q).1.pc=1/\bk q=true:=by
 unfold dE at h ⊢;split at h
 ·exact absurd h (show ¬(13:Int)=0 by decide)
 rename_i b;split at h
 ·exact absurd h (show ¬(1:Int)=0 by decide)
 rename_i d;split at h
 ·exact absurd h (show ¬(7:Int)=0 by decide)
 rename_i e;have g:bk q=true:=by simpa using d
 rw[ah b,ah d,ah e,ah (show ¬(Nv f c w k).pc≠0 from b),ah (by rw[tJ a g];decide),ah (show ¬c.bG<=(Nv f c w k).seq from e)];refine⟨?_,by omega,rfl,g⟩;have:=Pd (f:=f) (c:=c) 1 (k.seq+1) q k.aA dD false;rw[Cb a]at this;show({eY 1 (k.seq+1) (sQ f q) k.aA dD false with round:=1},(0:Int))=_;rw[this];rfl
theorem JD(m:jb f)(h:MR f n x y)(o:t<y.T.length)(a:uQ (cg n) y t q=some y1):(cS x t (sQ f q)).2=0/\MR f n (cS x t (sQ f q)).1 y1/\(bm x t).pc=0/\bk q=true:=by
 obtain⟨w,b,p⟩:=h.Zk o;unfold uQ at a;dsimp only at a;split at a
 ·cases a
 ·rename_i l;injection a with a
  subst a;obtain⟨d,e,g,i⟩:=Pk (k:=y.T.getD t lY) (c:=cg n) m w (Decidable.of_not_not l);have j:dE x.c (bm x t) (sQ f q)=(Nv f (cg n) 0 (dE (cg n) (y.T.getD t lY) q).1,0):=by rw[h.c,b];exact d
  unfold cS;dsimp only;rw[j,ah (fun h=>h rfl)];exact⟨rfl,h.rG (w:=0) (kj.mU (by rw[g];rfl)) rfl rfl rfl rfl rfl,by rw[b];exact e,i⟩
theorem DL(a:jb f)(p:Pm):fe (sP f p)=(fe p).map (sQ f):=by
 unfold fe;show(if p.on=false\/p.over=true\/p.at_<0\/(p.outs.length:Int)<p.at_ then none else if p.shut=true/\p.at_<p.outs.length then _ else if p.shut=true then none else if p.at_=0 then _ else _)=_;split
 ·rfl
 split
 ·rfl
 split
 ·rfl
 split
 ·show some (jB 2 p.fp 0)=some (jB 2 p.fp (fi f 0));rw[a.fz]
 ·rfl
theorem Un(a:jb f)(p:Pm)(r:Rs):gG (sP f p) (sS f r)=sP f (gG p r):=by
 unfold gG;rw[DL a,Option.isNone_map];show(if(fe p).isNone=true then sP f p else if r.code=6\/r.code=11 then sP f p else if r.code=7 then _ else if p.shut=true then _ else if 0<p.at_ then _ else if r.code=0 then _ else _)=_;split
 ·rfl
 split
 ·rfl
 split
 ·rfl
 split
 ·rfl
 split
 ·rfl
 split<;>rfl
theorem Zl(b:jb f)(h:MR f n x y)(c:t<y.T.length)(a:DC (cg n) y t=some y1):MR f n (eL x t) y1:=by
 unfold DC at a;unfold eL;rw[h.pm_ b,DL b];split at a
 ·rename_i e;injection a with a
  subst a;rw[e];exact h
 ·rename_i q e;rw[e];obtain⟨w,j,-⟩:=h.Zk c;show MR f n (if(bm x t).pc≠0 then x else if(cS x t (sQ f q)).2≠0 then _ else(cS x t (sQ f q)).1) y1;split at a
  ·rename_i k;rw[au (by rw[j];exact k)];injection a with a
   subst a;exact h
  ·obtain⟨d,g,i,-⟩:=JD b h c a;rw[ah (by rw[i];decide),d,ah (by decide)];exact g
theorem Pn(b:jb f)(h:MR f n x y)(d:t<y.T.length)(a:AI (cg n) y t q=some y1):MR f n (iB x t (sQ f q)).1 y1:=by
 unfold AI at a;split at a
 ·cases a
 ·rename_i c;simp only[not_or,Bool.not_eq_true,Bool.not_eq_false]at c;obtain⟨w,m,-⟩:=h.Zk d;have k:MR f n {x with time:=x.time+1} y:=h.same rfl rfl rfl rfl rfl;obtain⟨e,g,i,j⟩:=JD b k d a;unfold iB;have l:(bm x t).pc=0:=i;rw[l,h.pm_ b,ah (by
   rw[tJ b j];show ¬((0:Int)≠0\/(y.P.getD t kA).on=true\/true=false);rw[c.2.1];decide)]
  dsimp only;rw[e,ah (by decide)];exact g
theorem K4{c:bA}(a:DC c y t=some y1):y1.T.length=y.T.length:=by
 unfold DC uQ at a;split at a
 ·injection a with a;subst a;rfl
 split at a
 ·injection a with a;subst a;rfl
 dsimp only at a;split at a
 ·cases a
 ·injection a with a;subst a;exact cq
theorem Gz(m:jb f)(K:K0 (cg n))(h:MR f n x y)(M:t<y.T.length)(d:DD (cg n) y t=some y1):MR f n (iO x t) y1/\y1.T.length=y.T.length:=by
 unfold DD at d;split at d
 ·cases d
 ·rename_i b A;have C:=K4 A;have G:MR f n {x with time:=x.time+1} y:=h.same rfl rfl rfl rfl rfl;have k:=Zl m G M A;unfold iO;dsimp only;generalize eL {x with time:=x.time+1} t=i at *;have u:t<b.T.length:=by omega
  obtain⟨w,q,N⟩:=k.Zk u;have I:=k.pm_ m (t:=t);split at d
  ·rename_i s;injection d with d
   subst d;rw[au (by rw[q];exact s)];exact⟨k,C⟩
  ·rename_i s;split at d
   ·cases d
   rename_i O;rw[ah (by rw[q];exact s)];split at d
   ·cases d
   ·rename_i r T J;injection d with d
    obtain⟨L,l,D,E,F⟩:=Zj (w:=w) m K k.L N J ⟨show 1<=(b.T.getD t lY).pc by omega,show(b.T.getD t lY).pc<=38 by omega⟩;have o:eD x.c t ⟨bm i t,i.L,0,false,[]⟩=sN f (cg n) l L r:=by rw[h.c,q];exact D
    rw[o];generalize z:(if(bm i t).waits=true then i else{i with S:=i.S.set t (i.S.getD t 0+1),M:=i.M.set t (max (i.M.getD t 0) (i.S.getD t 0+1))})=e;have j:MR f n e b:=by
     rw[<-z];split
     ·exact k
     ·exact k.same rfl rfl rfl rfl rfl
    have H:((if r.fR=true then e.V++[⟨e.time,t,r.ops.map (sO f)⟩]else e.V).map fun v=>v.ops.length).sum=if r.fR=true then b.V+r.ops.length else b.V:=by
     split
     ·rw[List.map_append,List.sum_append,j.V];simp
     ·exact j.V
    have B:MR f n {e with T:=e.T.set t (Nv f (cg n) l r.k),L:=L,V:=if r.fR=true then e.V++[⟨e.time,t,r.ops.map (sO f)⟩]else e.V} ⟨T,b.T.set t r.k,b.P,if r.fR=true then b.V+r.ops.length else b.V⟩:=by have a:=j.rG (t:=t) (x':={e with T:=e.T.set t (Nv f (cg n) l r.k)}) E rfl rfl rfl rfl rfl;exact⟨a.c,F,a.T,a.tk,a.P,H⟩
    subst d;refine⟨?_,by show(b.T.set t r.k).length=_;rw[cq];exact C⟩;have p:∀g:Mc,MR f n g ⟨T,b.T.set t r.k,b.P,if r.fR=true then b.V+r.ops.length else b.V⟩->MR f n (if(sN f (cg n) l L r).note=3/\(gH g t).on=true then{g with P:=g.P.set t (gG (gH g t) (sN f (cg n) l L r).k.res)}else g) ⟨T,b.T.set t r.k,if r.note=3/\(b.P.getD t kA).on=true then b.P.set t (gG (b.P.getD t kA) r.k.res)else b.P,if r.fR=true then b.V+r.ops.length else b.V⟩:=fun g c=>by
     rw[c.pm_ m (t:=t)]
     show MR f n (if r.note=3/\(b.P.getD t kA).on=true then{g with P:=g.P.set t (gG (sP f (b.P.getD t kA)) (sS f r.k.res))}else g) _
     rw[Un m]
     split
     ·exact⟨c.c,c.L,c.T,c.tk,by show g.P.set t _=(b.P.set t _).map _;rw[List.map_set,c.P],c.V⟩
     ·exact c
    refine p _ ?_;split
    ·exact B.same rfl rfl rfl rfl rfl
    ·exact B
end
end Mo
namespace Mo
structure Pr where
 x:Mc
 jN:Nat
 got:List (List Int)
 ended:List Bool
def GA(vals:List Int)(j:Nat):Rq:=if j<vals.length then jB 1 8 (vals.getD j 0)else⟨4,8,0,false,[]⟩
def mO(vals:List Int)(s:Pr):Pr:=if(bm s.x 0).pc=0/\s.jN<=vals.length then{s with x:=(iB s.x 0 (GA vals s.jN)).1,jN:=s.jN+1}else s
def Nx(h:List Int)(s:Pr)(i:Nat):Pr :=
 if s.ended.getD i false=true then s else
 let b:=if(bm s.x (2+i)).pc=0 then(iB s.x (2+i) (jB 2 (h.getD i 0) 0)).1 else s.x
 let a:=iO b (2+i)
 let k:=bm a (2+i)
 ⟨a,s.jN,if k.pc=0/\k.res.code=0 then s.got.set i (s.got.getD i []++[k.res.value])else s.got,s.ended.set i (k.pc==0 && k.res.code==9)⟩
def qg(h:List Int)(s:Pr):Nat->Pr
 |0=>s
 |i+1=>Nx h (qg h s i) i
def GC(n:Nat)(vals:List Int)(s:Pr):Pr :=
 let a:=qg (kB n) (mO vals s) n
 {a with x:=iO (iO a.x 0) 1}
def stR(n:Nat):Pr:=⟨(iZ (iA (cg n)) 1 8 (kB n)).1,0,List.replicate n [],List.replicate n false⟩
def iJ(n:Nat)(vals:List Int):Nat->Pr
 |0=>stR n
 |j+1=>GC n vals (iJ n vals j)
structure Pe where
 x:Me
 jN:Nat
 got:List (List Int)
 ended:List Bool
def Zm(m j:Nat):Rq:=if j<m then jB 1 8 (j+1:Nat)else⟨4,8,0,false,[]⟩
def Po(c:bA)(m:Nat)(s:Pe):Option Pe:=if(s.x.T.getD 0 lY).pc=0/\s.jN<=m then(match AI c s.x 0 (Zm m s.jN)with|none=>none|some x=>some {s with x:=x,jN:=s.jN+1})else some s
def inE(c:bA)(h:List Int)(s:Pe)(i:Nat):Option Pe :=
 if s.ended.getD i false=true then some s else
 match(if(s.x.T.getD (2+i) lY).pc=0 then AI c s.x (2+i) (jB 2 (h.getD i 0) 0)else some s.x)with
 |none=>none
 |some x1=>match DD c x1 (2+i)with
  |none=>none
  |some x2 =>
   let k:=x2.T.getD (2+i) lY
   some ⟨x2,s.jN,if k.pc=0/\k.res.code=0 then s.got.set i (s.got.getD i []++[k.res.value])else s.got,s.ended.set i (k.pc==0 && k.res.code==9)⟩
def Uo(c:bA)(h:List Int)(s:Pe):Nat->Option Pe
 |0=>some s
 |i+1=>match Uo c h s i with|none=>none|some s1=>inE c h s1 i
def GD(n m:Nat)(s:Pe):Option Pe :=
 match Po (cg n) m s with
 |none=>none
 |some s1=>match Uo (cg n) (kB n) s1 n with
  |none=>none
  |some s2=>match DD (cg n) s2.x 0 with
   |none=>none
   |some x1=>match DD (cg n) x1 1 with
    |none=>none
    |some x2=>some {s2 with x:=x2}
def Up(n m:Nat):Nat->Pe->Option Pe
 |0,_=>none
 |g+1,s=>if s.ended.all id=true then some s else match GD n m s with|none=>none|some s1=>Up n m g s1
def stE(n:Nat):Pe:=⟨Za n,0,List.replicate n [],List.replicate n false⟩
def DM(n m:Nat):Bool:=match Up n m 2950 (stE n)with
 |none=>false
 |some s=>decide (s.ended=List.replicate n true) && decide (s.got=List.replicate n ((List.range m).map fun(i:Nat)=>(i:Int)+1)) && decide (0<s.x.V/\s.x.V<=1000000)
section
variable{f:Int->Int} {n m:Nat} {vals:List Int}
structure PR (f:Int->Int) (n:Nat) (s:Pr) (s':Pe):Prop where
 x:MR f n s.x s'.x
 jN:s.jN=s'.jN
 got:s.got=s'.got.map (List.map (fi f))
 ended:s.ended=s'.ended
 len:s'.x.T.length=2+n
theorem AL{c:bA}{y b:Me}{q:Rq}(a:AI c y t q=some b):b.T.length=y.T.length:=by
 unfold AI uQ at a;split at a
 ·cases a
 dsimp only at a;split at a
 ·cases a
 ·injection a with a;subst a;exact cq
structure Pp (f:Int->Int) (m:Nat) (vals:List Int):Prop where
 tok:jb f
 len:vals.length=m
 v:∀j,j<m->fi f (j+1:Nat)=vals.getD j 0
theorem abE(H:Pp f m vals)(j:Nat):sQ f (Zm m j)=GA vals j:=by
 unfold Zm GA;rw[H.len];split
 ·rename_i h;rw[<-H.v j h];rfl
 ·rfl
theorem Zn(H:Pp f m vals){s:Pr}{b e:Pe}(h:PR f n s b)(a:Po (cg n) m b=some e):PR f n (mO vals s) e:=by
 unfold Po at a;unfold mO;have j:=h.len;obtain⟨w,g,-⟩:=h.x.Zk (t:=0) (by omega);have i:(bm s.x 0).pc=(b.x.T.getD 0 lY).pc:=by rw[g];rfl
 rw[i,h.jN,H.len];split at a
 ·rename_i c;rw[au c];split at a
  ·cases a
  ·rename_i x d;injection a with a
   subst a;refine⟨?_,by show b.jN+1=b.jN+1;rfl,h.got,h.ended,by rw[AL d];exact h.len⟩;have:=Pn H.tok h.x (by omega) d;rw[abE H]at this;exact this
 ·rename_i c;rw[ah c];injection a with a
  subst a;exact h
theorem ad3(H:jb f)(K:K0 (cg n)){i:Nat}(y:i<n){s:Pr}{c p:Pe}(h:PR f n s c)(b:inE (cg n) hs c i=some p):PR f n (Nx hs s i) p:=by
 unfold inE at b;unfold Nx;have o:=h.len;rw[h.ended];split at b
 ·rename_i e;rw[au e];injection b with b
  subst b;exact h
 ·rename_i e;rw[ah e];split at b
  ·cases b
  ·rename_i q a;split at b
   ·cases b
   ·rename_i d j;injection b with b
    subst b;dsimp only;obtain⟨w,v,-⟩:=h.x.Zk (t:=2+i) (by omega);have x:(bm s.x (2+i)).pc=(c.x.T.getD (2+i) lY).pc:=by rw[v];rfl
    have l:MR f n (if(bm s.x (2+i)).pc=0 then(iB s.x (2+i) (jB 2 (hs.getD i 0) 0)).1 else s.x) q/\q.T.length=2+n:=by
     rw[x];split at a
     ·rename_i k;rw[au k];have:=Pn H h.x (by omega) a;rw[show sQ f (jB 2 (hs.getD i 0) 0)=jB 2 (hs.getD i 0) 0 from by show jB 2 (hs.getD i 0) (fi f 0)=_;rw[H.fz]]at this;exact⟨this,by rw[AL a];exact o⟩
     ·rename_i k;rw[ah k];injection a with a
      subst a;exact⟨h.x,o⟩
    generalize(if(bm s.x (2+i)).pc=0 then(iB s.x (2+i) (jB 2 (hs.getD i 0) 0)).1 else s.x)=A at *;obtain⟨m,u⟩:=Gz H K l.1 (by omega) j;obtain⟨z,g,-⟩:=m.Zk (t:=2+i) (by omega);rw[g];refine⟨m,h.jN,?_,rfl,by rw[u];exact l.2⟩;show(if(d.T.getD (2+i) lY).pc=0/\(d.T.getD (2+i) lY).res.code=0 then s.got.set i (s.got.getD i []++[fi f (d.T.getD (2+i) lY).res.value])else s.got)=List.map _ (if(d.T.getD (2+i) lY).pc=0/\(d.T.getD (2+i) lY).res.code=0 then _ else _);split
    ·have r:(c.got.map (List.map (fi f))).getD i []=(c.got.getD i []).map (fi f):=by
      rw[cZ,cZ,List.getElem?_map];cases c.got[i]?<;>rfl
     rw[h.got,List.map_set,List.map_append,r]
     rfl
    ·exact h.got
theorem Xc(H:jb f)(K:K0 (cg n)){b:List Int}{s:Pr}{c:Pe}(h:PR f n s c):∀(i:Nat) (a:Pe),i<=n->Uo (cg n) b c i=some a->PR f n (qg b s i) a
 |0,a,_,he=>by
  injection he with he
  subst he
  exact h
 |i+1,a,hi,he=>by
  unfold Uo at he
  split at he
  ·cases he
  ·rename_i e d;exact ad3 H K (by omega) (Xc H K h i e (by omega) d) he
theorem Uq(H:Pp f m vals)(K:K0 (cg n)){s:Pr}{d e:Pe}(h:PR f n s d)(c:GD n m d=some e):PR f n (GC n vals s) e:=by
 unfold GD at c;unfold GC;split at c
 ·cases c
 rename_i a j;split at c
 ·cases c
 rename_i b k;split at c
 ·cases c
 rename_i v g;split at c
 ·cases c
 rename_i p i;injection c with c
 subst c;have q:=Xc H.tok K (Zn H h j) n b (aS _) k;dsimp only;have r:=q.len;obtain⟨l,t⟩:=Gz H.tok K q.x (by omega) g;obtain⟨o,u⟩:=Gz H.tok K l (by omega) i;exact⟨o,q.jN,q.got,q.ended,by show p.T.length=_;omega⟩
theorem Xd(H:Pp f m vals)(K:K0 (cg n)):∀(g j:Nat) (e d:Pe),PR f n (iJ n vals j) e->Up n m g e=some d->∃N,N<g/\PR f n (iJ n vals (j+N)) d/\∀i,i<N->(iJ n vals (j+i)).ended.all id=false
 |0,_,_,_,_,he=>by cases he
 |g+1,j,e,d,h,he=>by
  unfold Up at he
  split at he
  ·injection he with he
   subst he;exact⟨0,by omega,h,fun i k=>absurd k (by omega)⟩
  ·rename_i o;split at he
   ·cases he
   ·rename_i p l;obtain⟨N,a,b,c⟩:=Xd H K g (j+1) p d (Uq H K h l) he;refine⟨N+1,by omega,by rw[show j+(N+1)=j+1+N by omega];exact b,fun i k=>?_⟩;cases i with
    |zero=>rw[Nat.add_zero,h.ended];simpa using o
    |succ i=>rw[show j+(i+1)=j+1+i by omega];exact c i (by omega)
end
end Mo
namespace Mo
theorem kdF{n:Nat}(a:n=1\/n=2):K0 (cg n):=by rcases a with rfl|rfl<;>exact⟨by decide+kernel,rfl,by decide+kernel,by decide+kernel,by decide+kernel,by decide+kernel,by decide+kernel⟩
theorem GF:∀d,full d (zT d)
 |0=>trivial
 |d+1=>⟨GF d,GF d⟩
theorem DN:∀(l:List Int) (T:Tr) (a:Nat),full 11 T->full 11 (Y9 T a l)
 |[],_,_,h=>h
 |w::l,T,a,h=>DN l _ _ (oh 11 T a w h)
def JE(c:bA)(T:Tr):Nat->List Int->Bool
 |_,[]=>true
 |a,w::l=>w==wP T a && (kdM c a==0 || w==0) && JE c T (a+1) l
theorem JF{c:bA}{T:Tr}:∀(l:List Int) (a:Nat),JE c T a l=true->∀i,i<l.length->l.getD i 0=wP T (a+i)/\(kdM c (a+i)=0\/l.getD i 0=0)
 |w::l,a,h,i,hi=>by
  unfold JE at h
  simp only[cA,Bool.or_eq_true,beq_iff_eq]at h
  cases i with
  |zero=>exact⟨h.1.1,h.1.2⟩
  |succ i=>have:=JF l (a+1) h.2 i (by simpa using hi);rw[show a+(i+1)=a+1+i by omega];exact this
section
variable{f:Int->Int} {n:Nat}
theorem Ur(e:jb f)(g:n=1\/n=2):mZ f (cg n) (Gq (cg n)) (ir (cg n)):=by
 have d:((ir (cg n)).length:Int)=bB (cg n)/\bB (cg n)<=2048/\JE (cg n) (Gq (cg n)) 0 (ir (cg n))=true:=by rcases g with rfl|rfl<;>decide+kernel
 refine⟨d.1,d.2.1,DN _ _ _ (oh _ _ _ _ (oh _ _ _ _ (GF 11))),fun a h=>?_⟩;obtain⟨c,b⟩:=JF _ 0 d.2.2 a (by omega);rw[Nat.zero_add]at c b;rcases b with b|b
 ·rw[b,c];rfl
 ·rw[<-c,b,KZ e]
theorem abF(d:jb f)(i:n=1\/n=2):PR f n (stR n) (stE n):=by
 have a:kT 8 (kB n)=some ⟨true,false,false,8,kB n,0,0⟩/\(cg n).kind=3/\(cg n).threads.toNat=2+n/\(bm (iA (cg n)) 1).pc=0/\(gH (iA (cg n)) 1).on=false:=by rcases i with rfl|rfl<;>decide+kernel
 have e:(iZ (iA (cg n)) 1 8 (kB n)).1={iA (cg n)with time:=(iA (cg n)).time+1,P:=(iA (cg n)).P.set 1 ⟨true,false,false,8,kB n,0,0⟩}:=by unfold iZ;rw[a.1];dsimp only;rw[ah (by rw[a.2.2.2.1,a.2.2.2.2];show ¬((cg n).kind≠3\/(0:Int)≠0\/false=true);rw[a.2.1];decide)]
 have h:(Za n).T.length=2+n:=by show((List.range (2+n)).map _).length=_;simp
 refine⟨?_,rfl,?_,rfl,h⟩
 ·show MR f n (iZ (iA (cg n)) 1 8 (kB n)).1 (Za n);rw[e];refine⟨rfl,Ur d i,?_,fun t k g=>⟨0,?_,kj.mU ?_⟩,?_,rfl⟩
  ·show((List.range (cg n).threads.toNat).map _).length=_;rw[a.2.2.1,h];simp
  ·show((List.range (cg n).threads.toNat).map fun(t:Nat)=>lV (cg n) t)[t]?=_;have b:((List.range (2+n)).map fun(t:Nat)=>lV (cg n) t)[t]?=some k:=g;rw[a.2.2.1,b];rw[List.getElem?_map]at b;obtain⟨s,-,rfl⟩:=Option.map_eq_some_iff.1 b;have:=Pd (f:=f) (c:=cg n) 0 0 nN (nM (cg n) s) dD false;rw[Cb d]at this;exact congrArg some this
  ·have b:((List.range (2+n)).map fun(t:Nat)=>lV (cg n) t)[t]?=some k:=g;rw[List.getElem?_map]at b;obtain⟨s,-,rfl⟩:=Option.map_eq_some_iff.1 b;rfl
  ·show(List.replicate (cg n).threads.toNat kA).set 1 _=((List.replicate (2+n) kA).set 1 _).map (sP f);rw[a.2.2.1,List.map_set,List.map_replicate];have j:sP f kA=kA:=by unfold sP kA;dsimp only;rw[d.fz]
   rw[j];congr 1;show Pm.mk _ _ _ _ _ _ _=Pm.mk _ _ _ _ _ _ (fi f 0);rw[d.fz]
 ·show List.replicate n []=(List.replicate n []).map _;rw[List.map_replicate];rfl
theorem Us{vals:List Int}{m:Nat}(g:n=1\/n=2)(o:vals.length=m)(q:m<=6)(p:∀v∈vals,0<=v/\v<=999)(d:DM n m=true):∃N,N<2950/\(∀i,i<N->(iJ n vals i).ended.all id=false)/\(iJ n vals N).ended=List.replicate n true/\(iJ n vals N).got=List.replicate n vals/\0<((iJ n vals N).x.V.map fun v=>v.ops.length).sum/\((iJ n vals N).x.V.map fun v=>v.ops.length).sum<=1000000:=by
 have k:∀j,0<=vals.getD j 0/\vals.getD j 0<=999:=fun j=>by
  rw[cZ]
  cases f:vals[j]? with
  |none=>exact⟨by decide,by decide⟩
  |some v=>exact p v (dB f)
 have H:Pp (fun x=>if 1<=x then vals.getD (x-1).toNat 0 else 0) m vals:=by
  refine⟨⟨rfl,fun x=>?_⟩,o,fun j f=>?_⟩
  ·split
   ·have:=k (x-1).toNat;omega
   ·omega
  ·unfold fi;dsimp only;rw[au (by omega)];congr 1;omega
 unfold DM at d;split at d
 ·cases d
 ·rename_i l h;simp only[cA,bP]at d;obtain⟨N,a,b,c⟩:=Xd H (kdF g) 2950 0 (stE n) l (abF H.tok g) h;rw[Nat.zero_add]at b;refine⟨N,a,fun i e=>by have:=c i e;rwa [Nat.zero_add]at this,b.ended.trans d.1.1,?_,?_⟩
  ·rw[b.got,d.1.2,List.map_replicate];congr 1;apply List.ext_getElem?;intro i;rw[List.map_map,List.getElem?_map];by_cases e:i<m
   ·rw[List.getElem?_range e];show some (fi _ ((i:Int)+1))=_;have:=H.v i e;rw[show((i+1:Nat):Int)=(i:Int)+1 from rfl]at this;rw[this,cZ,cY (by omega)];rfl
   ·rw[List.getElem?_eq_none (by simp;omega),List.getElem?_eq_none (by omega)];rfl
  ·rw[b.x.V];exact d.2
end
end Mo
namespace Mo
def Ny(N a:Int)(s:Rf):Prop:=0<=s.ix/\s.ix<N/\0<=s.tag/\s.tag<=a
def Ci(N a:Int)(s:Rf):Prop:=0<=s.ix/\s.ix<N/\1<=s.tag/\s.tag<=a
def pT(l:List Rf):Int:=(l.map (·.tag)).sum
def pend(k:Tk):Bool:=k.fR && (k.pc==20 || k.pc==21)
def wT(p:Pl):Int:=if p.own.tag=0 then 0 else 1
def qh(p:Pl):Int:=wT p+p.free.length+p.old.length+p.spent
def qi(a:Int)(p:Pl):Int:=p.own.tag+pT p.free+pT (p.old.map (·.ref))+a*p.spent-wT p
def uW(k:Tk):Int:=qh k.aA+if pend k=true then 1 else 0
def uX(a:Int)(k:Tk):Int:=qi a k.aA+if pend k=true then k.base.tag else 0
structure PI (N tags:Int) (p:Pl):Prop where
 own:p.own.tag=0\/Ci N tags p.own
 free:∀s∈p.free,Ny N tags s
 old:∀o∈p.old,Ci N tags o.ref
 spent:0<=p.spent
structure KI (N tags:Int) (k:Tk):Prop where
 aA:PI N tags k.aA
 mid:3<=k.pc->k.pc<=19->k.aA.own.tag≠0/\k.iN=false
 early:k.pc<=19->k.fR=false
 late:(29<=k.pc->k.fR=false)/\(k.pc=21->k.fR=true)
 scan:k.fR=true->k.iN=false
 base:4<=k.pc->k.pc<=15->Ci N tags k.base
 pnd:pend k=true->Ci N tags k.base
 i0:0<=k.i
 j0:0<=k.j
 p0:0<=k.pc
section
variable{N tags:Int}
theorem Ci.Ny{s:Rf}(h:Ci N tags s):Ny N tags s:=by unfold Ci at h;unfold Mo.Ny;omega
theorem Ci.good{s:Rf}(h:Ci N tags s)(a:N<=65535)(b:tags<=4294967295):jz s=true:=by unfold Ci at h;unfold jz;simp;omega
theorem qj{s:Rf}(h:jz s=true):g9 (bF s)=(s,true):=by
 obtain⟨b,a⟩:=s;have c:bF ⟨b,a⟩=a*65536+b+1:=by unfold bF;rw[au h]
 unfold jz at h;simp at h;have d:(a*65536+b+1)%65536-1=b:=aa;have e:(a*65536+b+1)/65536%4294967296=a:=aa;rw[c];unfold g9;rw[d,e,c,ah aa]
theorem rf(s:Rf)(l:List Rf):pT (s::l)=s.tag+pT l:=by simp[pT]
theorem vN(l m:List Rf):pT (l++m)=pT l+pT m:=by simp[pT]
theorem K5{s:Rf}(h:Ny N tags s)(b:N<=65535)(c:tags<=4294967295)(a:s.tag<tags):fy s tags=(⟨s.ix,s.tag+1⟩,true):=by unfold Ny at h;unfold fy;rw[ah aa,au (by unfold jz;simp;omega)]
theorem Pq{s:Rf}(b:tags<=4294967295)(a:tags<=s.tag):fy s tags=(⟨0,0⟩,false):=by unfold fy;rw[au aa]
theorem GG(f:N<=65535)(d:tags<=4294967295)(l:List Rf)(h:∀s∈l,Ny N tags s) :
 ((dY tags l).1.tag=0\/Ci N tags (dY tags l).1)/\(∀s∈(dY tags l).2.1,Ny N tags s) /\
 ((l.length:Int)=(if(dY tags l).1.tag=0 then 0 else 1)+(dY tags l).2.1.length+(dY tags l).2.2) /\
 (dY tags l).1.tag+pT (dY tags l).2.1+tags*((dY tags l).2.2:Nat)-(if(dY tags l).1.tag=0 then 0 else 1)=pT l:=by
 induction l with
 |nil=>simp[dY,pO,pT]
 |cons s l m =>
  obtain⟨i,j,k,n⟩:=m (fun s a=>h s (List.mem_cons_of_mem _ a));have a:=h s List.mem_cons_self;by_cases b:s.tag<tags
  ·have e:dY tags (s::l)=(⟨s.ix,s.tag+1⟩,l,0):=by
    show(if(fy s tags).2=true then _ else _)=_;rw[K5 a f d b];rfl
   rw[e]
   unfold Ny at a
   refine⟨.inr (by unfold Ci;dsimp only;omega),fun x g=>h x (List.mem_cons_of_mem _ g),?_,?_⟩
   ·dsimp only;rw[ah aa];simp;omega
   ·dsimp only;rw[ah aa,rf];simp;omega
  ·have e:dY tags (s::l)=((dY tags l).1,(dY tags l).2.1,(dY tags l).2.2+1):=by
    show(if(fy s tags).2=true then _ else _)=_;rw[Pq d aa];rfl
   rw[e]
   have c:s.tag=tags:=by unfold Ny at a;omega
   refine⟨i,j,?_,?_⟩
   ·dsimp only;simp at k ⊢;omega
   ·dsimp only;rw[rf,c];have:tags*(((dY tags l).2.2+1:Nat):Int)=tags*((dY tags l).2.2:Nat)+tags:=by rw[Int.natCast_add,Int.mul_add];simp
    omega
theorem GH(b:N<=65535)(d:tags<=4294967295)(p:Pl)(h:PI N tags p) :
 PI N tags (jA p tags).1/\qh (jA p tags).1=qh p/\qi tags (jA p tags).1=qi tags p/\((jA p tags).2=true->(jA p tags).1.own.tag≠0):=by
 unfold jA
 by_cases a:p.own.tag=0
 ·rw[au a];obtain⟨e,f,g,i⟩:=GG b d p.free h.free;refine⟨⟨e,f,h.old,?_⟩,?_,?_,?_⟩
  ·have:=h.spent;dsimp only;omega
  ·unfold qh wT;dsimp only;rw[au a];omega
  ·unfold qi wT;dsimp only;rw[au a,a,Int.mul_add];omega
  ·intro c;simpa using c
 ·rw[ah a];exact⟨h,rfl,rfl,fun _=>a⟩
theorem DO(l:List Od)(f:Od->Bool):pT ((l.filter f).map (·.ref))+pT ((l.filter fun o=> !f o).map (·.ref))=pT (l.map (·.ref)):=by
 induction l with
 |nil=>rfl
 |cons o l b=>cases a:f o<;>simp[a,rf]<;>omega
theorem GI(l:List Od)(f:Od->Bool):((l.filter f).length:Int)+(l.filter fun o=> !f o).length=l.length:=by
 induction l with
 |nil=>rfl
 |cons o l b=>cases a:f o<;>simp[a]<;>omega
theorem GJ(p:Pl)(f:Od->Bool)(h:PI N tags p):PI N tags (lh p f)/\qh (lh p f)=qh p/\qi tags (lh p f)=qi tags p/\(lh p f).own=p.own:=by
 refine⟨⟨h.own,?_,?_,h.spent⟩,?_,?_,rfl⟩
 ·intro s a;unfold lh at a;rcases List.mem_append.1 a with a|a
  ·exact h.free s a
  ·obtain⟨o,b,rfl⟩:=List.mem_map.1 a;exact(h.old o (List.mem_filter.1 b).1).Ny
 ·intro o b;exact h.old o (List.mem_filter.1 b).1
 ·have:=GI p.old f;unfold qh wT lh;dsimp only;simp only[eW,cW,Int.natCast_add];omega
 ·have:=DO p.old f;unfold qi wT lh;dsimp only;rw[vN];omega
theorem GK(p:Pl)(r:Rf)(g:Int)(h:PI N tags p)(b:Ci N tags r):PI N tags (lQ p r g)/\qh (lQ p r g)=qh p+1/\qi tags (lQ p r g)=qi tags p+r.tag/\(lQ p r g).own=p.own:=by
 refine⟨⟨h.own,h.free,?_,h.spent⟩,?_,?_,rfl⟩
 ·intro o a;rcases List.mem_append.1 a with a|a
  ·exact h.old o a
  ·rw[List.mem_singleton.1 a];exact b
 ·unfold qh wT lQ;simp;omega
 ·unfold qi wT lQ;dsimp only;rw[List.map_append,vN];simp[pT];omega
theorem DR(p:Pl)(h:PI N tags p)(a:p.own.tag≠0):PI N tags (eH p)/\qh (eH p)=qh p-1/\qi tags (eH p)=qi tags p-p.own.tag+1:=by
 refine⟨⟨.inl rfl,h.free,h.old,h.spent⟩,?_,?_⟩
 ·unfold qh wT eH pO;rw[ah a];simp;omega
 ·unfold qi wT eH pO;rw[ah a];simp;omega
end
end Mo
namespace Mo
theorem dF{L:List Int}{a:Int}(w:Int)(b:0<a):ay (setAt L a w) 0=ay L 0:=by unfold ay setAt;rw[ah aa,ah aa,ah aa];show(L.set a.toNat w).getD 0 0=L.getD 0 0;rw[cZ,cZ,List.getElem?_set_ne aa]
theorem vP{L:List Int}(w:Int)(h:0<L.length):ay (setAt L 0 w) 0=w:=by unfold ay setAt;simp[h]
theorem Ps{L:List Int}(h:(g9 (ay L 0)).2=true):0<L.length:=by
 rcases L with _|⟨a,l⟩
 ·exfalso;have:ay [] 0=0:=rfl;rw[this]at h;unfold g9 at h;rw[au (.inr rfl)]at h;cases h
 ·simp
def yn(L:List Int):Int:=(g9 (ay L 0)).1.tag
def Xe(a:Int)(r:Rn):Int:=uX a r.k+yn r.L-(if r.fR=true then 1 else 0)
structure WI (N tags:Int) (r:Rn):Prop where
 k:KI N tags r.k
 good:(g9 (ay r.L 0)).2=true
 root:Ci N tags (g9 (ay r.L 0)).1
structure Ok (N tags A F:Int) (r:Rn):Prop where
 w:WI N tags r
 cnt:uW r.k=A
 SL:Xe tags r=F
structure WC (N tags:Int) (c:bA) (t:Int):Prop where
 n:N<=65535
 tg:tags=c.tags
 tags:tags<=4294967295
 th:1<=c.threads
 t0:0<=t
 size:0<=bn c
section
variable{N tags A F:Int} {r r':Rn} {c:bA} {t:Int}
theorem iP(h:r.k.fR=false):pend r.k=false:=by unfold pend;rw[h];rfl
theorem iQ{k:Tk}(h:k.pc≠20)(a:k.pc≠21):pend k=false:=by unfold pend;simp[h,a]
theorem Ok.of(h:Ok N tags A F r)(f:r'.k.aA=r.k.aA)(e:pend r'.k=pend r.k)(a:r'.k.base=r.k.base\/pend r.k=false)(d:ay r'.L 0=ay r.L 0)(m:r'.fR=r.fR)(k:KI N tags r'.k):Ok N tags A F r':=by
 refine⟨⟨k,by rw[d];exact h.w.good,by rw[d];exact h.w.root⟩,?_,?_⟩
 ·rw[<-h.cnt];unfold uW;rw[f,e]
 ·rw[<-h.SL];unfold Xe uX yn;rw[f,e,d,m];rcases a with a|a
  ·rw[a]
  ·rw[a];simp
theorem DS(h:Ok N tags A F r)(j:r.k.aA.own.tag≠0/\r.k.iN=false)(d:r.k.fR=false):Ok N tags A F (Rn.again c r):=by
 have e:=h.w.k;have b:∀n:Int,(n=16\/n=19\/n=3)->Ok N tags A F (r.pc n):=by
  intro n k;refine h.of rfl ?_ (.inl rfl) rfl rfl ⟨e.aA,fun _ _=>j,fun _=>d,⟨fun _=>d,fun a=>by exfalso;first|(dsimp only at a;omega)|(simp only[Rn.pc]at a;omega)⟩,fun f=>?_,?_,?_,e.i0,e.j0,?_⟩
  ·rw[iP d,iP];exact d
  ·exact e.scan f
  ·intro g i;exfalso;simp only[Rn.pc]at g i;omega
  ·intro f;rw[iP]at f;cases f;exact d
  ·show 0<=n;omega
 unfold Rn.again;split
 ·exact b _ (.inl rfl)
 ·split
  ·exact b _ (.inr (.inl rfl))
  ·exact b _ (.inr (.inr rfl))
theorem Cj(h:Ok N tags A F r)(b:r.k.aA.own.tag≠0/\r.k.iN=false)(d:r.k.fR=false):Ok N tags A F (Rn.fail c r):=by have a:=h.w.k;unfold Rn.fail;exact DS (h.of rfl rfl (.inl rfl) rfl rfl ⟨a.aA,a.mid,a.early,a.late,a.scan,a.base,a.pnd,a.i0,a.j0,a.p0⟩) b d
theorem JG(C:WC N tags c t)(h:Ok N tags A F r)(e:r.k.fR=false)(o:r.k.pc<=2\/20<=r.k.pc):Ok N tags A F (Rn.take c r):=by
 have f:=h.w.k;obtain⟨l,m,n,j⟩:=GH C.n C.tags r.k.aA f.aA;rw[C.tg]at l m n j;have g:Ok N c.tags A F {r with k:={r.k with aA:=(jA r.k.aA c.tags).1}}:=by
  have k:pend r.k=false:=iP e;refine⟨⟨⟨l,fun a b=>by exfalso;dsimp only at a b;omega,f.early,f.late,f.scan,fun a b=>by exfalso;dsimp only at a b;omega,fun a=>?_,f.i0,f.j0,f.p0⟩,h.w.good,?_⟩,?_,?_⟩
  ·rw[iP (r:={r with k:={r.k with aA:=(jA r.k.aA c.tags).1}}) e]at a;cases a
  ·have:=h.w.root;rw[C.tg]at this;exact this
  ·rw[<-h.cnt];unfold uW;rw[<-m,k,iP (r:={r with k:={r.k with aA:=(jA r.k.aA c.tags).1}}) e]
  ·rw[<-h.SL];unfold Xe uX;rw[C.tg, <-n,k,iP (r:={r with k:={r.k with aA:=(jA r.k.aA c.tags).1}}) e]
 rw[C.tg];unfold Rn.take;dsimp only;split;case isTrue i=>have d:=g.w.k;exact DS (g.of rfl rfl (.inl rfl) rfl rfl ⟨d.aA,fun _ _=>⟨j i,rfl⟩,d.early,d.late,fun _=>rfl,d.base,d.pnd,d.i0,d.j0,d.p0⟩) ⟨j i,rfl⟩ e
 case isFalse i =>
  have d:=g.w.k;split
  ·refine g.of rfl ?_ (.inl rfl) rfl rfl ⟨d.aA,fun a b=>by exfalso;dsimp only at a b;omega,fun _=>e,⟨fun _=>e,fun a=>by exfalso;first|(dsimp only at a;omega)|(simp only[Rn.pc]at a;omega)⟩,fun a=>?_,fun a b=>by exfalso;dsimp only at a b;omega,fun a=>?_,d.i0,d.j0,?_⟩
   ·unfold pend;rw[e];rfl
   ·rw[e]at a;cases a
   ·unfold pend at a;simp[e]at a
   ·show(0:Int)<=24;omega
  ·unfold Rn.refuse;refine g.of rfl ?_ (.inl rfl) rfl rfl ⟨d.aA,fun a b=>by exfalso;dsimp only at a b;omega,fun _=>e,⟨fun _=>e,fun a=>by exfalso;first|(dsimp only at a;omega)|(simp only[Rn.pc]at a;omega)⟩,fun a=>rfl,fun a b=>by exfalso;dsimp only at a b;omega,fun a=>?_,d.i0,d.j0,?_⟩
   ·unfold pend;rw[e];rfl
   ·unfold pend at a;simp[e]at a
   ·show(0:Int)<=28;omega
theorem si(h:Ok N tags A F r)(i:8<=r.k.pc)(g:r.k.pc<=10):Ok N tags A F (Rn.ee c r):=by
 have b:=h.w.k;have d:=b.early aa;have f:=b.mid aa aa;have e:=b.base aa aa;have j:=b.i0;unfold Rn.ee;split
 ·refine h.of rfl ?_ (.inl rfl) rfl rfl ⟨b.aA,fun _ _=>f,fun _=>d,⟨fun _=>d,fun a=>by exfalso;first|(dsimp only at a;omega)|(simp only[Rn.pc]at a;omega)⟩,b.scan,fun _ _=>e,fun a=>?_,cI _,b.j0,?_⟩
  ·unfold pend;rw[d];rfl
  ·unfold pend at a;simp[d]at a
  ·show(0:Int)<=11;omega
 ·refine h.of rfl ?_ (.inl rfl) rfl rfl ⟨b.aA,fun _ _=>f,fun _=>d,⟨fun _=>d,fun a=>by exfalso;first|(dsimp only at a;omega)|(simp only[Rn.pc]at a;omega)⟩,b.scan,fun _ _=>e,fun a=>?_,?_,b.j0,?_⟩
  ·unfold pend;rw[d];rfl
  ·unfold pend at a;simp[d]at a
  ·dsimp only;omega
  ·show(0:Int)<=8;omega
theorem qm(h:Ok N tags A F r)(i:11<=r.k.pc)(g:r.k.pc<=12):Ok N tags A F (Rn.cU c t r):=by
 have b:=h.w.k;have d:=b.early aa;have f:=b.mid aa aa;have e:=b.base aa aa;have j:=b.i0;unfold Rn.cU;split
 ·refine h.of rfl ?_ (.inl rfl) rfl rfl ⟨b.aA,fun _ _=>f,fun _=>d,⟨fun _=>d,fun a=>by exfalso;first|(dsimp only at a;omega)|(simp only[Rn.pc]at a;omega)⟩,b.scan,fun _ _=>e,fun a=>?_,?_,b.j0,?_⟩
  ·unfold pend;rw[d];rfl
  ·unfold pend at a;simp[d]at a
  ·dsimp only;omega
  ·show(0:Int)<=11;omega
 ·refine h.of rfl ?_ (.inl rfl) rfl rfl ⟨b.aA,fun _ _=>f,fun _=>d,⟨fun _=>d,fun a=>by exfalso;first|(dsimp only at a;omega)|(simp only[Rn.pc]at a;omega)⟩,b.scan,fun _ _=>e,fun a=>?_,cI _,b.j0,?_⟩
  ·unfold pend;rw[d];rfl
  ·unfold pend at a;simp[d]at a
  ·show(0:Int)<=13;omega
theorem xr{pc seq:Int}{q:Rq}{p:Pl}{rs:Rs}{b:Bool}(e:PI N tags p)(h:pc<=2\/22<=pc)(d:0<=pc):KI N tags (eY pc seq q p rs b):=⟨e,fun a b=>by exfalso;simp only[eY]at a b;omega,fun _=>rfl,⟨fun _=>rfl,fun a=>by exfalso;simp only[eY]at a;omega⟩,fun a=>(by cases a),fun a b=>by exfalso;simp only[eY]at a b;omega,fun a=>(by simp[pend,eY]at a),cI _,cI _,d⟩
theorem uY(h:Ok N tags A F r)(a:pend r.k=false):Ok N tags A F r.finish:=by unfold Rn.finish;exact h.of rfl (by rw[a];rfl) (.inr a) rfl rfl (xr h.w.k.aA aa aa)
theorem DT(h:Ok N tags A F r)(n:Int)(f:22<=n)(e:n<=28)(d:pend r.k=false):Ok N tags A F (r.pc n):=by
 have c:=h.w.k;refine h.of rfl ?_ (.inl rfl) rfl rfl ⟨c.aA,fun a b=>by exfalso;simp only[Rn.pc]at a b;omega,fun a=>by exfalso;simp only[Rn.pc]at a;omega,⟨fun a=>by exfalso;simp only[Rn.pc]at a;omega,fun a=>by exfalso;simp only[Rn.pc]at a;omega⟩,c.scan,fun a b=>by exfalso;simp only[Rn.pc]at a b;omega,fun a=>?_,c.i0,c.j0,?_⟩
 ·rw[d];exact iQ (by simp only[Rn.pc];omega) (by simp only[Rn.pc];omega)
 ·rw[iQ (by simp only[Rn.pc];omega) (by simp only[Rn.pc];omega)]at a;cases a
 ·show 0<=n;omega
theorem sj(C:WC N tags c t)(h:Ok N tags A F r)(f:22<=r.k.pc)(g:r.k.pc<=28):Ok N tags A F (Rn.cB c r):=by
 have d:=h.w.k;unfold Rn.cB;split;case isTrue a =>
  have e:r.k.fR=false:=by
   cases b:r.k.fR
   ·rfl
   ·rw[d.scan b]at a;cases a
  exact JG C h e (.inr aa)
 case isFalse a=>exact DT h 28 aa aa (iQ aa aa)
theorem yo(h:Ok N tags A F r)(b:22<=r.k.pc)(d:r.k.pc<=28):Ok N tags A F (Rn.owned c r):=by
 have a:pend r.k=false:=iQ aa aa;unfold Rn.owned;split
 ·exact uY h a
 ·split
  ·exact DT h 24 aa aa a
  ·exact DT h 28 aa aa a
theorem yq(h:Ok N tags A F r){a:Int}(b:0<a)(w:Int):Ok N tags A F (r.store a w):=h.of rfl rfl (.inl rfl) (dF w b) rfl h.w.k
end
end Mo
namespace Mo
section
variable{N tags A F:Int} {r r':Rn} {c:bA} {t:Int}
theorem go_ok(h:Ok N tags A F r)(f:r.k.fR=false)(d:r'.k.aA=r.k.aA)(b:r'.k.fR=false)(e:0<=r'.k.pc/\r'.k.pc≠21)(m:3<=r'.k.pc->r'.k.pc<=19->r.k.aA.own.tag≠0/\r'.k.iN=false)(i:4<=r'.k.pc->r'.k.pc<=15->Ci N tags r'.k.base)(j:0<=r'.k.i)(k:0<=r'.k.j)(g:ay r'.L 0=ay r.L 0)(n:r'.fR=r.fR):Ok N tags A F r':=by
 have c:=h.w.k
 refine h.of d ?_ (.inr (iP f)) g n ⟨by rw[d];exact c.aA,by rw[d];exact m,fun _=>b,⟨fun _=>b,fun a=>absurd a e.2⟩,fun a=>(by rw[b]at a;cases a),i,fun a=>?_,j,k,e.1⟩
 ·rw[iP f,iP b]
 ·rw[iP b]at a;cases a
theorem Pt(_:WC N tags c t){i:Int}(b:0<=i):0<lJ c i:=by unfold lJ;omega
theorem K6(C:WC N tags c t){i j:Int}(b:0<=i)(d:0<=j):0<iY c i+j:=by have:=C.th;unfold iY;omega
theorem tN(C:WC N tags c t){i:Int}(a:0<=i):0<iq c i:=by have:=C.th;unfold iq;omega
theorem xt(C:WC N tags c t){i:Int}(a:0<=i):0<nL c i:=by have:=C.th;unfold nL;omega
theorem AM(C:WC N tags c t){i:Int}(a:0<=i):0<bZ c i:=by have:=C.th;unfold bZ;omega
theorem uZ(C:WC N tags c t){i:Int}(a:0<=i):0<bu c i:=by have b:=C.th;have d:=C.size;have:0<=i*(1+bn c):=ly a aa;unfold bu;omega
theorem Pu(C:WC N tags c t)(h:Ok N tags A F r)(g:1<=r.k.pc)(f:r.k.pc<=5):Ok N tags A F (Rn.enter c t r):=by
 have d:=h.w.k;have e:=d.early aa;unfold Rn.enter;split
 ·exact go_ok h e rfl e (by dsimp only;omega) (fun a b=>by exfalso;dsimp only at a;omega) (fun a b=>by exfalso;dsimp only at a;omega) d.i0 d.j0 rfl rfl
 split
 ·exact JG C (yq h (xt C C.t0) _) e (.inl (by show r.k.pc<=2;omega))
 split;case isTrue i=>exact go_ok h e rfl e (by dsimp only;omega) (fun a b=>d.mid aa aa) (fun _ _=>h.w.root) d.i0 d.j0 rfl rfl
 split;case isTrue j=>exact go_ok h e rfl e (by simp only[Rn.pc];omega) (fun a b=>d.mid aa aa) (fun _ _=>d.base aa aa) d.i0 d.j0 (dF _ (tN C C.t0)) rfl
 split;case isTrue f =>
  split
  ·exact Cj h (d.mid aa aa) e
  ·exact go_ok h e rfl e (by simp only[Rn.pc];omega) (fun a b=>d.mid aa aa) (fun _ _=>d.base aa aa) d.i0 d.j0 rfl rfl
 ·exact h
theorem K7(_:WC N tags c t)(h:Ok N tags A F r)(a:6<=r.k.pc)(b:r.k.pc<=7):Ok N tags A F (Rn.eZ c t r):=by
 have hk:=h.w.k;have hw:=hk.early aa;have ho:=hk.mid aa aa;have hb:=hk.base aa aa;have d:=hk.i0;unfold Rn.eZ;split
 ·split
  ·exact Cj h ho hw
  ·exact Zo
 ·dsimp only;split
  ·exact go_ok h hw rfl hw (by dsimp only;omega) (fun _ _=>ho) (fun _ _=>hb) (by dsimp only;omega) hk.j0 rfl rfl
  ·split
   ·exact Zo
   ·exact Zo
theorem K8(h:Ok N tags A F r)(f:8<=r.k.pc)(g:r.k.pc<=10):Ok N tags A F (Rn.fc c r):=by
 have a:=h.w.k;have b:=a.early aa;have e:=a.mid aa aa;have d:=a.base aa aa;have j:=a.j0;unfold Rn.fc;split
 ·dsimp only;have i:Ok N tags A F {r with k:={r.k with word:=ay r.L (lJ c r.k.i)}}:=go_ok h b rfl b ⟨a.p0,by dsimp only;omega⟩ (fun _ _=>e) (fun _ _=>d) a.i0 a.j0 rfl rfl;split
  ·exact si i f g
  ·exact go_ok h b rfl b (by dsimp only;omega) (fun _ _=>e) (fun _ _=>d) a.i0 (cI _) rfl rfl
 split
 ·refine go_ok h b rfl b ?_ (fun _ _=>e) (fun _ _=>d) a.i0 (by dsimp only;omega) rfl rfl;dsimp only;split<;>omega
 split
 ·dsimp only;split
  ·exact si (go_ok h b rfl b ⟨a.p0,by dsimp only;omega⟩ (fun _ _=>e) (fun _ _=>d) a.i0 a.j0 rfl rfl) f g
  ·exact si h f g
 ·exact h
theorem GL(C:WC N tags c t)(h:Ok N tags A F r)(i:11<=r.k.pc)(j:r.k.pc<=12):Ok N tags A F (Rn.eV c t r):=by
 have a:=h.w.k;have b:=a.early aa;have f:=a.mid aa aa;have e:=a.base aa aa;unfold Rn.eV;dsimp only;split
 ·have d:Ok N tags A F {r with k:={r.k with word:=ay r.L (bZ c r.k.i)}}:=go_ok h b rfl b ⟨a.p0,by dsimp only;omega⟩ (fun _ _=>f) (fun _ _=>e) a.i0 a.j0 rfl rfl;split
  ·exact qm d i j
  ·exact go_ok h b rfl b (by simp only[Rn.pc];omega) (fun _ _=>f) (fun _ _=>e) a.i0 a.j0 rfl rfl
 ·have d:∀g,ay g 0=ay r.L 0->Ok N tags A F {r with L:=g,k:={r.k with bS:=r.k.bS+1}}:=fun g k=>go_ok h b rfl b ⟨a.p0,by dsimp only;omega⟩ (fun _ _=>f) (fun _ _=>e) a.i0 a.j0 k rfl;have k:=dF (L:=r.L) (jq c r.k.buf r.k.i) (AM C a.i0);by_cases l:ay r.L (bZ c r.k.i)=r.k.word
  ·rw[au (Or.inl l),au l];exact qm (d _ k) i j
  ·rw[ah l];split
   ·exact qm (d _ rfl) i j
   ·exact go_ok h b rfl b (by simp only[Rn.pc];omega) (fun _ _=>f) (fun _ _=>e) a.i0 a.j0 rfl rfl
theorem K9(C:WC N tags c t)(h:Ok N tags A F r)(s:r.fR=false)(y:13<=r.k.pc)(z:r.k.pc<=15):Ok N tags A F (Rn.writes c t r):=by
 have d:=h.w.k;have e:=d.early aa;have g:=d.mid aa aa;have i:=d.base aa aa;have B:=d.i0;have l:Ci N tags r.k.aA.own:=d.aA.own.resolve_left g.1;have p:=uZ C l.1;have n:pend r.k=false:=iP e;unfold Rn.writes;dsimp only;split
 ·exact go_ok h e rfl e (by simp only[Rn.pc];omega) (fun _ _=>g) (fun _ _=>i) d.i0 d.j0 (dF _ p) rfl
 split
 ·have m:∀w,ay (setAt r.L (bu c r.k.aA.own.ix+1+r.k.i) w) 0=ay r.L 0:=fun w=>dF w aa;split
  ·exact go_ok h e rfl e (by simp only[Rn.pc];omega) (fun _ _=>g) (fun _ _=>i) (by simp only[Rn.pc];omega) d.j0 (m _) rfl
  ·exact go_ok h e rfl e (by dsimp only;omega) (fun _ _=>g) (fun _ _=>i) (by dsimp only;omega) d.j0 (m _) rfl
 split;case isTrue o =>
  split
  ·exact Cj h g e
  case isFalse f =>
   have f:ay r.L 0=bF r.k.base:=Decidable.not_not.1 f;have q:=l.good C.n C.tags;have k:=i.good C.n C.tags;obtain⟨u,v,x⟩:=DR r.k.aA d.aA g.1;have j:g9 (ay (setAt r.L 0 (bF r.k.aA.own)) 0)=(r.k.aA.own,true):=by rw[vP _ (Ps h.w.good)];exact qj q
   have hold:g9 (ay r.L 0)=(r.k.base,true):=by rw[f];exact qj k
   refine⟨⟨⟨u,fun a b=>by exfalso;dsimp only at b;omega,fun a=>by exfalso;dsimp only at a;omega,⟨fun a=>by exfalso;dsimp only at a;omega,fun a=>by exfalso;dsimp only at a;omega⟩,fun _=>?_,fun a b=>by exfalso;dsimp only at b;omega,fun _=>i,d.i0,d.j0,by dsimp only;omega⟩,?_,?_⟩,?_,?_⟩
   ·exact g.2
   ·dsimp only;rw[j]
   ·dsimp only;rw[j];exact l
   ·rw[<-h.cnt];unfold uW;rw[n];have:pend {r.k with fR:=true,res:=eT c r.k.next t,aA:=eH r.k.aA,pc:=20}=true:=rfl;rw[this];dsimp only;rw[v];simp
   ·rw[<-h.SL];unfold Xe uX yn;rw[n,hold,s];have:pend {r.k with fR:=true,res:=eT c r.k.next t,aA:=eH r.k.aA,pc:=20}=true:=rfl;dsimp only;rw[this,j,x];simp;omega
 ·exact h
theorem DU(C:WC N tags c t)(h:Ok N tags A F r)(i:16<=r.k.pc)(j:r.k.pc<=19):Ok N tags A F (Rn.bT c t r):=by
 have d:=h.w.k;have e:=d.early aa;have f:=d.mid aa aa;have g:=d.j0;unfold Rn.bT;split
 ·exact go_ok h e rfl e (by dsimp only;omega) (fun _ _=>f) (fun a b=>by exfalso;dsimp only at b;omega) d.i0 (cI _) (dF (L:=r.L) (a:=2) ((ay r.L 2+1)%18446744073709551616) aa) rfl
 split
 ·refine go_ok h e rfl e ?_ (fun _ _=>f) (fun a b=>?_) d.i0 (by dsimp only;omega) (dF _ (K6 C C.t0 g)) rfl
  ·dsimp only;split<;>omega
  ·exfalso;dsimp only at b;split at b<;>omega
 split
 ·exact go_ok h e rfl e (by dsimp only;omega) (fun _ _=>f) (fun a b=>by exfalso;dsimp only at a;omega) d.i0 d.j0 (dF _ (Pt C C.t0)) rfl
 split
 ·exact go_ok h e rfl e (by dsimp only;omega) (fun _ _=>f) (fun a b=>by exfalso;dsimp only at b;omega) d.i0 d.j0 rfl rfl
 ·exact h
theorem po(h:Ok N tags A F r)(f:pend r.k=false)(e:r'.k.aA=r.k.aA)(d:r'.k.fR=r.k.fR)(m:r'.k.iN=r.k.iN)(p:22<=r'.k.pc)(o:r'.k.pc<=28)(j:0<=r'.k.i)(k:0<=r'.k.j)(i:ay r'.L 0=ay r.L 0)(n:r'.fR=r.fR):Ok N tags A F r':=by
 have c:=h.w.k
 have g:pend r'.k=false:=iQ aa aa
 refine h.of e (by rw[f,g]) (.inr f) i n ⟨by rw[e];exact c.aA,fun a b=>by exfalso;omega,fun a=>by exfalso;omega,⟨fun a=>by exfalso;omega,fun a=>by exfalso;omega⟩,?_,fun a b=>by exfalso;omega,fun a=>?_,j,k,aa⟩
 ·rw[d,m];exact c.scan
 ·rw[g]at a;cases a
theorem Ut(C:WC N tags c t)(h:Ok N tags A F r)(_:20<=r.k.pc)(_:r.k.pc<=23):Ok N tags A F (Rn.ends c t r):=by
 have d:=h.w.k;unfold Rn.ends;split;case isTrue l =>
  by_cases e:r.k.fR=true
  ·have i:pend r.k=true:=by unfold pend;rw[e,l];rfl
   rw[e,au rfl];refine h.of rfl ?_ (.inl rfl) (dF _ (tN C C.t0)) rfl ⟨d.aA,fun a b=>by exfalso;dsimp only at b;omega,fun a=>by exfalso;dsimp only at a;omega,⟨fun a=>by exfalso;dsimp only at a;omega,fun _=>e⟩,d.scan,fun a b=>by exfalso;dsimp only at b;omega,fun _=>d.pnd i,d.i0,d.j0,by dsimp only;omega⟩;rw[i];unfold pend;dsimp only;rw[e];rfl
  ·have n:r.k.fR=false:=by simpa using e
   rw[ah e];exact po h (iP n) rfl rfl rfl (by dsimp only;omega) (by dsimp only;omega) d.i0 d.j0 (dF _ (tN C C.t0)) rfl
 split;case isTrue j =>
  by_cases e:r.k.fR=true
  ·have i:pend r.k=true:=by unfold pend;rw[e,j];rfl
   obtain⟨s,u,v,w⟩:=GK r.k.aA r.k.base (ay r.L 1) d.aA (d.pnd i);have f:∀p:Pl,pend {r.k with aA:=p,pc:=22}=false:=fun p=>iQ (by dsimp only;omega) (by dsimp only;omega);refine⟨⟨⟨s,fun a b=>by exfalso;dsimp only at b;omega,fun a=>by exfalso;dsimp only at a;omega,⟨fun a=>by exfalso;dsimp only at a;omega,fun a=>by exfalso;dsimp only at a;omega⟩,d.scan,fun a b=>by exfalso;dsimp only at b;omega,fun a=>?_,d.i0,d.j0,by dsimp only;omega⟩,h.w.good,h.w.root⟩,?_,?_⟩
   ·rw[f]at a;cases a
   ·rw[<-h.cnt];unfold uW;rw[f,i];dsimp only;rw[u];simp
   ·rw[<-h.SL];unfold Xe uX;rw[f,i];dsimp only;rw[v];simp
  ·exact absurd (d.late.2 j) e
 split;case isTrue o =>
  dsimp only;have g:Ok N tags A F {r with k:={r.k with word:=ay r.L (bZ c t)}}:=po h (iQ aa aa) rfl rfl rfl (by dsimp only;omega) (by dsimp only;omega) d.i0 d.j0 rfl rfl;split
  ·exact yo g (by dsimp only;omega) (by dsimp only;omega)
  ·exact DT g 23 aa aa (iQ (by dsimp only;omega) (by dsimp only;omega))
 split;case isTrue q =>
  dsimp only;have g:∀k,ay k 0=ay r.L 0->Ok N tags A F {r with L:=k,k:={r.k with bS:=r.k.bS+1,pc:=22}}:=fun k m=>po h (iQ aa aa) rfl rfl rfl (by dsimp only;omega) (by dsimp only;omega) d.i0 d.j0 m rfl;have m:=dF (L:=r.L) (fG r.k.res) (AM C C.t0);by_cases f:ay r.L (bZ c t)=r.k.word
  ·rw[au (Or.inl f),au f];exact yo (g _ m) (by dsimp only;omega) (by dsimp only;omega)
  ·rw[ah f];split
   ·exact yo (g _ rfl) (by dsimp only;omega) (by dsimp only;omega)
   ·exact g _ rfl
 ·exact h
theorem GM(C:WC N tags c t)(h:Ok N tags A F r)(k:24<=r.k.pc)(v:r.k.pc<=27):Ok N tags A F (Rn.cV c t r):=by
 have d:=h.w.k;have w:=d.i0;have e:pend r.k=false:=iQ aa aa;have back:∀(b:Rn) (f:Od->Bool),Ok N tags A F b->pend b.k=false->Ok N tags A F {b with k:={b.k with aA:=lh b.k.aA f}}:=by
  intro b f h e;have d:=h.w.k;obtain⟨p,q,s,u⟩:=GJ b.k.aA f d.aA;have j:pend {b.k with aA:=lh b.k.aA f}=false:=e;refine⟨⟨⟨p,by dsimp only;rw[u];exact d.mid,d.early,d.late,d.scan,d.base,fun a=>?_,d.i0,d.j0,d.p0⟩,h.w.good,h.w.root⟩,?_,?_⟩
  ·rw[j]at a;cases a
  ·rw[<-h.cnt];unfold uW;rw[e,j];dsimp only;rw[q]
  ·rw[<-h.SL];unfold Xe uX;rw[e,j];dsimp only;rw[s]
 unfold Rn.cV;split
 ·dsimp only;have g:Ok N tags A F {r with k:={r.k with word:=ay r.L 1,i:=0,all:=true,pc:=25}}:=po h e rfl rfl rfl (by dsimp only;omega) (by dsimp only;omega) (cI _) d.j0 rfl rfl;have l:=back _ (fun o=>past o.gF (ay r.L 1)) g (iQ (by dsimp only;omega) (by dsimp only;omega));split
  ·exact sj C l (by dsimp only;omega) (by dsimp only;omega)
  ·exact l
 split
 ·dsimp only;split
  ·exact po h e rfl rfl rfl (by dsimp only;omega) (by dsimp only;omega) (by dsimp only;omega) d.j0 rfl rfl
  ·refine po h e rfl rfl rfl ?_ ?_ (cI _) d.j0 rfl rfl
   ·dsimp only;split<;>omega
   ·dsimp only;split<;>omega
 split
 ·dsimp only;have i:∀b:Rn,Ok N tags A F b->pend b.k=false->Ok N tags A F (if needs (b.pc 27).k.aA c.aL=false then Rn.cB c (b.pc 27)else b.pc 27):=by
   intro b k n;have g:=DT k 27 aa aa n;split
   ·exact sj C g (by simp only[Rn.pc];omega) (by simp only[Rn.pc];omega)
   ·exact g
  by_cases m:ay r.L 1=r.k.word
  ·rw[au m];exact i _ (back (r.store 1 (r.k.word+1)) (fun o=>past o.gF (r.k.word+1)) (yq h aa _) e) e
  ·rw[ah m];exact i _ h e
 split
 ·dsimp only;have g:Ok N tags A F {r with k:={r.k with seen:=r.k.seen++[ay r.L (iq c r.k.i)],i:=r.k.i+1}}:=po h e rfl rfl rfl (by dsimp only;omega) (by dsimp only;omega) (by dsimp only;omega) d.j0 rfl rfl;split
  ·exact sj C (back _ (fun o=> !(r.k.seen++[ay r.L (iq c r.k.i)]).contains (bF o.ref)) g (iQ (by dsimp only;omega) (by dsimp only;omega))) (by dsimp only;omega) (by dsimp only;omega)
  ·exact g
 ·exact h
theorem Pw(C:WC N tags c t)(h:Ok N tags A F r)(d:r.k.pc=28):Ok N tags A F (Rn.leave c t r):=by
 have a:pend r.k=false:=iQ aa aa;have b:=yq h (xt C C.t0) 0;unfold Rn.leave;dsimp only;split
 ·exact uY b a
 ·exact b.of rfl (by show pend _=pend r.k;rw[a];rfl) (.inr a) rfl rfl (xr h.w.k.aA aa aa)
theorem wU{p:Prop}[Decidable p]{x y:Rn}(a:p->Ok N tags A F x)(b:¬p->Ok N tags A F y):Ok N tags A F (if p then x else y):=by
 split;case isTrue h=>exact a h
 case isFalse h=>exact b h
theorem Px(C:WC N tags c t)(h:Ok N tags A F r)(e:29<=r.k.pc):Ok N tags A F (Rn.waits c t r):=by
 have hk:=h.w.k;have hw:=hk.late.1 e;have hm:∀{n:Int} {P:Prop},20<=n->3<=n->n<=19->P:=fun a _ b=>by exfalso;omega
 have hb:∀{n:Int} {P:Prop},20<=n->4<=n->n<=15->P:=fun a _ b=>by exfalso;omega
 unfold Rn.waits;refine wU (fun _=>?_) (fun _=>?_)
 ·dsimp only;refine wU (fun _=>?_) (fun _=>?_)
  ·refine uY (go_ok h hw rfl hw (by dsimp only;omega) (hm (by dsimp only;omega)) (hb (by dsimp only;omega)) hk.i0 hk.j0 rfl rfl) (iP hw)
  ·exact go_ok h hw rfl hw (by simp only[Rn.pc];omega) (hm (by simp only[Rn.pc];omega)) (hb (by simp only[Rn.pc];omega)) hk.i0 hk.j0 rfl rfl
 refine wU (fun _=>?_) (fun _=>?_)
 ·exact Zq
 refine wU (fun _=>?_) (fun _=>?_)
 ·exact Xf
 refine wU (fun _=>?_) (fun _=>?_)
 ·exact Zq
 refine wU (fun _=>?_) (fun _=>?_)
 ·exact Xg
 refine wU (fun _=>?_) (fun _=>?_)
 ·have d:∀p:Prop,[Decidable p]->(20:Int)<=(if p then 35 else 37):=fun p _=>by split<;>omega
  exact go_ok h hw rfl hw (by have:=d (ay r.L 0=bF r.k.base);dsimp only;omega) (hm (d _)) (hb (d _)) hk.i0 hk.j0 rfl rfl
 refine wU (fun _=>?_) (fun _=>?_)
 ·have d:∀p:Prop,[Decidable p]->(20:Int)<=(if p then 36 else 37):=fun p _=>by split<;>omega
  exact go_ok h hw rfl hw (by have:=d (ay r.L (bu c r.k.base.ix)=r.k.base.tag);simp only[Rn.pc];omega) (hm (d _)) (hb (d _)) hk.i0 hk.j0 rfl rfl
 refine wU (fun _=>?_) (fun _=>?_)
 ·exact Zq
 refine wU (fun _=>?_) (fun _=>?_)
 ·exact Xg
 refine wU (fun _=>?_) (fun _=>?_)
 ·dsimp only;refine wU (fun _=>?_) (fun _=>?_)
  ·exact go_ok h hw rfl hw (by dsimp only;omega) (hm (by dsimp only;omega)) (hb (by dsimp only;omega)) hk.i0 hk.j0 (dF _ (xt C C.t0)) rfl
  ·exact Xf
 ·exact h
theorem Uu(C:WC N tags c t)(h:Ok N tags A F r)(a:r.fR=false):Ok N tags A F (eD c t r):=by
 have b:=h.w.k.p0;unfold eD;split
 ·exact h
 split
 ·exact Pu C h aa aa
 split
 ·exact K7 C h aa aa
 split
 ·exact K8 h aa aa
 split
 ·exact GL C h aa aa
 split
 ·exact K9 C h a aa aa
 split
 ·exact DU C h aa aa
 split
 ·exact Ut C h aa aa
 split
 ·exact GM C h aa aa
 split
 ·exact Pw C h aa
 ·exact Px C h aa
end
end Mo
namespace Mo
def yt(f:Tk->Int)(l:List Tk):Int:=(l.map f).sum
theorem tO(f:Tk->Int):∀(l:List Tk) (t:Nat) (x y:Tk),l[t]?=some x->yt f (l.set t y)=yt f l-f x+f y:=by
 intro l;induction l with
 |nil=>intro t x y h;simp at h
 |cons z l a =>
  intro t x y h;rcases t with _|t
  ·simp at h;subst h;simp[yt];omega
  ·have:=a t x y (by simpa using h);unfold yt at this ⊢;simp at this ⊢;omega
structure MI (N tags:Int) (x:Mc):Prop where
 len:(x.T.length:Int)=x.c.threads
 all:∀k∈x.T,KI N tags k
 good:(g9 (ay x.L 0)).2=true
 root:Ci N tags (g9 (ay x.L 0)).1
 cnt:yt uW x.T=N-1
 SL:yt (uX tags) x.T+yn x.L=x.V.length+1
structure CC (N tags:Int) (c:bA):Prop where
 n:N<=65535
 tg:tags=c.tags
 tags:tags<=4294967295
 th:1<=c.threads
 size:0<=bn c
theorem CC.wc{tags:Int}{c:bA}(h:CC N tags c)(t:Nat):WC N tags c t:=⟨h.n,h.tg,h.tags,h.th,aa,h.size⟩
section
variable{N tags:Int} {x:Mc}
theorem om(h:t<x.T.length):x.T[t]?=some (bm x t):=by unfold bm;rw[cZ,cY h];rfl
theorem MI.bj{y:Mc}(h:MI N tags x)(F:t<x.T.length)(e:y.T=x.T.set t k')(C:y.c=x.c)(hL:y.L=x.L)(u:y.V=x.V)(D:KI N tags k')(h1:uW k'=uW (bm x t))(h2:uX tags k'=uX tags (bm x t)):MI N tags y:=by
 have b:=om F;refine⟨by rw[e,C,cq];exact h.len,?_,by rw[hL];exact h.good,by rw[hL];exact h.root,?_,?_⟩
 ·rw[e];intro k c;rcases List.mem_or_eq_of_mem_set c with a|a
  ·exact h.all k a
  ·rw[a];exact D
 ·rw[e,tO _ _ _ _ _ b,h1,h.cnt];omega
 ·rw[e,hL,u,tO _ _ _ _ _ b,h2, <-h.SL];omega
theorem MI.same{y:Mc}(h:MI N tags x)(a:y.T=x.T)(f:y.c=x.c)(hL:y.L=x.L)(e:y.V=x.V):MI N tags y:=⟨by rw[a,f];exact h.len,by rw[a];exact h.all,by rw[hL];exact h.good,by rw[hL];exact h.root,by rw[a];exact h.cnt,by rw[a,hL,e];exact h.SL⟩
theorem DV{q:Rq}(h:MI N tags x)(g:t<x.T.length):MI N tags (cS x t q).1:=by
 have i:=h.all _ (dB (om g));unfold cS;dsimp only;split
 ·exact h
 case isFalse j =>
  have a:(dE x.c (bm x t) q).2=0:=Decidable.not_not.1 j;unfold dE at a ⊢;by_cases c:(bm x t).pc≠0
  ·rw[au c]at a;cases a
  ·rw[ah c]at a ⊢;by_cases d:bk q=false
   ·rw[au d]at a;cases a
   ·rw[ah d]at a ⊢;by_cases e:x.c.bG<=(bm x t).seq
    ·rw[au e]at a;cases a
    ·rw[ah e];have f:pend (bm x t)=false:=iQ aa aa;have b:=xr (pc:=1) (seq:=(bm x t).seq+1) (q:=q) (rs:=dD) (b:=false) i.aA aa aa;refine h.bj g rfl rfl rfl rfl ⟨b.aA,b.mid,b.early,b.late,b.scan,b.base,b.pnd,b.i0,b.j0,b.p0⟩ ?_ ?_
     ·unfold uW;rw[f];rfl
     ·unfold uX;rw[f];rfl
theorem AP{q:Rq}:(cS x t q).1.T.length=x.T.length/\(cS x t q).1.c=x.c:=by
 unfold cS;dsimp only;split
 ·exact⟨rfl,rfl⟩
 ·exact⟨cq,rfl⟩
theorem Uv{q:Rq}(h:MI N tags x)(a:t<x.T.length):MI N tags (iB x t q).1:=by
 unfold iB;split
 ·exact h
 ·dsimp only;split
  ·exact h.same rfl rfl rfl rfl
  ·exact DV (x:={x with time:=x.time+1}) (h.same rfl rfl rfl rfl) a
theorem Uw{a:Int}{outs:List Int}(h:MI N tags x):MI N tags (iZ x t a outs).1:=by
 unfold iZ;split
 ·exact h
 ·split
  ·exact h
  ·exact h.same rfl rfl rfl rfl
theorem JH(h:MI N tags x)(a:t<x.T.length):MI N tags (eL x t)/\(eL x t).T.length=x.T.length/\(eL x t).c=x.c:=by
 unfold eL;split
 ·exact⟨h,rfl,rfl⟩
 ·split
  ·exact⟨h,rfl,rfl⟩
  ·split
   ·exact⟨h.same rfl rfl rfl rfl,rfl,rfl⟩
   ·exact⟨DV h a,AP⟩
theorem Ux(C:CC N tags x.c)(h:MI N tags x)(i:t<x.T.length):MI N tags (iO x t):=by
 obtain⟨a,g,c⟩:=JH (x:={x with time:=x.time+1}) (t:=t) (h.same rfl rfl rfl rfl) i;unfold iO;dsimp only;generalize eL {x with time:=x.time+1} t=y at a g c ⊢;have m:t<y.T.length:=by rw[g];exact i
 have l:WC N tags y.c t:=by rw[c];exact C.wc t
 split
 ·exact a
 ·have e:=om m;have p:=a.all _ (dB e);have q:Ok N tags (uW (bm y t)) (uX tags (bm y t)+yn y.L) ⟨bm y t,y.L,0,false,[]⟩:=⟨⟨p,a.good,a.root⟩,rfl,by unfold Xe;simp⟩
  have b:=Uu l q rfl;have o:y.c=x.c:=c;rw[<-o];generalize eD y.c t ⟨bm y t,y.L,0,false,[]⟩=r at b ⊢;have key:∀z:Mc,z.T=y.T.set t r.k->z.c=y.c->z.L=r.L->z.V.length=y.V.length+(if r.fR=true then 1 else 0)->MI N tags z:=by
   intro z zT u f s;have hn:=b.SL;unfold Xe at hn;have v:=a.SL;refine⟨by rw[zT,u,cq];exact a.len,?_,by rw[f];exact b.w.good,by rw[f];exact b.w.root,?_,?_⟩
   ·rw[zT];intro k n;rcases List.mem_or_eq_of_mem_set n with d|d
    ·exact a.all k d
    ·rw[d];exact b.w.k
   ·rw[zT,tO _ _ _ _ _ e,b.cnt,a.cnt];omega
   ·rw[zT,f,tO _ _ _ _ _ e,s];split at hn<;>simp_all<;>omega
  by_cases j:(bm y t).waits=true
  ·rw[au j];exact abG
  ·rw[ah j];exact abG
theorem abH(e:Ev)(C:CC N tags x.c)(h:MI N tags x):MI N tags (sM x e).1:=by
 unfold sM;split
 ·exact h
 ·have a:e.th.toNat<x.T.length:=aa;split
  ·exact Ux C h a
  split
  ·exact Uv h a
  split
  ·exact Uw h
  ·exact h
end
theorem Ck:∀(l:List Int) (L:List Int) (a:Int),0<a->ay (lj L a l) 0=ay L 0:=by
 intro l;induction l with
 |nil=>intro L a _;rfl
 |cons w l c=>intro L a b;show ay (lj (setAt L a w) (a+1) l) 0=_;rw[c _ _ aa,dF _ b]
theorem Py{c:bA}(h:aU c=true):0<=eX c:=by
 unfold eX;rw[ah (by rw[h];decide)];unfold aU rA kD at h;simp only[cA,bP]at h;obtain⟨⟨⟨⟨⟨⟨e,_⟩,_⟩,_⟩,_⟩,_⟩,a⟩:=h;split;case isTrue d=>rw[ah aa,au d]at a;simp only[cA,bP]at a;have:0<=c.chans*(1+c.cap):=ly aa aa;omega
 case isFalse d =>
  by_cases b:c.kind=1\/c.kind=2
  ·rw[au b]at a;simp only[cA,bP]at a;omega
  ·rw[ah b,ah d]at a;cases a
theorem vQ{c:bA}(h:aU c=true):1<=c.threads/\c.threads<=64/\1<=c.nodes/\c.nodes<=64/\1<=c.tags/\c.tags<=4294967295:=by unfold aU kD at h;simp only[cA,bP]at h;omega
theorem DW{c:bA}(h:aU c=true):CC (cN c) c.tags c:=by
 obtain⟨a,b,g,d,i,f⟩:=vQ h;have e:cN c=1+c.threads*c.nodes:=by unfold cN;rw[ah (by rw[h];decide)]
 have:c.threads*c.nodes<=64*64:=Int.mul_le_mul b d aa aa;refine⟨aa,rfl,f,a,?_⟩;have:=Py h;unfold bn;split<;>omega
theorem Uy{b start n:Int}(j:0<=n)(k:n<=64)(p:0<=start)(m:start+n<=N)(q:0<=b):PI N b (wK start n)/\qh (wK start n)=n/\qi b (wK start n)=0:=by
 have e:(min (max n 0) 64).toNat=n.toNat:=aa;have f:∀l:List Nat,pT (l.map fun(i:Nat)=>(⟨start+i,0⟩:Rf))=0:=by
  intro l;induction l with
  |nil=>rfl
  |cons a l h=>rw[List.map_cons,rf,h];rfl
 refine⟨⟨.inl rfl,?_,?_,cI _⟩,?_,?_⟩
 ·intro s c;unfold wK at c;obtain⟨i,d,rfl⟩:=List.mem_map.1 c;rw[e]at d;have:=List.mem_range.1 d;unfold Ny;dsimp only;omega
 ·intro o g;cases g
 ·unfold qh wT wK pO;simp;omega
 ·unfold qi wT wK pO;dsimp only;rw[f];simp[pT]
theorem Pz{c:bA}(h:aU c=true):MI (cN c) c.tags (iA c):=by
 obtain⟨z,A,B,q,D,E⟩:=vQ h;have e:cN c=1+c.threads*c.nodes:=by unfold cN;rw[ah (by rw[h];decide)]
 have C:=DW h;have g:∀t:Nat,t<c.threads.toNat->PI (cN c) c.tags (nM c t)/\qh (nM c t)=c.nodes/\qi c.tags (nM c t)=0:=by intro t d;have y:0<=(t:Int)*c.nodes:=ly aa aa;have p:((t:Int)+1)*c.nodes<=c.threads*c.nodes:=Int.mul_le_mul_of_nonneg_right aa aa;rw[Int.add_mul]at p;exact Uy aa q aa aa aa
 have r:ay (ir c) 0=bF ⟨0,1⟩:=by
  have x:=uZ (C.wc 0) (i:=0) (cI _);unfold ir;rw[Ck _ _ _ aa,dF _ x];refine vP _ ?_;rw[gp];have:bB c=bu c (cN c):=by unfold bB;rw[ah (by rw[h];decide)]
  have b:0<=c.threads*c.nodes:=ly aa aa;have:=uZ (C.wc 0) (i:=cN c) aa;omega
 have j:g9 (ay (ir c) 0)=(⟨0,1⟩,true):=by rw[r];exact qj rfl
 have hlen:((List.range c.threads.toNat).length:Int)=c.threads:=by rw[List.length_range];omega
 have n:∀(f:Tk->Int) (v:Int) (l:List Nat),(∀t∈l,f (lV c t)=v)->yt f (l.map fun(t:Nat)=>lV c t)=v*l.length:=by
  intro f v l;induction l with
  |nil=>intro _;simp[yt]
  |cons a l w=>intro o;have m:=w (fun t d=>o t (List.mem_cons_of_mem _ d));have u:=o a List.mem_cons_self;unfold yt at m ⊢;simp at m ⊢;rw[m,u,Int.mul_add];omega
 refine⟨?_,?_,?_,?_,?_,?_⟩
 ·show(((List.range c.threads.toNat).map _).length:Int)=_;rw[cW];exact hlen
 ·intro k s;obtain⟨t,d,rfl⟩:=List.mem_map.1 s;exact xr (g t (List.mem_range.1 d)).1 aa aa
 ·show(g9 (ay (ir c) 0)).2=true;rw[j]
 ·show Ci _ _ (g9 (ay (ir c) 0)).1;rw[j];have b:0<=c.threads*c.nodes:=ly aa aa;unfold Ci;dsimp only;omega
 ·show yt uW ((List.range c.threads.toNat).map fun(t:Nat)=>lV c t)=_;rw[n uW c.nodes _ (fun t d=>?_),hlen,e,Int.mul_comm]
  ·omega
  ·show qh (nM c t)+(if pend (lV c t)=true then 1 else 0)=_;rw[(g t (List.mem_range.1 d)).2.1];simp[pend,lV,eY]
 ·show yt (uX c.tags) ((List.range c.threads.toNat).map fun(t:Nat)=>lV c t)+yn (ir c)=_;rw[n (uX c.tags) 0 _ (fun t d=>?_)]
  ·unfold yn;rw[j];simp[iA]
  ·show qi c.tags (nM c t)+(if pend (lV c t)=true then(lV c t).base.tag else 0)=_;rw[(g t (List.mem_range.1 d)).2.2];simp[pend,lV,eY]
end Mo
end Go.Proofs.YtjcjjiieblineaaGreat
