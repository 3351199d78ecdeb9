/- Walks and plain facts. No condition. -/
import Derived.Test.YtjcjjiieblineaaGreatPa
namespace Go.Proofs.YtjcjjiieblineaaGreat
open Go.Proofs.Tryz
set_option maxHeartbeats 8000000
set_option maxRecDepth 100000
set_option linter.all false
namespace Mo
structure bA where
 (kind threads chans cap nodes aL aF tags bG bt:Int)
 start:List Int
deriving DecidableEq
structure Rf where
 (ix tag:Int)
deriving DecidableEq
structure Rs where
 (seq cs code value:Int)
deriving DecidableEq
abbrev Cs:=Int×Int×Int
structure Rq where
 (kind arg value:Int)
 dflt:Bool
 cases:List Cs
deriving DecidableEq
structure Ch where
 (gen cap:Int)
 (used closed:Bool)
 buf:List Int
deriving DecidableEq
structure Wt where
 on:Bool
 (az seq:Int)
 cases:List Cs
deriving DecidableEq
structure Hl where
 az:Int
 chans:List Ch
 waits:List Wt
 done:List Rs
deriving DecidableEq
structure Cl where
 cap:Int
 list:List Int
 done:List Rs
deriving DecidableEq
structure Op where
 (th seq phase:Int)
 aN:Rq
deriving DecidableEq
structure Od where
 ref:Rf
 gF:Int
deriving DecidableEq
structure Pl where
 own:Rf
 free:List Rf
 old:List Od
 spent:Int
deriving DecidableEq
def ay(L:List Int)(a:Int):Int:=if a<0 then 0 else L.getD a.toNat 0
def setAt(L:List Int)(a w:Int):List Int:=if a<0 then L else L.set a.toNat w
def jz(r:Rf):Bool:=decide (0<=r.ix/\r.ix<=65534/\1<=r.tag/\r.tag<=4294967295)
def bF(r:Rf):Int:=if jz r=true then r.tag*65536+r.ix+1 else 0
def g9(w:Int):Rf×Bool:=if bF ⟨w%65536-1,w/65536%4294967296⟩≠w\/w=0 then(⟨0,0⟩,false)else(⟨w%65536-1,w/65536%4294967296⟩,true)
def fy(s:Rf)(last:Int):Rf×Bool:=if s.tag<0\/min last 4294967295<=s.tag then(⟨0,0⟩,false)else if jz ⟨s.ix,s.tag+1⟩=true then(⟨s.ix,s.tag+1⟩,true)else(⟨0,0⟩,false)
def nh(p g:Int):Int:=if p<0\/8<=p\/g<1\/4095<g then 0 else g*8+p
def eO(h:Int):Int×Int×Bool:=if h<8\/32768<=h then(0,0,false)else(h%8,h/8,true)
def fits(n m:Int):Bool:=decide (0<=n/\n<m)
def ew(r:Rs):Bool:=decide (0<=r.seq/\r.seq<=1048575/\0<=r.cs/\r.cs<=15/\0<=r.code/\r.code<=255/\0<=r.value/\r.value<=4294967295)
def fG(r:Rs):Int:=if ew r=true then r.seq*17592186044416+r.cs*1099511627776+r.code*4294967296+r.value else 0
def cL(x:Int):Rs:=⟨x/17592186044416,x/1099511627776%16,x/4294967296%256,x%4294967296⟩
def final(r:Rs):Bool:=r.code !=14
def Oe(r:Rs):Int:=if final r=true then 2*r.seq+1 else 2*r.seq
def behind(a b:Int):Bool:=decide (Oe (cL a)<Oe (cL b))
def j7(c:Cs):Bool:=(c.1==1 || c.1==2) && fits c.2.1 65536 && fits c.2.2 4294967296
def bk(q:Rq):Bool:=decide (1<=q.kind/\q.kind<=9) && fits q.arg 65536 && fits q.value 4294967296 && decide (q.cases.length<=3) && q.cases.all j7
def nj(c:Cs):Int:=c.1+c.2.1*256+c.2.2*4294967296
def Of(q:Rq):Int:=q.kind+q.cases.length*256+(if q.dflt=true then 4096 else 0)+q.arg*65536+q.value*4294967296
def iM(q:Rq)(a:Int):List Int:=if(bk q && fits a 4294967296)=true then Of q::(q.cases.map nj++List.replicate (3-q.cases.length) 0++[a])else[]
def pZ(x:Int):Cs:=(x%256,x/256%65536,x/4294967296)
def eC(l:List Int):Rq×Int×Bool :=
 let h:=l.getD 0 0
 let n:=h/256%16
 let q:Rq:=⟨h%256,h/65536%65536,h/4294967296,h/4096%2==1,((l.drop 1).take n.toNat).map pZ⟩
 if l.length=5/\n<=3/\l.getD 4 0<=4294967295/\iM q (l.getD 4 0)=l then(q,l.getD 4 0,true)else(⟨0,0,0,false,[]⟩,0,false)
def ig(g:Int):Int:=2*g+1
def lets(w g:Int):Bool:=w==0 || w==ig g
def kD(n a b:Int):Bool:=decide (a<=n/\n<=b)
def rA(c:bA):Bool :=
 if c.kind=1\/c.kind=2 then kD c.cap 1 16 && c.chans==0 && c.bt==0 && decide (c.start.length=0)
 else if c.kind=3 then kD c.chans 1 8 && kD c.cap 0 8 && kD c.bt 1 4095 && decide ((c.start.length:Int)<=c.chans) && c.start.all fun n=>kD n 0 c.cap
 else false
def aU(c:bA):Bool:=kD c.threads 1 64 && kD c.nodes 1 64 && kD c.aL 1 32 && kD c.aF 0 4 && kD c.tags 1 4294967295 && kD c.bG 1 1048575 && rA c
def eX(c:bA):Int:=if aU c=false then 0 else if c.kind=3 then 1+c.chans*(1+c.cap)+c.threads*4 else 1+c.cap
def bn(c:bA):Int:=if aU c=false then 0 else eX c+c.threads
def gA(l:List Int)(a:Int):Bool:=decide ((l.length:Int)<=a) && l.all fun x=>kD x 0 4294967295
def lO(l:List Rs)(n:Int):Bool:=decide ((l.length:Int)=n) && l.all ew
def k8(c:bA)(x:Ch):Bool:=kD x.gen 0 4095 && kD x.cap 0 c.cap && gA x.buf x.cap && (x.used || (!x.closed && x.cap==0))
def fU(w:Wt):Bool :=
 if w.on=false then w.az==0 && w.seq==0 && decide (w.cases.length=0)
 else kD w.az 0 4294967295 && kD w.seq 0 1048575 && kD w.cases.length 1 3 && bk ⟨3,0,0,false,w.cases⟩
def gq(c:bA)(h:Hl):Bool:=aU c && c.kind==3 && kD h.az 0 4294967295 && decide ((h.chans.length:Int)=c.chans) && decide ((h.waits.length:Int)=c.threads) && lO h.done c.threads && h.chans.all (k8 c) && h.waits.all fU
def nZ(c:bA)(x:Cl):Bool:=aU c && c.kind !=3 && x.cap==c.cap && gA x.list c.cap && lO x.done c.threads
def k9(l:List Int)(n:Nat):List Int:=l.take n++List.replicate (n-l.length) 0
def flag(b:Bool):Int:=if b=true then 1 else 0
def rP(x:Ch):Int:=x.gen+x.cap*4096+flag x.used*65536+flag x.closed*131072+x.buf.length*1048576
def kE(c:bA)(x:Ch):List Int:=rP x::k9 x.buf c.cap.toNat
def j8(w:Wt):List Int:=(flag w.on+w.cases.length*2+w.seq*16+w.az*4294967296)::(w.cases.map nj++List.replicate (3-w.cases.length) 0)
def lg(c:bA)(h:Hl):List Int:=if gq c h=true then h.az::(h.chans.flatMap (kE c)++h.waits.flatMap j8++h.done.map fG)else[]
def lS(c:bA)(x:Cl):List Int:=if nZ c x=true then(x.list.length:Int)::(k9 x.list c.cap.toNat++x.done.map fG)else[]
def jt(c:bA)(l:List Int):Ch :=
 let h:=l.getD 0 0
 ⟨h%4096,h/4096%16,h/65536%2==1,h/131072%2==1,(((l.drop 1).take c.cap.toNat).take (h/1048576%16).toNat).map (·%4294967296)⟩
def jL(l:List Int):Wt :=
 let h:=l.getD 0 0
 ⟨h%2==1,h/4294967296,h/16%1048576,(((l.drop 1).take 3).take (h/2%8).toNat).map pZ⟩
def pieces{α:Type}(f:List Int->α)(m:Nat):Nat->List Int->List α
 |0,_=>[]
 |n+1,l=>f l::pieces f m n (l.drop m)
def nI(c:bA)(l:List Int):Hl :=
 let a:=l.drop 1
 let b:=a.drop ((1+c.cap.toNat)*c.chans.toNat)
 ⟨l.getD 0 0%4294967296,pieces (jt c) (1+c.cap.toNat) c.chans.toNat a,pieces jL 4 c.threads.toNat b,pieces (fun l=>cL (l.getD 0 0)) 1 c.threads.toNat (b.drop (4*c.threads.toNat))⟩
def j9(c:bA)(l:List Int):Option Hl:=if(aU c && c.kind==3 && decide ((l.length:Int)=bn c) && decide (lg c (nI c l)=l))=true then some (nI c l)else none
def cellsOf(c:bA)(l:List Int):Cl :=
 let n:=min (l.getD 0 0) 17
 ⟨c.cap,(((l.drop 1).take c.cap.toNat).take n.toNat).map (·%4294967296),pieces (fun l=>cL (l.getD 0 0)) 1 c.threads.toNat (l.drop (1+c.cap.toNat))⟩
def mA(c:bA)(l:List Int):Option Cl:=if(aU c && c.kind !=3 && decide ((l.length:Int)=bn c) && decide (lS c (cellsOf c l)=l))=true then some (cellsOf c l)else none
end Mo
abbrev dV (c:Mo.bA) (A:Option Addr) (n k:Nat):Obj:=.cells #[c.kind,c.threads,c.chans,c.cap,c.nodes,c.aL,c.aF,c.tags,c.bG,c.bt,.slice A n k] 24
abbrev jo:Obj:=.cells #[oZ,oZ,oZ,oZ] 48
abbrev rB:Obj:=.cells #[oZ,oZ,false,false,oN] 83
abbrev vJ:Obj:=.cells #[oZ,oZ,oN,oN,oZ] 39
abbrev Av:Obj:=.cells #[oZ,oN,oN,oN] 71
abbrev FU:Obj:=.cells #[oZ,oN,oN] 119
abbrev YW:Obj:=.cells #[oZ,oZ,oZ,false,oN] 42
abbrev jx (q:Mo.Rq) (A:Option Addr) (n c:Nat):Obj:=.cells #[q.kind,q.arg,q.value,q.dflt,.slice A n c] 42
abbrev tz (x:Mo.Ch) (A:Option Addr) (n c:Nat):Obj:=.cells #[x.gen,x.cap,x.used,x.closed,.slice A n c] 83
abbrev uB (x:Int) (A:Option Addr) (a b:Nat) (B:Option Addr) (c d:Nat) (C:Option Addr) (e f:Nat):Obj:=.cells #[x,.slice A a b,.slice B c d,.slice C e f] 71
abbrev rD (x y:Int) (A:Option Addr) (a b:Nat) (B:Option Addr) (c d:Nat) (z:Int):Obj:=.cells #[x,y,.slice A a b,.slice B c d,z] 39
abbrev mi (x:Int) (A:Option Addr) (a b:Nat) (B:Option Addr) (c d:Nat):Obj:=.cells #[x,.slice A a b,.slice B c d] 119
abbrev qX (a b c d:Int):Obj:=.cells #[a,b,c,d] 48
namespace Mo
def ij{α:Type}(a:α->α->Bool)(x:α):List α->List α
 |[]=>[x]
 |y::l=>if a x y=true then y::ij a x l else x::y::l
def dX{α:Type}(b:α->α->Bool)(l:List α):List α:=(l.foldl (fun a x=>ij b x a) []).reverse
def lT(w:Wt)(b a:Int):Option Nat:=if w.on=true then w.cases.findIdx? (fun c=>c.1==b && c.2.1==a)else none
def eI(l:List Wt)(b a:Int):Nat->Option (Nat×Nat)
 |0=>none
 |k+1=>match l[k]? with
  |none=>eI l b a k
  |some w=>match lT w b a with
   |none=>eI l b a k
   |some i=>match eI l b a k with
    |none=>some (k,i)
    |some (t,j)=>if w.az<(l.getD t ⟨false,0,0,[]⟩).az then some (k,i)else some (t,j)
def dW(l:List Wt)(b a:Int):Option (Nat×Nat):=eI l b a l.length
def iz:Wt:=⟨false,0,0,[]⟩
def iG(l:List Wt)(t:Nat):Int:=(l.getD t iz).az
def qY(l:List Wt)(d:Int):List Nat:=dX (fun a b=>decide (iG l a<iG l b)) ((List.range l.length).filter fun t=>(l.getD t iz).on && (l.getD t iz).cases.any fun c=>c.2.1==d)
def wI(l:List Wt)(t:Int)(w:Wt):Option (List Wt):=if t<0 then none else match l[t.toNat]? with|none=>none|some x=>if x.on=true then none else some (l.set t.toNat {w with on:=true})
def gY(l:List Wt)(t:Nat):List Wt:=l.set t iz
structure Told where
 th:Nat
 res:Rs
structure p9 where
 c:Ch
 l:List Wt
 r:Rs
 told:List Told
def dD:Rs:=⟨0,0,0,0⟩
def bI(e:Int):Rs:=⟨0,0,e,0⟩
def dt(c:Ch)(a:Int)(l:List Wt)(d:Int):Bool :=
 if c.used=false then false
 else if d=1 then c.closed || (dW l 2 a).isSome || decide ((c.buf.length:Int)<c.cap)
 else if d=2 then c.closed || (dW l 1 a).isSome || decide (0<c.buf.length)
 else false
def iX(l:List Wt)(t which:Nat)(code value:Int):Told:=⟨t,⟨(l.getD t iz).seq,which,code,value⟩⟩
def mD(c:Ch)(a:Int)(l:List Wt)(value:Int):p9:=match dW l 2 a with
 |some (t,i)=>⟨c,gY l t,dD,[iX l t i 0 value]⟩
 |none=>⟨{c with buf:=c.buf++[value]},l,dD,[]⟩
def mE(c:Ch)(a:Int)(l:List Wt):p9:=match dW l 1 a with
 |none=>⟨{c with buf:=c.buf.drop 1},l,⟨0,0,0,c.buf.getD 0 0⟩,[]⟩
 |some (t,i) =>
  let b:=c.buf++[((l.getD t iz).cases.getD i (0,0,0)).2.2]
  ⟨{c with buf:=b.drop 1},gY l t,⟨0,0,0,b.getD 0 0⟩,[iX l t i 0 0]⟩
def xm(c:Ch)(a:Int)(l:List Wt)(d value:Int):p9 :=
 if dt c a l d=false then⟨c,l,bI 10,[]⟩
 else if d=1/\c.closed=false then mD c a l value
 else if d=2/\(0<c.buf.length\/(dW l 1 a).isSome=true)then mE c a l
 else⟨c,l,bI 9,[]⟩
def nJ(w:Wt)(a:Int):Nat:=(w.cases.findIdx? fun c=>c.2.1==a).getD 0
def pD(c:Ch)(a:Int)(l:List Wt):p9 :=
 if c.used=false\/c.closed=true then⟨c,l,bI 9,[]⟩
 else⟨{c with closed:=true},(qY l a).foldl gY l,bI 0,(qY l a).map fun t=>iX l t (nJ (l.getD t iz) a) 9 0⟩
def xM(c:Ch)(a:Int)(l:List Wt):Bool:=c.used && c.closed && decide (c.buf.length=0) && decide ((qY l a).length=0)
def KC:Ch:=⟨0,0,false,false,[]⟩
def ik(c:bA):Hl:=⟨0,(List.range c.chans.toNat).map fun i=>match c.start[i]? with|some k=>⟨1,k,true,false,[]⟩|none=>KC,List.replicate c.threads.toNat iz,List.replicate c.threads.toNat dD⟩
def bW(h:Hl)(handle:Int):Option Nat :=
 if(eO handle).2.2=false then none
 else match h.chans[(eO handle).1.toNat]? with
  |none=>none
  |some x=>if x.used=true/\x.gen=(eO handle).2.1 then some (eO handle).1.toNat else none
def fV(d:List Rs)(l:List Told):List Rs:=l.foldl (fun d x=>d.set x.th x.res) d
def fA(a:Int)(l:List Ch)(i:Nat)(spent:Bool):Nat->Sum Nat Int
 |0=>.inr (if spent=true then 7 else 6)
 |k+1=>match l[i]? with
  |none=>.inr (if spent=true then 7 else 6)
  |some x=>if x.used=true then fA a l (i+1) spent k else if min a 4095<=x.gen then fA a l (i+1) true k else .inl i
def gm(h:Hl)(i:Nat):Ch:=h.chans.getD i KC
def rQ(c:bA)(h:Hl)(a:Int):Hl×Rs :=
 if a<0\/c.cap<a then(h,bI 1)
 else match fA c.bt h.chans 0 false h.chans.length with
  |.inl i=>({h with chans:=h.chans.set i ⟨(gm h i).gen+1,a,true,false,[]⟩},⟨0,0,0,nh i ((gm h i).gen+1)⟩)
  |.inr e=>(h,bI e)
def qa(h:Hl)(a:Int):Hl×Rs:=match bW h a with
 |none=>(h,bI 8)
 |some i=>if xM (gm h i) a h.waits=false then(h,bI 13)else({h with chans:=h.chans.set i ⟨(gm h i).gen,0,false,false,[]⟩},dD)
def eP(h:Hl)(l:List Cs):Int :=
 if l.length=0\/3<l.length then 1
 else if(l.any fun k=>(k.1 !=1 && k.1 !=2) || decide (k.2.2<0) || decide (4294967295<k.2.2))=true then 1
 else if(l.any fun k=>(bW h k.2.1).isNone)=true then 8 else 0
def wJ(h:Hl)(which:Nat)(k:Cs):Hl×Rs :=
 let i:=(bW h k.2.1).getD 0
 let g:=xm (gm h i) k.2.1 h.waits k.1 k.2.2
 ({h with chans:=h.chans.set i g.c,waits:=g.l,done:=fV h.done g.told},{g.r with cs:=which})
def ey(h:Hl)(t seq:Int)(q:Rq):Hl×Rs :=
 if eP h q.cases≠0 then(h,bI (eP h q.cases))
 else match q.cases.findIdx? (fun k=>dt (gm h ((bW h k.2.1).getD 0)) k.2.1 h.waits k.1)with
  |some i=>wJ h i (q.cases.getD i (0,0,0))
  |none =>
   if q.dflt=true then(h,bI 10)
   else if 4294967295<=h.az then(h,bI 7)
   else match wI h.waits t ⟨false,h.az,seq,q.cases⟩with
    |none=>(h,bI 13)
    |some l=>({h with waits:=l,az:=h.az+1},bI 14)
def n7(h:Hl)(handle:Int):Hl×Rs:=match bW h handle with
 |none=>(h,bI 8)
 |some i =>
  let g:=pD (gm h i) handle h.waits
  ({h with chans:=h.chans.set i g.c,waits:=g.l,done:=fV h.done g.told},bI g.r.code)
def pE(h:Hl)(q:Rq):Rs:=match bW h q.arg with
 |none=>bI 8
 |some i=>if q.kind=6 then⟨0,0,0,(gm h i).cap⟩else⟨0,0,0,(gm h i).buf.length⟩
def jf(h:Hl)(a t n:Int):Hl×Rs :=
 if t<0\/(h.waits.length:Int)<=t\/t=a\/(h.waits.getD t.toNat iz).on=false\/(h.waits.getD t.toNat iz).seq≠n then(h,bI 12)
 else({h with waits:=gY h.waits t.toNat,done:=fV h.done [⟨t.toNat,⟨n,0,11,0⟩⟩]},dD)
def ia(c:bA)(h:Hl)(t a:Int)(q:Rq):Hl×Rs :=
 if q.kind=1 then rQ c h q.arg
 else if q.kind=2 then qa h q.arg
 else if q.kind=3 then ey h t a q
 else if q.kind=4 then n7 h q.arg
 else if q.kind=5\/q.kind=6 then(h,pE h q)
 else if q.kind=7 then jf h t q.arg q.value
 else(h,bI 1)
def fB(c:bA)(h:Hl)(t seq:Int)(q:Rq):Hl :=
 let p:=ia c h t seq q
 {p.1 with done:=BH p.1.done t {p.2 with seq:=seq}}
where BH (l:List Rs) (t:Int) (r:Rs):List Rs:=if t<0 then l else l.set t.toNat r
def jg(l:List Rs)(t:Int)(r:Rs):List Rs:=if t<0 then l else l.set t.toNat r
def ib(x:Cl)(t a:Int)(q:Rq):Cl :=
 if q.kind=8 then(if x.cap<=x.list.length then{x with done:=jg x.done t ⟨a,0,10,0⟩}else{x with list:=x.list++[q.value],done:=jg x.done t ⟨a,0,0,0⟩})
 else if q.kind=9 then(if x.list.length=0 then{x with done:=jg x.done t ⟨a,0,10,0⟩}else{x with list:=x.list.drop 1,done:=jg x.done t ⟨a,0,0,x.list.getD 0 0⟩})
 else if q.kind=5 then{x with done:=jg x.done t ⟨a,0,0,x.list.length⟩}
 else if q.kind=6 then{x with done:=jg x.done t ⟨a,0,0,x.cap⟩}
 else{x with done:=jg x.done t ⟨a,0,1,0⟩}
def jR(l:List Int)(a:Int)(q:Rq):List Int×Rs :=
 if q.kind=8/\(l.length:Int)<a then(l++[q.value],dD)
 else if q.kind=9/\0<l.length then(l.dropLast,⟨0,0,0,l.getLastD 0⟩)
 else if q.kind=8\/q.kind=9 then(l,bI 10)
 else if q.kind=5 then(l,⟨0,0,0,l.length⟩)
 else if q.kind=6 then(l,⟨0,0,0,a⟩)
 else(l,bI 1)
def nk(x:Cl)(t a:Int)(q:Rq):Cl:=⟨x.cap,(jR x.list x.cap q).1,jg x.done t {(jR x.list x.cap q).2 with seq:=a}⟩
def lI(c:bA):List Int:=if aU c=false then[]else if c.kind=3 then lg c (ik c)else lS c ⟨c.cap,[],List.replicate c.threads.toNat dD⟩
def eR(c:bA)(l:List Int)(t seq:Int)(q:Rq):List Int :=
 if t<0\/c.threads<=t\/seq<0\/1048575<seq\/bk q=false then l
 else if c.kind≠3 then(match mA c l with
  |none=>l
  |some x=>lS c (if c.kind=2 then nk x t seq q else ib x t seq q))
 else match j9 c l with
  |none=>l
  |some h=>lg c (fB c h t seq q)
def jq(c:bA)(l:List Int)(t:Int):Int:=if t<0\/c.threads<=t\/aU c=false\/(l.length:Int)<=eX c+t then 0 else ay l (eX c+t)
def nK(c:bA)(l:List Int)(a:List Op):List Int:=a.foldl (fun l o=>eR c l o.th o.seq o.aN) l
def il(d:List Op):List Op:=dX (fun a b=>if a.phase≠b.phase then decide (a.phase<b.phase)else decide (a.th<b.th)) d
end Mo
namespace Mo
def pO:Rf:=⟨0,0⟩
def wK(start n:Int):Pl:=⟨pO,(List.range (min (max n 0) 64).toNat).map fun(i:Nat)=>⟨start+i,0⟩,[],0⟩
def dY(a:Int):List Rf->Rf×List Rf×Nat
 |[]=>(pO,[],0)
 |s::l=>if(fy s a).2=true then((fy s a).1,l,0)else((dY a l).1,(dY a l).2.1,(dY a l).2.2+1)
def jA(p:Pl)(a:Int):Pl×Bool:=if p.own.tag=0 then(⟨(dY a p.free).1,(dY a p.free).2.1,p.old,p.spent+(dY a p.free).2.2⟩,(dY a p.free).1.tag !=0)else(p,true)
def eH(p:Pl):Pl:={p with own:=pO}
def lQ(p:Pl)(r:Rf)(a:Int):Pl:={p with old:=p.old++[⟨r,a⟩]}
def lh(p:Pl)(f:Od->Bool):Pl:={p with free:=p.free++(p.old.filter f).map (·.ref),old:=p.old.filter fun o=> !f o}
def zR(p:Pl):Int:=if p.own.tag≠0\/0<p.free.length then 0 else if 0<p.old.length then 6 else 7
def past(s g:Int):Bool:=decide (0<=s/\2<=g/\s<=g-2)
def eU(p:Pl)(g:Int):Pl:=lh p fun o=>past o.gF g
def lU(p:Pl)(l:List Int):Pl:=lh p fun o=> !l.contains (bF o.ref)
def needs(p:Pl)(a:Int):Bool:=decide (0<p.old.length) && (decide (a<=p.old.length) || zR p !=0)
def lJ(_:bA)(t:Int):Int:=3+t
def iY(c:bA)(t:Int):Int:=3+c.threads+t*5
def iq(c:bA)(t:Int):Int:=3+c.threads*6+t
def nL(c:bA)(t:Int):Int:=3+c.threads*7+t
def bZ(c:bA)(t:Int):Int:=3+c.threads*8+t
def cN(c:bA):Int:=if aU c=false then 0 else 1+c.threads*c.nodes
def bu(c:bA)(i:Int):Int:=3+c.threads*9+i*(1+bn c)
def bB(c:bA):Int:=if aU c=false then 0 else bu c (cN c)
def lj(L:List Int)(a:Int):List Int->List Int
 |[]=>L
 |w::l=>lj (setAt L a w) (a+1) l
def ir(c:bA):List Int:=lj (setAt (setAt (List.replicate (bB c).toNat 0) 0 (bF ⟨0,1⟩)) (bu c 0) 1) (bu c 0+1) (lI c)
def nM(c:bA)(t:Int):Pl:=wK (1+t*c.nodes) c.nodes
structure Tk where
 (pc seq:Int)
 aN:Rq
 ke:Bool
 (round i j bS fW:Int)
 all:Bool
 base:Rf
 (buf next:List Int)
 word:Int
 args:List Int
 found:List Op
 seen:List Int
 aA:Pl
 res:Rs
 (fR waits iN:Bool)
deriving DecidableEq
def nN:Rq:=⟨0,0,0,false,[]⟩
def eY(h e:Int)(q:Rq)(p:Pl)(r:Rs)(b:Bool):Tk:=⟨h,e,q,false,0,0,0,0,0,false,pO,[],[],0,[],[],[],p,r,false,b,false⟩
def lV(c:bA)(t:Int):Tk:=eY 0 0 nN (nM c t) dD false
def dE(c:bA)(x:Tk)(q:Rq):Tk×Int :=
 if x.pc≠0 then(x,13)else if bk q=false then(x,1)else if c.bG<=x.seq then(x,7)
 else({eY 1 (x.seq+1) q x.aA dD false with round:=1},0)
structure Rn where
 k:Tk
 L:List Int
 note:Int
 fR:Bool
 ops:List Op
section
variable(c:bA) (t:Int)
def eT(l:List Int)(t:Int):Rs:=cL (jq c l t)
def Rn.pc(r:Rn)(n:Int):Rn:={r with k:={r.k with pc:=n}}
def Rn.store(r:Rn)(a w:Int):Rn:={r with L:=setAt r.L a w}
def Rn.again(r:Rn):Rn:=if r.k.ke=false/\c.aF<r.k.round then r.pc 16 else if r.k.ke=true/\3<r.k.round then r.pc 19 else r.pc 3
def Rn.fail(r:Rn):Rn:=Rn.again c {r with k:={r.k with round:=r.k.round+1,found:=[]}}
def Rn.refuse(r:Rn):Rn:={r with k:={r.k with res:=⟨r.k.seq,0,zR r.k.aA,0⟩,iN:=false,pc:=28}}
def Rn.take(r:Rn):Rn :=
 let p:=jA r.k.aA c.tags
 let a:Rn:={r with k:={r.k with aA:=p.1}}
 if p.2=true then Rn.again c {a with k:={a.k with iN:=false}}
 else if 0<p.1.old.length/\r.k.iN=false then{a with k:={a.k with iN:=true,pc:=24}}
 else a.refuse
def Rn.ee(r:Rn):Rn:=if r.k.i+1=c.threads then{r with k:={r.k with i:=0,bS:=0,pc:=11}}else{r with k:={r.k with i:=r.k.i+1,pc:=8}}
def Rn.cU(r:Rn):Rn :=
 if r.k.i+1<c.threads then{r with k:={r.k with i:=r.k.i+1,bS:=0,pc:=11}}
 else
  let ops:=il r.k.found++(if r.k.ke=true then[]else[⟨t,r.k.seq,0,r.k.aN⟩])
  {r with k:={r.k with bS:=0,found:=ops,next:=nK c r.k.buf ops,i:=0,pc:=13}}
def Rn.finish(r:Rn):Rn:={r with note:=3,k:=eY 0 r.k.seq r.k.aN r.k.aA r.k.res false}
def Rn.cB(r:Rn):Rn:=if r.k.iN=true then Rn.take c r else r.pc 28
def Rn.owned(r:Rn):Rn:=if r.k.waits=true then r.finish else if needs r.k.aA c.aL=true then r.pc 24 else r.pc 28
def Rn.enter(r:Rn):Rn :=
 if r.k.pc=1 then{r with k:={r.k with fW:=ay r.L 1,pc:=2}}
 else if r.k.pc=2 then Rn.take c (r.store (nL c t) (ig r.k.fW))
 else if r.k.pc=3 then{r with k:={r.k with base:=(g9 (ay r.L 0)).1,pc:=4}}
 else if r.k.pc=4 then(r.store (iq c t) (bF r.k.base)).pc 5
 else if r.k.pc=5 then(if ay r.L 0≠bF r.k.base then Rn.fail c r else r.pc 6)
 else r
def Rn.eZ(r:Rn):Rn :=
 if r.k.pc=6 then(if ay r.L (bu c r.k.base.ix)≠r.k.base.tag then Rn.fail c r else{r with k:={r.k with i:=0,buf:=[],pc:=7}})
 else
  let b:=r.k.buf++[ay r.L (bu c r.k.base.ix+1+r.k.i)]
  if r.k.i+1<bn c then{r with k:={r.k with buf:=b,i:=r.k.i+1}}
  else
   let a:Rn:={r with k:={r.k with buf:=b,i:=0,found:=[],pc:=8}}
   if r.k.ke=true/\(eT c b t).seq=r.k.seq then{a with k:={a.k with res:=eT c b t,pc:=20}}else a
def Rn.fc(r:Rn):Rn :=
 if r.k.pc=8 then
  let w:=ay r.L (lJ c r.k.i)
  let b:Rn:={r with k:={r.k with word:=w}}
  if 1048575<w\/w<=(eT c r.k.buf r.k.i).seq then Rn.ee c b else{b with k:={b.k with j:=0,args:=[],pc:=9}}
 else if r.k.pc=9 then
  let a:=r.k.args++[ay r.L (iY c r.k.i+r.k.j)]
  {r with k:={r.k with args:=a,j:=r.k.j+1,pc:=if r.k.j+1=5 then 10 else 9}}
 else if r.k.pc=10 then
  let q:=eC r.k.args
  Rn.ee c (if ay r.L (lJ c r.k.i)=r.k.word/\q.2.2=true then{r with k:={r.k with found:=r.k.found++[⟨r.k.i,r.k.word,q.2.1,q.1⟩]}}else r)
 else r
def Rn.eV(r:Rn):Rn :=
 let w:=jq c r.k.buf r.k.i
 if r.k.pc=11 then
  let v:=ay r.L (bZ c r.k.i)
  let a:Rn:={r with k:={r.k with word:=v}}
  if behind v w=false then Rn.cU c t a else a.pc 12
 else
  let b:=ay r.L (bZ c r.k.i)=r.k.word
  let a:Rn:={(if b then r.store (bZ c r.k.i) w else r)with k:={r.k with bS:=r.k.bS+1}}
  if b\/r.k.bS+1=2 then Rn.cU c t a else a.pc 11
def Rn.writes(r:Rn):Rn :=
 let a:=bu c r.k.aA.own.ix
 if r.k.pc=13 then(r.store a r.k.aA.own.tag).pc 14
 else if r.k.pc=14 then
  let b:Rn:={r.store (a+1+r.k.i) (ay r.k.next r.k.i)with k:={r.k with i:=r.k.i+1}}
  if r.k.i+1=r.k.next.length then b.pc 15 else b
 else if r.k.pc=15 then
  if ay r.L 0≠bF r.k.base then Rn.fail c r
  else{r with L:=setAt r.L 0 (bF r.k.aA.own),fR:=true,ops:=r.k.found,k:={r.k with fR:=true,res:=eT c r.k.next t,aA:=eH r.k.aA,pc:=20}}
 else r
def Rn.bT(r:Rn):Rn :=
 if r.k.pc=16 then
  let n:=ay r.L 2
  {r.store 2 ((n+1)%18446744073709551616)with k:={r.k with args:=iM r.k.aN (n%4294967296),j:=0,pc:=17}}
 else if r.k.pc=17 then
  {r.store (iY c t+r.k.j) (ay r.k.args r.k.j)with k:={r.k with j:=r.k.j+1,pc:=if r.k.j+1=5 then 18 else 17}}
 else if r.k.pc=18 then{r.store (lJ c t) r.k.seq with k:={r.k with ke:=true,round:=1,pc:=3}}
 else if r.k.pc=19 then{r with k:={r.k with res:=cL (ay r.L (bZ c t)),pc:=20}}
 else r
def Rn.ends(r:Rn):Rn :=
 if r.k.pc=20 then{r.store (iq c t) 0 with k:={r.k with bS:=0,pc:=if r.k.fR=true then 21 else 22}}
 else if r.k.pc=21 then{r with k:={r.k with aA:=lQ r.k.aA r.k.base (ay r.L 1),pc:=22}}
 else if r.k.pc=22 then
  let v:=ay r.L (bZ c t)
  let a:Rn:={r with k:={r.k with word:=v}}
  if behind v (fG r.k.res)=false then Rn.owned c a else a.pc 23
 else if r.k.pc=23 then
  let b:=ay r.L (bZ c t)=r.k.word
  let a:Rn:={(if b then r.store (bZ c t) (fG r.k.res)else r)with k:={r.k with bS:=r.k.bS+1,pc:=22}}
  if b\/r.k.bS+1=2 then Rn.owned c a else a
 else r
def Rn.cV(r:Rn):Rn :=
 if r.k.pc=24 then
  let g:=ay r.L 1
  let b:Rn:={r with k:={r.k with word:=g,aA:=eU r.k.aA g,i:=0,all:=true,pc:=25}}
  if needs b.k.aA c.aL=false then Rn.cB c b else b
 else if r.k.pc=25 then
  let w:=ay r.L (nL c r.k.i)
  let a:=r.k.all && (decide (r.k.i=t) || lets w r.k.word)
  if r.k.i+1<c.threads then{r with k:={r.k with all:=a,i:=r.k.i+1}}
  else{r with k:={r.k with all:=a,i:=0,seen:=[],pc:=if a=true then 26 else 27}}
 else if r.k.pc=26 then
  let b:Rn:={(if ay r.L 1=r.k.word then{r.store 1 (r.k.word+1)with k:={r.k with aA:=eU r.k.aA (r.k.word+1)}}else r)with}
  let d:=b.pc 27
  if needs d.k.aA c.aL=false then Rn.cB c d else d
 else if r.k.pc=27 then
  let s:=r.k.seen++[ay r.L (iq c r.k.i)]
  let b:Rn:={r with k:={r.k with seen:=s,i:=r.k.i+1}}
  if r.k.i+1=c.threads then Rn.cB c {b with k:={b.k with aA:=lU r.k.aA s}}else b
 else r
def Rn.leave(r:Rn):Rn :=
 let a:=r.store (nL c t) 0
 if r.k.res.code≠14 then a.finish else{a with note:=2,k:=eY 29 r.k.seq r.k.aN r.k.aA r.k.res true}
def kf(k:Tk)(w:Int):Bool:=(cL w).seq==k.seq && final (cL w)
def Rn.waits(r:Rn):Rn :=
 if r.k.pc=29 then
  let w:=ay r.L (bZ c t)
  if kf r.k w=true then Rn.finish {r with k:={r.k with res:=cL w,pc:=30}}else r.pc 30
 else if r.k.pc=30 then{r with k:={r.k with fW:=ay r.L 1,pc:=31}}
 else if r.k.pc=31 then(r.store (nL c t) (ig r.k.fW)).pc 32
 else if r.k.pc=32 then{r with k:={r.k with base:=(g9 (ay r.L 0)).1,pc:=33}}
 else if r.k.pc=33 then(r.store (iq c t) (bF r.k.base)).pc 34
 else if r.k.pc=34 then{r with k:={r.k with word:=0,pc:=if ay r.L 0=bF r.k.base then 35 else 37}}
 else if r.k.pc=35 then r.pc (if ay r.L (bu c r.k.base.ix)=r.k.base.tag then 36 else 37)
 else if r.k.pc=36 then{r with k:={r.k with word:=ay r.L (bu c r.k.base.ix+1+bn c-c.threads+t),pc:=37}}
 else if r.k.pc=37 then(r.store (iq c t) 0).pc 38
 else if r.k.pc=38 then
  let a:=(r.store (nL c t) 0).pc 29
  if kf r.k r.k.word=true then{a with k:={a.k with res:=cL r.k.word,bS:=0,pc:=22}}else a
 else r
def eD(r:Rn):Rn :=
 if r.k.pc=0 then r
 else if r.k.pc<=5 then Rn.enter c t r
 else if r.k.pc<=7 then Rn.eZ c t r
 else if r.k.pc<=10 then Rn.fc c r
 else if r.k.pc<=12 then Rn.eV c t r
 else if r.k.pc<=15 then Rn.writes c t r
 else if r.k.pc<=19 then Rn.bT c t r
 else if r.k.pc<=23 then Rn.ends c t r
 else if r.k.pc<=27 then Rn.cV c t r
 else if r.k.pc=28 then Rn.leave c t r
 else Rn.waits c t r
end
structure Pm where
 (on shut over:Bool)
 fp:Int
 outs:List Int
 (at_ value:Int)
deriving DecidableEq
def kA:Pm:=⟨false,false,false,0,[],0,0⟩
def SE(h:Int):Bool:=(eO h).2.2
def kT(a:Int)(outs:List Int):Option Pm:=if SE a=true/\outs.length≠0/\outs.length<=8/\(outs.all fun h=>SE h && h !=a)=true/\outs.Nodup then some ⟨true,false,false,a,outs,0,0⟩else none
def jB(a h v:Int):Rq:=⟨3,0,0,false,[(a,h,v)]⟩
def fe(p:Pm):Option Rq :=
 if p.on=false\/p.over=true\/p.at_<0\/(p.outs.length:Int)<p.at_ then none
 else if p.shut=true/\p.at_<p.outs.length then some ⟨4,ay p.outs p.at_,0,false,[]⟩
 else if p.shut=true then none
 else if p.at_=0 then some (jB 2 p.fp 0)
 else some (jB 1 (ay p.outs (p.at_-1)) p.value)
def gG(p:Pm)(r:Rs):Pm :=
 if(fe p).isNone=true then p
 else if r.code=6\/r.code=11 then p
 else if r.code=7 then{p with over:=true}
 else if p.shut=true then{p with at_:=p.at_+1,over:=decide (p.at_+1=p.outs.length)}
 else if 0<p.at_ then{p with at_:=(p.at_+1)%(p.outs.length+1)}
 else if r.code=0 then{p with value:=r.value,at_:=1}
 else{p with shut:=true}
structure Nt where
 (kind th seq time:Int)
 aN:Rq
 res:Rs
deriving DecidableEq
structure Tn where
 (time th:Int)
 ops:List Op
deriving DecidableEq
structure Mc where
 c:bA
 L:List Int
 T:List Tk
 P:List Pm
 N:List Nt
 V:List Tn
 (S M:List Int)
 time:Int
structure Ev where
 (kind th:Int)
 aN:Rq
 fp:Int
 outs:List Int
def iA(c:bA):Mc:=⟨c,ir c,(List.range c.threads.toNat).map fun(t:Nat)=>lV c t,List.replicate c.threads.toNat kA,[],[],List.replicate c.threads.toNat 0,List.replicate c.threads.toNat 0,0⟩
def bm(x:Mc)(t:Nat):Tk:=x.T.getD t (eY 0 0 nN ⟨pO,[],[],0⟩ dD false)
def gH(x:Mc)(t:Nat):Pm:=x.P.getD t kA
def cS(x:Mc)(t:Nat)(q:Rq):Mc×Int :=
 let b:=dE x.c (bm x t) q
 if b.2≠0 then(x,b.2)else({x with T:=x.T.set t b.1,S:=x.S.set t 0,N:=x.N++[⟨1,t,b.1.seq,x.time,b.1.aN,dD⟩]},0)
def iB(x:Mc)(t:Nat)(q:Rq):Mc×Int :=
 if(bm x t).pc≠0\/(gH x t).on=true\/bk q=false then(x,15)
 else
  let b:=cS {x with time:=x.time+1} t q
  if b.2≠0 then({x with time:=x.time+1,N:=x.N++[⟨1,t,0,x.time+1,q,dD⟩,⟨3,t,0,x.time+1,q,bI 7⟩]},0)else(b.1,0)
def iZ(x:Mc)(t:Nat)(a:Int)(outs:List Int):Mc×Int:=match kT a outs with
 |none=>(x,15)
 |some p=>if x.c.kind≠3\/(bm x t).pc≠0\/(gH x t).on=true then(x,15)else({x with time:=x.time+1,P:=x.P.set t p},0)
def eL(x:Mc)(t:Nat):Mc:=match fe (gH x t)with
 |none=>x
 |some q=>if(bm x t).pc≠0 then x else if(cS x t q).2≠0 then{x with P:=x.P.set t (gG (gH x t) (bI 7))}else(cS x t q).1
def iO(x:Mc)(t:Nat):Mc :=
 let a:=eL {x with time:=x.time+1} t
 if(bm a t).pc=0 then a
 else
  let b:Mc:=if(bm a t).waits=true then a else{a with S:=a.S.set t (a.S.getD t 0+1),M:=a.M.set t (max (a.M.getD t 0) (a.S.getD t 0+1))}
  let r:=eD x.c t ⟨bm a t,a.L,0,false,[]⟩
  let d:Mc:={b with T:=b.T.set t r.k,L:=r.L,V:=if r.fR=true then b.V++[⟨b.time,t,r.ops⟩]else b.V}
  let c:Mc:=if r.note≠0 then{d with N:=d.N++[⟨r.note,t,r.k.seq,d.time,r.k.aN,r.k.res⟩]}else d
  if r.note=3/\(gH c t).on=true then{c with P:=c.P.set t (gG (gH c t) r.k.res)}else c
def sM(x:Mc)(e:Ev):Mc×Int :=
 if e.th<0\/(x.T.length:Int)<=e.th then(x,15)
 else if e.kind=1 then(iO x e.th.toNat,0)
 else if e.kind=2 then iB x e.th.toNat e.aN
 else if e.kind=3 then iZ x e.th.toNat e.fp e.outs
 else(x,15)
def Og(x:Mc):Bool:=(List.range x.T.length).all fun t=>(bm x t).pc==0 && (fe (gH x t)).isNone
def xN:bA:=⟨3,2,2,1,5,2,1,999,99,3,[0,1]⟩
end Mo
end Go.Proofs.YtjcjjiieblineaaGreat
