/- Walks and plain facts. No condition. -/
import Derived.Test.YtjcjjiieblineaaGreatPa
namespace Go.Proofs.YtjcjjiieblineaaGreat
open Go.Proofs.Tryz
set_option maxHeartbeats 8000000
set_option maxRecDepth 100000
set_option linter.all false
namespace Mo
structure bH where
 (kind threads chans cap nodes aJ aB tags bn ba:Int)
 start:List Int
deriving DecidableEq
structure Rf where
 (ix tag:Int)
deriving DecidableEq
structure Rs where
 (seq cs code value:Int)
deriving DecidableEq
abbrev Cs:=Int×Int×Int
structure Rq where
 (kind arg value:Int)
 dflt:Bool
 cases:List Cs
deriving DecidableEq
structure Ch where
 (gen cap:Int)
 (used closed:Bool)
 buf:List Int
deriving DecidableEq
structure Wt where
 on:Bool
 (ay seq:Int)
 cases:List Cs
deriving DecidableEq
structure Hl where
 ay:Int
 chans:List Ch
 waits:List Wt
 done:List Rs
deriving DecidableEq
structure Cl where
 cap:Int
 list:List Int
 done:List Rs
deriving DecidableEq
structure Op where
 (th seq phase:Int)
 aQ:Rq
deriving DecidableEq
structure Od where
 ref:Rf
 fD:Int
deriving DecidableEq
structure Pl where
 own:Rf
 free:List Rf
 old:List Od
 spent:Int
deriving DecidableEq
def ax(L:List Int)(a:Int):Int:=if a<0 then 0 else L.getD a.toNat 0
def setAt(L:List Int)(a w:Int):List Int:=if a<0 then L else L.set a.toNat w
def iI(r:Rf):Bool:=decide (0<=r.ix/\r.ix<=65534/\1<=r.tag/\r.tag<=4294967295)
def bL(r:Rf):Int:=if iI r=true then r.tag*65536+r.ix+1 else 0
def gy(w:Int):Rf×Bool:=if bL ⟨w%65536-1,w/65536%4294967296⟩≠w\/w=0 then(⟨0,0⟩,false)else(⟨w%65536-1,w/65536%4294967296⟩,true)
def ej(s:Rf)(last:Int):Rf×Bool:=if s.tag<0\/min last 4294967295<=s.tag then(⟨0,0⟩,false)else if iI ⟨s.ix,s.tag+1⟩=true then(⟨s.ix,s.tag+1⟩,true)else(⟨0,0⟩,false)
def lU(p g:Int):Int:=if p<0\/8<=p\/g<1\/4095<g then 0 else g*8+p
def ew(h:Int):Int×Int×Bool:=if h<8\/32768<=h then(0,0,false)else(h%8,h/8,true)
def fits(n m:Int):Bool:=decide (0<=n/\n<m)
def eJ(r:Rs):Bool:=decide (0<=r.seq/\r.seq<=1048575/\0<=r.cs/\r.cs<=15/\0<=r.code/\r.code<=255/\0<=r.value/\r.value<=4294967295)
def fQ(r:Rs):Int:=if eJ r=true then r.seq*17592186044416+r.cs*1099511627776+r.code*4294967296+r.value else 0
def cS(x:Int):Rs:=⟨x/17592186044416,x/1099511627776%16,x/4294967296%256,x%4294967296⟩
def final(r:Rs):Bool:=r.code !=14
def VE(r:Rs):Int:=if final r=true then 2*r.seq+1 else 2*r.seq
def behind(a b:Int):Bool:=decide (VE (cS a)<VE (cS b))
def mL(c:Cs):Bool:=(c.1==1 || c.1==2) && fits c.2.1 65536 && fits c.2.2 4294967296
def bt(q:Rq):Bool:=decide (1<=q.kind/\q.kind<=9) && fits q.arg 65536 && fits q.value 4294967296 && decide (q.cases.length<=3) && q.cases.all mL
def oH(c:Cs):Int:=c.1+c.2.1*256+c.2.2*4294967296
def Tv(q:Rq):Int:=q.kind+q.cases.length*256+(if q.dflt=true then 4096 else 0)+q.arg*65536+q.value*4294967296
def jH(q:Rq)(ph:Int):List Int:=if(bt q && fits ph 4294967296)=true then Tv q::(q.cases.map oH++List.replicate (3-q.cases.length) 0++[ph])else[]
def vd(x:Int):Cs:=(x%256,x/256%65536,x/4294967296)
def iJ(l:List Int):Rq×Int×Bool :=
 let h:=l.getD 0 0
 let n:=h/256%16
 let q:Rq:=⟨h%256,h/65536%65536,h/4294967296,h/4096%2==1,((l.drop 1).take n.toNat).map vd⟩
 if l.length=5/\n<=3/\l.getD 4 0<=4294967295/\jH q (l.getD 4 0)=l then(q,l.getD 4 0,true)else(⟨0,0,0,false,[]⟩,0,false)
def iw(g:Int):Int:=2*g+1
def lets(w g:Int):Bool:=w==0 || w==iw g
def iy(n a b:Int):Bool:=decide (a<=n/\n<=b)
def mM(c:bH):Bool :=
 if c.kind=1\/c.kind=2 then iy c.cap 1 16 && c.chans==0 && c.ba==0 && decide (c.start.length=0)
 else if c.kind=3 then iy c.chans 1 8 && iy c.cap 0 8 && iy c.ba 1 4095 && decide ((c.start.length:Int)<=c.chans) && c.start.all fun n=>iy n 0 c.cap
 else false
def aN(c:bH):Bool:=iy c.threads 1 64 && iy c.nodes 1 64 && iy c.aJ 1 32 && iy c.aB 0 4 && iy c.tags 1 4294967295 && iy c.bn 1 1048575 && mM c
def dm(c:bH):Int:=if aN c=false then 0 else if c.kind=3 then 1+c.chans*(1+c.cap)+c.threads*4 else 1+c.cap
def aZ(c:bH):Int:=if aN c=false then 0 else dm c+c.threads
def gz(l:List Int)(most:Int):Bool:=decide ((l.length:Int)<=most) && l.all fun x=>iy x 0 4294967295
def lV(l:List Rs)(n:Int):Bool:=decide ((l.length:Int)=n) && l.all eJ
def kZ(c:bH)(x:Ch):Bool:=iy x.gen 0 4095 && iy x.cap 0 c.cap && gz x.buf x.cap && (x.used || (!x.closed && x.cap==0))
def gi(w:Wt):Bool :=
 if w.on=false then w.ay==0 && w.seq==0 && decide (w.cases.length=0)
 else iy w.ay 0 4294967295 && iy w.seq 0 1048575 && iy w.cases.length 1 3 && bt ⟨3,0,0,false,w.cases⟩
def jo(c:bH)(h:Hl):Bool:=aN c && c.kind==3 && iy h.ay 0 4294967295 && decide ((h.chans.length:Int)=c.chans) && decide ((h.waits.length:Int)=c.threads) && lV h.done c.threads && h.chans.all (kZ c) && h.waits.all gi
def mN(c:bH)(x:Cl):Bool:=aN c && c.kind !=3 && x.cap==c.cap && gz x.list c.cap && lV x.done c.threads
def lM(l:List Int)(n:Nat):List Int:=l.take n++List.replicate (n-l.length) 0
def flag(b:Bool):Int:=if b=true then 1 else 0
def yu(x:Ch):Int:=x.gen+x.cap*4096+flag x.used*65536+flag x.closed*131072+x.buf.length*1048576
def mO(c:bH)(x:Ch):List Int:=yu x::lM x.buf c.cap.toNat
def lW(w:Wt):List Int:=(flag w.on+w.cases.length*2+w.seq*16+w.ay*4294967296)::(w.cases.map oH++List.replicate (3-w.cases.length) 0)
def oq(c:bH)(h:Hl):List Int:=if jo c h=true then h.ay::(h.chans.flatMap (mO c)++h.waits.flatMap lW++h.done.map fQ)else[]
def kD(c:bH)(x:Cl):List Int:=if mN c x=true then(x.list.length:Int)::(lM x.list c.cap.toNat++x.done.map fQ)else[]
def ky(c:bH)(l:List Int):Ch :=
 let h:=l.getD 0 0
 ⟨h%4096,h/4096%16,h/65536%2==1,h/131072%2==1,(((l.drop 1).take c.cap.toNat).take (h/1048576%16).toNat).map (·%4294967296)⟩
def k9(l:List Int):Wt :=
 let h:=l.getD 0 0
 ⟨h%2==1,h/4294967296,h/16%1048576,(((l.drop 1).take 3).take (h/2%8).toNat).map vd⟩
def pieces{α:Type}(f:List Int->α)(m:Nat):Nat->List Int->List α
 |0,_=>[]
 |n+1,l=>f l::pieces f m n (l.drop m)
def ve(c:bH)(l:List Int):Hl :=
 let l1:=l.drop 1
 let l2:=l1.drop ((1+c.cap.toNat)*c.chans.toNat)
 ⟨l.getD 0 0%4294967296,pieces (ky c) (1+c.cap.toNat) c.chans.toNat l1,pieces k9 4 c.threads.toNat l2,pieces (fun l=>cS (l.getD 0 0)) 1 c.threads.toNat (l2.drop (4*c.threads.toNat))⟩
def oI(c:bH)(l:List Int):Option Hl:=if(aN c && c.kind==3 && decide ((l.length:Int)=aZ c) && decide (oq c (ve c l)=l))=true then some (ve c l)else none
def cellsOf(c:bH)(l:List Int):Cl :=
 let n:=min (l.getD 0 0) 17
 ⟨c.cap,(((l.drop 1).take c.cap.toNat).take n.toNat).map (·%4294967296),pieces (fun l=>cS (l.getD 0 0)) 1 c.threads.toNat (l.drop (1+c.cap.toNat))⟩
def ld(c:bH)(l:List Int):Option Cl:=if(aN c && c.kind !=3 && decide ((l.length:Int)=aZ c) && decide (kD c (cellsOf c l)=l))=true then some (cellsOf c l)else none
end Mo
abbrev cr (c:Mo.bH) (A:Option Addr) (n k:Nat):Obj:=.cells #[c.kind,c.threads,c.chans,c.cap,c.nodes,c.aJ,c.aB,c.tags,c.bn,c.ba,.slice A n k] 24
abbrev ij:Obj:=.cells #[oZ,oZ,oZ,oZ] 48
abbrev pS:Obj:=.cells #[oZ,oZ,false,false,oN] 83
abbrev tO:Obj:=.cells #[oZ,oZ,oN,oN,oZ] 39
abbrev yw:Obj:=.cells #[oZ,oN,oN,oN] 71
abbrev DU:Obj:=.cells #[oZ,oN,oN] 119
abbrev VF:Obj:=.cells #[oZ,oZ,oZ,false,oN] 42
abbrev iG (q:Mo.Rq) (A:Option Addr) (n c:Nat):Obj:=.cells #[q.kind,q.arg,q.value,q.dflt,.slice A n c] 42
abbrev qZ (x:Mo.Ch) (A:Option Addr) (n c:Nat):Obj:=.cells #[x.gen,x.cap,x.used,x.closed,.slice A n c] 83
abbrev sB (x:Int) (A:Option Addr) (a b:Nat) (B:Option Addr) (c d:Nat) (C:Option Addr) (e f:Nat):Obj:=.cells #[x,.slice A a b,.slice B c d,.slice C e f] 71
abbrev pT (x y:Int) (A:Option Addr) (a b:Nat) (B:Option Addr) (c d:Nat) (z:Int):Obj:=.cells #[x,y,.slice A a b,.slice B c d,z] 39
abbrev kQ (x:Int) (A:Option Addr) (a b:Nat) (B:Option Addr) (c d:Nat):Obj:=.cells #[x,.slice A a b,.slice B c d] 119
abbrev pD (a b c d:Int):Obj:=.cells #[a,b,c,d] 48
namespace Mo
def iz{α:Type}(lt:α->α->Bool)(x:α):List α->List α
 |[]=>[x]
 |y::l=>if lt x y=true then y::iz lt x l else x::y::l
def dF{α:Type}(lt:α->α->Bool)(l:List α):List α:=(l.foldl (fun acc x=>iz lt x acc) []).reverse
def mP(w:Wt)(dir handle:Int):Option Nat:=if w.on=true then w.cases.findIdx? (fun c=>c.1==dir && c.2.1==handle)else none
def eU(l:List Wt)(dir handle:Int):Nat->Option (Nat×Nat)
 |0=>none
 |k+1=>match l[k]? with
  |none=>eU l dir handle k
  |some w=>match mP w dir handle with
   |none=>eU l dir handle k
   |some i=>match eU l dir handle k with
    |none=>some (k,i)
    |some (t,j)=>if w.ay<(l.getD t ⟨false,0,0,[]⟩).ay then some (k,i)else some (t,j)
def dX(l:List Wt)(dir handle:Int):Option (Nat×Nat):=eU l dir handle l.length
def gK:Wt:=⟨false,0,0,[]⟩
def iU(l:List Wt)(t:Nat):Int:=(l.getD t gK).ay
def qh(l:List Wt)(handle:Int):List Nat:=dF (fun a b=>decide (iU l a<iU l b)) ((List.range l.length).filter fun t=>(l.getD t gK).on && (l.getD t gK).cases.any fun c=>c.2.1==handle)
def Bj(l:List Wt)(t:Int)(w:Wt):Option (List Wt):=if t<0 then none else match l[t.toNat]? with|none=>none|some x=>if x.on=true then none else some (l.set t.toNat {w with on:=true})
def gL(l:List Wt)(t:Nat):List Wt:=l.set t gK
structure Told where
 th:Nat
 res:Rs
structure vh where
 c:Ch
 l:List Wt
 r:Rs
 told:List Told
def dC:Rs:=⟨0,0,0,0⟩
def bD(e:Int):Rs:=⟨0,0,e,0⟩
def dH(c:Ch)(handle:Int)(l:List Wt)(dir:Int):Bool :=
 if c.used=false then false
 else if dir=1 then c.closed || (dX l 2 handle).isSome || decide ((c.buf.length:Int)<c.cap)
 else if dir=2 then c.closed || (dX l 1 handle).isSome || decide (0<c.buf.length)
 else false
def nE(l:List Wt)(t which:Nat)(code value:Int):Told:=⟨t,⟨(l.getD t gK).seq,which,code,value⟩⟩
def nY(c:Ch)(handle:Int)(l:List Wt)(value:Int):vh:=match dX l 2 handle with
 |some (t,i)=>⟨c,gL l t,dC,[nE l t i 0 value]⟩
 |none=>⟨{c with buf:=c.buf++[value]},l,dC,[]⟩
def nZ(c:Ch)(handle:Int)(l:List Wt):vh:=match dX l 1 handle with
 |none=>⟨{c with buf:=c.buf.drop 1},l,⟨0,0,0,c.buf.getD 0 0⟩,[]⟩
 |some (t,i) =>
  let b:=c.buf++[((l.getD t gK).cases.getD i (0,0,0)).2.2]
  ⟨{c with buf:=b.drop 1},gL l t,⟨0,0,0,b.getD 0 0⟩,[nE l t i 0 0]⟩
def xK(c:Ch)(handle:Int)(l:List Wt)(dir value:Int):vh :=
 if dH c handle l dir=false then⟨c,l,bD 10,[]⟩
 else if dir=1/\c.closed=false then nY c handle l value
 else if dir=2/\(0<c.buf.length\/(dX l 1 handle).isSome=true)then nZ c handle l
 else⟨c,l,bD 9,[]⟩
def nG(w:Wt)(handle:Int):Nat:=(w.cases.findIdx? fun c=>c.2.1==handle).getD 0
def q7(c:Ch)(handle:Int)(l:List Wt):vh :=
 if c.used=false\/c.closed=true then⟨c,l,bD 9,[]⟩
 else⟨{c with closed:=true},(qh l handle).foldl gL l,bD 0,(qh l handle).map fun t=>nE l t (nG (l.getD t gK) handle) 9 0⟩
def vk(c:Ch)(handle:Int)(l:List Wt):Bool:=c.used && c.closed && decide (c.buf.length=0) && decide ((qh l handle).length=0)
def Hy:Ch:=⟨0,0,false,false,[]⟩
def fW(c:bH):Hl:=⟨0,(List.range c.chans.toNat).map fun i=>match c.start[i]? with|some k=>⟨1,k,true,false,[]⟩|none=>Hy,List.replicate c.threads.toNat gK,List.replicate c.threads.toNat dC⟩
def cC(h:Hl)(handle:Int):Option Nat :=
 if(ew handle).2.2=false then none
 else match h.chans[(ew handle).1.toNat]? with
  |none=>none
  |some x=>if x.used=true/\x.gen=(ew handle).2.1 then some (ew handle).1.toNat else none
def gj(d:List Rs)(l:List Told):List Rs:=l.foldl (fun d x=>d.set x.th x.res) d
def ey(ba:Int)(l:List Ch)(i:Nat)(spent:Bool):Nat->Sum Nat Int
 |0=>.inr (if spent=true then 7 else 6)
 |k+1=>match l[i]? with
  |none=>.inr (if spent=true then 7 else 6)
  |some x=>if x.used=true then ey ba l (i+1) spent k else if min ba 4095<=x.gen then ey ba l (i+1) true k else .inl i
def gD(h:Hl)(i:Nat):Ch:=h.chans.getD i Hy
def pZ(c:bH)(h:Hl)(cap:Int):Hl×Rs :=
 if cap<0\/c.cap<cap then(h,bD 1)
 else match ey c.ba h.chans 0 false h.chans.length with
  |.inl i=>({h with chans:=h.chans.set i ⟨(gD h i).gen+1,cap,true,false,[]⟩},⟨0,0,0,lU i ((gD h i).gen+1)⟩)
  |.inr e=>(h,bD e)
def oJ(h:Hl)(handle:Int):Hl×Rs:=match cC h handle with
 |none=>(h,bD 8)
 |some i=>if vk (gD h i) handle h.waits=false then(h,bD 13)else({h with chans:=h.chans.set i ⟨(gD h i).gen,0,false,false,[]⟩},dC)
def eA(h:Hl)(l:List Cs):Int :=
 if l.length=0\/3<l.length then 1
 else if(l.any fun k=>(k.1 !=1 && k.1 !=2) || decide (k.2.2<0) || decide (4294967295<k.2.2))=true then 1
 else if(l.any fun k=>(cC h k.2.1).isNone)=true then 8 else 0
def Bk(h:Hl)(which:Nat)(k:Cs):Hl×Rs :=
 let i:=(cC h k.2.1).getD 0
 let g:=xK (gD h i) k.2.1 h.waits k.1 k.2.2
 ({h with chans:=h.chans.set i g.c,waits:=g.l,done:=gj h.done g.told},{g.r with cs:=which})
def eB(h:Hl)(t seq:Int)(q:Rq):Hl×Rs :=
 if eA h q.cases≠0 then(h,bD (eA h q.cases))
 else match q.cases.findIdx? (fun k=>dH (gD h ((cC h k.2.1).getD 0)) k.2.1 h.waits k.1)with
  |some i=>Bk h i (q.cases.getD i (0,0,0))
  |none =>
   if q.dflt=true then(h,bD 10)
   else if 4294967295<=h.ay then(h,bD 7)
   else match Bj h.waits t ⟨false,h.ay,seq,q.cases⟩with
    |none=>(h,bD 13)
    |some l=>({h with waits:=l,ay:=h.ay+1},bD 14)
def q8(h:Hl)(handle:Int):Hl×Rs:=match cC h handle with
 |none=>(h,bD 8)
 |some i =>
  let g:=q7 (gD h i) handle h.waits
  ({h with chans:=h.chans.set i g.c,waits:=g.l,done:=gj h.done g.told},bD g.r.code)
def n7(h:Hl)(q:Rq):Rs:=match cC h q.arg with
 |none=>bD 8
 |some i=>if q.kind=6 then⟨0,0,0,(gD h i).cap⟩else⟨0,0,0,(gD h i).buf.length⟩
def gX(h:Hl)(me t n:Int):Hl×Rs :=
 if t<0\/(h.waits.length:Int)<=t\/t=me\/(h.waits.getD t.toNat gK).on=false\/(h.waits.getD t.toNat gK).seq≠n then(h,bD 12)
 else({h with waits:=gL h.waits t.toNat,done:=gj h.done [⟨t.toNat,⟨n,0,11,0⟩⟩]},dC)
def ik(c:bH)(h:Hl)(t seq:Int)(q:Rq):Hl×Rs :=
 if q.kind=1 then pZ c h q.arg
 else if q.kind=2 then oJ h q.arg
 else if q.kind=3 then eB h t seq q
 else if q.kind=4 then q8 h q.arg
 else if q.kind=5\/q.kind=6 then(h,n7 h q)
 else if q.kind=7 then gX h t q.arg q.value
 else(h,bD 1)
def iA(c:bH)(h:Hl)(t seq:Int)(q:Rq):Hl :=
 let p:=ik c h t seq q
 {p.1 with done:=DV p.1.done t {p.2 with seq:=seq}}
where DV (l:List Rs) (t:Int) (r:Rs):List Rs:=if t<0 then l else l.set t.toNat r
def gY(l:List Rs)(t:Int)(r:Rs):List Rs:=if t<0 then l else l.set t.toNat r
def fR(x:Cl)(t seq:Int)(q:Rq):Cl :=
 if q.kind=8 then(if x.cap<=x.list.length then{x with done:=gY x.done t ⟨seq,0,10,0⟩}else{x with list:=x.list++[q.value],done:=gY x.done t ⟨seq,0,0,0⟩})
 else if q.kind=9 then(if x.list.length=0 then{x with done:=gY x.done t ⟨seq,0,10,0⟩}else{x with list:=x.list.drop 1,done:=gY x.done t ⟨seq,0,0,x.list.getD 0 0⟩})
 else if q.kind=5 then{x with done:=gY x.done t ⟨seq,0,0,x.list.length⟩}
 else if q.kind=6 then{x with done:=gY x.done t ⟨seq,0,0,x.cap⟩}
 else{x with done:=gY x.done t ⟨seq,0,1,0⟩}
def iZ(l:List Int)(cap:Int)(q:Rq):List Int×Rs :=
 if q.kind=8/\(l.length:Int)<cap then(l++[q.value],dC)
 else if q.kind=9/\0<l.length then(l.dropLast,⟨0,0,0,l.getLastD 0⟩)
 else if q.kind=8\/q.kind=9 then(l,bD 10)
 else if q.kind=5 then(l,⟨0,0,0,l.length⟩)
 else if q.kind=6 then(l,⟨0,0,0,cap⟩)
 else(l,bD 1)
def lX(x:Cl)(t seq:Int)(q:Rq):Cl:=⟨x.cap,(iZ x.list x.cap q).1,gY x.done t {(iZ x.list x.cap q).2 with seq:=seq}⟩
def lg(c:bH):List Int:=if aN c=false then[]else if c.kind=3 then oq c (fW c)else kD c ⟨c.cap,[],List.replicate c.threads.toNat dC⟩
def fu(c:bH)(l:List Int)(t seq:Int)(q:Rq):List Int :=
 if t<0\/c.threads<=t\/seq<0\/1048575<seq\/bt q=false then l
 else if c.kind≠3 then(match ld c l with
  |none=>l
  |some x=>kD c (if c.kind=2 then lX x t seq q else fR x t seq q))
 else match oI c l with
  |none=>l
  |some h=>oq c (iA c h t seq q)
def j6(c:bH)(l:List Int)(t:Int):Int:=if t<0\/c.threads<=t\/aN c=false\/(l.length:Int)<=dm c+t then 0 else ax l (dm c+t)
def ot(c:bH)(l:List Int)(ops:List Op):List Int:=ops.foldl (fun l o=>fu c l o.th o.seq o.aQ) l
def jq(ops:List Op):List Op:=dF (fun a b=>if a.phase≠b.phase then decide (a.phase<b.phase)else decide (a.th<b.th)) ops
end Mo
namespace Mo
def oK:Rf:=⟨0,0⟩
def uq(start n:Int):Pl:=⟨oK,(List.range (min (max n 0) 64).toNat).map fun(i:Nat)=>⟨start+i,0⟩,[],0⟩
def dt(tags:Int):List Rf->Rf×List Rf×Nat
 |[]=>(oK,[],0)
 |s::l=>if(ej s tags).2=true then((ej s tags).1,l,0)else((dt tags l).1,(dt tags l).2.1,(dt tags l).2.2+1)
def jI(p:Pl)(tags:Int):Pl×Bool:=if p.own.tag=0 then(⟨(dt tags p.free).1,(dt tags p.free).2.1,p.old,p.spent+(dt tags p.free).2.2⟩,(dt tags p.free).1.tag !=0)else(p,true)
def dN(p:Pl):Pl:={p with own:=oK}
def lh(p:Pl)(r:Rf)(fD:Int):Pl:={p with old:=p.old++[⟨r,fD⟩]}
def j7(p:Pl)(f:Od->Bool):Pl:={p with free:=p.free++(p.old.filter f).map (·.ref),old:=p.old.filter fun o=> !f o}
def xL(p:Pl):Int:=if p.own.tag≠0\/0<p.free.length then 0 else if 0<p.old.length then 6 else 7
def past(s g:Int):Bool:=decide (0<=s/\2<=g/\s<=g-2)
def fA(p:Pl)(g:Int):Pl:=j7 p fun o=>past o.fD g
def nH(p:Pl)(l:List Int):Pl:=j7 p fun o=> !l.contains (bL o.ref)
def needs(p:Pl)(ZK:Int):Bool:=decide (0<p.old.length) && (decide (ZK<=p.old.length) || xL p !=0)
def lN(_:bH)(t:Int):Int:=3+t
def iK(c:bH)(t:Int):Int:=3+c.threads+t*5
def gZ(c:bH)(t:Int):Int:=3+c.threads*6+t
def ou(c:bH)(t:Int):Int:=3+c.threads*7+t
def cn(c:bH)(t:Int):Int:=3+c.threads*8+t
def bI(c:bH):Int:=if aN c=false then 0 else 1+c.threads*c.nodes
def bA(c:bH)(i:Int):Int:=3+c.threads*9+i*(1+aZ c)
def bo(c:bH):Int:=if aN c=false then 0 else bA c (bI c)
def j8(L:List Int)(a:Int):List Int->List Int
 |[]=>L
 |w::l=>j8 (setAt L a w) (a+1) l
def iB(c:bH):List Int:=j8 (setAt (setAt (List.replicate (bo c).toNat 0) 0 (bL ⟨0,1⟩)) (bA c 0) 1) (bA c 0+1) (lg c)
def nI(c:bH)(t:Int):Pl:=uq (1+t*c.nodes) c.nodes
structure Tk where
 (pc seq:Int)
 aQ:Rq
 slow:Bool
 (round i j cu il:Int)
 all:Bool
 base:Rf
 (buf next:List Int)
 word:Int
 args:List Int
 found:List Op
 seen:List Int
 az:Pl
 res:Rs
 (gF waits jr:Bool)
deriving DecidableEq
def qi:Rq:=⟨0,0,0,false,[]⟩
def eX(pc seq:Int)(q:Rq)(p:Pl)(r:Rs)(waits:Bool):Tk:=⟨pc,seq,q,false,0,0,0,0,0,false,oK,[],[],0,[],[],[],p,r,false,waits,false⟩
def mQ(c:bH)(t:Int):Tk:=eX 0 0 qi (nI c t) dC false
def ee(c:bH)(x:Tk)(q:Rq):Tk×Int :=
 if x.pc≠0 then(x,13)else if bt q=false then(x,1)else if c.bn<=x.seq then(x,7)
 else({eX 1 (x.seq+1) q x.az dC false with round:=1},0)
structure Rn where
 k:Tk
 L:List Int
 note:Int
 gF:Bool
 ops:List Op
section
variable(c:bH) (t:Int)
def fS(l:List Int)(t:Int):Rs:=cS (j6 c l t)
def Rn.pc(r:Rn)(n:Int):Rn:={r with k:={r.k with pc:=n}}
def Rn.store(r:Rn)(a w:Int):Rn:={r with L:=setAt r.L a w}
def Rn.again(r:Rn):Rn:=if r.k.slow=false/\c.aB<r.k.round then r.pc 16 else if r.k.slow=true/\3<r.k.round then r.pc 19 else r.pc 3
def Rn.fail(r:Rn):Rn:=Rn.again c {r with k:={r.k with round:=r.k.round+1,found:=[]}}
def Rn.refuse(r:Rn):Rn:={r with k:={r.k with res:=⟨r.k.seq,0,xL r.k.az,0⟩,jr:=false,pc:=28}}
def Rn.take(r:Rn):Rn :=
 let p:=jI r.k.az c.tags
 let r1:Rn:={r with k:={r.k with az:=p.1}}
 if p.2=true then Rn.again c {r1 with k:={r1.k with jr:=false}}
 else if 0<p.1.old.length/\r.k.jr=false then{r1 with k:={r1.k with jr:=true,pc:=24}}
 else r1.refuse
def Rn.eC(r:Rn):Rn:=if r.k.i+1=c.threads then{r with k:={r.k with i:=0,cu:=0,pc:=11}}else{r with k:={r.k with i:=r.k.i+1,pc:=8}}
def Rn.cL(r:Rn):Rn :=
 if r.k.i+1<c.threads then{r with k:={r.k with i:=r.k.i+1,cu:=0,pc:=11}}
 else
  let ops:=jq r.k.found++(if r.k.slow=true then[]else[⟨t,r.k.seq,0,r.k.aQ⟩])
  {r with k:={r.k with cu:=0,found:=ops,next:=ot c r.k.buf ops,i:=0,pc:=13}}
def Rn.finish(r:Rn):Rn:={r with note:=3,k:=eX 0 r.k.seq r.k.aQ r.k.az r.k.res false}
def Rn.dy(r:Rn):Rn:=if r.k.jr=true then Rn.take c r else r.pc 28
def Rn.owned(r:Rn):Rn:=if r.k.waits=true then r.finish else if needs r.k.az c.aJ=true then r.pc 24 else r.pc 28
def Rn.enter(r:Rn):Rn :=
 if r.k.pc=1 then{r with k:={r.k with il:=ax r.L 1,pc:=2}}
 else if r.k.pc=2 then Rn.take c (r.store (ou c t) (iw r.k.il))
 else if r.k.pc=3 then{r with k:={r.k with base:=(gy (ax r.L 0)).1,pc:=4}}
 else if r.k.pc=4 then(r.store (gZ c t) (bL r.k.base)).pc 5
 else if r.k.pc=5 then(if ax r.L 0≠bL r.k.base then Rn.fail c r else r.pc 6)
 else r
def Rn.eD(r:Rn):Rn :=
 if r.k.pc=6 then(if ax r.L (bA c r.k.base.ix)≠r.k.base.tag then Rn.fail c r else{r with k:={r.k with i:=0,buf:=[],pc:=7}})
 else
  let b:=r.k.buf++[ax r.L (bA c r.k.base.ix+1+r.k.i)]
  if r.k.i+1<aZ c then{r with k:={r.k with buf:=b,i:=r.k.i+1}}
  else
   let r1:Rn:={r with k:={r.k with buf:=b,i:=0,found:=[],pc:=8}}
   if r.k.slow=true/\(fS c b t).seq=r.k.seq then{r1 with k:={r1.k with res:=fS c b t,pc:=20}}else r1
def Rn.eE(r:Rn):Rn :=
 if r.k.pc=8 then
  let w:=ax r.L (lN c r.k.i)
  let r1:Rn:={r with k:={r.k with word:=w}}
  if 1048575<w\/w<=(fS c r.k.buf r.k.i).seq then Rn.eC c r1 else{r1 with k:={r1.k with j:=0,args:=[],pc:=9}}
 else if r.k.pc=9 then
  let a:=r.k.args++[ax r.L (iK c r.k.i+r.k.j)]
  {r with k:={r.k with args:=a,j:=r.k.j+1,pc:=if r.k.j+1=5 then 10 else 9}}
 else if r.k.pc=10 then
  let q:=iJ r.k.args
  Rn.eC c (if ax r.L (lN c r.k.i)=r.k.word/\q.2.2=true then{r with k:={r.k with found:=r.k.found++[⟨r.k.i,r.k.word,q.2.1,q.1⟩]}}else r)
 else r
def Rn.eF(r:Rn):Rn :=
 let w:=j6 c r.k.buf r.k.i
 if r.k.pc=11 then
  let v:=ax r.L (cn c r.k.i)
  let r1:Rn:={r with k:={r.k with word:=v}}
  if behind v w=false then Rn.cL c t r1 else r1.pc 12
 else
  let ok:=ax r.L (cn c r.k.i)=r.k.word
  let r1:Rn:={(if ok then r.store (cn c r.k.i) w else r)with k:={r.k with cu:=r.k.cu+1}}
  if ok\/r.k.cu+1=2 then Rn.cL c t r1 else r1.pc 11
def Rn.writes(r:Rn):Rn :=
 let at_:=bA c r.k.az.own.ix
 if r.k.pc=13 then(r.store at_ r.k.az.own.tag).pc 14
 else if r.k.pc=14 then
  let r1:Rn:={r.store (at_+1+r.k.i) (ax r.k.next r.k.i)with k:={r.k with i:=r.k.i+1}}
  if r.k.i+1=r.k.next.length then r1.pc 15 else r1
 else if r.k.pc=15 then
  if ax r.L 0≠bL r.k.base then Rn.fail c r
  else{r with L:=setAt r.L 0 (bL r.k.az.own),gF:=true,ops:=r.k.found,k:={r.k with gF:=true,res:=fS c r.k.next t,az:=dN r.k.az,pc:=20}}
 else r
def Rn.bT(r:Rn):Rn :=
 if r.k.pc=16 then
  let n:=ax r.L 2
  {r.store 2 ((n+1)%18446744073709551616)with k:={r.k with args:=jH r.k.aQ (n%4294967296),j:=0,pc:=17}}
 else if r.k.pc=17 then
  {r.store (iK c t+r.k.j) (ax r.k.args r.k.j)with k:={r.k with j:=r.k.j+1,pc:=if r.k.j+1=5 then 18 else 17}}
 else if r.k.pc=18 then{r.store (lN c t) r.k.seq with k:={r.k with slow:=true,round:=1,pc:=3}}
 else if r.k.pc=19 then{r with k:={r.k with res:=cS (ax r.L (cn c t)),pc:=20}}
 else r
def Rn.ends(r:Rn):Rn :=
 if r.k.pc=20 then{r.store (gZ c t) 0 with k:={r.k with cu:=0,pc:=if r.k.gF=true then 21 else 22}}
 else if r.k.pc=21 then{r with k:={r.k with az:=lh r.k.az r.k.base (ax r.L 1),pc:=22}}
 else if r.k.pc=22 then
  let v:=ax r.L (cn c t)
  let r1:Rn:={r with k:={r.k with word:=v}}
  if behind v (fQ r.k.res)=false then Rn.owned c r1 else r1.pc 23
 else if r.k.pc=23 then
  let ok:=ax r.L (cn c t)=r.k.word
  let r1:Rn:={(if ok then r.store (cn c t) (fQ r.k.res)else r)with k:={r.k with cu:=r.k.cu+1,pc:=22}}
  if ok\/r.k.cu+1=2 then Rn.owned c r1 else r1
 else r
def Rn.cH(r:Rn):Rn :=
 if r.k.pc=24 then
  let g:=ax r.L 1
  let r1:Rn:={r with k:={r.k with word:=g,az:=fA r.k.az g,i:=0,all:=true,pc:=25}}
  if needs r1.k.az c.aJ=false then Rn.dy c r1 else r1
 else if r.k.pc=25 then
  let w:=ax r.L (ou c r.k.i)
  let a:=r.k.all && (decide (r.k.i=t) || lets w r.k.word)
  if r.k.i+1<c.threads then{r with k:={r.k with all:=a,i:=r.k.i+1}}
  else{r with k:={r.k with all:=a,i:=0,seen:=[],pc:=if a=true then 26 else 27}}
 else if r.k.pc=26 then
  let r1:Rn:={(if ax r.L 1=r.k.word then{r.store 1 (r.k.word+1)with k:={r.k with az:=fA r.k.az (r.k.word+1)}}else r)with}
  let r2:=r1.pc 27
  if needs r2.k.az c.aJ=false then Rn.dy c r2 else r2
 else if r.k.pc=27 then
  let s:=r.k.seen++[ax r.L (gZ c r.k.i)]
  let r1:Rn:={r with k:={r.k with seen:=s,i:=r.k.i+1}}
  if r.k.i+1=c.threads then Rn.dy c {r1 with k:={r1.k with az:=nH r.k.az s}}else r1
 else r
def Rn.leave(r:Rn):Rn :=
 let r1:=r.store (ou c t) 0
 if r.k.res.code≠14 then r1.finish else{r1 with note:=2,k:=eX 29 r.k.seq r.k.aQ r.k.az r.k.res true}
def lY(k:Tk)(w:Int):Bool:=(cS w).seq==k.seq && final (cS w)
def Rn.waits(r:Rn):Rn :=
 if r.k.pc=29 then
  let w:=ax r.L (cn c t)
  if lY r.k w=true then Rn.finish {r with k:={r.k with res:=cS w,pc:=30}}else r.pc 30
 else if r.k.pc=30 then{r with k:={r.k with il:=ax r.L 1,pc:=31}}
 else if r.k.pc=31 then(r.store (ou c t) (iw r.k.il)).pc 32
 else if r.k.pc=32 then{r with k:={r.k with base:=(gy (ax r.L 0)).1,pc:=33}}
 else if r.k.pc=33 then(r.store (gZ c t) (bL r.k.base)).pc 34
 else if r.k.pc=34 then{r with k:={r.k with word:=0,pc:=if ax r.L 0=bL r.k.base then 35 else 37}}
 else if r.k.pc=35 then r.pc (if ax r.L (bA c r.k.base.ix)=r.k.base.tag then 36 else 37)
 else if r.k.pc=36 then{r with k:={r.k with word:=ax r.L (bA c r.k.base.ix+1+aZ c-c.threads+t),pc:=37}}
 else if r.k.pc=37 then(r.store (gZ c t) 0).pc 38
 else if r.k.pc=38 then
  let r1:=(r.store (ou c t) 0).pc 29
  if lY r.k r.k.word=true then{r1 with k:={r1.k with res:=cS r.k.word,cu:=0,pc:=22}}else r1
 else r
def dY(r:Rn):Rn :=
 if r.k.pc=0 then r
 else if r.k.pc<=5 then Rn.enter c t r
 else if r.k.pc<=7 then Rn.eD c t r
 else if r.k.pc<=10 then Rn.eE c r
 else if r.k.pc<=12 then Rn.eF c t r
 else if r.k.pc<=15 then Rn.writes c t r
 else if r.k.pc<=19 then Rn.bT c t r
 else if r.k.pc<=23 then Rn.ends c t r
 else if r.k.pc<=27 then Rn.cH c t r
 else if r.k.pc=28 then Rn.leave c t r
 else Rn.waits c t r
end
structure Pm where
 (on shut over:Bool)
 ek:Int
 outs:List Int
 (at_ value:Int)
deriving DecidableEq
def vn:Pm:=⟨false,false,false,0,[],0,0⟩
def Pv(h:Int):Bool:=(ew h).2.2
def kF(ek:Int)(outs:List Int):Option Pm:=if Pv ek=true/\outs.length≠0/\outs.length<=8/\(outs.all fun h=>Pv h && h !=ek)=true/\outs.Nodup then some ⟨true,false,false,ek,outs,0,0⟩else none
def ra(dir h v:Int):Rq:=⟨3,0,0,false,[(dir,h,v)]⟩
def fw(p:Pm):Option Rq :=
 if p.on=false\/p.over=true\/p.at_<0\/(p.outs.length:Int)<p.at_ then none
 else if p.shut=true/\p.at_<p.outs.length then some ⟨4,ax p.outs p.at_,0,false,[]⟩
 else if p.shut=true then none
 else if p.at_=0 then some (ra 2 p.ek 0)
 else some (ra 1 (ax p.outs (p.at_-1)) p.value)
def ja(p:Pm)(r:Rs):Pm :=
 if(fw p).isNone=true then p
 else if r.code=6\/r.code=11 then p
 else if r.code=7 then{p with over:=true}
 else if p.shut=true then{p with at_:=p.at_+1,over:=decide (p.at_+1=p.outs.length)}
 else if 0<p.at_ then{p with at_:=(p.at_+1)%(p.outs.length+1)}
 else if r.code=0 then{p with value:=r.value,at_:=1}
 else{p with shut:=true}
structure Nt where
 (kind th seq time:Int)
 aQ:Rq
 res:Rs
deriving DecidableEq
structure Tn where
 (time th:Int)
 ops:List Op
deriving DecidableEq
structure Mc where
 c:bH
 L:List Int
 T:List Tk
 P:List Pm
 N:List Nt
 V:List Tn
 (S M:List Int)
 time:Int
structure Ev where
 (kind th:Int)
 aQ:Rq
 ek:Int
 outs:List Int
def kG(c:bH):Mc:=⟨c,iB c,(List.range c.threads.toNat).map fun(t:Nat)=>mQ c t,List.replicate c.threads.toNat vn,[],[],List.replicate c.threads.toNat 0,List.replicate c.threads.toNat 0,0⟩
def bu(x:Mc)(t:Nat):Tk:=x.T.getD t (eX 0 0 qi ⟨oK,[],[],0⟩ dC false)
def gG(x:Mc)(t:Nat):Pm:=x.P.getD t vn
def cT(x:Mc)(t:Nat)(q:Rq):Mc×Int :=
 let b:=ee x.c (bu x t) q
 if b.2≠0 then(x,b.2)else({x with T:=x.T.set t b.1,S:=x.S.set t 0,N:=x.N++[⟨1,t,b.1.seq,x.time,b.1.aQ,dC⟩]},0)
def j9(x:Mc)(t:Nat)(q:Rq):Mc×Int :=
 if(bu x t).pc≠0\/(gG x t).on=true\/bt q=false then(x,15)
 else
  let b:=cT {x with time:=x.time+1} t q
  if b.2≠0 then({x with time:=x.time+1,N:=x.N++[⟨1,t,0,x.time+1,q,dC⟩,⟨3,t,0,x.time+1,q,bD 7⟩]},0)else(b.1,0)
def jJ(x:Mc)(t:Nat)(ek:Int)(outs:List Int):Mc×Int:=match kF ek outs with
 |none=>(x,15)
 |some p=>if x.c.kind≠3\/(bu x t).pc≠0\/(gG x t).on=true then(x,15)else({x with time:=x.time+1,P:=x.P.set t p},0)
def ea(x:Mc)(t:Nat):Mc:=match fw (gG x t)with
 |none=>x
 |some q=>if(bu x t).pc≠0 then x else if(cT x t q).2≠0 then{x with P:=x.P.set t (ja (gG x t) (bD 7))}else(cT x t q).1
def lZ(x:Mc)(t:Nat):Mc :=
 let x1:=ea {x with time:=x.time+1} t
 if(bu x1 t).pc=0 then x1
 else
  let x2:Mc:=if(bu x1 t).waits=true then x1 else{x1 with S:=x1.S.set t (x1.S.getD t 0+1),M:=x1.M.set t (max (x1.M.getD t 0) (x1.S.getD t 0+1))}
  let r:=dY x.c t ⟨bu x1 t,x1.L,0,false,[]⟩
  let x3:Mc:={x2 with T:=x2.T.set t r.k,L:=r.L,V:=if r.gF=true then x2.V++[⟨x2.time,t,r.ops⟩]else x2.V}
  let x4:Mc:=if r.note≠0 then{x3 with N:=x3.N++[⟨r.note,t,r.k.seq,x3.time,r.k.aQ,r.k.res⟩]}else x3
  if r.note=3/\(gG x4 t).on=true then{x4 with P:=x4.P.set t (ja (gG x4 t) r.k.res)}else x4
def zz(x:Mc)(e:Ev):Mc×Int :=
 if e.th<0\/(x.T.length:Int)<=e.th then(x,15)
 else if e.kind=1 then(lZ x e.th.toNat,0)
 else if e.kind=2 then j9 x e.th.toNat e.aQ
 else if e.kind=3 then jJ x e.th.toNat e.ek e.outs
 else(x,15)
def Lc(x:Mc):Bool:=(List.range x.T.length).all fun t=>(bu x t).pc==0 && (fw (gG x t)).isNone
def vo:bH:=⟨3,2,2,1,5,2,1,999,99,3,[0,1]⟩
end Mo
end Go.Proofs.YtjcjjiieblineaaGreat
