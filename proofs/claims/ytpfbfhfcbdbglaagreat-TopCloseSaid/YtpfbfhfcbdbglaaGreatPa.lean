/- Walks and plain facts. No condition. -/
import Derived.Test.YtpfbfhfcbdbglaaGreatSa
namespace Go.Proofs.YtpfbfhfcbdbglaaGreat
open Go.Proofs.Tryz
set_option maxHeartbeats 8000000
set_option maxRecDepth 100000
set_option linter.all false
variable {α:Type}{handle dir t n a b e:Int}
namespace Mo
structure dG where
 (kind threads chans cap nodes aP aB tags bw bn:Int)
 start:List Int
deriving DecidableEq
structure Rf where
 (ix tag:Int)
deriving DecidableEq
structure Rs where
 (seq cs code value:Int)
deriving DecidableEq
abbrev Cs:=Int×Int×Int
structure Rq where
 (kind arg value:Int)
 dflt:Bool
 cases:List Cs
deriving DecidableEq
structure Ch where
 (gen cap:Int)
 (used closed:Bool)
 buf:List Int
deriving DecidableEq
structure Wt where
 on:Bool
 (ak seq:Int)
 cases:List Cs
deriving DecidableEq
structure Hl where
 ak:Int
 chans:List Ch
 waits:List Wt
 done:List Rs
deriving DecidableEq
structure Cl where
 cap:Int
 list:List Int
 done:List Rs
deriving DecidableEq
structure Op where
 (th seq phase:Int)
 aQ:Rq
deriving DecidableEq
structure Od where
 ref:Rf
 iI:Int
deriving DecidableEq
structure Pl where
 own:Rf
 free:List Rf
 old:List Od
 spent:Int
deriving DecidableEq
def aG(L:List Int)(a:Int):Int:=if a<0 then 0 else L.getD a.toNat 0
def setAt(L:List Int)(a w:Int):List Int:=if a<0 then L else L.set a.toNat w
def kO(r:Rf):Bool:=decide (0<=r.ix/\r.ix<=65534/\1<=r.tag/\r.tag<=4294967295)
def cm(r:Rf):Int:=if kO r=true then r.tag*65536+r.ix+1 else 0
def jE(w:Int):Rf×Bool:=if cm ⟨w%65536-1,w/65536%4294967296⟩≠w\/w=0 then(⟨0,0⟩,false)else(⟨w%65536-1,w/65536%4294967296⟩,true)
def gW(s:Rf)(last:Int):Rf×Bool:=if s.tag<0\/min last 4294967295<=s.tag then(⟨0,0⟩,false)else if kO ⟨s.ix,s.tag+1⟩=true then(⟨s.ix,s.tag+1⟩,true)else(⟨0,0⟩,false)
def jM(p g:Int):Int:=if p<0\/8<=p\/g<1\/4095<g then 0 else g*8+p
def cJ(h:Int):Int×Int×Bool:=if h<8\/32768<=h then(0,0,false)else(h%8,h/8,true)
def fits(n m:Int):Bool:=decide (0<=n/\n<m)
def iR(r:Rs):Bool:=decide (0<=r.seq/\r.seq<=1048575/\0<=r.cs/\r.cs<=15/\0<=r.code/\r.code<=255/\0<=r.value/\r.value<=4294967295)
def fj(r:Rs):Int:=if iR r=true then r.seq*17592186044416+r.cs*1099511627776+r.code*4294967296+r.value else 0
def cV(x:Int):Rs:=⟨x/17592186044416,x/1099511627776%16,x/4294967296%256,x%4294967296⟩
def final(r:Rs):Bool:=r.code !=14
def XP(r:Rs):Int:=if final r=true then 2*r.seq+1 else 2*r.seq
def behind(a b:Int):Bool:=decide (XP (cV a)<XP (cV b))
def kV(c:Cs):Bool:=(c.1==1 || c.1==2) && fits c.2.1 65536 && fits c.2.2 4294967296
def bt(q:Rq):Bool:=decide (1<=q.kind/\q.kind<=9) && fits q.arg 65536 && fits q.value 4294967296 && decide (q.cases.length<=3) && q.cases.all kV
def lY(c:Cs):Int:=c.1+c.2.1*256+c.2.2*4294967296
def Vy(q:Rq):Int:=q.kind+q.cases.length*256+(if q.dflt=true then 4096 else 0)+q.arg*65536+q.value*4294967296
def kg(q:Rq)(c:Int):List Int:=if(bt q && fits c 4294967296)=true then Vy q::(q.cases.map lY++List.replicate (3-q.cases.length) 0++[c])else[]
def rT(x:Int):Cs:=(x%256,x/256%65536,x/4294967296)
def jr(l:List Int):Rq×Int×Bool :=
 let h:=l.getD 0 0
 let n:=h/256%16
 let q:Rq:=⟨h%256,h/65536%65536,h/4294967296,h/4096%2==1,((l.drop 1).take n.toNat).map rT⟩
 if l.length=5/\n<=3/\l.getD 4 0<=4294967295/\kg q (l.getD 4 0)=l then(q,l.getD 4 0,true)else(⟨0,0,0,false,[]⟩,0,false)
def jt(g:Int):Int:=2*g+1
def lets(w g:Int):Bool:=w==0 || w==jt g
def iN(n a b:Int):Bool:=decide (a<=n/\n<=b)
def nI(c:dG):Bool :=
 if c.kind=1\/c.kind=2 then iN c.cap 1 16 && c.chans==0 && c.bn==0 && decide (c.start.length=0)
 else if c.kind=3 then iN c.chans 1 8 && iN c.cap 0 8 && iN c.bn 1 4095 && decide ((c.start.length:Int)<=c.chans) && c.start.all λn=>iN n 0 c.cap
 else false
def aV(c:dG):Bool:=iN c.threads 1 64 && iN c.nodes 1 64 && iN c.aP 1 32 && iN c.aB 0 4 && iN c.tags 1 4294967295 && iN c.bw 1 1048575 && nI c
def eC(c:dG):Int:=if aV c=false then 0 else if c.kind=3 then 1+c.chans*(1+c.cap)+c.threads*4 else 1+c.cap
def bA(c:dG):Int:=if aV c=false then 0 else eC c+c.threads
def jN(l:List Int)(c:Int):Bool:=decide ((l.length:Int)<=c) && l.all λx=>iN x 0 4294967295
def pN(l:List Rs)(n:Int):Bool:=decide ((l.length:Int)=n) && l.all iR
def lG(c:dG)(x:Ch):Bool:=iN x.gen 0 4095 && iN x.cap 0 c.cap && jN x.buf x.cap && (x.used || (!x.closed && x.cap==0))
def fX(w:Wt):Bool :=
 if w.on=false then w.ak==0 && w.seq==0 && decide (w.cases.length=0)
 else iN w.ak 0 4294967295 && iN w.seq 0 1048575 && iN w.cases.length 1 3 && bt ⟨3,0,0,false,w.cases⟩
def jF(c:dG)(h:Hl):Bool:=aV c && c.kind==3 && iN h.ak 0 4294967295 && decide ((h.chans.length:Int)=c.chans) && decide ((h.waits.length:Int)=c.threads) && pN h.done c.threads && h.chans.all (lG c) && h.waits.all fX
def kH(l:List Int)(n:Nat):List Int:=l.take n++List.replicate (n-l.length) 0
def flag(b:Bool):Int:=if b=true then 1 else 0
def r5(x:Ch):Int:=x.gen+x.cap*4096+flag x.used*65536+flag x.closed*131072+x.buf.length*1048576
def iZ(c:dG)(x:Ch):List Int:=r5 x::kH x.buf c.cap.toNat
def iJ(w:Wt):List Int:=(flag w.on+w.cases.length*2+w.seq*16+w.ak*4294967296)::(w.cases.map lY++List.replicate (3-w.cases.length) 0)
def gI(c:dG)(h:Hl):List Int:=if jF c h=true then h.ak::(h.chans.flatMap (iZ c)++h.waits.flatMap iJ++h.done.map fj)else[]
def iy(c:dG)(l:List Int):Ch :=
 let h:=l.getD 0 0
 ⟨h%4096,h/4096%16,h/65536%2==1,h/131072%2==1,(((l.drop 1).take c.cap.toNat).take (h/1048576%16).toNat).map (·%4294967296)⟩
def iO(l:List Int):Wt :=
 let h:=l.getD 0 0
 ⟨h%2==1,h/4294967296,h/16%1048576,(((l.drop 1).take 3).take (h/2%8).toNat).map rT⟩
def pieces{α:Type}(f:List Int->α)(m:Nat):Nat->List Int->List α
 |0,_=>[]
 |n+1,l=>f l::pieces f m n (l.drop m)
def kj(c:dG)(l:List Int):Hl :=
 let a:=l.drop 1
 let b:=a.drop ((1+c.cap.toNat)*c.chans.toNat)
 ⟨l.getD 0 0%4294967296,pieces (iy c) (1+c.cap.toNat) c.chans.toNat a,pieces iO 4 c.threads.toNat b,pieces (λl=>cV (l.getD 0 0)) 1 c.threads.toNat (b.drop (4*c.threads.toNat))⟩
def qo(c:dG)(l:List Int):Option Hl:=if(aV c && c.kind==3 && decide ((l.length:Int)=bA c) && decide (gI c (kj c l)=l))=true then some (kj c l)else none
def cellsOf(c:dG)(l:List Int):Cl :=
 let n:=min (l.getD 0 0) 17
 ⟨c.cap,(((l.drop 1).take c.cap.toNat).take n.toNat).map (·%4294967296),pieces (λl=>cV (l.getD 0 0)) 1 c.threads.toNat (l.drop (1+c.cap.toNat))⟩
end Mo
abbrev dB (c:Mo.dG) (A:Option Addr) (n k:Nat):Obj:=.cells #[c.kind,c.threads,c.chans,c.cap,c.nodes,c.aP,c.aB,c.tags,c.bw,c.bn,.slice A n k] 24
abbrev ke:Obj:=.cells #[oZ,oZ,oZ,oZ] 64
abbrev rp:Obj:=.cells #[oZ,oZ,false,false,oN] 50
abbrev vG:Obj:=.cells #[oZ,oZ,oN,oN,oZ] 73
abbrev sj:Obj:=.cells #[oZ,oN,oN,oN] 45
abbrev XQ:Obj:=.cells #[oZ,oZ,oZ,false,oN] 38
abbrev lQ (q:Mo.Rq) (A:Option Addr) (n c:Nat):Obj:=.cells #[q.kind,q.arg,q.value,q.dflt,.slice A n c] 38
abbrev oW (x:Mo.Ch) (A:Option Addr) (n c:Nat):Obj:=.cells #[x.gen,x.cap,x.used,x.closed,.slice A n c] 50
abbrev sY (x:Int) (A:Option Addr) (a b:Nat) (B:Option Addr) (c d:Nat) (C:Option Addr) (e f:Nat):Obj:=.cells #[x,.slice A a b,.slice B c d,.slice C e f] 45
abbrev rU (x y:Int) (A:Option Addr) (a b:Nat) (B:Option Addr) (c d:Nat) (z:Int):Obj:=.cells #[x,y,.slice A a b,.slice B c d,z] 73
abbrev qh (a b c d:Int):Obj:=.cells #[a,b,c,d] 64
namespace Mo
def gJ{α:Type}(c:α->α->Bool)(x:α):List α->List α
 |[]=>[x]
 |y::l=>if c x y=true then y::gJ c x l else x::y::l
def eA(c:α->α->Bool)(l:List α):List α:=(l.foldl (λa x=>gJ c x a) []).reverse
def mh(w:Wt)(f d:Int):Option Nat:=if w.on=true then w.cases.findIdx? (λc=>c.1==f && c.2.1==d)else none
def fS(l:List Wt)(f d:Int):Nat->Option (Nat×Nat)
 |0=>none
 |k+1=>match l[k]? with
  |none=>fS l f d k
  |some w=>match mh w f d with
   |none=>fS l f d k
   |some i=>match fS l f d k with
    |none=>some (k,i)
    |some (t,j)=>if w.ak<(l.getD t ⟨false,0,0,[]⟩).ak then some (k,i)else some (t,j)
def dt(l:List Wt)(h f:Int):Option (Nat×Nat):=fS l h f l.length
def fU:Wt:=⟨false,0,0,[]⟩
def eX(l:List Wt)(t:Nat):Int:=(l.getD t fU).ak
def mi(l:List Wt)(d:Int):List Nat:=eA (λa b=>decide (eX l a<eX l b)) ((List.range l.length).filter λt=>(l.getD t fU).on && (l.getD t fU).cases.any λc=>c.2.1==d)
def zR(l:List Wt)(t:Int)(w:Wt):Option (List Wt):=if t<0 then none else match l[t.toNat]? with|none=>none|some x=>if x.on=true then none else some (l.set t.toNat {w with on:=true})
def et(l:List Wt)(t:Nat):List Wt:=l.set t fU
structure Told where
 th:Nat
 res:Rs
structure r7 where
 c:Ch
 l:List Wt
 r:Rs
 told:List Told
def cE:Rs:=⟨0,0,0,0⟩
def bg(e:Int):Rs:=⟨0,0,e,0⟩
def cX(c:Ch)(d:Int)(l:List Wt)(f:Int):Bool :=
 if c.used=false then false
 else if f=1 then c.closed || (dt l 2 d).isSome || decide ((c.buf.length:Int)<c.cap)
 else if f=2 then c.closed || (dt l 1 d).isSome || decide (0<c.buf.length)
 else false
def mO(l:List Wt)(t which:Nat)(code value:Int):Told:=⟨t,⟨(l.getD t fU).seq,which,code,value⟩⟩
def mP(c:Ch)(d:Int)(l:List Wt)(value:Int):r7:=match dt l 2 d with
 |some (t,i)=>⟨c,et l t,cE,[mO l t i 0 value]⟩
 |none=>⟨{c with buf:=c.buf++[value]},l,cE,[]⟩
def mQ(c:Ch)(f:Int)(l:List Wt):r7:=match dt l 1 f with
 |none=>⟨{c with buf:=c.buf.drop 1},l,⟨0,0,0,c.buf.getD 0 0⟩,[]⟩
 |some (t,i) =>
  let b:=c.buf++[((l.getD t fU).cases.getD i (0,0,0)).2.2]
  ⟨{c with buf:=b.drop 1},et l t,⟨0,0,0,b.getD 0 0⟩,[mO l t i 0 0]⟩
def nz(c:Ch)(d:Int)(l:List Wt)(f value:Int):r7 :=
 if cX c d l f=false then⟨c,l,bg 10,[]⟩
 else if f=1/\c.closed=false then mP c d l value
 else if f=2/\(0<c.buf.length\/(dt l 1 d).isSome=true)then mQ c d l
 else⟨c,l,bg 9,[]⟩
def lT(w:Wt)(d:Int):Nat:=(w.cases.findIdx? λc=>c.2.1==d).getD 0
def kP(c:Ch)(d:Int)(l:List Wt):r7 :=
 if c.used=false\/c.closed=true then⟨c,l,bg 9,[]⟩
 else⟨{c with closed:=true},(mi l d).foldl et l,bg 0,(mi l d).map λt=>mO l t (lT (l.getD t fU) d) 9 0⟩
def ot(c:Ch)(d:Int)(l:List Wt):Bool:=c.used && c.closed && decide (c.buf.length=0) && decide ((mi l d).length=0)
def Dg:Ch:=⟨0,0,false,false,[]⟩
def eb(c:dG):Hl:=⟨0,(List.range c.chans.toNat).map λi=>match c.start[i]? with|some k=>⟨1,k,true,false,[]⟩|none=>Dg,List.replicate c.threads.toNat fU,List.replicate c.threads.toNat cE⟩
def bP(h:Hl)(handle:Int):Option Nat :=
 if(cJ handle).2.2=false then none
 else match h.chans[(cJ handle).1.toNat]? with
  |none=>none
  |some x=>if x.used=true/\x.gen=(cJ handle).2.1 then some (cJ handle).1.toNat else none
def fN(d:List Rs)(l:List Told):List Rs:=l.foldl (λd x=>d.set x.th x.res) d
def eK(c:Int)(l:List Ch)(i:Nat)(spent:Bool):Nat->Sum Nat Int
 |0=>.inr (if spent=true then 7 else 6)
 |k+1=>match l[i]? with
  |none=>.inr (if spent=true then 7 else 6)
  |some x=>if x.used=true then eK c l (i+1) spent k else if min c 4095<=x.gen then eK c l (i+1) true k else .inl i
def fO(h:Hl)(i:Nat):Ch:=h.chans.getD i Dg
def lH(c:dG)(h:Hl)(d:Int):Hl×Rs :=
 if d<0\/c.cap<d then(h,bg 1)
 else match eK c.bn h.chans 0 false h.chans.length with
  |.inl i=>({h with chans:=h.chans.set i ⟨(fO h i).gen+1,d,true,false,[]⟩},⟨0,0,0,jM i ((fO h i).gen+1)⟩)
  |.inr e=>(h,bg e)
def mR(h:Hl)(c:Int):Hl×Rs:=match bP h c with
 |none=>(h,bg 8)
 |some i=>if ot (fO h i) c h.waits=false then(h,bg 13)else({h with chans:=h.chans.set i ⟨(fO h i).gen,0,false,false,[]⟩},cE)
def ed(h:Hl)(l:List Cs):Int :=
 if l.length=0\/3<l.length then 1
 else if(l.any λk=>(k.1 !=1 && k.1 !=2) || decide (k.2.2<0) || decide (4294967295<k.2.2))=true then 1
 else if(l.any λk=>(bP h k.2.1).isNone)=true then 8 else 0
def wO(h:Hl)(which:Nat)(k:Cs):Hl×Rs :=
 let i:=(bP h k.2.1).getD 0
 let g:=nz (fO h i) k.2.1 h.waits k.1 k.2.2
 ({h with chans:=h.chans.set i g.c,waits:=g.l,done:=fN h.done g.told},{g.r with cs:=which})
def cQ(h:Hl)(t seq:Int)(q:Rq):Hl×Rs :=
 if ed h q.cases≠0 then(h,bg (ed h q.cases))
 else match q.cases.findIdx? (λk=>cX (fO h ((bP h k.2.1).getD 0)) k.2.1 h.waits k.1)with
  |some i=>wO h i (q.cases.getD i (0,0,0))
  |none =>
   if q.dflt=true then(h,bg 10)
   else if 4294967295<=h.ak then(h,bg 7)
   else match zR h.waits t ⟨false,h.ak,seq,q.cases⟩with
    |none=>(h,bg 13)
    |some l=>({h with waits:=l,ak:=h.ak+1},bg 14)
def mS(h:Hl)(handle:Int):Hl×Rs:=match bP h handle with
 |none=>(h,bg 8)
 |some i =>
  let g:=kP (fO h i) handle h.waits
  ({h with chans:=h.chans.set i g.c,waits:=g.l,done:=fN h.done g.told},bg g.r.code)
def lZ(h:Hl)(q:Rq):Rs:=match bP h q.arg with
 |none=>bg 8
 |some i=>if q.kind=6 then⟨0,0,0,(fO h i).cap⟩else⟨0,0,0,(fO h i).buf.length⟩
def eL(h:Hl)(c t n:Int):Hl×Rs :=
 if t<0\/(h.waits.length:Int)<=t\/t=c\/(h.waits.getD t.toNat fU).on=false\/(h.waits.getD t.toNat fU).seq≠n then(h,bg 12)
 else({h with waits:=et h.waits t.toNat,done:=fN h.done [⟨t.toNat,⟨n,0,11,0⟩⟩]},cE)
def eR(c:dG)(h:Hl)(t seq:Int)(q:Rq):Hl×Rs :=
 if q.kind=1 then lH c h q.arg
 else if q.kind=2 then mR h q.arg
 else if q.kind=3 then cQ h t seq q
 else if q.kind=4 then mS h q.arg
 else if q.kind=5\/q.kind=6 then(h,lZ h q)
 else if q.kind=7 then eL h t q.arg q.value
 else(h,bg 1)
def cY(c:dG)(h:Hl)(t seq:Int)(q:Rq):Hl :=
 let p:=eR c h t seq q
 {p.1 with done:=xC p.1.done t {p.2 with seq:=seq}}
where xC (l:List Rs) (t:Int) (r:Rs):List Rs:=if t<0 then l else l.set t.toNat r
def nW(c:dG):List Int:=if aV c=false then[]else gI c (eb c)
def ja(c:dG)(l:List Int)(t seq:Int)(q:Rq):List Int :=
 if t<0\/c.threads<=t\/seq<0\/1048575<seq\/bt q=false then l
 else match qo c l with
  |none=>l
  |some h=>gI c (cY c h t seq q)
def l7(c:dG)(l:List Int)(t:Int):Int:=if t<0\/c.threads<=t\/aV c=false\/(l.length:Int)<=eC c+t then 0 else aG l (eC c+t)
def pZ(c:dG)(l:List Int)(d:List Op):List Int:=d.foldl (λl o=>ja c l o.th o.seq o.aQ) l
def km(d:List Op):List Op:=eA (λa b=>if a.phase≠b.phase then decide (a.phase<b.phase)else decide (a.th<b.th)) d
end Mo
namespace Mo
theorem nL{α:Type}{f:List Int->α}{g:α->List Int}{m:Nat}:∀(c:List α) (r:List Int),(∀x∈c,(g x).length=m/\∀r,f (g x++r)=x)->pieces f m c.length (c.flatMap g++r)=c
 |[],_,_=>rfl
 |x::c,r,h=>by
  obtain⟨a,b⟩:=h x (.head _)
  rw[List.flatMap_cons,List.append_assoc,List.length_cons,pieces,b, <-a,List.drop_left,a,nL c r λy k=>h y (.tail _ k)]
theorem jG{α:Type}{g:α->List Int}{m:Nat}:∀(a:List α),(∀x∈a,(g x).length=m)->(a.flatMap g).length=m*a.length
 |[],_=>by simp
 |x::a,h=>by rw[List.flatMap_cons,fM,h x (.head _),jG a λy k=>h y (.tail _ k),List.length_cons,Nat.mul_succ,Nat.add_comm]
theorem NI(h:iN n a b=true):a<=n/\n<=b:=by simpa[iN]using h
theorem FJ{r:Rs}(h:iR r=true):cV (fj r)=r:=by have k:=h;unfold iR at k;rw[eI]at k;obtain⟨a,b,d,e⟩:=r;dsimp only at k;unfold fj cV;rw[ay h];dsimp only;congr 1<;>omega
theorem NJ{k:Cs}(h:kV k=true):1<=k.1/\k.1<=2/\0<=k.2.1/\k.2.1<=65535/\0<=k.2.2/\k.2.2<=4294967295:=by simp[kV,fits]at h;omega
theorem Kk{k:Cs}(h:kV k=true):rT (lY k)=k:=by
 obtain⟨a,b,d⟩:=k;have:=NJ h;dsimp only at this;unfold rT lY;dsimp only;congr 1
 .omega
 .congr 1<;>omega
theorem Kl{β:Type}{f:α->β}{g:β->α}{l:List α}(h:∀x∈l,g (f x)=x):(l.map f).map g=l:=by rw[List.map_map];exact(List.map_congr_left (g:=id) h).trans (List.map_id _)
theorem Av{l:List Int}{m:Int}(h:jN l m=true):(l.length:Int)<=m/\∀x∈l,0<=x/\x<=4294967295:=by simpa[jN,iN]using h
theorem I4{l:List Int}{n:Nat}(h:l.length<=n):(kH l n).length=n:=by simp[kH];omega
theorem NK{c:dG}(o:iN c.cap 0 8=true){x:Ch}(h:lG c x=true):(iZ c x).length=1+c.cap.toNat/\∀r,iy c (iZ c x++r)=x:=by
 unfold lG at h;simp only[eT]at h;obtain⟨⟨⟨a,b⟩,d⟩,-⟩:=h;have o:=NI o;have a:=NI a;have b:=NI b;have d:=Av d;have e:x.buf.length<=c.cap.toNat:=by omega
 refine⟨by unfold iZ;rw[List.length_cons,I4 e,Nat.add_comm],λr=>?_⟩;unfold iy iZ;rw[List.cons_append,List.getD_cons_zero,List.drop_one,List.tail_cons];have g:((kH x.buf c.cap.toNat++r).take c.cap.toNat).take x.buf.length=x.buf:=by rw[List.take_left' (I4 e)];unfold kH;rw[List.take_of_length_le e,List.take_left]
 obtain⟨l,j,f,closed,i⟩:=x;dsimp only at *;have k:r5 ⟨l,j,f,closed,i⟩=l+j*4096+flag f*65536+flag closed*131072+i.length*1048576:=rfl;have u:flag f=0/\f=false\/flag f=1/\f=true:=by cases f<;>simp[flag]
 have v:flag closed=0/\closed=false\/flag closed=1/\closed=true:=by cases closed<;>simp[flag]
 have n:(r5 ⟨l,j,f,closed,i⟩/1048576%16).toNat=i.length:=by rw[k];omega
 rw[n,g,k];congr 1
 .omega
 .omega
 .rcases u with⟨u,rfl⟩|⟨u,rfl⟩<;>rw[u]<;>simp<;>omega
 .rcases v with⟨v,rfl⟩|⟨v,rfl⟩<;>rw[v]<;>simp<;>omega
 .refine(List.map_congr_left (g:=id) λy m=>?_).trans (List.map_id _);have:=d.2 y m;show y%4294967296=y;omega
theorem NL{w:Wt}(h:fX w=true):(iJ w).length=4/\∀r,iO (iJ w++r)=w:=by
 have e:w.cases.length<=3/\(∀k∈w.cases,kV k=true)/\(0<=w.ak/\0<=w.seq/\w.seq<=1048575)/\flag w.on=if w.on=true then 1 else 0:=by
  unfold fX at h;split at h
  .simp at h;refine⟨by rw[h.2];simp,by rw[h.2];simp,by omega,rfl⟩
  .simp only[eT,bt,List.all_eq_true]at h;have a:=NI h.1.1.1;have b:=NI h.1.1.2;have d:=NI h.1.2;exact⟨by omega,h.2.2,by omega,rfl⟩
 obtain⟨c,m,l,i⟩:=w;dsimp only at e;obtain⟨e,f,g,u⟩:=e;refine⟨by simp[iJ];omega,λr=>?_⟩;unfold iO iJ;dsimp only;rw[List.cons_append,List.getD_cons_zero,List.drop_one,List.tail_cons];have n:((flag c+i.length*2+l*16+m*4294967296)/2%8).toNat=i.length:=by cases c<;>simp[flag]<;>omega
 rw[n,List.take_take,Nat.min_eq_left e,List.append_assoc,List.take_left' (by rw[fP]),Kl λk j=>Kk (f k j)];congr 1
 .cases c<;>simp[flag]<;>omega
 .cases c<;>simp[flag]<;>omega
 .cases c<;>simp[flag]<;>omega
theorem sk{c:dG}{h:Hl}(q:jF c h=true):kj c (gI c h)=h/\((gI c h).length:Int)=bA c:=by
 have k:=q;unfold jF pN at k;simp only[eT,List.all_eq_true,beq_iff_eq,eI]at k;obtain⟨⟨⟨⟨⟨⟨⟨a,b⟩,d⟩,e⟩,f⟩,g⟩,i⟩,j⟩:=k;have p:=a;unfold aV nI at a;rw[au (by omega),ay b]at a;simp only[eT]at a;have w:=NI a.2.1.1.1.1;have y:=NI a.2.1.1.1.2;have d:=NI d;have A:=λx n=>NK a.2.1.1.1.2 (i x n);have B:=λx n=>NL (j x n);have s:=jG h.chans λx n=>(A x n).1;have t:=jG h.waits λx n=>(B x n).1;have u:c.chans.toNat=h.chans.length:=by omega
 have o:c.threads.toNat=h.waits.length:=by omega
 have v:c.threads.toNat=h.done.length:=by omega
 unfold gI;rw[ay q];constructor
 .unfold kj;dsimp only;rw[List.getD_cons_zero,List.drop_one,List.tail_cons,List.append_assoc,u, <-s,List.drop_left,o, <-t,List.drop_left,nL h.chans _ A,nL h.waits _ B, <-o,v];have C:=nL (f:=λl=>cV (l.getD 0 0)) (g:=λr=>[fj r]) (m:=1) h.done [] λx n=>⟨rfl,λr=>FJ (g.2 x n)⟩
  rw[List.append_nil,show(List.flatMap (λr=>[fj r]) h.done)=h.done.map fj from(List.map_eq_flatMap ..).symm]at C;rw[C];have:h.ak%4294967296=h.ak:=by omega
  rw[this]
 .unfold bA eC;rw[au (by rw[p];decide),au (by rw[p];decide),ay b,List.length_cons,fM,fM,s,t,fP, <-u, <-o, <-v];exact Vz
end Mo
namespace Mo
def wP:Rf:=⟨0,0⟩
def Km(start n:Int):Pl:=⟨wP,(List.range (min (max n 0) 64).toNat).map λ(i:Nat)=>⟨start+i,0⟩,[],0⟩
def jb(c:Int):List Rf->Rf×List Rf×Nat
 |[]=>(wP,[],0)
 |s::l=>if(gW s c).2=true then((gW s c).1,l,0)else((jb c l).1,(jb c l).2.1,(jb c l).2.2+1)
def vH(p:Pl)(c:Int):Pl×Bool:=if p.own.tag=0 then(⟨(jb c p.free).1,(jb c p.free).2.1,p.old,p.spent+(jb c p.free).2.2⟩,(jb c p.free).1.tag !=0)else(p,true)
def gX(p:Pl):Pl:={p with own:=wP}
def tB(p:Pl)(r:Rf)(c:Int):Pl:={p with old:=p.old++[⟨r,c⟩]}
def vI(p:Pl)(f:Od->Bool):Pl:={p with free:=p.free++(p.old.filter f).map (·.ref),old:=p.old.filter λo=> !f o}
def zU(p:Pl):Int:=if p.own.tag≠0\/0<p.free.length then 0 else if 0<p.old.length then 6 else 7
def past(s g:Int):Bool:=decide (0<=s/\2<=g/\s<=g-2)
def gL(p:Pl)(g:Int):Pl:=vI p λo=>past o.iI g
def pd(p:Pl)(l:List Int):Pl:=vI p λo=> !l.contains (cm o.ref)
def needs(p:Pl)(c:Int):Bool:=decide (0<p.old.length) && (decide (c<=p.old.length) || zU p !=0)
def pg(_:dG)(t:Int):Int:=3+t
def kn(c:dG)(t:Int):Int:=3+c.threads+t*5
def jZ(c:dG)(t:Int):Int:=3+c.threads*6+t
def qp(c:dG)(t:Int):Int:=3+c.threads*7+t
def ea(c:dG)(t:Int):Int:=3+c.threads*8+t
def bX(c:dG):Int:=if aV c=false then 0 else 1+c.threads*c.nodes
def bV(c:dG)(i:Int):Int:=3+c.threads*9+i*(1+bA c)
def bG(c:dG):Int:=if aV c=false then 0 else bV c (bX c)
def kQ(L:List Int)(a:Int):List Int->List Int
 |[]=>L
 |w::l=>kQ (setAt L a w) (a+1) l
def qu(c:dG):List Int:=kQ (setAt (setAt (List.replicate (bG c).toNat 0) 0 (cm ⟨0,1⟩)) (bV c 0) 1) (bV c 0+1) (nW c)
def BC(c:dG)(t:Int):Pl:=Km (1+t*c.nodes) c.nodes
structure Tk where
 (pc seq:Int)
 aQ:Rq
 p5:Bool
 (round i j dK js:Int)
 all:Bool
 base:Rf
 (buf next:List Int)
 word:Int
 args:List Int
 found:List Op
 seen:List Int
 aJ:Pl
 res:Rs
 (pj waits pO:Bool)
deriving DecidableEq
def sr:Rq:=⟨0,0,0,false,[]⟩
def jc(j h:Int)(q:Rq)(p:Pl)(r:Rs)(f:Bool):Tk:=⟨j,h,q,false,0,0,0,0,0,false,wP,[],[],0,[],[],[],p,r,false,f,false⟩
def xD(c:dG)(t:Int):Tk:=jc 0 0 sr (BC c t) cE false
def fQ(c:dG)(x:Tk)(q:Rq):Tk×Int :=
 if x.pc≠0 then(x,13)else if bt q=false then(x,1)else if c.bw<=x.seq then(x,7)
 else({jc 1 (x.seq+1) q x.aJ cE false with round:=1},0)
structure Rn where
 k:Tk
 L:List Int
 note:Int
 pj:Bool
 ops:List Op
section
variable(c:dG)(t:Int)
def iT(l:List Int)(t:Int):Rs:=cV (l7 c l t)
def Rn.pc(r:Rn)(n:Int):Rn:={r with k:={r.k with pc:=n}}
def Rn.store(r:Rn)(a w:Int):Rn:={r with L:=setAt r.L a w}
def Rn.again(r:Rn):Rn:=if r.k.p5=false/\c.aB<r.k.round then r.pc 16 else if r.k.p5=true/\3<r.k.round then r.pc 19 else r.pc 3
def Rn.fail(r:Rn):Rn:=Rn.again c {r with k:={r.k with round:=r.k.round+1,found:=[]}}
def Rn.refuse(r:Rn):Rn:={r with k:={r.k with res:=⟨r.k.seq,0,zU r.k.aJ,0⟩,pO:=false,pc:=28}}
def Rn.take(r:Rn):Rn :=
 let p:=vH r.k.aJ c.tags
 let a:Rn:={r with k:={r.k with aJ:=p.1}}
 if p.2=true then Rn.again c {a with k:={a.k with pO:=false}}
 else if 0<p.1.old.length/\r.k.pO=false then{a with k:={a.k with pO:=true,pc:=24}}
 else a.refuse
def Rn.gg(r:Rn):Rn:=if r.k.i+1=c.threads then{r with k:={r.k with i:=0,dK:=0,pc:=11}}else{r with k:={r.k with i:=r.k.i+1,pc:=8}}
def Rn.ej(r:Rn):Rn :=
 if r.k.i+1<c.threads then{r with k:={r.k with i:=r.k.i+1,dK:=0,pc:=11}}
 else
  let ops:=km r.k.found++(if r.k.p5=true then[]else[⟨t,r.k.seq,0,r.k.aQ⟩])
  {r with k:={r.k with dK:=0,found:=ops,next:=pZ c r.k.buf ops,i:=0,pc:=13}}
def Rn.finish(r:Rn):Rn:={r with note:=3,k:=jc 0 r.k.seq r.k.aQ r.k.aJ r.k.res false}
def Rn.eY(r:Rn):Rn:=if r.k.pO=true then Rn.take c r else r.pc 28
def Rn.owned(r:Rn):Rn:=if r.k.waits=true then r.finish else if needs r.k.aJ c.aP=true then r.pc 24 else r.pc 28
def Rn.enter(r:Rn):Rn :=
 if r.k.pc=1 then{r with k:={r.k with js:=aG r.L 1,pc:=2}}
 else if r.k.pc=2 then Rn.take c (r.store (qp c t) (jt r.k.js))
 else if r.k.pc=3 then{r with k:={r.k with base:=(jE (aG r.L 0)).1,pc:=4}}
 else if r.k.pc=4 then(r.store (jZ c t) (cm r.k.base)).pc 5
 else if r.k.pc=5 then(if aG r.L 0≠cm r.k.base then Rn.fail c r else r.pc 6)
 else r
def Rn.fY(r:Rn):Rn :=
 if r.k.pc=6 then(if aG r.L (bV c r.k.base.ix)≠r.k.base.tag then Rn.fail c r else{r with k:={r.k with i:=0,buf:=[],pc:=7}})
 else
  let b:=r.k.buf++[aG r.L (bV c r.k.base.ix+1+r.k.i)]
  if r.k.i+1<bA c then{r with k:={r.k with buf:=b,i:=r.k.i+1}}
  else
   let a:Rn:={r with k:={r.k with buf:=b,i:=0,found:=[],pc:=8}}
   if r.k.p5=true/\(iT c b t).seq=r.k.seq then{a with k:={a.k with res:=iT c b t,pc:=20}}else a
def Rn.fZ(r:Rn):Rn :=
 if r.k.pc=8 then
  let w:=aG r.L (pg c r.k.i)
  let b:Rn:={r with k:={r.k with word:=w}}
  if 1048575<w\/w<=(iT c r.k.buf r.k.i).seq then Rn.gg c b else{b with k:={b.k with j:=0,args:=[],pc:=9}}
 else if r.k.pc=9 then
  let a:=r.k.args++[aG r.L (kn c r.k.i+r.k.j)]
  {r with k:={r.k with args:=a,j:=r.k.j+1,pc:=if r.k.j+1=5 then 10 else 9}}
 else if r.k.pc=10 then
  let q:=jr r.k.args
  Rn.gg c (if aG r.L (pg c r.k.i)=r.k.word/\q.2.2=true then{r with k:={r.k with found:=r.k.found++[⟨r.k.i,r.k.word,q.2.1,q.1⟩]}}else r)
 else r
def Rn.gi(r:Rn):Rn :=
 let w:=l7 c r.k.buf r.k.i
 if r.k.pc=11 then
  let v:=aG r.L (ea c r.k.i)
  let a:Rn:={r with k:={r.k with word:=v}}
  if behind v w=false then Rn.ej c t a else a.pc 12
 else
  let b:=aG r.L (ea c r.k.i)=r.k.word
  let a:Rn:={(if b then r.store (ea c r.k.i) w else r)with k:={r.k with dK:=r.k.dK+1}}
  if b\/r.k.dK+1=2 then Rn.ej c t a else a.pc 11
def Rn.writes(r:Rn):Rn :=
 let a:=bV c r.k.aJ.own.ix
 if r.k.pc=13 then(r.store a r.k.aJ.own.tag).pc 14
 else if r.k.pc=14 then
  let b:Rn:={r.store (a+1+r.k.i) (aG r.k.next r.k.i)with k:={r.k with i:=r.k.i+1}}
  if r.k.i+1=r.k.next.length then b.pc 15 else b
 else if r.k.pc=15 then
  if aG r.L 0≠cm r.k.base then Rn.fail c r
  else{r with L:=setAt r.L 0 (cm r.k.aJ.own),pj:=true,ops:=r.k.found,k:={r.k with pj:=true,res:=iT c r.k.next t,aJ:=gX r.k.aJ,pc:=20}}
 else r
def Rn.cZ(r:Rn):Rn :=
 if r.k.pc=16 then
  let n:=aG r.L 2
  {r.store 2 ((n+1)%18446744073709551616)with k:={r.k with args:=kg r.k.aQ (n%4294967296),j:=0,pc:=17}}
 else if r.k.pc=17 then
  {r.store (kn c t+r.k.j) (aG r.k.args r.k.j)with k:={r.k with j:=r.k.j+1,pc:=if r.k.j+1=5 then 18 else 17}}
 else if r.k.pc=18 then{r.store (pg c t) r.k.seq with k:={r.k with p5:=true,round:=1,pc:=3}}
 else if r.k.pc=19 then{r with k:={r.k with res:=cV (aG r.L (ea c t)),pc:=20}}
 else r
def Rn.ends(r:Rn):Rn :=
 if r.k.pc=20 then{r.store (jZ c t) 0 with k:={r.k with dK:=0,pc:=if r.k.pj=true then 21 else 22}}
 else if r.k.pc=21 then{r with k:={r.k with aJ:=tB r.k.aJ r.k.base (aG r.L 1),pc:=22}}
 else if r.k.pc=22 then
  let v:=aG r.L (ea c t)
  let a:Rn:={r with k:={r.k with word:=v}}
  if behind v (fj r.k.res)=false then Rn.owned c a else a.pc 23
 else if r.k.pc=23 then
  let b:=aG r.L (ea c t)=r.k.word
  let a:Rn:={(if b then r.store (ea c t) (fj r.k.res)else r)with k:={r.k with dK:=r.k.dK+1,pc:=22}}
  if b\/r.k.dK+1=2 then Rn.owned c a else a
 else r
def Rn.dX(r:Rn):Rn :=
 if r.k.pc=24 then
  let g:=aG r.L 1
  let b:Rn:={r with k:={r.k with word:=g,aJ:=gL r.k.aJ g,i:=0,all:=true,pc:=25}}
  if needs b.k.aJ c.aP=false then Rn.eY c b else b
 else if r.k.pc=25 then
  let w:=aG r.L (qp c r.k.i)
  let a:=r.k.all && (decide (r.k.i=t) || lets w r.k.word)
  if r.k.i+1<c.threads then{r with k:={r.k with all:=a,i:=r.k.i+1}}
  else{r with k:={r.k with all:=a,i:=0,seen:=[],pc:=if a=true then 26 else 27}}
 else if r.k.pc=26 then
  let b:Rn:={(if aG r.L 1=r.k.word then{r.store 1 (r.k.word+1)with k:={r.k with aJ:=gL r.k.aJ (r.k.word+1)}}else r)with}
  let d:=b.pc 27
  if needs d.k.aJ c.aP=false then Rn.eY c d else d
 else if r.k.pc=27 then
  let s:=r.k.seen++[aG r.L (jZ c r.k.i)]
  let b:Rn:={r with k:={r.k with seen:=s,i:=r.k.i+1}}
  if r.k.i+1=c.threads then Rn.eY c {b with k:={b.k with aJ:=pd r.k.aJ s}}else b
 else r
def Rn.leave(r:Rn):Rn :=
 let a:=r.store (qp c t) 0
 if r.k.res.code≠14 then a.finish else{a with note:=2,k:=jc 29 r.k.seq r.k.aQ r.k.aJ r.k.res true}
def nM(k:Tk)(w:Int):Bool:=(cV w).seq==k.seq && final (cV w)
def Rn.waits(r:Rn):Rn :=
 if r.k.pc=29 then
  let w:=aG r.L (ea c t)
  if nM r.k w=true then Rn.finish {r with k:={r.k with res:=cV w,pc:=30}}else r.pc 30
 else if r.k.pc=30 then{r with k:={r.k with js:=aG r.L 1,pc:=31}}
 else if r.k.pc=31 then(r.store (qp c t) (jt r.k.js)).pc 32
 else if r.k.pc=32 then{r with k:={r.k with base:=(jE (aG r.L 0)).1,pc:=33}}
 else if r.k.pc=33 then(r.store (jZ c t) (cm r.k.base)).pc 34
 else if r.k.pc=34 then{r with k:={r.k with word:=0,pc:=if aG r.L 0=cm r.k.base then 35 else 37}}
 else if r.k.pc=35 then r.pc (if aG r.L (bV c r.k.base.ix)=r.k.base.tag then 36 else 37)
 else if r.k.pc=36 then{r with k:={r.k with word:=aG r.L (bV c r.k.base.ix+1+bA c-c.threads+t),pc:=37}}
 else if r.k.pc=37 then(r.store (jZ c t) 0).pc 38
 else if r.k.pc=38 then
  let a:=(r.store (qp c t) 0).pc 29
  if nM r.k r.k.word=true then{a with k:={a.k with res:=cV r.k.word,dK:=0,pc:=22}}else a
 else r
def fJ(r:Rn):Rn :=
 if r.k.pc=0 then r
 else if r.k.pc<=5 then Rn.enter c t r
 else if r.k.pc<=7 then Rn.fY c t r
 else if r.k.pc<=10 then Rn.fZ c r
 else if r.k.pc<=12 then Rn.gi c t r
 else if r.k.pc<=15 then Rn.writes c t r
 else if r.k.pc<=19 then Rn.cZ c t r
 else if r.k.pc<=23 then Rn.ends c t r
 else if r.k.pc<=27 then Rn.dX c t r
 else if r.k.pc=28 then Rn.leave c t r
 else Rn.waits c t r
end
structure Pm where
 (on shut over:Bool)
 fG:Int
 outs:List Int
 (at_ value:Int)
deriving DecidableEq
def xE:Pm:=⟨false,false,false,0,[],0,0⟩
def RT(h:Int):Bool:=(cJ h).2.2
def mj(c:Int)(outs:List Int):Option Pm:=if RT c=true/\outs.length≠0/\outs.length<=8/\(outs.all λh=>RT h && h !=c)=true/\outs.Nodup then some ⟨true,false,false,c,outs,0,0⟩else none
def tC(d h v:Int):Rq:=⟨3,0,0,false,[(d,h,v)]⟩
def gy(p:Pm):Option Rq :=
 if p.on=false\/p.over=true\/p.at_<0\/(p.outs.length:Int)<p.at_ then none
 else if p.shut=true/\p.at_<p.outs.length then some ⟨4,aG p.outs p.at_,0,false,[]⟩
 else if p.shut=true then none
 else if p.at_=0 then some (tC 2 p.fG 0)
 else some (tC 1 (aG p.outs (p.at_-1)) p.value)
def jU(p:Pm)(r:Rs):Pm :=
 if(gy p).isNone=true then p
 else if r.code=6\/r.code=11 then p
 else if r.code=7 then{p with over:=true}
 else if p.shut=true then{p with at_:=p.at_+1,over:=decide (p.at_+1=p.outs.length)}
 else if 0<p.at_ then{p with at_:=(p.at_+1)%(p.outs.length+1)}
 else if r.code=0 then{p with value:=r.value,at_:=1}
 else{p with shut:=true}
structure Nt where
 (kind th seq time:Int)
 aQ:Rq
 res:Rs
deriving DecidableEq
structure Tn where
 (time th:Int)
 ops:List Op
deriving DecidableEq
structure Mc where
 c:dG
 L:List Int
 T:List Tk
 P:List Pm
 N:List Nt
 V:List Tn
 (S M:List Int)
 time:Int
structure Ev where
 (kind th:Int)
 aQ:Rq
 fG:Int
 outs:List Int
def mU(c:dG):Mc:=⟨c,qu c,(List.range c.threads.toNat).map λ(t:Nat)=>xD c t,List.replicate c.threads.toNat xE,[],[],List.replicate c.threads.toNat 0,List.replicate c.threads.toNat 0,0⟩
def cC(x:Mc)(t:Nat):Tk:=x.T.getD t (jc 0 0 sr ⟨wP,[],[],0⟩ cE false)
def iW(x:Mc)(t:Nat):Pm:=x.P.getD t xE
def eu(x:Mc)(t:Nat)(q:Rq):Mc×Int :=
 let b:=fQ x.c (cC x t) q
 if b.2≠0 then(x,b.2)else({x with T:=x.T.set t b.1,S:=x.S.set t 0,N:=x.N++[⟨1,t,b.1.seq,x.time,b.1.aQ,cE⟩]},0)
def mV(x:Mc)(t:Nat)(q:Rq):Mc×Int :=
 if(cC x t).pc≠0\/(iW x t).on=true\/bt q=false then(x,15)
 else
  let b:=eu {x with time:=x.time+1} t q
  if b.2≠0 then({x with time:=x.time+1,N:=x.N++[⟨1,t,0,x.time+1,q,cE⟩,⟨3,t,0,x.time+1,q,bg 7⟩]},0)else(b.1,0)
def ma(x:Mc)(t:Nat)(c:Int)(outs:List Int):Mc×Int:=match mj c outs with
 |none=>(x,15)
 |some p=>if x.c.kind≠3\/(cC x t).pc≠0\/(iW x t).on=true then(x,15)else({x with time:=x.time+1,P:=x.P.set t p},0)
def gj(x:Mc)(t:Nat):Mc:=match gy (iW x t)with
 |none=>x
 |some q=>if(cC x t).pc≠0 then x else if(eu x t q).2≠0 then{x with P:=x.P.set t (jU (iW x t) (bg 7))}else(eu x t q).1
def pP(x:Mc)(t:Nat):Mc :=
 let a:=gj {x with time:=x.time+1} t
 if(cC a t).pc=0 then a
 else
  let b:Mc:=if(cC a t).waits=true then a else{a with S:=a.S.set t (a.S.getD t 0+1),M:=a.M.set t (max (a.M.getD t 0) (a.S.getD t 0+1))}
  let r:=fJ x.c t ⟨cC a t,a.L,0,false,[]⟩
  let d:Mc:={b with T:=b.T.set t r.k,L:=r.L,V:=if r.pj=true then b.V++[⟨b.time,t,r.ops⟩]else b.V}
  let c:Mc:=if r.note≠0 then{d with N:=d.N++[⟨r.note,t,r.k.seq,d.time,r.k.aQ,r.k.res⟩]}else d
  if r.note=3/\(iW c t).on=true then{c with P:=c.P.set t (jU (iW c t) r.k.res)}else c
def Dh(x:Mc)(e:Ev):Mc×Int :=
 if e.th<0\/(x.T.length:Int)<=e.th then(x,15)
 else if e.kind=1 then(pP x e.th.toNat,0)
 else if e.kind=2 then mV x e.th.toNat e.aQ
 else if e.kind=3 then ma x e.th.toNat e.fG e.outs
 else(x,15)
def NM(x:Mc):Bool:=(List.range x.T.length).all λt=>(cC x t).pc==0 && (gy (iW x t)).isNone
def xF:dG:=⟨3,2,2,1,5,2,1,999,99,3,[0,1]⟩
end Mo
namespace Mo
theorem ml:iN n a b=true↔a<=n/\n<=b:=by unfold iN;simp
theorem eF{r:Rs}:iR r=true↔(0<=r.seq/\r.seq<=1048575/\0<=r.cs/\r.cs<=15/\0<=r.code/\r.code<=255/\0<=r.value/\r.value<=4294967295):=by unfold iR;simp
structure kJ (c:dG) (h:Hl):Prop where
 ee:aV c=true
 kind:c.kind=3
 tick:0<=h.ak/\h.ak<=4294967295
 Fm:(h.chans.length:Int)=c.chans
 I5:(h.waits.length:Int)=c.threads
 zo:(h.done.length:Int)=c.threads
 dn:∀r∈h.done,iR r=true
 ch:∀x∈h.chans,lG c x=true
 wt:∀x∈h.waits,fX x=true
theorem gb{c:dG}{h:Hl}:jF c h=true↔kJ c h:=by
 unfold jF pN;simp only[eT,beq_iff_eq,eI,List.all_eq_true,ml];constructor
 .rintro⟨⟨⟨⟨⟨⟨⟨a,b⟩,d⟩,e⟩,f⟩,g⟩,i⟩,j⟩;exact⟨a,b,d,e,f,g.1,g.2,i,j⟩
 .rintro⟨a,b,d,e,f,g,k,i,j⟩;exact⟨⟨⟨⟨⟨⟨⟨a,b⟩,d⟩,e⟩,f⟩,g,k⟩,i⟩,j⟩
theorem cK{c:dG}{x:Ch}:lG c x=true↔(0<=x.gen/\x.gen<=4095)/\(0<=x.cap/\x.cap<=c.cap)/\((x.buf.length:Int)<=x.cap/\∀v∈x.buf,0<=v/\v<=4294967295)/\(x.used=true\/x.closed=false/\x.cap=0):=by unfold lG jN;simp[ml,and_assoc]
theorem jH{k:Cs}:kV k=true↔(k.1=1\/k.1=2)/\(0<=k.2.1/\k.2.1<65536)/\(0<=k.2.2/\k.2.2<4294967296):=by unfold kV fits;simp[and_assoc]
theorem gY{q:Rq}:bt q=true↔(1<=q.kind/\q.kind<=9)/\(0<=q.arg/\q.arg<65536)/\(0<=q.value/\q.value<4294967296)/\q.cases.length<=3/\∀k∈q.cases,kV k=true:=by unfold bt fits;simp only[eT,eI,List.all_eq_true,and_assoc]
theorem kW{x:Wt}:fX x=true↔if x.on=false then x.ak=0/\x.seq=0/\x.cases.length=0 else(0<=x.ak/\x.ak<=4294967295)/\(0<=x.seq/\x.seq<=1048575)/\(1<=x.cases.length/\x.cases.length<=3)/\∀k∈x.cases,kV k=true:=by
 unfold fX;by_cases h:x.on=false
 .rw[ay h,ay h];simp[and_assoc]
 .rw[au h,au h];simp only[eT,ml,gY];constructor
  .rintro⟨⟨⟨a,b⟩,d⟩,_,_,_,e,f⟩;exact⟨a,b,⟨aa,e⟩,f⟩
  .rintro⟨a,b,d,e⟩;exact⟨⟨⟨a,b⟩,aa,aa⟩,aa,aa,aa,d.2,e⟩
theorem xG{x:Wt}(h:fX x=true):0<=x.seq/\x.seq<=1048575:=by have:=kW.1 h;split at this<;>omega
theorem mW{x:Wt}(h:fX x=true):x.cases.length<=3:=by have:=kW.1 h;split at this<;>omega
theorem Di{x:Wt}(h:fX x=true){k:Cs}(c:k∈x.cases):kV k=true:=by
 have:=kW.1 h;split at this
 .have a:=List.length_eq_zero_iff.1 this.2.2;rw[a]at c;cases c
 .exact this.2.2.2 k c
theorem mem_set{l:List α}{i:Nat}{y x:α}(h:x∈l.set i y):x∈l\/x=y:=List.mem_or_eq_of_mem_set h
theorem ou{l:List α}{i:Nat}{d:α}:l.getD i d∈l\/l.getD i d=d:=by
 rw[ew];cases h:l[i]? with
 |none=>exact .inr rfl
 |some x=>exact .inl (cH h)
theorem BD:fX fU=true:=af
theorem FK{l:List Wt}(h:∀x∈l,fX x=true)(t:Nat):fX (l.getD t fU)=true:=by
 rcases ou (l:=l) (i:=t) (d:=fU)with a|a
 .exact h _ a
 .rw[a];exact BD
theorem BF{l:List Wt}(h:∀x∈l,fX x=true)(t:Nat):∀x∈et l t,fX x=true:=by
 intro x b;rcases mem_set b with a|rfl
 .exact h _ a
 .exact BD
theorem I6(l:List Wt)(t:Nat):(et l t).length=l.length:=by unfold et;simp
theorem I7{l:List Wt}(h:∀x∈l,fX x=true)(L:List Nat):(∀x∈L.foldl et l,fX x=true)/\(L.foldl et l).length=l.length:=by
 induction L generalizing l with
 |nil=>exact⟨h,rfl⟩
 |cons t L a=>have:=a (BF h t);exact⟨this.1,by rw[List.foldl_cons,this.2,I6]⟩
theorem I8{d:List Rs}(h:∀r∈d,iR r=true)(l:List Told)(c:∀x∈l,iR x.res=true):(∀r∈fN d l,iR r=true)/\(fN d l).length=d.length:=by
 unfold fN;induction l generalizing d with
 |nil=>exact⟨h,rfl⟩
 |cons x l f =>
  have:=f (d:=d.set x.th x.res) (λr b=>by
   rcases mem_set b with a|rfl
   .exact h _ a
   .exact c x aA) (λy e=>c y (by simp[e]))
  exact⟨this.1,by rw[List.foldl_cons,this.2,dN]⟩
theorem NN{w:Wt}{i:Nat}(h:mh w dir handle=some i):i<w.cases.length/\w.on=true:=by
 unfold mh at h;split at h
 .rename_i b;obtain⟨a,_⟩:=List.findIdx?_eq_some_iff_getElem.1 h;exact⟨a,b⟩
 .cases h
theorem nN{l:List Wt}{d c:Int}:∀{n t i:Nat},fS l d c n=some (t,i)->∃x,l[t]?=some x/\mh x d c=some i
 |0,_,_,h=>by cases h
 |n+1,t,i,h=>by
  unfold fS at h
  cases b:l[n]? with
  |none=>rw[b]at h;exact nN h
  |some x =>
   rw[b]at h;dsimp only at h;cases a:mh x d c with
   |none=>rw[a]at h;exact nN h
   |some j =>
    rw[a]at h;dsimp only at h;cases e:fS l d c n with
    |none=>rw[e]at h;injection h with h;injection h with h1 h2;subst h1;subst h2;exact⟨x,b,a⟩
    |some p =>
     obtain⟨g,f⟩:=p;rw[e]at h;dsimp only at h;split at h
     .injection h with h;injection h with h1 h2;subst h1;subst h2;exact⟨x,b,a⟩
     .injection h with h;injection h with h1 h2;subst h1;subst h2;exact nN e
theorem su{l:List Wt}{t i:Nat}(h:dt l dir handle=some (t,i)):∃x,l[t]?=some x/\mh x dir handle=some i:=nN h
theorem xH{l:List Wt}(h:∀x∈l,fX x=true)(t which:Nat)(code value:Int)(g:which<=15)(c:0<=code/\code<=255)(f:0<=value/\value<=4294967295):iR (mO l t which code value).res=true:=by have:=xG (FK h t);unfold mO;rw[eF];dsimp only;omega
structure Dj (c:dG) (n:Nat) (G:r7):Prop where
 ch:lG c G.c=true
 wt:∀x∈G.l,fX x=true
 len:G.l.length=n
 res:iR G.r=true
 told:∀x∈G.told,iR x.res=true
theorem tD:iR cE=true:=af
theorem oy(h:0<=e/\e<=255):iR (bg e)=true:=by unfold bg;rw[eF];dsimp only;omega
theorem NP{y:Wt}(f:fX y=true)(d:Int):lT y d<=15:=by
 unfold lT;have:=mW f;cases h:y.cases.findIdx? λc=>c.2.1==d with
 |none=>exact aZ _
 |some i=>have:=(List.findIdx?_eq_some_iff_getElem.1 h).1;show i<=15;omega
section
variable{c:dG} {x:Ch} {l:List Wt} (hx:lG c x=true) (hl:∀y∈l,fX y=true)
include hx hl
theorem SL{value:Int}(h:0<=value/\value<=4294967295)(d:cX x handle l 1=true)(k:x.closed=false):Dj c l.length (mP x handle l value):=by
 unfold mP;cases g:dt l 2 handle with
 |some p=>obtain⟨t,i⟩:=p;obtain⟨y,n,m⟩:=su g;have j:=hl y (cH n);have:=mW j;have:=(NN m).1;refine⟨hx,BF hl t,I6 _ _,tD,?_⟩;intro z e;rw[List.mem_singleton]at e;subst e;exact xH hl _ _ _ _ aa af h
 |none =>
  have a:=cK.1 hx;refine⟨?_,hl,rfl,tD,λz e=>by cases e⟩;have o:(x.buf.length:Int)<x.cap:=by
   unfold cX at d;split at d
   .cases d
   .rw[ay rfl,k,g]at d;simpa using d
  refine cK.2 ⟨a.1,a.2.1,⟨?_,?_⟩,a.2.2.2⟩
  .show((x.buf++[value]).length:Int)<=x.cap;simp;omega
  .intro v f;rcases List.mem_append.1 f with b|b
   .exact a.2.2.1.2 v b
   .rw[List.mem_singleton]at b;subst b;exact h
theorem SM:Dj c l.length (mQ x handle l):=by
 have a:=cK.1 hx;unfold mQ;cases n:dt l 1 handle with
 |none =>
  refine⟨?_,hl,rfl,?_,λz b=>by cases b⟩
  .refine cK.2 ⟨a.1,a.2.1,⟨?_,?_⟩,a.2.2.2⟩
   .show((x.buf.drop 1).length:Int)<=x.cap;rw[iu];omega
   .intro v j;exact a.2.2.1.2 v (List.mem_of_mem_drop j)
  .have:0<=x.buf.getD 0 0/\x.buf.getD 0 0<=4294967295:=by
    rcases ou (l:=x.buf) (i:=0) (d:=(0:Int))with h|h
    .exact a.2.2.1.2 _ h
    .rw[h];decide
   rw[eF];dsimp only;omega
 |some p =>
  obtain⟨t,i⟩:=p;obtain⟨y,k,o⟩:=su n;have f:=hl y (cH k);have r:=mW f;have m:=(NN o).1;have e:l.getD t fU=y:=by rw[ew,k];rfl
  have q:kV (y.cases.getD i (0,0,0))=true:=by
   refine Di f ?_;rcases ou (l:=y.cases) (i:=i) (d:=((0,0,0):Cs))with h|h
   .exact h
   .rw[ew,cq m];exact List.getElem_mem m
  have j:=(jH.1 q).2.2;have g:∀v∈x.buf++[(y.cases.getD i (0,0,0)).2.2],0<=v/\v<=4294967295:=by
   intro v h;rcases List.mem_append.1 h with h|h
   .exact a.2.2.1.2 v h
   .rw[List.mem_singleton]at h;subst h;omega
  dsimp only;rw[e];refine⟨?_,BF hl t,I6 _ _,?_,?_⟩
  .refine cK.2 ⟨a.1,a.2.1,⟨?_,?_⟩,a.2.2.2⟩
   .show(((x.buf++[(y.cases.getD i (0,0,0)).2.2]).drop 1).length:Int)<=x.cap;have:=a.2.2.1.1;rw[iu];simp;omega
   .intro v h;exact g v (List.mem_of_mem_drop h)
  .have:0<=(x.buf++[(y.cases.getD i (0,0,0)).2.2]).getD 0 0/\(x.buf++[(y.cases.getD i (0,0,0)).2.2]).getD 0 0<=4294967295:=by
    rcases ou (l:=x.buf++[(y.cases.getD i (0,0,0)).2.2]) (i:=0) (d:=(0:Int))with h|h
    .exact g _ h
    .rw[h];decide
   rw[eF];dsimp only;omega
  .intro z b;rw[List.mem_singleton]at b;subst b;exact xH hl _ _ _ _ aa af af
theorem aae{value:Int}(f:0<=value/\value<=4294967295):Dj c l.length (nz x handle l dir value):=by
 unfold nz;split
 .exact XR
 .rename_i a;have a:cX x handle l dir=true:=by simpa using a
  split
  .rename_i b;obtain⟨rfl,d⟩:=b;exact SL hx hl f a d
  .split
   .exact SM hx hl
   .exact XR
theorem SN:Dj c l.length (kP x handle l):=by
 unfold kP;split
 .exact XR
 .rename_i b;have d:x.used=true:=by
   cases h:x.used with
   |true=>rfl
   |false=>exact absurd (.inl h) b
  have a:=cK.1 hx;refine⟨cK.2 ⟨a.1,a.2.1,a.2.2.1,.inl d⟩,(I7 hl _).1,(I7 hl _).2,oy af,?_⟩;intro z hz;obtain⟨t,_,rfl⟩:=List.mem_map.1 hz;exact xH hl _ _ _ _ (NP (FK hl t) _) af af
end
theorem tE{h:Hl}{d:Int}{i:Nat}(c:bP h d=some i):∃x,h.chans[i]?=some x/\x.used=true/\fO h i=x:=by
 unfold bP at c;split at c
 .cases c
 .split at c
  .cases c
  .rename_i x a;split at c
   .rename_i b;injection c with c
    subst c;exact⟨x,a,b.1,by unfold fO;rw[ew,a];rfl⟩
   .cases c
def nX(c:dG)(p:Hl×Rs):Prop:=kJ c p.1/\iR p.2=true
section
variable{c:dG}{h:Hl}
theorem rr:∀(n i:Nat) (b:Bool) (j:Nat),eK c.bn h.chans i b n=.inl j->∃x,h.chans[j]?=some x/\x.used=false/\x.gen<min c.bn 4095
 |0,i,b,j,e=>by unfold eK at e;cases e
 |n+1,i,b,j,e=>by
  unfold eK at e
  cases a:h.chans[i]? with
  |none=>rw[a]at e;cases e
  |some x =>
   rw[a]at e;dsimp only at e;split at e
   .exact rr n _ _ j e
   .rename_i d;split at e
    .exact rr n _ _ j e
    .rename_i f;injection e with e
     subst e;exact⟨x,a,by simpa using d,aa⟩
theorem Dk(n i:Nat)(f:Bool)(e:Int)(d:eK c.bn h.chans i f n=.inr e):e=7\/e=6:=by
 induction n generalizing i f with
 |zero=>unfold eK at d;injection d with d;split at d<;>omega
 |succ n b =>
  unfold eK at d;cases a:h.chans[i]? with
  |none=>rw[a]at d;injection d with d;split at d<;>omega
  |some x =>
   rw[a]at d;dsimp only at d;split at d
   .exact b _ _ d
   .split at d
    .exact b _ _ d
    .cases d
theorem Dl(l:List Cs):0<=ed h l/\ed h l<=255:=by
 unfold ed;split
 .decide
 .split
  .decide
  .split<;>decide
variable(F:kJ c h)
include F
theorem kJ.same{r:Rs}(d:iR r=true):nX c (h,r):=⟨F,d⟩
theorem kJ.code(he:0<=e/\e<=255):nX c (h,bg e):=⟨F,oy he⟩
theorem kJ.NQ(i:Nat){x:Ch}(d:h.chans[i]?=some x):lG c x=true:=F.ch x (cH d)
theorem kJ.VB(i:Nat){x:Ch}(d:lG c x=true):kJ c {h with chans:=h.chans.set i x}:=⟨F.ee,F.kind,F.tick,by show((h.chans.set i x).length:Int)=_;rw[dN];exact F.Fm,F.I5,F.zo,F.dn,λy b=>by rcases mem_set b with a|rfl;exact F.ch _ a;exact d,F.wt⟩
theorem kJ.got(i:Nat){G:r7}(d:Dj c h.waits.length G):kJ c {h with chans:=h.chans.set i G.c,waits:=G.l,done:=fN h.done G.told}:=by
 have a:=I8 F.dn G.told d.told;refine⟨F.ee,F.kind,F.tick,?_,?_,?_,a.1,λy e=>?_,d.wt⟩
 .show((h.chans.set i G.c).length:Int)=_;rw[dN];exact F.Fm
 .show(G.l.length:Int)=_;rw[d.len];exact F.I5
 .show((fN h.done G.told).length:Int)=_;rw[a.2];exact F.zo
 .rcases mem_set e with b|rfl
  .exact F.ch _ b
  .exact d.ch
theorem NR(d:Int):nX c (lH c h d):=by
 unfold lH;split
 .exact F.code af
 .rename_i j;cases a:eK c.bn h.chans 0 false h.chans.length with
  |inr e=>rcases Dk _ _ _ _ a with rfl|rfl<;>exact F.code af
  |inl i =>
   obtain⟨x,b,m,l⟩:=rr _ _ _ _ a;have k:=cK.1 (F.NQ i b);have f:fO h i=x:=by unfold fO;rw[ew,b];rfl
   dsimp only;rw[f];have n:x.gen<4095:=aa;refine⟨F.VB i (cK.2 ⟨by dsimp only;omega,by dsimp only;omega,⟨by dsimp only;simp;omega,λv g=>by cases g⟩,.inl rfl⟩),?_⟩;show iR ⟨0,0,0,jM i (x.gen+1)⟩=true;rw[eF];dsimp only;unfold jM;split<;>omega
theorem NT(d:Int):nX c (mR h d):=by
 unfold mR;cases e:bP h d with
 |none=>exact F.code af
 |some i =>
  dsimp only;split
  .exact F.code af
  .obtain⟨x,g,j,b⟩:=tE e;have a:=cK.1 (F.NQ i g);rw[b];exact⟨F.VB i (cK.2 ⟨a.1,by dsimp only;omega,⟨aA,λv f=>by cases f⟩,.inr ⟨rfl,rfl⟩⟩),tD⟩
theorem SP{which:Nat}{k:Cs}(g:kV k=true)(l:which<=15)(f:(bP h k.2.1).isSome=true):nX c (wO h which k):=by obtain⟨i,b⟩:=Option.isSome_iff_exists.1 f;obtain⟨x,e,j,d⟩:=tE b;unfold wO;dsimp only;rw[b];dsimp only[Option.getD_some];rw[d];have a:=aae (F.NQ i e) F.wt (handle:=k.2.1) (dir:=k.1) (value:=k.2.2) (by have:=(jH.1 g).2.2;omega);refine⟨F.got i a,?_⟩;have:=eF.1 a.res;rw[eF];dsimp only;omega
theorem NU(d:Int):nX c (mS h d):=by
 unfold mS;cases e:bP h d with
 |none=>exact F.code af
 |some i=>obtain⟨x,f,g,b⟩:=tE e;dsimp only;rw[b];have a:=SN (F.NQ i f) F.wt (handle:=d);refine⟨F.got i a,oy ?_⟩;have:=eF.1 a.res;omega
theorem NV(q:Rq):nX c (h,lZ h q):=by
 refine⟨F,?_⟩;unfold lZ;cases e:bP h q.arg with
 |none=>exact oy af
 |some i =>
  obtain⟨x,f,j,d⟩:=tE e;have g:=cK.1 (F.NQ i f);have a:=F.ee;have k:c.cap<=16:=by unfold aV nI at a;simp only[eT]at a;have b:=a.2;rw[au (by rw[F.kind];decide),ay F.kind]at b;simp only[eT,ml]at b;omega
  dsimp only;rw[d];split<;>(rw[eF];dsimp only;omega)
theorem FL(i t n:Int):nX c (eL h i t n):=by
 unfold eL;split
 .exact F.code af
 .rename_i d;have f:(h.waits.getD t.toNat fU).seq=n:=by
   by_cases e:(h.waits.getD t.toNat fU).seq=n
   .exact e
   .exact absurd (.inr (.inr (.inr (.inr e)))) d
  have g:=xG (FK F.wt t.toNat);rw[f]at g;have a:=I8 F.dn [⟨t.toNat,⟨n,0,11,0⟩⟩] (λx b=>by rw[List.mem_singleton]at b;subst b;rw[eF];dsimp only;omega);refine⟨⟨F.ee,F.kind,F.tick,F.Fm,?_,?_,a.1,F.ch,BF F.wt _⟩,tD⟩
  .show((et h.waits t.toNat).length:Int)=_;rw[I6];exact F.I5
  .show((fN h.done _).length:Int)=_;rw[a.2];exact F.zo
theorem FM{d:Int}{q:Rq}(u:0<=d/\d<=1048575)(r:bt q=true):nX c (cQ h t d q):=by
 unfold cQ;split
 .exact F.code (Dl _)
 .rename_i a;have a:ed h q.cases=0:=by by_cases e:ed h q.cases=0;exact e;exact absurd e a
  have g:=gY.1 r;have f:∀k∈q.cases,(bP h k.2.1).isSome=true:=by
   intro k p;unfold ed at a;split at a
   .cases a
   .split at a
    .cases a
    .split at a
     .cases a
     .rename_i o;cases e:bP h k.2.1 with
      |some i=>rfl
      |none=>exact absurd (List.any_eq_true.2 ⟨k,p,by rw[e];rfl⟩) o
  have hlen:q.cases.length≠0:=by intro e;unfold ed at a;rw[ay (.inl e)]at a;cases a
  cases s:q.cases.findIdx? (λk=>cX (fO h ((bP h k.2.1).getD 0)) k.2.1 h.waits k.1)with
  |some i =>
   have j:=(List.findIdx?_eq_some_iff_getElem.1 s).1;have m:q.cases.getD i (0,0,0)∈q.cases:=by rw[ew,cq j];exact List.getElem_mem j
   exact SP F (g.2.2.2.2 _ m) aa (f _ m)
  |none =>
   dsimp only;split
   .exact F.code af
   .split
    .exact F.code af
    .rename_i w;cases b:zR h.waits t ⟨false,h.ak,d,q.cases⟩with
     |none=>exact F.code af
     |some l =>
      unfold zR at b;split at b
      .cases b
      .split at b
       .cases b
       .split at b
        .cases b
        .injection b with b
         subst b;have y:=F.tick;refine⟨⟨F.ee,F.kind,by dsimp only;omega,F.Fm,?_,F.zo,F.dn,F.ch,?_⟩,oy af⟩
         .show((h.waits.set _ _).length:Int)=_;rw[dN];exact F.I5
         .intro x v;rcases mem_set v with n|rfl
          .exact F.wt _ n
          .rw[kW];rw[au (λe=>by cases e)];exact⟨by dsimp only;omega,u,by dsimp only;omega,g.2.2.2.2⟩
theorem tF{seq:Int}{q:Rq}(f:0<=seq/\seq<=1048575)(d:bt q=true):nX c (eR c h t seq q):=by
 unfold eR;split
 .exact NR F _
 .split
  .exact NT F _
  .split
   .exact FM F f d
   .split
    .exact NU F _
    .split
     .exact NV F _
     .split
      .exact FL F _ _ _
      .exact F.code af
theorem mD{seq:Int}{q:Rq}(g:0<=seq/\seq<=1048575)(f:bt q=true):kJ c (cY c h t seq q):=by
 have a:=tF F (t:=t) g f;unfold cY cY.xC;dsimp only;have e:=eF.1 a.2;split
 .exact⟨a.1.ee,a.1.kind,a.1.tick,a.1.Fm,a.1.I5,a.1.zo,a.1.dn,a.1.ch,a.1.wt⟩
 .refine⟨a.1.ee,a.1.kind,a.1.tick,a.1.Fm,a.1.I5,by rw[dN];exact a.1.zo,?_,a.1.ch,a.1.wt⟩;intro r d;rcases mem_set d with b|rfl
  .exact a.1.dn _ b
  .rw[eF];dsimp only;omega
end
theorem oz(l:List Int)(n:Nat)(h:l.length<=n):(kH l n).length=n:=by unfold kH;simp;omega
theorem FN{α:Type}(f:α->List Int)(m:Nat):∀(l:List α),(∀x∈l,(f x).length=m)->(l.flatMap f).length=l.length*m
 |[],_=>by simp
 |x::l,h=>by rw[List.flatMap_cons,fM,h x aA,FN f m l (λy a=>h y (by simp[a])),List.length_cons,Nat.succ_mul];omega
theorem aO{c:dG}(h:aV c=true):(1<=c.threads/\c.threads<=64)/\(1<=c.nodes/\c.nodes<=64)/\(1<=c.aP/\c.aP<=32)/\(0<=c.aB/\c.aB<=4)/\(1<=c.tags/\c.tags<=4294967295)/\(1<=c.bw/\c.bw<=1048575)/\(0<=c.cap/\c.cap<=16)/\(0<=c.chans/\c.chans<=8):=by
 unfold aV at h;simp only[eT,ml]at h;obtain⟨⟨⟨⟨⟨⟨b,d⟩,e⟩,f⟩,g⟩,i⟩,a⟩:=h;refine⟨b,d,e,f,g,i,?_⟩;unfold nI at a;split at a
 .simp only[eT,ml,beq_iff_eq,eI]at a;omega
 .split at a
  .simp only[eT,ml,eI]at a;omega
  .cases a
theorem xI{c:dG}{h:Hl}(F:kJ c h):((gI c h).length:Int)=bA c:=by
 have i:=aO F.ee;unfold gI;rw[ay (gb.2 F)];have f:(h.chans.flatMap (iZ c)).length=h.chans.length*(1+c.cap.toNat):=FN _ _ _ (λx a=>by
  have:=cK.1 (F.ch x a)
  unfold iZ
  rw[List.length_cons,oz _ _ aa];omega)
 have g:(h.waits.flatMap iJ).length=h.waits.length*4:=FN _ _ _ (λx a=>by
  have:=mW (F.wt x a)
  unfold iJ
  simp;omega)
 rw[List.length_cons,fM,fM,f,g,fP];unfold bA eC;rw[au (by rw[F.ee];decide),au (by rw[F.ee];decide),ay F.kind];have d:=F.Fm;have b:=F.I5;have e:=F.zo;rw[<-d, <-b];push_cast;rw[Int.toNat_of_nonneg i.2.2.2.2.2.2.1.1];rw[<-b]at e;omega
theorem size_pos{c:dG}(h:aV c=true):2<=bA c:=by have a:=aO h;have b:0<=c.chans*(1+c.cap):=lI a.2.2.2.2.2.2.2.1 aa;unfold bA eC;rw[au (by rw[h];decide),au (by rw[h];decide)];split<;>omega
theorem uI{c:dG}{l:List Int}{h:Hl}(d:qo c l=some h):kJ c h:=by
 unfold qo at d;split at d
 .rename_i b;injection d with d
  subst d;simp only[eT,beq_iff_eq,eI]at b;obtain⟨⟨⟨g,i⟩,f⟩,a⟩:=b;by_cases e:jF c (kj c l)=true
  .exact gb.1 e
  .unfold gI at a;rw[au e]at a;rw[<-a]at f;have:=size_pos g;simp at f;omega
 .cases d
end Mo
namespace Mo
theorem FO{c:dG}{l:List Int}{d:Int}{q:Rq}(h:(l.length:Int)=bA c):((ja c l t d q).length:Int)=bA c:=by
 unfold ja;split
 .exact h
 .rename_i a;have g:0<=d/\d<=1048575:=aa;have b:bt q=true:=by
   cases e:bt q with
   |true=>rfl
   |false=>exact absurd (.inr (.inr (.inr (.inr e)))) a
  cases f:qo c l with
  |none=>exact h
  |some x=>exact xI (mD (uI f) g b)
theorem xJ{c:dG}{l:List Int}(d:List Op)(h:(l.length:Int)=bA c):((pZ c l d).length:Int)=bA c:=by
 unfold pZ;induction d generalizing l with
 |nil=>exact h
 |cons o d a=>exact a (FO h)
theorem pn{c:dG}(f:aV c=true)(g:c.kind=3):kJ c (eb c):=by
 have j:=aO f;refine⟨f,g,⟨ek 0,(by decide:(0:Int)<=4294967295)⟩,?_,?_,?_,?_,?_,?_⟩
 .unfold eb;simp;omega
 .unfold eb;simp;omega
 .unfold eb;simp;omega
 .intro r h;unfold eb at h;rw[(List.mem_replicate.1 h).2];exact tD
 .intro x b;unfold eb at b;obtain⟨i,_,rfl⟩:=List.mem_map.1 b;cases l:c.start[i]? with
  |none=>exact cK.2 ⟨⟨ek 0,(by decide:(0:Int)<=4095)⟩,⟨ek 0,j.2.2.2.2.2.2.1.1⟩,⟨ek 0,λv e=>by cases e⟩,.inr ⟨rfl,rfl⟩⟩
  |some k =>
   have a:0<=k/\k<=c.cap:=by unfold aV nI at f;simp only[eT]at f;have d:=f.2;rw[au (by rw[g];decide),ay g]at d;simp only[eT,List.all_eq_true,ml]at d;exact d.2 k (cH l)
   exact cK.2 ⟨⟨(by decide:(0:Int)<=1),(by decide:(1:Int)<=4095)⟩,a,⟨by simpa using a.1,λv e=>by cases e⟩,.inl rfl⟩
 .intro x b;unfold eb at b;rw[(List.mem_replicate.1 b).2];exact BD
theorem FP{c:dG}(d:aV c=true)(f:c.kind=3):((nW c).length:Int)=bA c:=by unfold nW;rw[au (by rw[d];decide)];exact xI (pn d f)
end Mo
end Go.Proofs.YtpfbfhfcbdbglaaGreat
