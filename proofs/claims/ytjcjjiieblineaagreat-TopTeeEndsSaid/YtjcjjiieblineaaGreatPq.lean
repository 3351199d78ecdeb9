/- Walks and plain facts. No condition. -/
import Derived.Test.YtjcjjiieblineaaGreatPg
import Derived.Test.YtjcjjiieblineaaGreatPo
namespace Go.Proofs.YtjcjjiieblineaaGreat
open Go.Proofs.Tryz Mo
set_option maxHeartbeats 8000000
set_option maxRecDepth 100000
set_option linter.all false
variable {α:Type}{t d b':Nat}{y:α}
namespace Mo
section
variable(c:bA) (t:Int) (r:Rn)
theorem lM(L:List Int)(a x:Int):(setAt L a x).length=L.length:=by unfold setAt;split<;>simp
theorem J6:(Rn.again c r).L=r.L:=by unfold Rn.again;split<;>(try split)<;>rfl
theorem pA:(Rn.fail c r).L=r.L:=J6 c _
theorem nT:(Rn.take c r).L=r.L:=by
 unfold Rn.take;dsimp only;split
 ·exact J6 c _
 ·split<;>rfl
theorem jk:(Rn.cB c r).L=r.L:=by unfold Rn.cB;split;exact nT c r;rfl
theorem l8:(Rn.owned c r).L=r.L:=by unfold Rn.owned;split;rfl;split<;>rfl
theorem jl:(Rn.ee c r).L=r.L:=by unfold Rn.ee;split<;>rfl
theorem iv:(Rn.cU c t r).L=r.L:=by unfold Rn.cU;split<;>rfl
theorem Vi:(Rn.enter c t r).L.length=r.L.length:=by
 unfold Rn.enter;dsimp only;repeat' split
 all_goals simp only[pA,nT,jk,l8,jl,iv,Rn.store,Rn.pc,Rn.finish,lM]
 all_goals(try(split<;>simp only[lM]))
theorem QW:(Rn.eZ c t r).L.length=r.L.length:=by
 unfold Rn.eZ;dsimp only;repeat' split
 all_goals simp only[pA,nT,jk,l8,jl,iv,Rn.store,Rn.pc,Rn.finish,lM]
 all_goals(try(split<;>simp only[lM]))
theorem QX:(Rn.fc c r).L.length=r.L.length:=by
 unfold Rn.fc;dsimp only;repeat' split
 all_goals simp only[pA,nT,jk,l8,jl,iv,Rn.store,Rn.pc,Rn.finish,lM]
 all_goals(try(split<;>simp only[lM]))
theorem Mf:(Rn.eV c t r).L.length=r.L.length:=by
 unfold Rn.eV;dsimp only;repeat' split
 all_goals simp only[pA,nT,jk,l8,jl,iv,Rn.store,Rn.pc,Rn.finish,lM]
 all_goals(try(split<;>simp only[lM]))
theorem QY:(Rn.writes c t r).L.length=r.L.length:=by
 unfold Rn.writes;dsimp only;repeat' split
 all_goals simp only[pA,nT,jk,l8,jl,iv,Rn.store,Rn.pc,Rn.finish,lM]
 all_goals(try(split<;>simp only[lM]))
theorem Hp:(Rn.bT c t r).L.length=r.L.length:=by
 unfold Rn.bT;dsimp only;repeat' split
 all_goals simp only[pA,nT,jk,l8,jl,iv,Rn.store,Rn.pc,Rn.finish,lM]
 all_goals(try(split<;>simp only[lM]))
theorem aal:(Rn.ends c t r).L.length=r.L.length:=by
 unfold Rn.ends;dsimp only;repeat' split
 all_goals simp only[pA,nT,jk,l8,jl,iv,Rn.store,Rn.pc,Rn.finish,lM]
 all_goals(try(split<;>simp only[lM]))
theorem Mg:(Rn.cV c t r).L.length=r.L.length:=by
 unfold Rn.cV;dsimp only;repeat' split
 all_goals simp only[pA,nT,jk,l8,jl,iv,Rn.store,Rn.pc,Rn.finish,lM]
 all_goals(try(split<;>simp only[lM]))
theorem Vj:(Rn.leave c t r).L.length=r.L.length:=by
 unfold Rn.leave;dsimp only;repeat' split
 all_goals simp only[pA,nT,jk,l8,jl,iv,Rn.store,Rn.pc,Rn.finish,lM]
 all_goals(try(split<;>simp only[lM]))
theorem Vk:(Rn.waits c t r).L.length=r.L.length:=by
 unfold Rn.waits;dsimp only;by_cases e:r.k.pc=29
 ·rw[au e];split<;>rfl
 rw[ah e];by_cases e:r.k.pc=30
 ·rw[au e]
 rw[ah e];by_cases e:r.k.pc=31
 ·rw[au e];exact lM _ _ _
 rw[ah e];by_cases e:r.k.pc=32
 ·rw[au e]
 rw[ah e];by_cases e:r.k.pc=33
 ·rw[au e];exact lM _ _ _
 rw[ah e];by_cases e:r.k.pc=34
 ·rw[au e]
 rw[ah e];by_cases e:r.k.pc=35
 ·rw[au e];rfl
 rw[ah e];by_cases e:r.k.pc=36
 ·rw[au e]
 rw[ah e];by_cases e:r.k.pc=37
 ·rw[au e];exact lM _ _ _
 rw[ah e];by_cases e:r.k.pc=38
 ·rw[au e];split<;>exact lM _ _ _
 rw[ah e]
theorem aam:(eD c t r).L.length=r.L.length:=by unfold eD;split;rfl;split;exact Vi c t r;split;exact QW c t r;split;exact QX c r;split;exact Mf c t r;split;exact QY c t r;split;exact Hp c t r;split;exact aal c t r;split;exact Mg c t r;split;exact Vj c t r;exact Vk c t r
end
structure TB (c:bA) (n:Int) (k:Tk):Prop where
 a:TZ c n k
 f:wM c n k
 b:FB c k
structure MB (n:Int) (a b d:Nat) (x:Mc):Prop where
 eN:aU x.c=true
 T:(x.T.length:Int)=x.c.threads
 P:(x.P.length:Int)=x.c.threads
 S:(x.S.length:Int)=x.c.threads
 M:(x.M.length:Int)=x.c.threads
 L:(x.L.length:Int)=bB x.c
 tb:∀k∈x.T,TB x.c n k
 w:fE x.L
 g:ay x.L 1<=n
 pm:∀p∈x.P,p.outs.length<=8
 time:0<=x.time/\x.time<=a
 N:x.N.length<=b
 V:x.V.length<=d
 sb:∀s∈x.S,0<=s/\s<=d
 mb:∀s∈x.M,0<=s/\s<=d
theorem kY{P:α->Prop}{l:List α}(h:∀x∈l,P x)(t:Nat)(b:P y):∀x∈l.set t y,P x:=fun x a=>(List.mem_or_eq_of_mem_set a).elim (h x) fun e=>e▸b
theorem uf{P:α->Prop}{l:List α}(h:∀x∈l,P x)(t:Nat)(a:P y):P (l.getD t y):=by
 rw[cZ];by_cases e:t<l.length
 ·rw[cY e];exact h _ (List.getElem_mem e)
 ·rw[List.getElem?_eq_none aa];exact a
theorem TB.mono{c:bA}{n m:Int}{k:Tk}(h:TB c n k)(e:n<=m):TB c m k:=⟨h.a.mono e,h.f.mono e,h.b⟩
section
variable{n:Int} {a b d:Nat} {x:Mc}
theorem MB.mono(h:MB n a b d x){n':Int}{a' d':Nat}(e:n<=n')(l:a<=a')(u:b<=b')(C:d<=d'):MB n' a' b' d' x :={h with tb:=fun k f=>(h.tb k f).mono e,g:=Int.le_trans h.g e,time:=⟨h.time.1,by have:=h.time.2;omega⟩,N:=by have:=h.N;omega,V:=by have:=h.V;omega,sb:=fun s c=>by have:=h.sb s c;omega,mb:=fun s c=>by have:=h.mb s c;omega}
theorem MB.at_(h:MB n a b d x)(e:t<x.T.length):TB x.c n (bm x t):=h.tb _ (dB (om e))
theorem MB.rb(h:MB n a b d x)(c:t<x.T.length):RB x.c n ⟨bm x t,x.L,0,false,[]⟩:=⟨(h.at_ c).a,(h.at_ c).f,h.w,h.g⟩
theorem MB.QZ(h:MB n a b d x)(t:Nat):(gH x t).outs.length<=8:=uf h.pm t ag
theorem MB.tick(h:MB n a b d x):MB n (a+1) b d {x with time:=x.time+1}:={h with time:=⟨by have:=h.time.1;dsimp only;omega,by have:=h.time.2;dsimp only;omega⟩}
theorem Eu(h:MB n a b d x)(m:1<=n)(p:t<x.T.length)(q:Rq):MB n a (b+1) d (cS x t q).1:=by
 have k:=h.at_ p;have u:=size_pos h.eN;unfold cS;dsimp only;split
 ·exact h.mono (cI _) (aS _) (cj _) (aS _)
 case isFalse g =>
  have c:(dE x.c (bm x t) q).2=0:=Decidable.not_not.1 g;unfold dE at c ⊢;by_cases i:(bm x t).pc≠0
  ·rw[au i]at c;cases c
  ·rw[ah i]at c ⊢;by_cases f:bk q=false
   ·rw[au f]at c;cases c
   ·rw[ah f]at c ⊢;by_cases j:x.c.bG<=(bm x t).seq
    ·rw[au j]at c;cases c
    ·rw[ah j];have s:=k.a.seq;have o:bk q=true:=by cases e:bk q with|true=>rfl|false=>exact absurd e f
     have l:TB x.c n {eY 1 ((bm x t).seq+1) q (bm x t).aA dD false with round:=1}:=⟨⟨⟨by show 0<=(bm x t).seq+1;omega,by show(bm x t).seq+1<=_;omega⟩,⟨by show(0:Int)<=1;decide,m⟩,⟨cI _,by show(0:Int)<=n;omega⟩,⟨cI _,by show(0:Int)<=n;omega⟩,⟨cI _,by show(0:Int)<=n;omega⟩,⟨cI _,by show(0:Int)<=n;omega⟩,uL,fE.nil,by show(0:Int)<=_;omega,fE.nil,by show(0:Int)<=_;omega,(show uj 0 from dJ ag ag),fE.nil,aV _,by show(0:Int)<=n;omega,fE.nil,by show(0:Int)<=n;omega,rfl,k.a.aA⟩,⟨by unfold mM;dsimp only[eY];simp,fun _=>o⟩,FB.bO (by intro x r;cases r) (.inl (by show(1:Int)<8;decide))⟩
     exact{h with T:=by rw[cq];exact h.T,S:=by rw[cq];exact h.S,tb:=kY h.tb t l,N:=by have:=h.N;simp;omega,sb:=kY h.sb t ⟨cI _,aa⟩}
theorem Vl(h:MB n a b d x)(c:1<=n)(e:t<x.T.length)(q:Rq):MB n (a+1) (b+2) d (iB x t q).1:=by
 unfold iB;split
 ·exact h.mono (cI _) aa aa aa
 ·dsimp only;split
  ·exact{h.tick with N:=by have:=h.N;simp;omega}
  ·exact(Eu h.tick c e q).mono (cI _) aa aa aa
theorem Ew{c:Int}{outs:List Int}{p:Pm}(h:kT c outs=some p):p.outs.length<=8:=by
 unfold kT at h;split at h
 ·rename_i a;injection h with h
  subst h;exact a.2.2.1
 ·cases h
theorem yU(p:Pm)(r:Rs):(gG p r).outs=p.outs:=by
 unfold gG;repeat' split
 all_goals rfl
theorem Vm(h:MB n a b d x)(c:Int)(outs:List Int):MB n (a+1) b d (iZ x t c outs).1:=by
 unfold iZ;split
 ·exact h.mono (cI _) aa aa aa
 ·rename_i p e;split
  ·exact h.mono (cI _) aa aa aa
  ·exact{h.tick with P:=by rw[cq];exact h.P,pm:=kY h.pm t (Ew e)}
theorem Cz(h:MB n a b d x)(c:1<=n)(e:t<x.T.length):MB n a (b+1) d (eL x t):=by
 unfold eL;split
 ·exact h.mono (cI _) aa aa aa
 ·split
  ·exact h.mono (cI _) aa aa aa
  ·split
   ·exact{h.mono (cI _) (aS _) (cj b) (aS _)with P:=by rw[cq];exact h.P,pm:=kY h.pm t (by rw[yU];exact h.QZ t)}
   ·exact Eu h c e _
theorem qJ:(eL x t).T.length=x.T.length/\(eL x t).c=x.c:=by
 unfold eL;split
 ·exact⟨rfl,rfl⟩
 ·split
  ·exact⟨rfl,rfl⟩
  ·split
   ·exact⟨rfl,rfl⟩
   ·exact AP
theorem Hq(h:MB n a b d x)(g:0<=n)(f:n<=100000000)(e:t<x.T.length):TB x.c (n+1) (eD x.c t ⟨bm x t,x.L,0,false,[]⟩).k/\fE (eD x.c t ⟨bm x t,x.L,0,false,[]⟩).L/\ay (eD x.c t ⟨bm x t,x.L,0,false,[]⟩).L 1<=n+1:=by
 have C:CB x.c t:=⟨h.eN,aa,by have:=h.T;omega⟩
 have c:=Y6 C (h.rb e) g f;exact⟨⟨c.k,c.f,aak (h.at_ e).b (h.at_ e).f.aN⟩,c.L,c.g⟩
theorem Vo(h:MB n a b d x)(E:1<=n)(B:n<=100000000)(w:t<x.T.length):MB (n+1) (a+1) (b+2) (d+1) (iO x t):=by
 have c:=Cz h.tick E w;have v:(eL {x with time:=x.time+1} t).T.length=x.T.length:=qJ.1;have u:(eL {x with time:=x.time+1} t).c=x.c:=qJ.2;unfold iO;dsimp only;generalize eL {x with time:=x.time+1} t=y at u c v ⊢;rw[<-u];have A:t<y.T.length:=by rw[v];exact w
 have f:=c.mono (n':=n+1) (a':=a+1) (b':=b+2) (d':=d+1) aa aa aa aa;split
 ·exact f
 ·obtain⟨k,l,m⟩:=Hq c aa B A;have o:=aam y.c t ⟨bm y t,y.L,0,false,[]⟩;generalize eD y.c t ⟨bm y t,y.L,0,false,[]⟩=r at k l m o ⊢;have g:∀z:Mc,z.c=y.c->z.T=y.T.set t r.k->z.L=r.L->z.P.length=y.P.length->(∀p∈z.P,p.outs.length<=8)->z.time=y.time->z.N.length<=y.N.length+1->z.V.length<=y.V.length+1->z.S.length=y.S.length->z.M.length=y.M.length->(∀s∈z.S,0<=s/\s<=(d+1:Nat))->(∀s∈z.M,0<=s/\s<=(d+1:Nat))->MB (n+1) (a+1) (b+2) (d+1) z:=by
   intro z e zT q K N Q W X L J O M;exact⟨by rw[e];exact c.eN,by rw[e,zT,cq];exact c.T,by rw[e,K];exact c.P,by rw[e,L];exact c.S,by rw[e,J];exact c.M,by rw[e,q,o];exact c.L,by rw[e,zT];exact kY f.tb t k,by rw[q];exact l,by rw[q];exact m,N,by rw[Q];exact c.time,by have:=c.N;omega,by have:=c.V;omega,O,M⟩
  have j:0<=y.S.getD t 0/\y.S.getD t 0<=d:=uf (P:=fun s:Int=>0<=s/\s<=d) c.sb t ⟨cI _,aa⟩;have C:0<=y.M.getD t 0/\y.M.getD t 0<=d:=uf (P:=fun s:Int=>0<=s/\s<=d) c.mb t ⟨cI _,aa⟩;have V:∀s∈y.S.set t (y.S.getD t 0+1),0<=s/\s<=((d+1:Nat):Int):=kY f.sb t ⟨aa,aa⟩;have U:∀s∈y.M.set t (max (y.M.getD t 0) (y.S.getD t 0+1)),0<=s/\s<=((d+1:Nat):Int):=kY f.mb t ⟨aa,aa⟩;have D:∀p∈y.P,p.outs.length<=8:=c.pm;have i:∀p∈y.P.set t (gG (gH y t) r.k.res),p.outs.length<=8:=kY D t (by rw[yU];exact c.QZ t);clear k l m o j C;have S:=f.sb;have T:=f.mb;have R:∀z:Mc,z.P=y.P->gH z t=gH y t:=fun z H=>by unfold gH;rw[H]
  by_cases G:(bm y t).waits=true<;>by_cases F:r.fR=true<;>by_cases I:r.note≠0;all_goals
   simp only[au,ah,G,F,I,ite_true,ite_false,ne_eq,not_true_eq_false,not_false_eq_true,Bool.false_eq_true];split
  all_goals
   first
    |(refine g _ rfl rfl rfl ?_ ?_ rfl ?_ ?_ ?_ ?_ ?_ ?_<;>first|assumption|(simp;done)|exact aS _|exact cj _|rfl)
    |(refine g _ rfl rfl rfl ?_ ?_ rfl ?_ ?_ ?_ ?_ ?_ ?_<;>first|assumption|(simp;done)|exact aS _|exact cj _|rfl|exact i)
theorem acv(h:MB n a b d x)(c:1<=n)(g:n<=100000000)(e:Ev):MB (n+1) (a+1) (b+2) (d+1) (sM x e).1:=by
 unfold sM;split
 ·exact h.mono aa aa aa aa
 ·have f:e.th.toNat<x.T.length:=aa;split
  ·exact Vo h c g f
  split
  ·exact(Vl h c f _).mono aa aa aa aa
  split
  ·exact(Vm h _ _).mono aa aa aa aa
  ·exact h.mono aa aa aa aa
end
theorem acw:∀(l L:List Int) (a:Int),(lj L a l).length=L.length
 |[],_,_=>rfl
 |w::l,L,a=>(acw l (setAt L a w) (a+1)).trans (lM L a w)
theorem Ex:∀(l L:List Int) (a:Int),fE l->fE L->fE (lj L a l)
 |[],_,_,_,h=>h
 |w::l,L,a,h1,h=>Ex l (setAt L a w) (a+1) (fun x b=>h1 x (List.mem_cons_of_mem _ b)) (h.bj a (h1 w List.mem_cons_self))
theorem qL{L:List Int}{a w:Int}(b:a≠1):ay (setAt L a w) 1=ay L 1:=(o8 L a w 1).elim id fun e=>absurd e.1 b
theorem rY:∀(l L:List Int) (a:Int),1<a->ay (lj L a l) 1=ay L 1
 |[],_,_,_=>rfl
 |w::l,L,a,h=>(rY l (setAt L a w) (a+1) aa).trans (qL aa)
theorem Mh{c:bA}(a:aU c=true):fE (lI c):=by
 unfold lI;rw[ah (by rw[a];decide)];split
 ·exact Jn (yc a bc)
 ·exact BS (ye a bc)
theorem aan{c:bA}(h:aU c=true):MB 64 0 0 0 (iA c):=by
 have f:=aK h;have B:=size_pos h;have w:12<=bu c 0:=by unfold bu;omega
 have g:(ir c).length=(bB c).toNat:=by unfold ir;rw[acw,lM,lM,gp]
 have A:0<=bB c:=by unfold bB cN bu;rw[ah (by rw[h];decide),ah (by rw[h];decide)];have:=ly (show 0<=1+c.threads*c.nodes by have:=ly (show 0<=c.threads by omega) (show 0<=c.nodes by omega);omega) (show 0<=1+bn c by omega);omega
 have m:∀k∈(iA c).T,TB c 64 k:=by
  intro k t;obtain⟨i,n,rfl⟩:=List.mem_map.1 t;have q:=List.mem_range.1 n;have a:(0:Int)<=64:=ag;refine⟨⟨⟨cI _,by show(0:Int)<=_;omega⟩,⟨cI _,a⟩,⟨cI _,a⟩,⟨cI _,a⟩,⟨cI _,a⟩,⟨cI _,a⟩,uL,fE.nil,by show(0:Int)<=_;omega,fE.nil,by show(0:Int)<=_;omega,(show uj 0 from dJ ag ag),fE.nil,aV _,a,fE.nil,a,rfl,?_⟩,⟨by unfold mM lV;dsimp only[eY];simp,fun e=>absurd rfl e⟩,FB.bO (by intro x v;cases v) (.inl (by show(0:Int)<8;decide))⟩;have y:0<=(i:Int)*c.nodes:=ly aa aa;have z:(i:Int)*c.nodes<=63*64:=Int.mul_le_mul aa aa aa aa;refine⟨uL,fun _=>rfl,fun s b=>?_,fun o u=>(by cases u),cI _,?_⟩
  ·obtain⟨j,r,rfl⟩:=List.mem_map.1 b;have:=List.mem_range.1 r;unfold wL;dsimp only;omega
  ·show(((List.range (min (max c.nodes 0) 64).toNat).map _).length:Int)+([]:List Od).length+0<=64;rw[cW,List.length_range];simp;omega
 refine⟨h,?_,?_,?_,?_,?_,m,?_,?_,?_,⟨cI _,cI _⟩,aS _,aS _,?_,?_⟩
 ·show(((List.range c.threads.toNat).map _).length:Int)=c.threads;rw[cW,List.length_range];omega
 ·show((List.replicate c.threads.toNat kA).length:Int)=c.threads;rw[gp];omega
 ·show((List.replicate c.threads.toNat (0:Int)).length:Int)=c.threads;rw[gp];omega
 ·show((List.replicate c.threads.toNat (0:Int)).length:Int)=c.threads;rw[gp];omega
 ·show((ir c).length:Int)=_;rw[g];show((bB c).toNat:Int)=bB c;omega
 ·exact Ex _ _ _ (Mh h) (((fE.zeros _).bj _ (tE _)).bj _ (dJ ag ag))
 ·show ay (ir c) 1<=64;unfold ir;rw[rY _ _ _ aa,qL aa,qL ag];unfold ay;rw[ah ag];rcases mJ (l:=List.replicate (bB c).toNat (0:Int)) (i:=(1:Int).toNat) (d:=(0:Int))with e|e
  ·rw[(List.mem_replicate.1 e).2];decide
  ·rw[e];decide
 ·intro p f;rw[(List.mem_replicate.1 f).2];decide
 ·intro s b;rw[(List.mem_replicate.1 b).2];decide
 ·intro s b;rw[(List.mem_replicate.1 b).2];decide
end Mo
namespace Mo
section
variable(c:bA) (t:Int) (r:Rn)
def Nn(r a:Rn):Prop:=a.note=r.note\/a.note=2\/a.note=3
def Sk(r a:Rn):Prop:=a.k.aN=r.k.aN/\(a.ops=r.ops\/a.ops=r.k.found)/\Nn r a
def Sj(r a:Rn):Prop:=a.k.aN=r.k.aN/\a.ops=r.ops/\Nn r a
theorem S2{r a:Rn}(h:Sj r a):Sk r a:=⟨h.1,.inl h.2.1,h.2.2⟩
theorem Sj.refl:Sj r r:=⟨rfl,rfl,.inl rfl⟩
theorem Sk.refl:Sk r r:=S2 (Sj.refl r)
theorem aao:Sj r (Rn.fail c r):=by unfold Rn.fail Rn.again;split<;>(try split)<;>exact⟨rfl,rfl,.inl rfl⟩
theorem Q0:Sj r (Rn.take c r):=by
 unfold Rn.take Rn.again;dsimp only;repeat' split
 all_goals exact⟨rfl,rfl,.inl rfl⟩
theorem Mi:Sj r (Rn.cB c r):=by unfold Rn.cB;split;exact Q0 c r;exact⟨rfl,rfl,.inl rfl⟩
theorem Vp:Sj r (Rn.owned c r):=by unfold Rn.owned;split;exact⟨rfl,rfl,.inr (.inr rfl)⟩;split<;>exact⟨rfl,rfl,.inl rfl⟩
theorem Mj:Sj r (Rn.ee c r):=by unfold Rn.ee;split<;>exact⟨rfl,rfl,.inl rfl⟩
theorem Hr:Sj r (Rn.cU c t r):=by unfold Rn.cU;split<;>exact⟨rfl,rfl,.inl rfl⟩
theorem CA{P:Prop}(h:P:=by
 (try dsimp only);repeat' split
 all_goals first|exact Sk.refl _|exact⟨rfl,.inl rfl,.inl rfl⟩|exact⟨rfl,.inr rfl,.inl rfl⟩|exact⟨rfl,.inl rfl,.inr (.inl rfl)⟩|exact⟨rfl,.inl rfl,.inr (.inr rfl)⟩|exact S2 (aao _ _)|exact S2 (Q0 _ _)|exact S2 (Mi _ _)|exact S2 (Vp _ _)|exact S2 (Mj _ _)|exact S2 (Hr _ _ _)):P:=h
theorem Vq:Sk r (Rn.enter c t r):=by unfold Rn.enter;exact CA
theorem Q1:Sk r (Rn.eZ c t r):=by unfold Rn.eZ;exact CA
theorem Q2:Sk r (Rn.fc c r):=by unfold Rn.fc;exact CA
theorem Mk:Sk r (Rn.eV c t r):=by unfold Rn.eV;exact CA
theorem Q4:Sk r (Rn.writes c t r):=by unfold Rn.writes;exact CA
theorem Hs:Sk r (Rn.bT c t r):=by unfold Rn.bT;exact CA
theorem aap:Sk r (Rn.ends c t r):=by unfold Rn.ends;exact CA
theorem Ml:Sk r (Rn.cV c t r):=by unfold Rn.cV;exact CA
theorem Vr:Sk r (Rn.leave c t r):=by unfold Rn.leave;exact CA
theorem Vs:Sk r (Rn.waits c t r):=by
 unfold Rn.waits;dsimp only;by_cases e:r.k.pc=29
 ·rw[au e];exact CA
 rw[ah e];by_cases e:r.k.pc=30
 ·rw[au e];exact CA
 rw[ah e];by_cases e:r.k.pc=31
 ·rw[au e];exact CA
 rw[ah e];by_cases e:r.k.pc=32
 ·rw[au e];exact CA
 rw[ah e];by_cases e:r.k.pc=33
 ·rw[au e];exact CA
 rw[ah e];by_cases e:r.k.pc=34
 ·rw[au e];exact CA
 rw[ah e];by_cases e:r.k.pc=35
 ·rw[au e];exact CA
 rw[ah e];by_cases e:r.k.pc=36
 ·rw[au e];exact CA
 rw[ah e];by_cases e:r.k.pc=37
 ·rw[au e];exact CA
 rw[ah e];by_cases e:r.k.pc=38
 ·rw[au e];exact CA
 rw[ah e];exact Sk.refl _
theorem Ht:Sk r (eD c t r):=by unfold eD;split;exact Sk.refl _;split;exact Vq c t r;split;exact Q1 c t r;split;exact Q2 c r;split;exact Mk c t r;split;exact Q4 c t r;split;exact Hs c t r;split;exact aap c t r;split;exact Ml c t r;split;exact Vr c t r;exact Vs c t r
theorem Mn{x:Tk}{L:List Int}:(eD c t ⟨x,L,0,false,[]⟩).note≠1:=fun e=>by
 have h:=(Ht c t ⟨x,L,0,false,[]⟩).2.2
 unfold Nn at h
 rw[e]at h
 rcases h with h|h|h<;>cases h
end
structure MC (b:Nat) (x:Mc):Prop where
 T:∀k∈x.T,k.aN.cases.length<=3
 N:∀y∈x.N,y.aN.cases.length<=3
 V:∀y∈x.V,y.ops.length<=b/\∀o∈y.ops,o.aN.cases.length<=3
section
variable{b:Nat} {x:Mc}
theorem yV{P:α->Prop}{l:List α}(h:∀x∈l,P x)(c:P y):∀x∈l++[y],P x:=fun x a=>(List.mem_append.1 a).elim (h x) fun e=>by rw[List.mem_singleton.1 e];exact c
theorem MC.mono(h:MC b x)(e:b<=b'):MC b' x:=⟨h.T,h.N,fun y a=>⟨bq (h.V y a).1 e,(h.V y a).2⟩⟩
theorem MC.at_(h:MC b x)(t:Nat):(bm x t).aN.cases.length<=3:=uf h.T t ag
theorem Ey(h:MC b x)(t:Nat)(q:Rq):MC b (cS x t q).1:=by
 unfold cS;dsimp only;split
 ·exact h
 case isFalse i =>
  have a:(dE x.c (bm x t) q).2=0:=Decidable.not_not.1 i;unfold dE at a ⊢;by_cases d:(bm x t).pc≠0
  ·rw[au d]at a;cases a
  ·rw[ah d]at a ⊢;by_cases c:bk q=false
   ·rw[au c]at a;cases a
   ·rw[ah c]at a ⊢;by_cases f:x.c.bG<=(bm x t).seq
    ·rw[au f]at a;cases a
    ·rw[ah f];have g:q.cases.length<=3:=mQ (by cases e:bk q with|true=>rfl|false=>exact absurd e c);exact⟨kY h.T t g,yV h.N g,h.V⟩
theorem Vt(h:MC b x)(t:Nat)(q:Rq):MC b (iB x t q).1:=by
 unfold iB;split
 ·exact h
 ·rename_i a;have c:q.cases.length<=3:=mQ (by cases e:bk q with|true=>rfl|false=>exact absurd (.inr (.inr e)) a);dsimp only;split
  ·exact⟨h.T,fun y d=>(List.mem_append.1 d).elim (h.N y) fun e=>by simp at e;rcases e with rfl|rfl<;>exact c,h.V⟩
  ·exact Ey (x:={x with time:=x.time+1}) ⟨h.T,h.N,h.V⟩ t q
theorem Vu(h:MC b x)(t:Nat)(a:Int)(outs:List Int):MC b (iZ x t a outs).1:=by
 unfold iZ;split
 ·exact h
 ·split
  ·exact h
  ·exact⟨h.T,h.N,h.V⟩
theorem J7(h:MC b x)(t:Nat):MC b (eL x t):=by
 unfold eL;split
 ·exact h
 ·split
  ·exact h
  ·split
   ·exact⟨h.T,h.N,h.V⟩
   ·exact Ey h t _
theorem Vv{n:Int}{a u:Nat}(h:MC b x)(B:MB n a u d x)(C:1<=n)(H:n<=b)(p:t<x.T.length):MC b (iO x t):=by
 have c:=J7 (x:={x with time:=x.time+1}) ⟨h.T,h.N,h.V⟩ t;have g:=Cz B.tick C p;have l:(eL {x with time:=x.time+1} t).T.length=x.T.length:=qJ.1;unfold iO;dsimp only;generalize eL {x with time:=x.time+1} t=y at c g l ⊢;split
 ·exact c
 ·have j:t<y.T.length:=by rw[l];exact p
  have i:=Ht x.c t ⟨bm y t,y.L,0,false,[]⟩;have z:=(g.at_ j).b.cs;have A:=(g.at_ j).a.found;generalize eD x.c t ⟨bm y t,y.L,0,false,[]⟩=r at i ⊢;have m:r.k.aN.cases.length<=3:=by rw[i.1];exact c.at_ t
  have D:r.ops.length<=b/\∀o∈r.ops,o.aN.cases.length<=3:=by
   rcases i.2.1 with e|e
   ·rw[e];exact⟨aV _,fun o h=>by cases h⟩
   ·rw[e];exact⟨by show(bm y t).found.length<=b;omega,z⟩
  have s:∀k∈y.T.set t r.k,k.aN.cases.length<=3:=kY c.T t m;have q:∀f:Int,∀w∈y.N++[(⟨r.note,t,r.k.seq,f,r.k.aN,r.k.res⟩:Nt)],w.aN.cases.length<=3:=fun f=>yV c.N m;have v:∀f:Int,∀w∈y.V++[(⟨f,t,r.ops⟩:Tn)],w.ops.length<=b/\∀o∈w.ops,o.aN.cases.length<=3:=fun f=>yV c.V D;have I:=c.N;have J:=c.V;by_cases F:(bm y t).waits=true<;>by_cases E:r.fR=true<;>by_cases G:r.note≠0;all_goals
   simp only[au,ah,F,E,G,ite_true,ite_false,ne_eq,not_true_eq_false,not_false_eq_true,Bool.false_eq_true];split
  all_goals
   refine⟨s,?_,?_⟩<;>first|assumption|exact q _|exact v _
theorem acx{n:Int}{a u:Nat}(h:MC b x)(B:MB n a u d x)(f:1<=n)(c:n<=b)(e:Ev):MC b (sM x e).1:=by
 unfold sM;split
 ·exact h
 ·have g:e.th.toNat<x.T.length:=aa;split
  ·exact Vv h B f c g
  split
  ·exact Vt h _ _
  split
  ·exact Vu h _ _ _
  ·exact h
theorem aaq{c:bA}:MC b (iA c):=by refine⟨fun k a=>?_,fun y h=>(by cases h),fun y h=>(by cases h)⟩;obtain⟨i,d,rfl⟩:=List.mem_map.1 a;exact aV _
end
end Mo
end Go.Proofs.YtjcjjiieblineaaGreat
