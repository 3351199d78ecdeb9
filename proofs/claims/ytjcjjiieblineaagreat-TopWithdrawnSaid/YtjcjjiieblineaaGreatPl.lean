/- Walks and plain facts. No condition. -/
import Derived.Test.YtjcjjiieblineaaGreatPg
import Derived.Test.YtjcjjiieblineaaGreatPj
namespace Go.Proofs.YtjcjjiieblineaaGreat
open Go.Proofs.Tryz
set_option maxHeartbeats 8000000
set_option maxRecDepth 100000
set_option linter.all false
variable {α:Type}{t d b':Nat}{y:α}
namespace Mo
section
variable(c:bH) (t:Int) (r:Rn)
theorem kA(L:List Int)(a x:Int):(setAt L a x).length=L.length:=by unfold setAt;split<;>simp
theorem G7:(Rn.again c r).L=r.L:=by unfold Rn.again;split<;>(try split)<;>rfl
theorem nW:(Rn.fail c r).L=r.L:=G7 c _
theorem mE:(Rn.take c r).L=r.L:=by
 unfold Rn.take;dsimp only;split
 ·exact G7 c _
 ·split<;>rfl
theorem ic:(Rn.dy c r).L=r.L:=by unfold Rn.dy;split;exact mE c r;rfl
theorem kL:(Rn.owned c r).L=r.L:=by unfold Rn.owned;split;rfl;split<;>rfl
theorem ie:(Rn.eC c r).L=r.L:=by unfold Rn.eC;split<;>rfl
theorem fY:(Rn.cL c t r).L=r.L:=by unfold Rn.cL;split<;>rfl
theorem RY:(Rn.enter c t r).L.length=r.L.length:=by
 unfold Rn.enter;dsimp only;repeat' split
 all_goals simp only[nW,mE,ic,kL,ie,fY,Rn.store,Rn.pc,Rn.finish,kA]
 all_goals(try(split<;>simp only[kA]))
theorem NM:(Rn.eD c t r).L.length=r.L.length:=by
 unfold Rn.eD;dsimp only;repeat' split
 all_goals simp only[nW,mE,ic,kL,ie,fY,Rn.store,Rn.pc,Rn.finish,kA]
 all_goals(try(split<;>simp only[kA]))
theorem NN:(Rn.eE c r).L.length=r.L.length:=by
 unfold Rn.eE;dsimp only;repeat' split
 all_goals simp only[nW,mE,ic,kL,ie,fY,Rn.store,Rn.pc,Rn.finish,kA]
 all_goals(try(split<;>simp only[kA]))
theorem JA:(Rn.eF c t r).L.length=r.L.length:=by
 unfold Rn.eF;dsimp only;repeat' split
 all_goals simp only[nW,mE,ic,kL,ie,fY,Rn.store,Rn.pc,Rn.finish,kA]
 all_goals(try(split<;>simp only[kA]))
theorem NP:(Rn.writes c t r).L.length=r.L.length:=by
 unfold Rn.writes;dsimp only;repeat' split
 all_goals simp only[nW,mE,ic,kL,ie,fY,Rn.store,Rn.pc,Rn.finish,kA]
 all_goals(try(split<;>simp only[kA]))
theorem E4:(Rn.bT c t r).L.length=r.L.length:=by
 unfold Rn.bT;dsimp only;repeat' split
 all_goals simp only[nW,mE,ic,kL,ie,fY,Rn.store,Rn.pc,Rn.finish,kA]
 all_goals(try(split<;>simp only[kA]))
theorem Xe:(Rn.ends c t r).L.length=r.L.length:=by
 unfold Rn.ends;dsimp only;repeat' split
 all_goals simp only[nW,mE,ic,kL,ie,fY,Rn.store,Rn.pc,Rn.finish,kA]
 all_goals(try(split<;>simp only[kA]))
theorem JB:(Rn.cH c t r).L.length=r.L.length:=by
 unfold Rn.cH;dsimp only;repeat' split
 all_goals simp only[nW,mE,ic,kL,ie,fY,Rn.store,Rn.pc,Rn.finish,kA]
 all_goals(try(split<;>simp only[kA]))
theorem RZ:(Rn.leave c t r).L.length=r.L.length:=by
 unfold Rn.leave;dsimp only;repeat' split
 all_goals simp only[nW,mE,ic,kL,ie,fY,Rn.store,Rn.pc,Rn.finish,kA]
 all_goals(try(split<;>simp only[kA]))
theorem R1:(Rn.waits c t r).L.length=r.L.length:=by
 unfold Rn.waits;dsimp only;by_cases e:r.k.pc=29
 ·rw[au e];split<;>rfl
 rw[ai e];by_cases e:r.k.pc=30
 ·rw[au e]
 rw[ai e];by_cases e:r.k.pc=31
 ·rw[au e];exact kA _ _ _
 rw[ai e];by_cases e:r.k.pc=32
 ·rw[au e]
 rw[ai e];by_cases e:r.k.pc=33
 ·rw[au e];exact kA _ _ _
 rw[ai e];by_cases e:r.k.pc=34
 ·rw[au e]
 rw[ai e];by_cases e:r.k.pc=35
 ·rw[au e];rfl
 rw[ai e];by_cases e:r.k.pc=36
 ·rw[au e]
 rw[ai e];by_cases e:r.k.pc=37
 ·rw[au e];exact kA _ _ _
 rw[ai e];by_cases e:r.k.pc=38
 ·rw[au e];split<;>exact kA _ _ _
 rw[ai e]
theorem Xf:(dY c t r).L.length=r.L.length:=by unfold dY;split;rfl;split;exact RY c t r;split;exact NM c t r;split;exact NN c r;split;exact JA c t r;split;exact NP c t r;split;exact E4 c t r;split;exact Xe c t r;split;exact JB c t r;split;exact RZ c t r;exact R1 c t r
end
structure TB (c:bH) (n:Int) (k:Tk):Prop where
 a:QO c n k
 f:uu c n k
 b:FB c k
structure MB (n:Int) (a b d:Nat) (x:Mc):Prop where
 dL:aN x.c=true
 T:(x.T.length:Int)=x.c.threads
 P:(x.P.length:Int)=x.c.threads
 S:(x.S.length:Int)=x.c.threads
 M:(x.M.length:Int)=x.c.threads
 L:(x.L.length:Int)=bo x.c
 tb:∀k∈x.T,TB x.c n k
 w:eH x.L
 g:ax x.L 1<=n
 pm:∀p∈x.P,p.outs.length<=8
 time:0<=x.time/\x.time<=a
 N:x.N.length<=b
 V:x.V.length<=d
 sb:∀s∈x.S,0<=s/\s<=d
 mb:∀s∈x.M,0<=s/\s<=d
theorem jZ{P:α->Prop}{l:List α}(h:∀x∈l,P x)(t:Nat)(hy:P y):∀x∈l.set t y,P x:=fun x hx=>(List.mem_or_eq_of_mem_set hx).elim (h x) fun e=>e▸hy
theorem rX{P:α->Prop}{l:List α}(h:∀x∈l,P x)(t:Nat)(hy:P y):P (l.getD t y):=by
 rw[eR];by_cases e:t<l.length
 ·rw[cD e];exact h _ (List.getElem_mem e)
 ·rw[List.getElem?_eq_none ae];exact hy
theorem TB.mono{c:bH}{n m:Int}{k:Tk}(h:TB c n k)(hm:n<=m):TB c m k:=⟨h.a.mono hm,h.f.mono hm,h.b⟩
section
variable{n:Int} {a b d:Nat} {x:Mc}
theorem MB.mono(h:MB n a b d x){n':Int}{a' d':Nat}(h1:n<=n')(h2:a<=a')(h3:b<=b')(h4:d<=d'):MB n' a' b' d' x :={h with tb:=fun k hk=>(h.tb k hk).mono h1,g:=Int.le_trans h.g h1,time:=⟨h.time.1,by have:=h.time.2;omega⟩,N:=by have:=h.N;omega,V:=by have:=h.V;omega,sb:=fun s hs=>by have:=h.sb s hs;omega,mb:=fun s hs=>by have:=h.mb s hs;omega}
theorem MB.at_(h:MB n a b d x)(ht:t<x.T.length):TB x.c n (bu x t):=h.tb _ (dO (lC ht))
theorem MB.rb(h:MB n a b d x)(ht:t<x.T.length):RB x.c n ⟨bu x t,x.L,0,false,[]⟩:=⟨(h.at_ ht).a,(h.at_ ht).f,h.w,h.g⟩
theorem MB.NQ(h:MB n a b d x)(t:Nat):(gG x t).outs.length<=8:=rX h.pm t ah
theorem MB.tick(h:MB n a b d x):MB n (a+1) b d {x with time:=x.time+1}:={h with time:=⟨by have:=h.time.1;dsimp only;omega,by have:=h.time.2;dsimp only;omega⟩}
theorem Cr(h:MB n a b d x)(hn:1<=n)(ht:t<x.T.length)(q:Rq):MB n a (b+1) d (cT x t q).1:=by
 have hk:=h.at_ ht;have hz:=size_pos h.dL;unfold cT;dsimp only;split
 ·exact h.mono (bW _) (aS _) (bU _) (aS _)
 case isFalse hz' =>
  have hb:(ee x.c (bu x t) q).2=0:=Decidable.not_not.1 hz';unfold ee at hb ⊢;by_cases h0:(bu x t).pc≠0
  ·rw[au h0]at hb;cases hb
  ·rw[ai h0]at hb ⊢;by_cases h1:bt q=false
   ·rw[au h1]at hb;cases hb
   ·rw[ai h1]at hb ⊢;by_cases h2:x.c.bn<=(bu x t).seq
    ·rw[au h2]at hb;cases hb
    ·rw[ai h2];have hs:=hk.a.seq;have hq:bt q=true:=by cases e:bt q with|true=>rfl|false=>exact absurd e h1
     have hT:TB x.c n {eX 1 ((bu x t).seq+1) q (bu x t).az dC false with round:=1}:=⟨⟨⟨by show 0<=(bu x t).seq+1;omega,by show(bu x t).seq+1<=_;omega⟩,⟨by show(0:Int)<=1;decide,hn⟩,⟨bW _,by show(0:Int)<=n;omega⟩,⟨bW _,by show(0:Int)<=n;omega⟩,⟨bW _,by show(0:Int)<=n;omega⟩,⟨bW _,by show(0:Int)<=n;omega⟩,sO,eH.nil,by show(0:Int)<=_;omega,eH.nil,by show(0:Int)<=_;omega,(show r9 0 from cV ah ah),eH.nil,aY _,by show(0:Int)<=n;omega,eH.nil,by show(0:Int)<=n;omega,rfl,hk.a.az⟩,⟨by unfold lA;dsimp only[eX];simp,fun _=>hq⟩,FB.far (by intro x hx;cases hx) (.inl (by show(1:Int)<8;decide))⟩
     exact{h with T:=by rw[cK];exact h.T,S:=by rw[cK];exact h.S,tb:=jZ h.tb t hT,N:=by have:=h.N;simp;omega,sb:=jZ h.sb t ⟨bW _,ae⟩}
theorem R2(h:MB n a b d x)(hn:1<=n)(ht:t<x.T.length)(q:Rq):MB n (a+1) (b+2) d (j9 x t q).1:=by
 unfold j9;split
 ·exact h.mono (bW _) ae ae ae
 ·dsimp only;split
  ·exact{h.tick with N:=by have:=h.N;simp;omega}
  ·exact(Cr h.tick hn ht q).mono (bW _) ae ae ae
theorem Ct{ek:Int}{outs:List Int}{p:Pm}(h:kF ek outs=some p):p.outs.length<=8:=by
 unfold kF at h;split at h
 ·rename_i h1;injection h with h
  subst h;exact h1.2.2.1
 ·cases h
theorem wV(p:Pm)(r:Rs):(ja p r).outs=p.outs:=by
 unfold ja;repeat' split
 all_goals rfl
theorem R3(h:MB n a b d x)(ek:Int)(outs:List Int):MB n (a+1) b d (jJ x t ek outs).1:=by
 unfold jJ;split
 ·exact h.mono (bW _) ae ae ae
 ·rename_i p hp;split
  ·exact h.mono (bW _) ae ae ae
  ·exact{h.tick with P:=by rw[cK];exact h.P,pm:=jZ h.pm t (Ct hp)}
theorem Ag(h:MB n a b d x)(hn:1<=n)(ht:t<x.T.length):MB n a (b+1) d (ea x t):=by
 unfold ea;split
 ·exact h.mono (bW _) ae ae ae
 ·split
  ·exact h.mono (bW _) ae ae ae
  ·split
   ·exact{h.mono (bW _) (aS _) (bU b) (aS _)with P:=by rw[cK];exact h.P,pm:=jZ h.pm t (by rw[wV];exact h.NQ t)}
   ·exact Cr h hn ht _
theorem po:(ea x t).T.length=x.T.length/\(ea x t).c=x.c:=by
 unfold ea;split
 ·exact⟨rfl,rfl⟩
 ·split
  ·exact⟨rfl,rfl⟩
  ·split
   ·exact⟨rfl,rfl⟩
   ·exact yI
theorem E5(h:MB n a b d x)(hn:0<=n)(Gu:n<=100000000)(ht:t<x.T.length):TB x.c (n+1) (dY x.c t ⟨bu x t,x.L,0,false,[]⟩).k/\eH (dY x.c t ⟨bu x t,x.L,0,false,[]⟩).L/\ax (dY x.c t ⟨bu x t,x.L,0,false,[]⟩).L 1<=n+1:=by
 have C:CB x.c t:=⟨h.dL,ae,by have:=h.T;omega⟩
 have h1:=VR C (h.rb ht) hn Gu;exact⟨⟨h1.k,h1.f,Xd (h.at_ ht).b (h.at_ ht).f.aQ⟩,h1.L,h1.g⟩
theorem R4(h:MB n a b d x)(hn:1<=n)(Gu:n<=100000000)(ht:t<x.T.length):MB (n+1) (a+1) (b+2) (d+1) (lZ x t):=by
 have g1:=Ag h.tick hn ht;have g2:(ea {x with time:=x.time+1} t).T.length=x.T.length:=po.1;have g0:(ea {x with time:=x.time+1} t).c=x.c:=po.2;unfold lZ;dsimp only;generalize ea {x with time:=x.time+1} t=y at g0 g1 g2 ⊢;rw[<-g0];have Et:t<y.T.length:=by rw[g2];exact ht
 have g3:=g1.mono (n':=n+1) (a':=a+1) (b':=b+2) (d':=d+1) ae ae ae ae;split
 ·exact g3
 ·obtain⟨s1,s2,s3⟩:=E5 g1 ae Gu Et;have s4:=Xf y.c t ⟨bu y t,y.L,0,false,[]⟩;generalize dY y.c t ⟨bu y t,y.L,0,false,[]⟩=r at s1 s2 s3 s4 ⊢;have key:∀z:Mc,z.c=y.c->z.T=y.T.set t r.k->z.L=r.L->z.P.length=y.P.length->(∀p∈z.P,p.outs.length<=8)->z.time=y.time->z.N.length<=y.N.length+1->z.V.length<=y.V.length+1->z.S.length=y.S.length->z.M.length=y.M.length->(∀s∈z.S,0<=s/\s<=(d+1:Nat))->(∀s∈z.M,0<=s/\s<=(d+1:Nat))->MB (n+1) (a+1) (b+2) (d+1) z:=by
   intro z zc zT zL zP zp zt zN zV zS zM zs zm;exact⟨by rw[zc];exact g1.dL,by rw[zc,zT,cK];exact g1.T,by rw[zc,zP];exact g1.P,by rw[zc,zS];exact g1.S,by rw[zc,zM];exact g1.M,by rw[zc,zL,s4];exact g1.L,by rw[zc,zT];exact jZ g3.tb t s1,by rw[zL];exact s2,by rw[zL];exact s3,zp,by rw[zt];exact g1.time,by have:=g1.N;omega,by have:=g1.V;omega,zs,zm⟩
  have hs0:0<=y.S.getD t 0/\y.S.getD t 0<=d:=rX (P:=fun s:Int=>0<=s/\s<=d) g1.sb t ⟨bW _,ae⟩;have GH:0<=y.M.getD t 0/\y.M.getD t 0<=d:=rX (P:=fun s:Int=>0<=s/\s<=d) g1.mb t ⟨bW _,ae⟩;have hS:∀s∈y.S.set t (y.S.getD t 0+1),0<=s/\s<=((d+1:Nat):Int):=jZ g3.sb t ⟨ae,ae⟩;have hM:∀s∈y.M.set t (max (y.M.getD t 0) (y.S.getD t 0+1)),0<=s/\s<=((d+1:Nat):Int):=jZ g3.mb t ⟨ae,ae⟩;have hP:∀p∈y.P,p.outs.length<=8:=g1.pm;have hPs:∀p∈y.P.set t (ja (gG y t) r.k.res),p.outs.length<=8:=jZ hP t (by rw[wV];exact g1.NQ t);clear s1 s2 s3 s4 hs0 GH;have g4:=g3.sb;have g5:=g3.mb;have e1:∀z:Mc,z.P=y.P->gG z t=gG y t:=fun z hz=>by unfold gG;rw[hz]
  by_cases hw:(bu y t).waits=true<;>by_cases hv:r.gF=true<;>by_cases sY:r.note≠0;all_goals
   simp only[au,ai,hw,hv,sY,ite_true,ite_false,ne_eq,not_true_eq_false,not_false_eq_true,Bool.false_eq_true];split
  all_goals
   first
    |(refine key _ rfl rfl rfl ?_ ?_ rfl ?_ ?_ ?_ ?_ ?_ ?_<;>first|assumption|(simp;done)|exact aS _|exact bU _|rfl)
    |(refine key _ rfl rfl rfl ?_ ?_ rfl ?_ ?_ ?_ ?_ ?_ ?_<;>first|assumption|(simp;done)|exact aS _|exact bU _|rfl|exact hPs)
theorem aa5(h:MB n a b d x)(hn:1<=n)(Gu:n<=100000000)(e:Ev):MB (n+1) (a+1) (b+2) (d+1) (zz x e).1:=by
 unfold zz;split
 ·exact h.mono ae ae ae ae
 ·have ht:e.th.toNat<x.T.length:=ae;split
  ·exact R4 h hn Gu ht
  split
  ·exact(R2 h hn ht _).mono ae ae ae ae
  split
  ·exact(R3 h _ _).mono ae ae ae ae
  ·exact h.mono ae ae ae ae
end
theorem aa6:∀(l L:List Int) (a:Int),(j8 L a l).length=L.length
 |[],_,_=>rfl
 |w::l,L,a=>(aa6 l (setAt L a w) (a+1)).trans (kA L a w)
theorem Cu:∀(l L:List Int) (a:Int),eH l->eH L->eH (j8 L a l)
 |[],_,_,_,h=>h
 |w::l,L,a,h1,h=>Cu l (setAt L a w) (a+1) (fun x hx=>h1 x (List.mem_cons_of_mem _ hx)) (h.bb a (h1 w List.mem_cons_self))
theorem pq{L:List Int}{a w:Int}(ha:a≠1):ax (setAt L a w) 1=ax L 1:=(nO L a w 1).elim id fun e=>absurd e.1 ha
theorem p7:∀(l L:List Int) (a:Int),1<a->ax (j8 L a l) 1=ax L 1
 |[],_,_,_=>rfl
 |w::l,L,a,h=>(p7 l (setAt L a w) (a+1) ae).trans (pq ae)
theorem JC{c:bH}(hc:aN c=true):eH (lg c):=by
 unfold lg;rw[ai (by rw[hc];decide)];split
 ·exact Gp (vJ hc bE)
 ·exact zO (vK hc bE)
theorem Xg{c:bH}(h:aN c=true):MB 64 0 0 0 (kG c):=by
 have hp:=aG h;have hz:=size_pos h;have KC:12<=bA c 0:=by unfold bA;omega
 have hL:(iB c).length=(bo c).toNat:=by unfold iB;rw[aa6,kA,kA,gf]
 have ht:0<=bo c:=by unfold bo bI bA;rw[ai (by rw[h];decide),ai (by rw[h];decide)];have:=gO (show 0<=1+c.threads*c.nodes by have:=gO (show 0<=c.threads by omega) (show 0<=c.nodes by omega);omega) (show 0<=1+aZ c by omega);omega
 have hT:∀k∈(kG c).T,TB c 64 k:=by
  intro k hk;obtain⟨i,hi,rfl⟩:=List.mem_map.1 hk;have hi2:=List.mem_range.1 hi;have Xh:(0:Int)<=64:=ah;refine⟨⟨⟨bW _,by show(0:Int)<=_;omega⟩,⟨bW _,Xh⟩,⟨bW _,Xh⟩,⟨bW _,Xh⟩,⟨bW _,Xh⟩,⟨bW _,Xh⟩,sO,eH.nil,by show(0:Int)<=_;omega,eH.nil,by show(0:Int)<=_;omega,(show r9 0 from cV ah ah),eH.nil,aY _,Xh,eH.nil,Xh,rfl,?_⟩,⟨by unfold lA mQ;dsimp only[eX];simp,fun e=>absurd rfl e⟩,FB.far (by intro x hx;cases hx) (.inl (by show(0:Int)<8;decide))⟩;have h1:0<=(i:Int)*c.nodes:=gO ae ae;have h2:(i:Int)*c.nodes<=63*64:=Int.mul_le_mul ae ae ae ae;refine⟨sO,fun _=>rfl,fun s hs=>?_,fun o ho=>(by cases ho),bW _,?_⟩
  ·obtain⟨j,hj,rfl⟩:=List.mem_map.1 hs;have:=List.mem_range.1 hj;unfold ur;dsimp only;omega
  ·show(((List.range (min (max c.nodes 0) 64).toNat).map _).length:Int)+([]:List Od).length+0<=64;rw[eK,List.length_range];simp;omega
 refine⟨h,?_,?_,?_,?_,?_,hT,?_,?_,?_,⟨bW _,bW _⟩,aS _,aS _,?_,?_⟩
 ·show(((List.range c.threads.toNat).map _).length:Int)=c.threads;rw[eK,List.length_range];omega
 ·show((List.replicate c.threads.toNat vn).length:Int)=c.threads;rw[gf];omega
 ·show((List.replicate c.threads.toNat (0:Int)).length:Int)=c.threads;rw[gf];omega
 ·show((List.replicate c.threads.toNat (0:Int)).length:Int)=c.threads;rw[gf];omega
 ·show((iB c).length:Int)=_;rw[hL];show((bo c).toNat:Int)=bo c;omega
 ·exact Cu _ _ _ (JC h) (((eH.zeros _).bb _ (rp _)).bb _ (cV ah ah))
 ·show ax (iB c) 1<=64;unfold iB;rw[p7 _ _ _ ae,pq ae,pq ah];unfold ax;rw[ai ah];rcases lx (l:=List.replicate (bo c).toNat (0:Int)) (i:=(1:Int).toNat) (d:=(0:Int))with e|e
  ·rw[(List.mem_replicate.1 e).2];decide
  ·rw[e];decide
 ·intro p hp;rw[(List.mem_replicate.1 hp).2];decide
 ·intro s hs;rw[(List.mem_replicate.1 hs).2];decide
 ·intro s hs;rw[(List.mem_replicate.1 hs).2];decide
end Mo
namespace Mo
section
variable(c:bH) (t:Int) (r:Rn)
def Nn(r r':Rn):Prop:=r'.note=r.note\/r'.note=2\/r'.note=3
def Sk(r r':Rn):Prop:=r'.k.aQ=r.k.aQ/\(r'.ops=r.ops\/r'.ops=r.k.found)/\Nn r r'
def Sj(r r':Rn):Prop:=r'.k.aQ=r.k.aQ/\r'.ops=r.ops/\Nn r r'
theorem S2{r r':Rn}(h:Sj r r'):Sk r r':=⟨h.1,.inl h.2.1,h.2.2⟩
theorem Sj.refl:Sj r r:=⟨rfl,rfl,.inl rfl⟩
theorem Sk.refl:Sk r r:=S2 (Sj.refl r)
theorem Xi:Sj r (Rn.fail c r):=by unfold Rn.fail Rn.again;split<;>(try split)<;>exact⟨rfl,rfl,.inl rfl⟩
theorem NR:Sj r (Rn.take c r):=by
 unfold Rn.take Rn.again;dsimp only;repeat' split
 all_goals exact⟨rfl,rfl,.inl rfl⟩
theorem JD:Sj r (Rn.dy c r):=by unfold Rn.dy;split;exact NR c r;exact⟨rfl,rfl,.inl rfl⟩
theorem R5:Sj r (Rn.owned c r):=by unfold Rn.owned;split;exact⟨rfl,rfl,.inr (.inr rfl)⟩;split<;>exact⟨rfl,rfl,.inl rfl⟩
theorem JE:Sj r (Rn.eC c r):=by unfold Rn.eC;split<;>exact⟨rfl,rfl,.inl rfl⟩
theorem E6:Sj r (Rn.cL c t r):=by unfold Rn.cL;split<;>exact⟨rfl,rfl,.inl rfl⟩
theorem Ah{P:Prop}(h:P:=by
 (try dsimp only);repeat' split
 all_goals first|exact Sk.refl _|exact⟨rfl,.inl rfl,.inl rfl⟩|exact⟨rfl,.inr rfl,.inl rfl⟩|exact⟨rfl,.inl rfl,.inr (.inl rfl)⟩|exact⟨rfl,.inl rfl,.inr (.inr rfl)⟩|exact S2 (Xi _ _)|exact S2 (NR _ _)|exact S2 (JD _ _)|exact S2 (R5 _ _)|exact S2 (JE _ _)|exact S2 (E6 _ _ _)):P:=h
theorem R6:Sk r (Rn.enter c t r):=by unfold Rn.enter;exact Ah
theorem NT:Sk r (Rn.eD c t r):=by unfold Rn.eD;exact Ah
theorem NU:Sk r (Rn.eE c r):=by unfold Rn.eE;exact Ah
theorem JF:Sk r (Rn.eF c t r):=by unfold Rn.eF;exact Ah
theorem NV:Sk r (Rn.writes c t r):=by unfold Rn.writes;exact Ah
theorem E7:Sk r (Rn.bT c t r):=by unfold Rn.bT;exact Ah
theorem Xj:Sk r (Rn.ends c t r):=by unfold Rn.ends;exact Ah
theorem JG:Sk r (Rn.cH c t r):=by unfold Rn.cH;exact Ah
theorem R7:Sk r (Rn.leave c t r):=by unfold Rn.leave;exact Ah
theorem R8:Sk r (Rn.waits c t r):=by
 unfold Rn.waits;dsimp only;by_cases e:r.k.pc=29
 ·rw[au e];exact Ah
 rw[ai e];by_cases e:r.k.pc=30
 ·rw[au e];exact Ah
 rw[ai e];by_cases e:r.k.pc=31
 ·rw[au e];exact Ah
 rw[ai e];by_cases e:r.k.pc=32
 ·rw[au e];exact Ah
 rw[ai e];by_cases e:r.k.pc=33
 ·rw[au e];exact Ah
 rw[ai e];by_cases e:r.k.pc=34
 ·rw[au e];exact Ah
 rw[ai e];by_cases e:r.k.pc=35
 ·rw[au e];exact Ah
 rw[ai e];by_cases e:r.k.pc=36
 ·rw[au e];exact Ah
 rw[ai e];by_cases e:r.k.pc=37
 ·rw[au e];exact Ah
 rw[ai e];by_cases e:r.k.pc=38
 ·rw[au e];exact Ah
 rw[ai e];exact Sk.refl _
theorem E8:Sk r (dY c t r):=by unfold dY;split;exact Sk.refl _;split;exact R6 c t r;split;exact NT c t r;split;exact NU c r;split;exact JF c t r;split;exact NV c t r;split;exact E7 c t r;split;exact Xj c t r;split;exact JG c t r;split;exact R7 c t r;exact R8 c t r
theorem JH{x:Tk}{L:List Int}:(dY c t ⟨x,L,0,false,[]⟩).note≠1:=fun e=>by
 have h:=(E8 c t ⟨x,L,0,false,[]⟩).2.2
 unfold Nn at h
 rw[e]at h
 rcases h with h|h|h<;>cases h
end
structure MC (b:Nat) (x:Mc):Prop where
 T:∀k∈x.T,k.aQ.cases.length<=3
 N:∀y∈x.N,y.aQ.cases.length<=3
 V:∀y∈x.V,y.ops.length<=b/\∀o∈y.ops,o.aQ.cases.length<=3
section
variable{b:Nat} {x:Mc}
theorem wW{P:α->Prop}{l:List α}(h:∀x∈l,P x)(hy:P y):∀x∈l++[y],P x:=fun x hx=>(List.mem_append.1 hx).elim (h x) fun e=>by rw[List.mem_singleton.1 e];exact hy
theorem MC.mono(h:MC b x)(hb:b<=b'):MC b' x:=⟨h.T,h.N,fun y hy=>⟨bm (h.V y hy).1 hb,(h.V y hy).2⟩⟩
theorem MC.at_(h:MC b x)(t:Nat):(bu x t).aQ.cases.length<=3:=rX h.T t ah
theorem Cv(h:MC b x)(t:Nat)(q:Rq):MC b (cT x t q).1:=by
 unfold cT;dsimp only;split
 ·exact h
 case isFalse hz =>
  have hb:(ee x.c (bu x t) q).2=0:=Decidable.not_not.1 hz;unfold ee at hb ⊢;by_cases h0:(bu x t).pc≠0
  ·rw[au h0]at hb;cases hb
  ·rw[ai h0]at hb ⊢;by_cases h1:bt q=false
   ·rw[au h1]at hb;cases hb
   ·rw[ai h1]at hb ⊢;by_cases h2:x.c.bn<=(bu x t).seq
    ·rw[au h2]at hb;cases hb
    ·rw[ai h2];have hq:q.cases.length<=3:=lF (by cases e:bt q with|true=>rfl|false=>exact absurd e h1);exact⟨jZ h.T t hq,wW h.N hq,h.V⟩
theorem R9(h:MC b x)(t:Nat)(q:Rq):MC b (j9 x t q).1:=by
 unfold j9;split
 ·exact h
 ·rename_i h1;have hq:q.cases.length<=3:=lF (by cases e:bt q with|true=>rfl|false=>exact absurd (.inr (.inr e)) h1);dsimp only;split
  ·exact⟨h.T,fun y hy=>(List.mem_append.1 hy).elim (h.N y) fun e=>by simp at e;rcases e with rfl|rfl<;>exact hq,h.V⟩
  ·exact Cv (x:={x with time:=x.time+1}) ⟨h.T,h.N,h.V⟩ t q
theorem Sa(h:MC b x)(t:Nat)(ek:Int)(outs:List Int):MC b (jJ x t ek outs).1:=by
 unfold jJ;split
 ·exact h
 ·split
  ·exact h
  ·exact⟨h.T,h.N,h.V⟩
theorem G8(h:MC b x)(t:Nat):MC b (ea x t):=by
 unfold ea;split
 ·exact h
 ·split
  ·exact h
  ·split
   ·exact⟨h.T,h.N,h.V⟩
   ·exact Cv h t _
theorem Sb{n:Int}{a u:Nat}(h:MC b x)(B:MB n a u d x)(hn:1<=n)(hb:n<=b)(ht:t<x.T.length):MC b (lZ x t):=by
 have g1:=G8 (x:={x with time:=x.time+1}) ⟨h.T,h.N,h.V⟩ t;have g2:=Ag B.tick hn ht;have g3:(ea {x with time:=x.time+1} t).T.length=x.T.length:=po.1;unfold lZ;dsimp only;generalize ea {x with time:=x.time+1} t=y at g1 g2 g3 ⊢;split
 ·exact g1
 ·have Et:t<y.T.length:=by rw[g3];exact ht
  have hs:=E8 x.c t ⟨bu y t,y.L,0,false,[]⟩;have hf:=(g2.at_ Et).b.cs;have hf2:=(g2.at_ Et).a.found;generalize dY x.c t ⟨bu y t,y.L,0,false,[]⟩=r at hs ⊢;have hq:r.k.aQ.cases.length<=3:=by rw[hs.1];exact g1.at_ t
  have ho:r.ops.length<=b/\∀o∈r.ops,o.aQ.cases.length<=3:=by
   rcases hs.2.1 with e|e
   ·rw[e];exact⟨aY _,fun o h=>by cases h⟩
   ·rw[e];exact⟨by show(bu y t).found.length<=b;omega,hf⟩
  have hT:∀k∈y.T.set t r.k,k.aQ.cases.length<=3:=jZ g1.T t hq;have hN:∀tm:Int,∀w∈y.N++[(⟨r.note,t,r.k.seq,tm,r.k.aQ,r.k.res⟩:Nt)],w.aQ.cases.length<=3:=fun tm=>wW g1.N hq;have hV:∀tm:Int,∀w∈y.V++[(⟨tm,t,r.ops⟩:Tn)],w.ops.length<=b/\∀o∈w.ops,o.aQ.cases.length<=3:=fun tm=>wW g1.V ho;have n1:=g1.N;have v1:=g1.V;by_cases hw:(bu y t).waits=true<;>by_cases hv:r.gF=true<;>by_cases sY:r.note≠0;all_goals
   simp only[au,ai,hw,hv,sY,ite_true,ite_false,ne_eq,not_true_eq_false,not_false_eq_true,Bool.false_eq_true];split
  all_goals
   refine⟨hT,?_,?_⟩<;>first|assumption|exact hN _|exact hV _
theorem aa7{n:Int}{a u:Nat}(h:MC b x)(B:MB n a u d x)(hn:1<=n)(hb:n<=b)(e:Ev):MC b (zz x e).1:=by
 unfold zz;split
 ·exact h
 ·have ht:e.th.toNat<x.T.length:=ae;split
  ·exact Sb h B hn hb ht
  split
  ·exact R9 h _ _
  split
  ·exact Sa h _ _ _
  ·exact h
theorem Xk{c:bH}:MC b (kG c):=by refine⟨fun k hk=>?_,fun y h=>(by cases h),fun y h=>(by cases h)⟩;obtain⟨i,hi,rfl⟩:=List.mem_map.1 hk;exact aY _
end
end Mo
end Go.Proofs.YtjcjjiieblineaaGreat
