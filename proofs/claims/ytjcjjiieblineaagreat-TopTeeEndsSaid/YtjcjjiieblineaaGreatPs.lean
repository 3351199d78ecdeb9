/- Walks and plain facts. No condition. -/
import Derived.Test.YtjcjjiieblineaaGreatPp
import Derived.Test.YtjcjjiieblineaaGreatPr
namespace Go.Proofs.YtjcjjiieblineaaGreat
open Go.RowKit Go.Proofs.Tryz Mo
set_option maxHeartbeats 8000000
set_option maxRecDepth 100000
set_option linter.all false
variable {w w' wr:World}{α β:Type}{base k i b q m1 n1 p:Nat}{S X S':Nat->Prop}{h:Mo.Hl}{L:List Int}{A1 B1:Option Addr}{r r':Mo.Rn}{arr:Array Value}
section
variable(w:World)
theorem Ir(b:Bool):Calls prog 236 #[.bool b] w fun e w'=>e=.returned (.int .i64 (if b=true then -1 else 1))/\Below w w w':=by
 cases b
 ·exact X8
 ·exact X8
theorem vB{c:bA}(d:aU c=true){A:Option Addr}{n:Nat}(s:n=c.start.length)(u:bJ w .i64 A c.start)(l:List Int)(D:Option Addr)(j K:Nat)(P:j=l.length)(R:(l.length:Int)=bn c)(F:bJ w .u64 D l)(t:Nat)(Y:(t:Int)<c.threads) :
 Calls prog 166 #[.agg #[c.kind,c.threads,c.chans,c.cap,c.nodes,c.aL,c.aF,c.tags,c.bG,c.bt,.slice A n k],.slice D j K,t] w fun e w'=>e=.returned (.int .u64 (jq c l t))/\Below w w w':=by
 have N:bn c=eX c+c.threads:=by unfold bn;rw[d];rfl
 have q:=size_le d
 obtain⟨S,H⟩:=av (fun g (v:Below w w g)=>gJ g d s (u.below v) (k:=k)) (fun g (v:Below w w g)=>AU g d s (u.below v) (k:=k))
 have f:=Mo.aK d
 have r:0<=eX c:=by
  unfold eX;have V:=f.2.2.2.2.2.2.1;have L:=f.2.2.2.2.2.2.2.1;have W:0<=c.chans*(1+c.cap):=ly L aa;have X:=f.1.1;split
  ·omega
  ·split<;>omega
 obtain⟨m,o⟩:∃m:Nat,eX c=m:=⟨(eX c).toNat,aa⟩
 obtain⟨x,z,M,G,E⟩:=bJ.at_ F (i:=m+t) aa
 subst M
 have J:Hid (jq c l t=z):=by unfold Hid jq;rw[ah (by rw[d];simp;omega),o];unfold ay;rw[ah aa,show((m:Int)+(t:Int)).toNat=m+t by omega,cZ,G];rfl
 have t0:(0:Int)<=(t:Int):=aa
 have t1:(t:Int)<=64:=by have:=f.1.2;omega
 have m1:(m:Int)<=3000:=aa
 have Z:(0:Int)<=(m:Int):=aa
 have O:(m:Int)+(t:Int)<(j:Int):=aa
 rw[o]at H
 clear G r f q N d s u F P R o
 have B:Hid (Below w w (w.alloc (dV c A n k))):=ak (aj w) _
 have I:Hid (af (w.alloc (dV c A n k)) w 24 #[c.kind,c.threads,c.chans,c.cap,c.nodes,c.aL,c.aF,c.tags,c.bG,c.bt,.slice A n k]):=(af.new _ _ _)
 go_enter func166,ntmps166
 go_wp2_with fail
 go_fit (H _ B)
 rintro e w1 ⟨rfl,a⟩
 have C:=ae (ai B a)
 have h:=fun i=>af.cell (I.ai a) i
 have Q:=(I.ai a).lt
 clear a
 go_wp2_with fail
 go_fit (S _ C)
 rintro e T ⟨rfl,b⟩
 have y:=ae (ai C b)
 have U:T.cell? (x.add (m+t))=_:=(y.cell (p:=x.add (m+t)) (bb E)).trans E
 clear b h Q
 go_wp2
 go_ret
 exact⟨by rw[J.Y];rfl,y⟩
end
theorem VN{c:bA}(F:pR c h)(a:c.threads<=19)(e:c.chans<=8)(d:aU c=true):Vb h:=by
 have hp:=Mo.aK d;refine⟨by have:=F.SI;omega,by have:=F.SJ;omega,by have:=F.Jg;omega,fun x hx=>?_,fun x hx=>?_,fun x hx=>?_⟩
 ·exact X9
 ·have:=mI (F.wt x hx);omega
 ·have:=(dA.1 (F.ch x hx)).1;omega
theorem EI{c:bA}(F:pR c h)(d:c.threads<=19)(a:aU c=true){t:Int}(l:t<c.threads):h.chans.length<=8/\h.waits.length<=19/\h.done.length<=19/\h.done.length=h.waits.length/\t<h.waits.length/\0<=h.az/\h.az<=4294967295/\c.bt<=4095/\c.chans<=8:=by
 have g:=Mo.aK a;have i:=F.SI;have j:=F.SJ;have k:=F.Jg;have b:=F.tick;have e:c.bt<=4095:=by unfold aU rA at a;simp only[cA]at a;have:=a.2;rw[ah (by rw[F.kind];decide),au F.kind]at this;simp only[cA,kU]at this;exact this.1.1.2.2
 have f:=g.2.2.2.2.2.2.2.2;refine⟨aa,aa,aa,aa,aa,b.1,b.2,e,f⟩
theorem MM{c:bA}(F:pR c h)(a:aU c=true):h.chans.length<=100000/\h.waits.length<=100000/\h.done.length<=100000/\(∀x∈h.chans,x.buf.length<=100000)/\∀x∈h.waits,x.cases.length<=100000:=by
 have hp:=Mo.aK a;refine⟨by have:=F.SI;omega,by have:=F.SJ;omega,by have:=F.Jg;omega,fun x hx=>?_,fun x hx=>?_⟩
 ·exact X9
 ·have:=mI (F.wt x hx);omega
section
variable(w:World)
theorem Iu{c:bA}(T:aU c=true)(Q:c.threads<=19){A:Option Addr}{n:Nat}(hn:n=c.start.length)(hr:bJ w .i64 A c.start)(l:List Int)(D:Option Addr)(P O:Nat)(V:P=l.length)(lK:(l.length:Int)=bn c)(lv:P<=O)(hu:fE l)(hD:bJ w .u64 D l)(t s:Int)(q:Rq)(o:Option Addr)(u v:Nat)(FC:u=q.cases.length)(bg:u<=100000)(hq:dI w bC o q.cases) :
 Calls prog 237 #[.agg #[c.kind,c.threads,c.chans,c.cap,c.nodes,c.aL,c.aF,c.tags,c.bG,c.bt,.slice A n k],.slice D P O,t,s,.agg #[q.kind,q.arg,q.value,q.dflt,.slice o u v]] w (uG (eR c l t s q) w):=by
 have a8:=size_le T
 have oy:Hid (∀a,Below w w a->Calls prog 77 #[.agg #[q.kind,q.arg,q.value,q.dflt,.slice o u v]] a fun e w'=>e=.returned (Mo.bk q)/\Below a a w'):=fun a hx=>by
  rw[FC]
  exact mG a q.kind q.arg q.value q.dflt o v q.cases aa (hq.below hx)
 obtain⟨iH,H,Ro,HQ,Y,HN⟩:=cT (fun a (hx:Below w w a)=>mj a D O l V aa (hD.below hx)) (fun a (g:c.kind≠3) (ht:0<=t/\t<c.threads) (hx:Below w w a)=>Iq a T g hn (hr.below hx) (k:=k) l D P O V lK lv hu (hD.below hx) t s ht q o u v) (fun a (g:c.kind=3) (hx:Below w w a)=>MF a T g hn (hr.below hx) (k:=k) l D P O V lK lv hu (hD.below hx)) (fun a (hx:Below w w a)=>hq.below hx) T hn
 obtain⟨HR,HDL,a6⟩:=aZ hr V FC
 have bM:Hid (Below w w ((w.alloc (dV c A n k)).alloc (jx q o u v))):=ak (ak (aj w) _) _
 have pL:Hid (af ((w.alloc (dV c A n k)).alloc (jx q o u v)) w.heap.size 24 #[c.kind,c.threads,c.chans,c.cap,c.nodes,c.aL,c.aF,c.tags,c.bG,c.bt,.slice A n k]):=(af.new _ _ _).alloc _
 have xF:Hid (af ((w.alloc (dV c A n k)).alloc (jx q o u v)) (w.heap.size+1) 42 #[q.kind,q.arg,q.value,q.dflt,.slice o u v]):=(af.newAt _ _ _ aD)
 clear V lK lv hu hD T hn hr hq FC a8
 by_cases b0:t<0
 ·exact VP
 by_cases b1:c.threads<=t
 ·exact VP
 by_cases b2:s<0
 ·exact VP
 by_cases b3:1048575<s
 ·exact VP
 rcases N:Mo.bk q with _|_
 ·have HE:Hid (eR c l t s q=l):=by unfold Hid eR;rw[au (.inr (.inr (.inr (.inr N))))]
  rw[N]at oy;go_enter func237,ntmps237;go_wp2_with fail;(with_reducible go_fit (oy.Y _ bM.Y));rintro e w1 ⟨rfl,b⟩;have f:=ae (ai bM b);clear b;go_wp2_with fail;(with_reducible go_fit (iH.Y _ f.Y));rintro e G ⟨B,d,rfl,_,ho,hb⟩;obtain⟨HO,Fu⟩:=av ho (ai f hb);clear ho hb;go_wp2;go_ret;exact⟨B,d,by rw[HE.Y,HDL.Y];rfl,by rw[HE.Y, <-HDL.Y];exact HO.bD f.size,Fu⟩
 rw[N]at oy
 have I:=ae N
 clear N
 go_enter func237,ntmps237
 go_wp2_with fail
 (with_reducible go_fit (oy.Y _ bM.Y))
 rintro e w1 ⟨rfl,b⟩
 obtain⟨f,j,m⟩:=aZ (ai bM b) (pL.ai b) (xF.ai b)
 obtain⟨S,-,jM⟩:=af.aM j
 obtain⟨dR,-,dN⟩:=af.aM m
 clear b pL xF bM
 by_cases g:c.kind=3
 ·have U:(c.kind !=3)=false:=by rw[g];rfl
  obtain⟨M,W⟩:=av (fun a (hx:Below w w a)=>Ro a g hx) g;clear Ro H g;go_wp2_with fail;(with_reducible go_fit (M.Y _ f.Y));rintro e G (⟨h,hx,r,y,z,C,E,F,rfl,R,hb2⟩|⟨hx,rfl,hb2⟩)
  ·have L:=ae (uJ hx);have HE:Hid (eR c l t s q=lg c (fB c h t s q)):=by unfold Hid eR;rw[ah (by rw[I.Y];simp;omega),ah (by rw[W.Y];decide),hx]
   obtain⟨bE,ko,iC,Z⟩:=bN (ai (ai f hb2) (ak (aj G) (uB h.az r h.chans.length C y h.waits.length E z h.done.length F))) ((j.ai hb2).alloc (uB h.az r h.chans.length C y h.waits.length E z h.done.length F)) ((m.ai hb2).alloc (uB h.az r h.chans.length C y h.waits.length E z h.done.length F)) (R.more (ak (aj G) (uB h.az r h.chans.length C y h.waits.length E z h.done.length F)));have CG:Hid (af (G.alloc (uB h.az r h.chans.length C y h.waits.length E z h.done.length F)) G.heap.size 71 #[h.az,.slice r h.chans.length C,.slice y h.waits.length E,.slice z h.done.length F]):=af.new _ _ _;clear hx R hb2 S dR jM dN U;go_upto_region 11 with fail
   generalize G.heap.size=p at CG ⊢;generalize(G.alloc (uB h.az r h.chans.length C y h.waits.length E z h.done.length F))=X at *;have S:=fun a (hx:Ext X a) i=>af.cell (ko.ai hx.Y) i;have dR:=fun a (hx:Ext X a) i=>af.cell (iC.ai hx.Y) i;have aB:=fun a (hx:Ext X a) i=>af.cell (CG.ai hx.Y) i;have jM:=ko.lt;have dN:=iC.lt;have aW:=CG.lt;have J:Hid (h.chans.length<=8/\h.waits.length<=19/\h.done.length<=19/\h.done.length=h.waits.length/\t<h.waits.length/\0<=h.az/\h.az<=4294967295/\c.bt<=4095/\c.chans<=8):=EI L Q Y aa;obtain⟨HA,X6⟩:=av (uI L (t:=t) (seq:=s) (q:=q) aa I) (fun a (hx:Ext X a)=>Ia a (sq:=s) (t:=t) (A:=A) (n:=n) (k:=k) (c:=c) (h:=h) r y z _ _ _ C E F rfl rfl rfl ((Z.more hx.Y).ch.Ma) ((Z.more hx.Y).wt.Ma) ((Z.more hx.Y).dn.zX.2) (VN L Q J.2.2.2.2.2.2.2.2 Y) J.2.2.2.2.2.2.2.1 q o u v a6 (HQ a (ai bE hx.Y)) I J.2.2.2.1 aa J.2.2.2.2.1 ⟨J.2.2.2.2.2.1,J.2.2.2.2.2.2.1⟩ (by have h1:=(Dx L (t:=t) (seq:=s) (q:=q) aa I).1.Jg;have h2:=L.Jg;omega));have K:Hid ((fB c h t s q).chans.length<=100000/\(fB c h t s q).waits.length<=100000/\(fB c h t s q).done.length<=100000/\(∀x∈(fB c h t s q).chans,x.buf.length<=100000)/\∀x∈(fB c h t s q).waits,x.cases.length<=100000):=MM HA Y;generalize fB c h t s q=h' at X6 K HE;clear J HA Z j m M;go_region_held3(Ext X) (with_reducible(repeat(first|assumption|exact Ext.start _|exact Ext.gR _ _|refine Ext.alloc ?_ _))) (first
    |((with_reducible go_fit (X6.Y _ (by assumption)));rintro e w4 ⟨C1,C2,C3,k1,k2,k3,rfl,ug,a7⟩;have X7:=Ext.to (by assumption) a7;have lF:=ae ug;clear ug)
    |((with_reducible go_fit (EF _ Y.Y HN.Y (HR.Y.below (ai bE.Y X7.Y)) lF.Y K.Y.1 K.Y.2.1 K.Y.2.2.1 K.Y.2.2.2.1 K.Y.2.2.2.2));rintro e w5 ⟨B5,d5,rfl,FA,ei⟩;have CI:=Ext.to (by assumption) ei))
   all_goals
    go_wp2;go_ret;exact⟨B5,d5,by rw[HE.Y];rfl,by rw[HE.Y];exact FA.bD (bq bE.size X7.Y.size),ai bE CI.Y⟩
  ·have HE:Hid (eR c l t s q=l):=by unfold Hid eR;rw[ah (by rw[I.Y];simp;omega),ah (by rw[W.Y];decide),hx]
   have bE:=ae ((ai f hb2).alloc (ai f hb2).size Av);exact acS
 ·have U:(c.kind !=3)=true:=by rw[bne_iff_ne];exact g
  obtain⟨aq,W⟩:=av (fun a (hx:Below w w a)=>H a g aa hx) g;clear Ro H g;go_wp2_with fail;(with_reducible go_fit (aq.Y _ f.Y));rintro e G (⟨x,hx,⟨B,d,rfl,R⟩,hb2⟩|⟨hx,rfl,hb2⟩)
  ·have HE:Hid (eR c l t s q=nC c x t s q):=by unfold Hid eR;rw[ah (by rw[I.Y];simp;omega),au W.Y,hx];rfl
   obtain⟨HO,bE⟩:=av R (ai f hb2);clear hx R hb2;go_wp2;go_ret;exact⟨B,d,by rw[HE.Y];rfl,by rw[HE.Y];exact HO.bD f.size,bE⟩
  ·have HE:Hid (eR c l t s q=l):=by unfold Hid eR;rw[ah (by rw[I.Y];simp;omega),au W.Y,hx]
   have bE:=ae (ai f hb2);exact acS
end
def NQ:sU Mo.Op:=fun w S r x=>∃B d,r=[.int .i64 x.th,.int .i64 x.seq,.int .i64 x.phase,.int .i64 x.aN.kind,.int .i64 x.aN.arg,.int .i64 x.aN.value,.bool x.aN.dflt,.slice B x.aN.cases.length d]/\dG w S bC B x.aN.cases
theorem ku:Good NQ:=⟨fun a ⟨B,d,h1,h3⟩=>⟨B,d,h1,h3.mono a⟩,fun a ⟨B,d,h1,h3⟩=>⟨B,d,h1,h3.same a⟩⟩
theorem Mo.MN(c:Mo.bA)(l:List Int){a:List Mo.Op}{j:Nat}{x:Mo.Op}(h:a[j]?=some x):Mo.nK c l (a.take (j+1))=Mo.eR c (Mo.nK c l (a.take j)) x.th x.seq x.aN:=by unfold Mo.nK;rw[gy h,List.foldl_append];rfl
section
variable(w:World)
theorem Rt{c:bA}(R:aU c=true)(P:c.threads<=19){A:Option Addr}{n:Nat}(hn:n=c.start.length)(G:bJ w .i64 A c.start)(l:List Int)(D:Option Addr)(s dd:Nat)(V:s=l.length)(lK:(l.length:Int)=bn c)(hu:fE l)(hD:bJ w .u64 D l)(a:List Mo.Op)(B:Option Addr)(m bd:Nat)(C:m=a.length)(o9:m<=100000)(Q:∀b,S b->b<w.heap.size)(ho:kF 8 NQ w S B a)(E:∀x∈a,x.aN.cases.length<=100000) :
 Calls prog 209 #[.agg #[.int .i64 c.kind,.int .i64 c.threads,.int .i64 c.chans,.int .i64 c.cap,.int .i64 c.nodes,.int .i64 c.aL,.int .i64 c.aF,.int .i64 c.tags,.int .i64 c.bG,.int .i64 c.bt,.slice A n k],.slice D s dd,.slice B m bd] w (uG (nK c l a) w):=by
 have U:=size_le R
 obtain⟨iH,J,HO,Fk,lD,aq⟩:=cT (fun q (g:Below w w q)=>mj q D dd l V aa (hD.below g)) (fun q (g:Below w w q)=>Iu q R P hn (G.below g) (k:=k)) (fun q (g:Below w w q)=>ho.below ku Q g) E C V
 obtain⟨W,HU,AV⟩:=aZ lK hu Q
 have O:Hid (Below w w (w.alloc (dV c A n k))):=ak (aj w) _
 have pL:Hid (af (w.alloc (dV c A n k)) w 24 #[.int .i64 c.kind,.int .i64 c.threads,.int .i64 c.chans,.int .i64 c.cap,.int .i64 c.nodes,.int .i64 c.aL,.int .i64 c.aF,.int .i64 c.tags,.int .i64 c.bG,.int .i64 c.bt,.slice A n k]):=(af.new _ _ _)
 clear V lK hu hD R hn G ho E C Q U
 go_enter func209,ntmps209
 go_wp2_with fail
 go_fit (iH _ O)
 rintro e w1 ⟨B1,d1,rfl,_,fM,h⟩
 obtain⟨kL,br,fY⟩:=aZ fM (ai O h) (pL.ai h)
 clear fM h pL
 go_wp2
 go_loopw[7,9,14] (fun o _ i wr=>∃(j:Nat) (u:Option Addr) (d2:Nat),j<=m/\i=.int .i64 j/\o=.slice u s d2/\Hid (aJ wr w 44 .u64 (.slice u s d2) (nK c l (a.take j)))/\Hid (Below w w wr)/\Hid (af wr w 24 #[.int .i64 c.kind,.int .i64 c.threads,.int .i64 c.chans,.int .i64 c.cap,.int .i64 c.nodes,.int .i64 c.aL,.int .i64 c.aF,.int .i64 c.tags,.int .i64 c.bG,.int .i64 c.bt,.slice A n k])) (fun _ _ i _=>m-(intOf i).toNat)
 case atStart=>exact⟨0,B1,d1,aV _,rfl,rfl,kL.bD O.size,br,fY⟩
 case round =>
  obtain⟨j,u,d2,hj,rfl,rfl,y,v,Y⟩:=hrel;obtain⟨gD,-,kW⟩:=af.aM Y;by_cases T:j<m
  ·obtain⟨ad,x,r,hA,g,⟨I,d,G,aT⟩,jU,hcell⟩:=kF.at_ ag (HO wr v) (i:=j) (by rw[<-lD.Y];exact T);subst hA G;have c0:=hcell 0 _ rfl;have c1:=hcell 1 _ rfl;have c2:=hcell 2 _ rfl;have c3:=hcell 3 _ rfl;have c4:=hcell 4 _ rfl;have c5:=hcell 5 _ rfl;have c6:=hcell 6 _ rfl;have c7:=hcell 7 _ rfl;rw[add_zero]at c0;rw[add_lit _ _ ag]at c1 c2 c3 c4 c5 c6 c7;have z:Hid (nK c l (a.take (j+1))=eR c (nK c l (a.take j)) x.th x.seq x.aN):=MN c l g;have N:=ae (Fk x (bX g));obtain⟨M,F⟩:=aG (nK c l (a.take j));have Z:Hid ((M.length:Int)=bn c):=by unfold Hid;rw[F];exact yb _ W
   have L:Hid (fE M):=by unfold Hid;rw[F];exact Jo _ HU
   have xB:Hid (((nK c l (a.take (j+1))).length:Int)=bn c):=yb _ W;rw[<-F]at y z;have Ib:=ae aT;have i1:(0:Int)<=(j:Int):=aa;have i2:(j:Int)<(m:Int):=aa;have f:=y.cap;have t:=ae (ak (aj wr) (.cells #[.int .i64 x.th,.int .i64 x.seq,.int .i64 x.phase,.int .i64 x.aN.kind,.int .i64 x.aN.arg,.int .i64 x.aN.value,.bool x.aN.dflt,.slice I x.aN.cases.length d] 66));obtain⟨X6,K⟩:=av (J (wr.alloc (.cells #[.int .i64 x.th,.int .i64 x.seq,.int .i64 x.phase,.int .i64 x.aN.kind,.int .i64 x.aN.arg,.int .i64 x.aN.value,.bool x.aN.dflt,.slice I x.aN.cases.length d] 66)) (ai v t) M u s d2 f.1 Z f.2 L ((y.ai t).pP.2) x.th x.seq x.aN I x.aN.cases.length d rfl N (Ib.1.below t)) f;clear g F aT hcell jU f;go_wp2_with fail;refine X6.mono ?_;rintro e w2 ⟨D3,d3,rfl,H,p⟩;have X:(eR c M x.th x.seq x.aN).length=s:=by have h1:=xB.Y;rw[z.Y]at h1;have h2:=K.Y;have h3:=Z.Y;omega
   rw[X]at H ⊢;obtain⟨jr,cM,ub⟩:=aZ (H.bD (base':=w.heap.size) (by have:=v.size;have:=t.size;omega)) (ai (ai v t) p) (Y.ai (ai t p));clear H p X gD kW c0 c1 c2 c3 c4 c5 c6 c7;go_wp2;go_roundw;case rel=>exact⟨j+1,D3,d3,aa,by go_num,rfl,by unfold Hid;rw[z.Y];exact jr.Y,cM,ub⟩
   case measure=>simp[intOf];omega
  ·have z:Hid (nK c l (a.take j)=nK c l a):=by unfold Hid;rw[List.take_of_length_le (by have:=lD.Y;omega)]
   have f:=y.cap;go_wp2;go_ret;rw[<-z.Y];exact⟨u,d2,by rw[<-f.1];rfl,by rw[<-f.1];exact y.Y,v⟩
end
structure y9 where
 op:Mo.Op
 B:Option Addr
 d:Nat
def wg(x:y9):List Value:=[x.op.th,x.op.seq,x.op.phase,x.op.aN.kind,x.op.aN.arg,x.op.aN.value,x.op.aN.dflt,.slice x.B x.op.aN.cases.length x.d]
theorem iw(x:y9):(wg x).length=8:=rfl
theorem jJ(x:y9):∀u∈wg x,u.oneCell'=true:=by intro u a;simp[wg]at a;rcases a with rfl|rfl|rfl|rfl|rfl|rfl|rfl|rfl<;>rfl
theorem za{w:World}{S:Nat->Prop}:∀(rows:List (Row 8)) (c:List Mo.Op),rows.length=c.length->(∀(i:Nat) (r:Row 8) (x:Mo.Op),rows[i]?=some r->c[i]?=some x->NQ w S r.val x)->∃L:List y9,L.map (·.op)=c/\rows=L.map (jD wg iw jJ)/\∀x∈L,dG w S bC x.B x.op.aN.cases
 |[],[],_,_=>⟨[],rfl,rfl,fun _ h=>by cases h⟩
 |r::rows,x::c,hl,h=>by
  obtain⟨L,g,j,k⟩:=za rows c (by simpa using hl) (fun i r x a b=>h (i+1) r x a b)
  obtain⟨B,d,e,l⟩:=h 0 r x rfl rfl
  refine⟨⟨x,B,d⟩::L,by rw[List.map_cons,g],?_,fun y f=>?_⟩
  ·rw[List.map_cons,j];congr 1;exact Subtype.ext e
  ·rcases List.mem_cons.1 f with rfl|f
   ·exact l
   ·exact k y f
theorem aH.opX{v:Value}{L:List y9}(h:aH w base 66 8 wg v L)(d:∀x∈L,dG w S bC x.B x.op.aN.cases):aI 66 8 NQ w base S v (L.map (·.op)):=by
 refine⟨L.map (jD wg iw jJ),aD,aH.rows.2 h,fun i r x a b=>?_⟩;rw[List.getElem?_map]at a b;cases c:L[i]? with
 |none=>rw[c]at a;cases a
 |some y =>
  rw[c]at a b;injection a with a;injection b with b
  subst a b;exact⟨y.B,y.d,rfl,d y (bX c)⟩
theorem Bl{α β:Type}(f:α->β)(c:β->β->Bool)(x:α):∀l:List α,(ij (fun a b=>c (f a) (f b)) x l).map f=ij c (f x) (l.map f)
 |[]=>rfl
 |y::l=>by
  rw[ij,List.map_cons,ij]
  split
  ·rw[List.map_cons,Bl f c x l]
  ·rfl
theorem zb{α β:Type}(f:α->β)(d:β->β->Bool):∀(l c:List α),(l.foldl (fun c x=>ij (fun a b=>d (f a) (f b)) x c) c).map f=(l.map f).foldl (fun c x=>ij d x c) (c.map f)
 |[],_=>rfl
 |x::l,c=>by rw[List.foldl_cons,zb f d l,Bl,List.map_cons,List.foldl_cons]
theorem Iv(f:α->β)(c:β->β->Bool)(l:List α):(dX (fun a b=>c (f a) (f b)) l).map f=dX c (l.map f):=by unfold dX;rw[List.map_reverse,zb];rfl
def FI(a b:y9):Int:=if a.op.phase≠b.op.phase then(if a.op.phase<b.op.phase then -1 else 1)else if a.op.th≠b.op.th then(if a.op.th<b.op.th then -1 else 1)else 0
def NR(a b:y9):Bool:=decide (FI a b<0)
theorem aaK:NR=fun a b=>(fun(a b:Mo.Op)=>if a.phase≠b.phase then decide (a.phase<b.phase)else decide (a.th<b.th)) a.op b.op:=by
 funext a b
 unfold NR FI;by_cases c:a.op.phase=b.op.phase
 ·by_cases d:a.op.th=b.op.th
  ·simp[c,d]
  ·simp only[c,ne_eq,not_true_eq_false,if_false,d,not_false_eq_true,if_true];split
   ·rename_i h;simp[h]
   ·rename_i h;simp[h]
 ·simp only[ne_eq,c,not_false_eq_true,if_true];split
  ·rename_i h;simp[h]
  ·rename_i h;simp[h]
structure Iw (w wr:World) (base g n c:Nat) (L:List y9):Prop where
 own:aH wr base 66 8 wg (.slice g n c) L
 rest:∀b,b<w.heap.size->b≠g->wr.heap[b]?=w.heap[b]?
 ext:Below base w wr
 low:base<=g
 lt:g<w.heap.size
theorem Iw.size{g n c:Nat}{L:List y9}(h:Iw w wr base g n c L):w.heap.size<=wr.heap.size:=h.ext.size
theorem Iw.more{g n c:Nat}{L:List y9}(h:Iw w wr base g n c L)(a:Below wr wr w'):Iw w w' base g n c L:=⟨h.own.ai a,fun b d e=>(a.block b (bL d h.size)).trans (h.rest b d e),h.ext.trans (a.mono (by have:=h.low;have:=h.lt;have:=h.size;omega)),h.low,h.lt⟩
theorem Iw.bj{g n c:Nat}{L:List y9}(h:Iw w wr base g n c L)(u:i<L.length)(x:y9):Iw w (aw wr g (i*8) (wg x)) base g n c (L.set i x):=by
 refine⟨?_,fun b e a=>(aO a _ _).trans (h.rest b e a),ax h.low _ _ _ h.ext,h.low,h.lt⟩;have f:=h.own.cap.1;subst f;have h1:=aH.rows (h1:=iw) (h2:=jJ) |>.2 h.own
 unfold aH at h1;rw[cW]at h1;have h2:=tZ (wg x) wr (i*8) _ h1;have d:=vn (L.map (jD wg iw jJ)) i (jD wg iw jJ x) (by simpa using u);refine aH.rows (h1:=iw) (h2:=jJ) |>.1 ?_
 unfold aH;rw[List.map_set,cq,cW, <-d];exact h2
section
variable(w:World)
theorem EJ(a b:y9):Calls prog 235 #[.agg #[a.op.th,a.op.seq,a.op.phase,a.op.aN.kind,a.op.aN.arg,a.op.aN.value,a.op.aN.dflt,.slice a.B a.op.aN.cases.length a.d],.agg #[b.op.th,b.op.seq,b.op.phase,b.op.aN.kind,b.op.aN.arg,b.op.aN.value,b.op.aN.dflt,.slice b.B b.op.aN.cases.length b.d]] w fun e w'=>e=.returned (FI a b)/\Below w w w':=by
 have lD:=ae (fun g b=>Ir g b);have bM:Hid (Below w w ((w.alloc (.cells #[a.op.th,a.op.seq,a.op.phase,a.op.aN.kind,a.op.aN.arg,a.op.aN.value,a.op.aN.dflt,.slice a.B a.op.aN.cases.length a.d] 66)).alloc (.cells #[b.op.th,b.op.seq,b.op.phase,b.op.aN.kind,b.op.aN.arg,b.op.aN.value,b.op.aN.dflt,.slice b.B b.op.aN.cases.length b.d] 66))):=ak (ak (aj w) _) _;by_cases h1:a.op.phase=b.op.phase
 ·have d:(a.op.phase !=b.op.phase)=false:=by rw[h1];simp
  by_cases h2:a.op.th=b.op.th
  ·have f:(a.op.th !=b.op.th)=false:=by rw[h2];simp
   have HE:Hid (FI a b=0):=by unfold Hid FI;rw[ah (by simpa using h1),ah (by simpa using h2)]
   clear h1 h2;go_enter func235,ntmps235;go_wp2;go_ret;exact⟨by rw[HE.Y];rfl,bM⟩
  ·have f:(a.op.th !=b.op.th)=true:=by simpa using h2
   rcases c:decide (a.op.th<b.op.th)with _|_
   ·have HE:Hid (FI a b=1):=by unfold Hid FI;rw[ah (by simpa using h1),au h2];rw[ah (of_decide_eq_false c)]
    exact acT
   ·have HE:Hid (FI a b=-1):=by unfold Hid FI;rw[ah (by simpa using h1),au h2];rw[au (of_decide_eq_true c)]
    exact acT
 ·have d:(a.op.phase !=b.op.phase)=true:=by simpa using h1
  rcases c:decide (a.op.phase<b.op.phase)with _|_
  ·have HE:Hid (FI a b=1):=by unfold Hid FI;rw[au h1];rw[ah (of_decide_eq_false c)]
   exact acU
  ·have HE:Hid (FI a b=-1):=by unfold Hid FI;rw[au h1];rw[au (of_decide_eq_true c)]
   exact acU
def Ru(w:World)(base g n c:Nat)(L:List y9)(e:Ending)(a:World):Prop:=e=.returned (.tuple #[])/\Iw w a base g n c L
theorem Ix{g n c:Nat}(D:List y9)(h:Iw w w base g n c D)(hl:n<=100000) :
 Calls prog 253 #[.slice g n c,oZ,n,.func (.func 235) #[] #[]] w (Ru w base g n c (dX NR D)):=by
 have HN:Hid (n=D.length):=h.own.cap.1
 have H0:=ae h
 clear h
 go_enter func253,ntmps253
 go_wp2
 go_loopw[8] (fun i wr=>∃k:Nat,1<=k/\k<=n+1/\i=k/\Hid (Iw w wr base g n c (dX NR (D.take k)++D.drop k))) (fun i _=>n+1-(intOf i).toNat)
 case atStart =>
  refine⟨1,aS _,aa,rfl,?_⟩;have:dX NR (D.take 1)++D.drop 1=D:=by
   rcases D with _|⟨x,D⟩
   ·rfl
   ·rfl
  unfold Hid;rw[this];exact H0.Y
 case round =>
  obtain⟨k,iR,hk,rfl,HS⟩:=hrel;by_cases C:k<n
  ·go_wp2_with fail;obtain⟨wo,E⟩:∃wo:World,wo=wr:=⟨_,rfl⟩
   subst E;go_loopw[9] (fun j wr=>∃(m:Nat) (L:List y9),m<=k/\j=m/\Hid (LR NR D k m L)/\Hid (Iw w wr base g n c L)) (fun j _=>(intOf j).toNat);case atStart=>exact⟨k,_,aS _,rfl,LR.start (by rw[<-HN.Y];exact C),HS⟩
   case round =>
    obtain⟨m,L,hm,rfl,t,p⟩:=hrel;rcases m with _|m
    ·go_wp2_with fail;go_quiet(fail);go_wp2;go_roundw;case rel =>
      refine⟨k+1,aa,aa,by go_num,?_⟩;rw[<-t.Y.stop (.inl rfl)];exact p.more (bV (aj _) _)
     case measure=>simp[intOf];omega
    ·obtain⟨x,y,F,v,G,H⟩:=t.read;have a:=fun i u (q:(wg x)[i]?=some u)=>aH.cells iw p.own v q;have b:=fun i u (q:(wg y)[i]?=some u)=>aH.cells iw p.own G q;have r:=a 0 _ rfl;have J:=a 1 _ rfl;have K:=a 2 _ rfl;have M:=a 3 _ rfl;have N:=a 4 _ rfl;have O:=a 5 _ rfl;have P:=a 6 _ rfl;have Q:=a 7 _ rfl;have s:=b 0 _ rfl;have R:=b 1 _ rfl;have S:=b 2 _ rfl;have T:=b 3 _ rfl;have U:=b 4 _ rfl;have V:=b 5 _ rfl;have W:=b 6 _ rfl;have X:=b 7 _ rfl;rw[Nat.add_zero]at r s;clear a b;obtain⟨z,A⟩:=av v G;have Y:=bL p.lt p.size;have e1:IntKind.i64.wrap ((m:Int)+1-1)=m:=by rw[cD _ aa];omega
     have SF:m+1<n:=aa;have Z:Hid (m+1<L.length):=(List.getElem?_eq_some_iff.1 v).1;clear F v G H;have t1:(0:Int)<=(m:Int)+1:=aa;have t2:((m:Int)+1).toNat=m+1:=aa;have t3:(m:Int)+1<(n:Int):=aa;have e2:IntKind.i64.wrap (m:Int)=m:=cD _ aa;have t4:(m:Int)<(n:Int):=aa;have t5:(0:Int)<=(m:Int):=aa;by_cases l:FI x y<0
     ·have d1:decide (FI x y<0)=true:=eE l;have B:Hid (NR x y=true):=d1;clear l;go_wp2_with fail;go_still_tail 14,(by kernel_rfl)
      change wpList _ _ _ _ _ wr.drew;have d:=ae (p.more (aj wr).drew);clear r J K M N O P Q s R S T U V W X Y;generalize wr.drew=I at *;go_wp2_with fail;go_fit (EJ I x y);rintro e w2 ⟨rfl,f⟩;have o:=ae (d.more f);clear f d;have a:=fun i u (q:(wg x)[i]?=some u)=>aH.cells iw o.own z q;have b:=fun i u (q:(wg y)[i]?=some u)=>aH.cells iw o.own A q;have r:=a 0 _ rfl;have J:=a 1 _ rfl;have K:=a 2 _ rfl;have M:=a 3 _ rfl;have N:=a 4 _ rfl;have O:=a 5 _ rfl;have P:=a 6 _ rfl;have Q:=a 7 _ rfl;have s:=b 0 _ rfl;have R:=b 1 _ rfl;have S:=b 2 _ rfl;have T:=b 3 _ rfl;have U:=b 4 _ rfl;have V:=b 5 _ rfl;have W:=b 6 _ rfl;have X:=b 7 _ rfl;rw[Nat.add_zero]at r s;clear a b;have fg:=fun i=>aH.frozen o.own i;have aq:=bL o.lt o.size;go_wp2;go_region;all_goals
       go_wp2;go_roundw;case rel=>exact⟨m,_,aa,rfl,t.down z A B,((o.bj Z.Y y).bj (by rw[cq];have:=Z.Y;omega) x).more (aj _).drew⟩
       case measure=>simp[intOf]
     ·have d1:decide (FI x y<0)=false:=bU l;have B:Hid (NR x y=false):=d1;clear l;go_wp2_with fail;go_still_tail 14,(by kernel_rfl)
      change wpList _ _ _ _ _ wr.drew;have d:=ae (p.more (aj wr).drew);clear r J K M N O P Q s R S T U V W X Y;generalize wr.drew=I at *;go_wp2_with fail;go_fit (EJ I x y);rintro e w2 ⟨rfl,f⟩;have o:=ae (d.more f);clear f d;go_wp2;go_roundw;case rel=>refine⟨k+1,aa,aa,by go_num,?_⟩;rw[<-t.Y.stop (.inr ⟨x,y,Nat.succ_pos m,z.Y,A.Y,B.Y⟩)];exact o.Y
      case measure=>simp[intOf];omega
  ·exact XN
theorem EK{g n c:Nat}(D:List y9)(h:Iw w w base g n c D)(f:n<=19) :
 Calls prog 248 #[.slice g n c,n,.func (.func 235) #[] #[]] w (Ru w base g n c (dX NR D)):=by
 have HI:=ae (Ix w D h aa)
 clear h
 have d:¬(20:Int)<=n:=aa
 have e:¬(20:Int)<n:=aa
 go_enter func248,ntmps248
 exact ab9
theorem MO{g n c:Nat}(D:List y9)(h:Iw w w base g n c D)(a:n<=19) :
 Calls prog 234 #[.slice g n c,.func (.func 235) #[] #[]] w (Ru w base g n c (dX NR D)):=by
 have HI:=ae (EK w D h a)
 clear h
 go_enter func234,ntmps234
 exact XO
theorem Iy(c:Nat)(A:Option Addr):Calls prog 253 #[.slice A 0 c,oZ,oZ,.func (.func 235) #[] #[]] w fun e w'=>e=.returned (.tuple #[])/\w'=w:=by go_enter func253,ntmps253;exact aca
theorem EL(c:Nat)(A:Option Addr):Calls prog 248 #[.slice A 0 c,oZ,.func (.func 235) #[] #[]] w fun e w'=>e=.returned (.tuple #[])/\w'=w:=by
 have f:=ae (Iy w c A);go_enter func248,ntmps248;go_wp2;go_loopw[7,8] (fun a b wr=>a=oZ/\b=.int .i64 20/\Hid (wr=w)) (fun _ _ _=>0);case atStart=>exact⟨rfl,rfl,rfl⟩
 case round =>
  obtain⟨rfl,rfl,g⟩:=hrel;have d:=g.Y;subst d;go_wp2_with fail;refine f.mono ?_;rintro e j ⟨rfl,h⟩;subst h;go_wp2;go_loopw[6] (fun a k=>a=.int .i64 20/\Hid (k=j)) (fun _ _=>0);case atStart=>exact⟨rfl,rfl⟩
  case round=>obtain⟨rfl,i⟩:=hrel;have d:=i.Y;subst d;go_wp2;go_end0;exact⟨rfl,rfl⟩
theorem MP(c:Nat)(A:Option Addr):Calls prog 234 #[.slice A 0 c,.func (.func 235) #[] #[]] w fun e w'=>e=.returned (.tuple #[])/\Below w w w':=by have a:=ae (EL w c A);go_enter func234,ntmps234;go_wp2_with fail;refine a.mono ?_;rintro e d ⟨rfl,b⟩;subst b;go_wp2;go_end0;exact⟨rfl,aj _⟩
theorem IA(c:List Mo.Op)(B:Option Addr)(f C:Nat)(j:f=c.length)(o9:f<=19)(H:∀b,S b->b<w.heap.size)(W:kF 8 NQ w S B c) :
 Calls prog 208 #[.slice B f C] w fun e w'=>∃z d,e=.returned (.slice z f d)/\aI 66 8 NQ w' w S (.slice z f d) (il c)/\Below w w w':=by
 obtain⟨rows,t,E,F⟩:=W
 obtain⟨L,(A:Hid _),Z,K⟩:=za rows c t F
 subst Z
 obtain⟨N,O,lD,P⟩:=bN (xU w B C (L.map (jD wg iw jJ)) (n:=f) (by rw[<-t]at j;exact j) aa E) K j H
 clear t E F K j H
 go_enter func208,ntmps208
 go_wp2_with fail
 refine N.mono ?_
 rintro e y ⟨M,d1,rfl,Ju,s,(o:Hid _)⟩
 have k:=aH.rows.1 s
 have l:f=L.length:=k.cap.1
 have q:=ae l
 rcases v:f with _|bz
 ·subst v;have D:=ae k;clear s k l;go_wp2_with fail;go_fit (MP _ _ _);rintro e w2 ⟨rfl,i⟩;obtain⟨J,R⟩:=av (D.ai i) (ai o i);clear i D;go_wp2;go_ret;have I:L=[]:=List.eq_nil_of_length_eq_zero q.symm;have V:c=[]:=by have:=A.Y;rw[I]at this;exact this.symm
  rw[V];rw[I]at J;exact⟨M,d1,rfl,aH.opX J (fun _ h=>by cases h),R⟩
 ·obtain⟨g,cc,X,u,pS⟩:=k.form (by intro e;rw[e]at l;simp at l;omega);injection X with e1 e2 e3
  subst e1;have r:Hid (Iw y y w g f d1 L):=⟨k,fun _ _ _=>rfl,Below.refl _ _,u,pS⟩
  clear s k l e2 e3;rw[<-v];have Q:=ae (MO y L r o9);clear v;go_wp2_with fail;refine Q.mono ?_;rintro e w2 ⟨rfl,(p:Hid _)⟩;go_wp2;go_ret;have G:=aH.opX p.own (S:=S) (fun x Y=>by
   refine dG.same (fun b U=>?_) (O x (ou NR L Y))
   have m:=P.Y b U
   exact(p.rest b (bL m o.size) (by have:=p.low;omega)).trans (o.block b m))
  have T:(dX NR L).map (·.op)=il c:=by rw[aaK,Iv (fun(x:y9)=>x.op) (fun(a b:Mo.Op)=>if a.phase≠b.phase then decide (a.phase<b.phase)else decide (a.th<b.th)),A.Y];rfl
  rw[T]at G;exact⟨_,d1,rfl,G,o.trans p.ext⟩
end
theorem kF.same{m:Nat}{P:sU α}{A:Option Addr}{e:List α}(g:Good P)(j:Sm S w w')(s:∀c,A=some c->e≠[]->S c.block)(h:kF m P w S A e):kF m P w' S A e:=by obtain⟨rows,f,k,l⟩:=h;refine⟨rows,f,Rd.same j k fun c n d=>s c n ?_,fun i r x a b=>g.same j (l i r x a b)⟩;rintro rfl;exact d (by rw[List.eq_nil_of_length_eq_zero f];rfl)
def ru(w:World)(S:Nat->Prop)(A:Option Addr)(c:List Mo.Op):Prop:=kF 8 NQ w S A c/\∀a,A=some a->c≠[]->S a.block
theorem ru.move{A:Option Addr}{e:List Mo.Op}(h:ru w S A e)(l:Sm S w w')(a:∀b,S b->S' b):ru w' S' A e:=⟨(h.1.same ku l h.2).mono ku a,fun c d f=>a _ (h.2 c d f)⟩
theorem ru.nil(w:World)(S:Nat->Prop)(A:Option Addr):ru w S A []:=⟨kF.nil _ _ _ _ _,fun _ _ h=>absurd rfl h⟩
theorem dx.nil(w:World)(S:Nat->Prop)(k:IntKind)(A:Option Addr):dx w S k A []:=⟨bJ.nil _ _ _,fun _ _ h=>absurd rfl h⟩
theorem dG.nil(w:World)(S:Nat->Prop)(f:α->List Value)(A:Option Addr):dG w S f A []:=⟨dI.nil _ _ _,fun _ _ h=>absurd rfl h⟩
structure Sl where
 A:Option Addr
 c:Nat
structure Sh where
 (cs bf nx ar fo se fr ol:Sl)
def ek:Sl:=⟨none,0⟩
structure nU (w:World) (S:Nat->Prop) (x:Mo.Tk) (s:Sh):Prop where
 cs:dG w S bC s.cs.A x.aN.cases
 bf:dx w S .u64 s.bf.A x.buf
 nx:dx w S .u64 s.nx.A x.next
 ar:dx w S .u64 s.ar.A x.args
 fo:ru w S s.fo.A x.found
 se:dx w S .u64 s.se.A x.seen
 fr:dG w S fI s.fr.A x.aA.free
 ol:dG w S km s.ol.A x.aA.old
 lb:x.buf.length<=s.bf.c
 la:x.args.length<=s.ar.c
 lf:x.found.length<=s.fo.c
 ls:x.seen.length<=s.se.c
 lr:x.aA.free.length<=s.fr.c
 lo:x.aA.old.length<=s.ol.c
theorem nU.move{x:Tk}{s:Sh}(h:nU w S x s)(e:Sm S w w')(a:∀b,S b->S' b):nU w' S' x s:=⟨(h.cs.same e).mono a,(h.bf.same e).mono a,(h.nx.same e).mono a,(h.ar.same e).mono a,h.fo.move e a,(h.se.same e).mono a,(h.fr.same e).mono a,(h.ol.same e).mono a,h.lb,h.la,h.lf,h.ls,h.lr,h.lo⟩
structure Mm where
 g:Nat
 (vl vg vc:Value)
 G:List Acc
 C:List Int
 kp:Bool
def Mm.own(m:Mm)(b:Nat):Prop:=b=m.g\/m.vl.ownBlock=some b\/m.vg.ownBlock=some b\/m.vc.ownBlock=some b
structure ze (w:World) (m:Mm) (L:List Int) (q:Nat):Prop where
 mv:eu w 0 m.g m.vl m.vg m.vc L m.G m.C m.kp
 gl:m.G.length<=q
 cl:m.C.length<=64
theorem ze.lt{m:Mm}(h:ze w m L q)(a:m.own b):b<w.heap.size:=by
 obtain⟨c,d,e,f⟩:=h.mv.wH;rcases a with rfl|a|a|a
 ·exact c
 ·exact d b a
 ·exact e b a
 ·exact f b a
theorem ze.more{m:Mm}(h:ze w m L q)(a:Below w w w'):ze w' m L q:=⟨h.mv.ai a,h.gl,h.cl⟩
theorem ze.same{m:Mm}(h:ze w m L q)(e:∀b,m.own b->w'.heap[b]?=w.heap[b]?):ze w' m L q:=⟨⟨(e _ (.inl rfl)).trans h.mv.blk,cJ h.mv.words fun b a=>e b (.inr (.inl a)),cJ h.mv.log fun b a=>e b (.inr (.inr (.inl a))),cJ h.mv.counts fun b a=>e b (.inr (.inr (.inr a))),h.mv.low⟩,h.gl,h.cl⟩
def Im(w:World)(X:Nat->Prop)(p:Nat)(m:Mm)(b:Nat):Prop:=b<w.heap.size/\b≠p/\¬m.own b/\¬X b
structure cu (w w':World) (p:Nat) (m m':Mm):Prop where
 jH:Below 0 w w'
 same:∀b,b<w.heap.size->b≠p->¬m.own b->w'.heap[b]?=w.heap[b]?
 own:∀b,m'.own b->m.own b\/w.heap.size<=b
 g:m'.g=m.g
section
variable{w w1 w':World} {p:Nat} {m m1 m':Mm} {X:Nat->Prop}
theorem cu.refl(w:World)(p:Nat)(m:Mm):cu w w p m m:=⟨Below.refl _ _,fun _ _ _ _=>rfl,fun _ h=>.inl h,rfl⟩
theorem cu.trans(h:cu w w1 p m m1)(k:cu w1 w' p m1 m'):cu w w' p m m' :=
 have i:=h.jH.size
 ⟨h.jH.trans k.jH,fun b a e d=>(k.same b aa e fun f=>(h.own b f).elim d fun g=>by omega).trans (h.same b a e d),fun b a=>(k.own b a).elim (fun c=>h.own b c) fun c=>.inr aa,k.g.trans h.g⟩
theorem cu.ext(a:Below w w w')(p:Nat)(m:Mm):cu w w' p m m:=⟨a.mono (aV _),fun _ h _ _=>a.block _ h,fun _ h=>.inl h,rfl⟩
theorem cu.put(c:Below 0 w w')(e:∀b,b<w.heap.size->b≠p->w'.heap[b]?=w.heap[b]?)(m:Mm):cu w w' p m m:=⟨c,fun b h a _=>e b h a,fun _ h=>.inl h,rfl⟩
theorem cu.im(F:cu w w' p m m')(h:Im w X p m b):Im w' X p m' b:=⟨bL h.1 F.jH.size,h.2.1,fun k=>(F.own b k).elim h.2.2.1 fun l=>by have:=h.1;omega,h.2.2.2⟩
theorem cu.sm(F:cu w w' p m m'):Sm (Im w X p m) w w':=fun b h=>F.same b h.1 h.2.1 h.2.2.1
end
def bw(c:bA)(A:Option Addr)(n k g:Nat)(t:Int)(r:Rn)(s:Sh)(o:Sl):Array Value :=
 #[.int .i64 r.k.pc,.int .i64 r.k.seq,.int .i64 r.k.aN.kind,.int .i64 r.k.aN.arg,.int .i64 r.k.aN.value,.bool r.k.aN.dflt,.slice s.cs.A r.k.aN.cases.length s.cs.c,.bool r.k.ke,.int .i64 r.k.round,.int .i64 r.k.i,.int .i64 r.k.j,.int .i64 r.k.bS,.int .i64 r.k.fW,.bool r.k.all,.int .i64 r.k.base.ix,.int .i64 r.k.base.tag,.slice s.bf.A r.k.buf.length s.bf.c,.slice s.nx.A r.k.next.length s.nx.c,.int .u64 r.k.word,.slice s.ar.A r.k.args.length s.ar.c,.slice s.fo.A r.k.found.length s.fo.c,.slice s.se.A r.k.seen.length s.se.c,.int .i64 r.k.aA.own.ix,.int .i64 r.k.aA.own.tag,.slice s.fr.A r.k.aA.free.length s.fr.c,.slice s.ol.A r.k.aA.old.length s.ol.c,.int .i64 r.k.aA.spent,.int .i64 r.k.res.seq,.int .i64 r.k.res.cs,.int .i64 r.k.res.code,.int .i64 r.k.res.value,.bool r.k.fR,.bool r.k.waits,.bool r.k.iN,
  .int .i64 c.kind,.int .i64 c.threads,.int .i64 c.chans,.int .i64 c.cap,.int .i64 c.nodes,.int .i64 c.aL,.int .i64 c.aF,.int .i64 c.tags,.int .i64 c.bG,.int .i64 c.bt,.slice A n k,.pointer (some ⟨g,0,none⟩),.int .i64 t,.int .i64 r.note,.bool r.fR,.slice o.A r.ops.length o.c]
structure CfS (c:Mo.bA) (n:Nat) (t:Int):Prop where
 eN:Mo.aU c=true
 n:n=c.start.length
 th:c.threads<=4
 C9:Mo.bB c<=1048576
 t0:0<=t
 t1:t<c.threads
structure RN (w:World) (X:Nat->Prop) (p:Nat) (c:Mo.bA) (A:Option Addr) (n k:Nat) (t:Int) (m:Mm) (q:Nat) (r:Mo.Rn) (s:Sh) (o:Sl):Prop where
 blk:af w p 176 (bw c A n k m.g t r s o)
 mem:ze w m r.L q
 ln:(r.L.length:Int)=Mo.bB c
 cs:CfS c n t
 mp:¬m.own p
 mx:∀b,m.own b->¬X b
 xl:∀b,X b->b<w.heap.size
 cf:dx w (Im w X p m) .i64 A c.start
 tk:nU w (Im w X p m) r.k s
 op:ru w (Im w X p m) o.A r.ops
section
variable{w w':World} {X:Nat->Prop} {p:Nat} {c:Mo.bA} {A:Option Addr} {n k:Nat} {t:Int} {m m':Mm} {q q':Nat} {r r':Mo.Rn} {s s':Sh} {o o':Sl}
theorem RN.lt(H:RN w X p c A n k t m q r s o):p<w.heap.size:=H.blk.lt
theorem RN.step(H:RN w X p c A n k t m q r s o)(F:cu w w' p m m')(e:af w' p 176 arr)(g:arr=bw c A n k m'.g t r' s' o')(f:ze w' m' r'.L q')(d:r'.L.length=r.L.length)(tk:nU w' (Im w' X p m') r'.k s')(op:ru w' (Im w' X p m') o'.A r'.ops):RN w' X p c A n k t m' q' r' s' o' :=
 have i:=H.lt
 ⟨g▸e,f,d▸H.ln,H.cs,fun h=>(F.own p h).elim H.mp fun h=>by omega,fun b h a=>(F.own b h).elim (fun h=>H.mx b h a) fun h=>by have:=H.xl b a;omega,fun b a=>bL (H.xl b a) F.jH.size,(H.cf.same F.sm).mono fun b h=>F.im h,tk,op⟩
theorem RN.tk'(H:RN w X p c A n k t m q r s o)(F:cu w w' p m m'):nU w' (Im w' X p m') r.k s:=H.tk.move F.sm fun b h=>F.im h
theorem RN.op'(H:RN w X p c A n k t m q r s o)(F:cu w w' p m m'):ru w' (Im w' X p m') o.A r.ops:=H.op.move F.sm fun b h=>F.im h
theorem RN.more(H:RN w X p c A n k t m q r s o)(a:Below w w w'):RN w' X p c A n k t m q r s o :=
 have F:=cu.ext a p m
 H.step F (H.blk.ai a) rfl (H.mem.more a) rfl (H.tk' F) (H.op' F)
theorem RN.acV(H:RN w X p c A n k t m q r s o)(d:∀b,b<w.heap.size->b≠p->w'.heap[b]?=w.heap[b]?):ze w' m r.L q:=H.mem.same fun b a=>d b (H.mem.lt a) fun e=>H.mp (e▸a)
theorem Im.fresh(H:RN w X p c A n k t m q r s o)(d:w.heap.size<=b)(a:b<w'.heap.size):Im w' X p m b:=⟨a,fun e=>by have:=H.lt;omega,fun h=>by have:=H.mem.lt h;omega,fun h=>by have:=H.xl b h;omega⟩
end
def fT(p:Nat)(w a:World):Prop:=Below 0 w a/\∀b,b<w.heap.size->b≠p->a.heap[b]?=w.heap[b]?
section
variable{w w1 w2:World} {p:Nat}
theorem fT.refl(w:World)(p:Nat):fT p w w:=⟨Below.refl _ _,fun _ _ _=>rfl⟩
theorem fT.set(h:fT p w w1)(i:Nat)(u:Value):fT p w (w1.setCell ⟨p,i,none⟩ u):=⟨h.1.setCell (p:=⟨p,i,none⟩) (aV _) u,fun b c a=>(dp _ _ _ _ a).trans (h.2 b c a)⟩
theorem fT.more(h:fT p w w1)(k:Below w1 w1 w2):fT p w w2:=⟨h.1.trans (k.mono (aV _)),fun b a c=>(k.block b (bL a h.1.size)).trans (h.2 b a c)⟩
theorem fT.alloc(h:fT p w w1)(o:Obj):fT p w (w1.alloc o):=h.more (ak (aj _) o)
theorem fT.drewN(h:fT p w w1)(j:Nat):fT p w (w1.drewN j):=h.more (bV (aj _) j)
theorem fT.drew(h:fT p w w1):fT p w w1.drew:=h.more (aj _).drew
theorem fT.fr(h:fT p w w1)(m:Mm):cu w w1 p m m:=cu.put h.1 h.2 m
theorem fT.bO(h:fT p w w1){g:Nat}(e:w.heap.size<=g)(i:Nat)(u:Value):fT p w (w1.setCell ⟨g,i,none⟩ u):=⟨h.1.setCell (p:=⟨g,i,none⟩) (aV _) u,fun b a c=>(dp _ _ _ _ (by show b≠g;omega)).trans (h.2 b a c)⟩
end
theorem RN.at_{c:bA}{A:Option Addr}{n:Nat}{t:Int}{m:Mm}{s s':Sh}{o o':Sl}(H:RN w X p c A n k t m q r s o)(hA:fT p w w')(hK:af w' p 176 arr)(he:arr=bw c A n k m.g t r' s' o')(hL:r'.L=r.L)(tk:nU w (Im w X p m) r'.k s')(op:ru w (Im w X p m) o'.A r'.ops):RN w' X p c A n k t m q r' s' o':=H.step (hA.fr m) hK he (hL▸H.acV hA.2) (by rw[hL]) (tk.move (hA.fr m).sm fun _ h=>(hA.fr m).im h) (op.move (hA.fr m).sm fun _ h=>(hA.fr m).im h)
theorem RN.acc{c:bA}{A:Option Addr}{n:Nat}{t:Int}{m:Mm}{s:Sh}{o:Sl}(H:RN w X p c A n k t m q r s o){a:Acc}(h:tX w 0 m.g m.vl m.vg m.vc L (tY m.kp m.G a) (js m.C t) m.kp w')(j:L.length=r.L.length):∃f,RN w' X p c A n k t f (q+1) {r with L:=L} s o/\cu w w' p m f:=by
 obtain⟨d,l,g,h2,h3,h4,h5⟩:=h;have F:cu w w' p m ⟨m.g,m.vl,d,l,tY m.kp m.G a,js m.C t,m.kp⟩:=by exact acW
 have i:w'.heap[p]?=w.heap[p]?:=h4 p H.lt (fun e=>H.mp (.inl e)) (fun e=>H.mp (.inr (.inl e))) (fun e=>H.mp (.inr (.inr (.inl e)))) (fun e=>H.mp (.inr (.inr (.inr e))));refine⟨_,H.step F (i.trans H.blk) rfl ⟨g,?_,FT t H.mem.cl⟩ j (H.tk' F) (H.op' F),F⟩;have:=H.mem.gl;unfold tY;dsimp only;split
 ·simp;omega
 ·omega
def cE(X:Nat->Prop)(p:Nat)(c:bA)(A:Option Addr)(n k:Nat)(t:Int)(m:Mm)(q:Nat)(f:Rn)(w:World)(e:Ending)(d:World):Prop:=e=.returned (.tuple #[])/\∃a g b,RN d X p c A n k t a q f g b/\cu w d p m a
theorem cE.of{c:bA}{A:Option Addr}{n:Nat}{t:Int}{m:Mm}{s:Sh}{o:Sl}(H:RN w X p c A n k t m q r s o)(a:fT p w w')(l:af w' p 176 arr){e:Sh}{d:Sl}(u:arr=bw c A n k m.g t r' e d)(f:r'.L=r.L)(D:nU w' (Im w' X p m) r'.k e)(C:ru w' (Im w' X p m) d.A r'.ops):cE X p c A n k t m q r' w (.returned (.tuple #[])) w':=⟨rfl,m,e,d,H.step (a.fr m) l u (f▸H.acV a.2) (by rw[f]) D C,a.fr m⟩
theorem cE.at_{c:bA}{A:Option Addr}{n:Nat}{t:Int}{m:Mm}{s:Sh}{o:Sl}(H:RN w X p c A n k t m q r s o)(hA:fT p w w')(hK:af w' p 176 arr){s':Sh}{o':Sl}(he:arr=bw c A n k m.g t r' s' o')(hL:r'.L=r.L)(tk:nU w (Im w X p m) r'.k s')(op:ru w (Im w X p m) o'.A r'.ops):cE X p c A n k t m q r' w (.returned (.tuple #[])) w':=⟨rfl,m,s',o',H.at_ hA hK he hL tk op,hA.fr m⟩
theorem af.kv{g:Nat}{t:TypeId}{cs:Array Value}(h:af w g t cs):af w.drew g t cs:=h
theorem af.of{g:Nat}{t:TypeId}{a b:Array Value}(h:af w g t a)(e:a=b):af w g t b:=e▸h
theorem cE.leaf{c:bA}{A:Option Addr}{n:Nat}{t:Int}{m:Mm}{s:Sh}{o:Sl}(H:RN w X p c A n k t m q r s o)(s':Sh)(o':Sl)(tk:nU w (Im w X p m) r'.k s')(op:ru w (Im w X p m) o'.A r'.ops)(hL:r'.L=r.L)(hA:fT p w w':=by with_reducible(repeat(first|apply fT.set|apply fT.drewN|apply fT.drew|apply fT.alloc|exact fT.refl _ _)))(hK:af w p 176 (bw c A n k m.g t r s o)->af w' p 176 (bw c A n k m.g t r' s' o'):=by intro h;apply af.of;(with_reducible(repeat(first|apply af.bj|apply af.drewN|apply af.kv|apply af.alloc|exact h)));rfl):cE X p c A n k t m q r' w (.returned (.tuple #[])) w':=cE.at_ H hA (hK H.blk) rfl hL tk op
theorem RN.leaf{c:bA}{A:Option Addr}{n:Nat}{t:Int}{m:Mm}{s:Sh}{o:Sl}(H:RN w X p c A n k t m q r s o)(s':Sh)(o':Sl)(tk:nU w (Im w X p m) r'.k s')(op:ru w (Im w X p m) o'.A r'.ops)(hL:r'.L=r.L)(hA:fT p w w':=by with_reducible(repeat(first|apply fT.set|apply fT.drewN|apply fT.drew|apply fT.alloc|exact fT.refl _ _)))(hK:af w p 176 (bw c A n k m.g t r s o)->af w' p 176 (bw c A n k m.g t r' s' o'):=by intro h;apply af.of;(with_reducible(repeat(first|apply af.bj|apply af.drewN|apply af.kv|apply af.alloc|exact h)));rfl):RN w' X p c A n k t m q r' s' o':=H.at_ hA (hK H.blk) rfl hL tk op
theorem cE.then{c:bA}{A:Option Addr}{n:Nat}{t:Int}{m a:Mm}{d:World}{e:Ending}(F:cu w d p m a)(h:cE X p c A n k t a q r' d e w'):cE X p c A n k t m q r' w e w':=by obtain⟨b,i,l,j,f,g⟩:=h;exact⟨b,i,l,j,f,F.trans g⟩
section
variable{w:World} {X:Nat->Prop} {p:Nat} {c:Mo.bA} {A:Option Addr} {n k:Nat} {t:Int} {m:Mm} {q:Nat} {r:Mo.Rn} {s:Sh} {o:Sl}
def RnV(X:Nat->Prop)(p:Nat)(c:bA)(A:Option Addr)(n k:Nat)(t:Int)(m:Mm)(q:Nat)(f:Rn)(s:Sh)(o:Sl)(v:Value)(w:World)(e:Ending)(d:World):Prop:=e=.returned v/\∃a,RN d X p c A n k t a q f s o/\cu w d p m a
theorem RN.C9(H:RN w X p c A n k t m q r s o):r.L.length<=2000000:=by have:=H.ln;have:=H.cs.C9;omega
theorem RN.word(H:RN w X p c A n k t m q r s o){a:Int}(d:0<=a)(e:a<bB c):∃j:Nat,a=j/\r.L[j]?=some (ay r.L a):=by
 obtain⟨j,rfl⟩:=Int.eq_ofNat_of_zero_le d;have b:j<r.L.length:=by have:=H.ln;omega
 refine⟨j,rfl,?_⟩;unfold ay;rw[ah aa,gu,cZ,cY b];rfl
theorem Mo.vE(L:List Int)(j:Nat)(x:Int):Mo.setAt L j x=L.set j x:=by unfold Mo.setAt;rw[ah aa,gu]
theorem Rv(H:RN w X p c A n k t m q r s o)(M:q<=900000)(a:Int)(v:0<=a)(y:a<bB c) :
 Calls prog 149 #[.pointer p,a] w (RnV X p c A n k t m (q+1) r s o (.int .u64 (ay r.L a)) w):=by
 obtain⟨j,rfl,g⟩:=H.word v y
 obtain⟨x,f⟩:∃x,x=ay r.L j:=⟨_,rfl⟩
 rw[<-f]at g ⊢
 have b:=ae (H.more (aj w).drew)
 have u:=ae (Qh _ 0 m.g m.vl m.vg m.vc r.L m.G m.C m.kp t j x b.Y.mem.mv b.Y.mem.cl (bq b.Y.mem.gl (by omega)) H.C9 g)
 have D:Hid (cu w w.drew p m m):=cu.ext (aj w).drew p m
 have L:=H.lt
 have F:=ae g
 have K:w.drew.cell? ⟨p,45,none⟩=some (.pointer (some ⟨m.g,0,none⟩))/\w.drew.cell? ⟨p,46,none⟩=some (.int .i64 t):=⟨af.cell b.Y.blk 45,af.cell b.Y.blk 46⟩
 clear H g v y f
 go_enter func149,ntmps149
 go_wp2
 go_region_held3(fun B=>B.cell? ⟨p,45,none⟩=some (.pointer (some ⟨m.g,0,none⟩))/\B.cell? ⟨p,46,none⟩=some (.int .i64 t)) (assumption) (
  ((with_reducible go_fit u.Y);rintro e C ⟨rfl,z⟩;obtain⟨I,d,h⟩:=b.Y.acc z (cq);have i:=af.cell d.blk 45;have l:=af.cell d.blk 46;have G:C.cell? ⟨p,45,none⟩=some (.pointer (some ⟨m.g,0,none⟩))/\C.cell? ⟨p,46,none⟩=some (.int .i64 t):=⟨by rw[i,h.g];rfl,l⟩))
 all_goals
  rw[yL F.Y]at d;obtain⟨E,J⟩:=av d (D.Y.trans h);clear z d h u;go_wp2;go_ret;exact⟨rfl,I,E.Y,J.Y⟩
theorem MQ(H:RN w X p c A n k t m q r s o)(a:Int)(z:0<=a)(j:bB c<=a) :
 Calls prog 149 #[.pointer p,a] w (RnV X p c A n k t m (q+1) r s o (.int .u64 (ay r.L a)) w):=by
 have l:Hid (ay r.L a=0):=by unfold Hid ay;rw[ah (by omega),cZ,List.getElem?_eq_none (by have:=H.ln;omega)];rfl
 rw[l.Y]
 have d:r.L≠[]:=by
  intro e;have j:=H.ln;rw[e]at j;have F:=Mo.aK H.cs.eN;have G:0<bB c:=by unfold bB;rw[ah (by rw[H.cs.eN];decide)];have I:=ot H.cs.eN;have J:=lA H.cs.eN (i:=cN c) (by omega) (by omega);unfold bu;omega
  simp at j;omega
 have g:=ae (H.more (aj w).drew)
 have u:=ae (Qk _ 0 m.g m.vl m.vg m.vc r.L m.G m.C m.kp t a g.Y.mem.mv d (.inr (by have:=H.ln;omega)))
 have y:Hid (cu w w.drew p m m):=cu.ext (aj w).drew p m
 have E:=H.lt
 have D:w.drew.cell? ⟨p,45,none⟩=some (.pointer (some ⟨m.g,0,none⟩))/\w.drew.cell? ⟨p,46,none⟩=some (.int .i64 t):=⟨af.cell g.Y.blk 45,af.cell g.Y.blk 46⟩
 clear H z j d l
 go_enter func149,ntmps149
 go_wp2
 go_region_held3(fun v=>v.cell? ⟨p,45,none⟩=some (.pointer (some ⟨m.g,0,none⟩))/\v.cell? ⟨p,46,none⟩=some (.int .i64 t)) (assumption) (
  ((with_reducible go_fit u.Y);rintro e x ⟨rfl,h⟩;have f:=g.Y.more h;have B:x.cell? ⟨p,45,none⟩=some (.pointer (some ⟨m.g,0,none⟩))/\x.cell? ⟨p,46,none⟩=some (.int .i64 t):=⟨af.cell f.blk 45,af.cell f.blk 46⟩))
 all_goals
  obtain⟨b,C⟩:=av f (y.Y.trans (cu.ext h p m));clear h f u;go_wp2;go_ret;exact⟨rfl,m,b.Y.step (cu.refl _ _ _) b.Y.blk rfl ⟨b.Y.mem.mv,Nat.le_succ_of_le b.Y.mem.gl,b.Y.mem.cl⟩ rfl b.Y.tk b.Y.op,C.Y⟩
theorem cQ(H:RN w X p c A n k t m q r s o)(e:q<=900000)(a:Int)(d:0<=a) :
 Calls prog 149 #[.pointer p,a] w (RnV X p c A n k t m (q+1) r s o (.int .u64 (ay r.L a)) w):=by
 by_cases b:a<bB c
 ·exact Rv H e a d b
 ·exact MQ H a d aa
theorem fu(H:RN w X p c A n k t m q r s o)(F:q<=900000)(a y:Int)(l:0<=a)(u:a<bB c) :
 Calls prog 150 #[.pointer p,a,.int .u64 y] w (RnV X p c A n k t m (q+1) (r.store a y) s o (.tuple #[]) w):=by
 obtain⟨j,rfl,x⟩:=H.word l u
 have d:=ae (H.more (aj w).drew)
 have f:=ae (LH _ 0 m.g m.vl m.vg m.vc r.L m.G m.C m.kp t j _ y d.mem.mv d.mem.cl (bq d.mem.gl aa) H.C9 x)
 obtain⟨i,-,B⟩:=af.aM H.blk
 unfold bw at i
 clear H x l u
 go_enter func150,ntmps150
 go_wp2_with fail
 go_still_tail 10,(by kernel_rfl)
 change wpList _ _ _ _ _ w.drew
 clear i B
 obtain⟨E,b⟩:=aG w.drew
 have h:Hid (cu w E p m m):=by rw[b];exact cu.ext (aj w).drew p m
 rw[<-b]at d f ⊢
 clear b
 go_wp2_with fail
 refine f.mono ?_
 rintro e G ⟨rfl,v⟩
 obtain⟨C,(z:Hid _),g⟩:=d.acc v (cq)
 have D:=ae (h.trans g)
 clear v g f d h
 go_wp2
 go_end0
 refine⟨rfl,C,?_,D⟩
 unfold Rn.store
 rw[vE]
 exact z.Y
theorem oG(H:RN w X p c A n k t m q r s o)(V:q<=900000)(a want y:Int)(G:0<=a)(I:a<bB c) :
 Calls prog 170 #[.pointer p,a,.int .u64 want,.int .u64 y] w (RnV X p c A n k t m (q+1) (if ay r.L a=want then r.store a y else r) s o (ay r.L a==want) w):=by
 obtain⟨j,rfl,i⟩:=H.word G I
 obtain⟨x,g⟩:∃x,x=ay r.L j:=⟨_,rfl⟩
 rw[<-g]at i ⊢
 obtain⟨B,b⟩:∃B,(if x=want then y else x)=B:=⟨_,rfl⟩
 obtain⟨C,D⟩:∃C,(x==want)=C:=⟨_,rfl⟩
 have f:=ae (H.more (aj w).drew)
 have E:=ae (Qi _ 0 m.g m.vl m.vg m.vc r.L m.G m.C m.kp t j x want y B C f.Y.mem.mv f.Y.mem.cl (bq f.Y.mem.gl (by omega)) H.C9 i ⟨b,D⟩)
 have N:Hid (cu w w.drew p m m):=cu.ext (aj w).drew p m
 have U:=H.lt
 obtain⟨O,u⟩:=av i b
 obtain⟨K,d⟩:∃K,K=if x=want then r.store j y else r:=⟨_,rfl⟩
 rw[D, <-d]
 have Q:=ae d
 have T:w.drew.cell? ⟨p,45,none⟩=some (.pointer (some ⟨m.g,0,none⟩))/\w.drew.cell? ⟨p,46,none⟩=some (.int .i64 t):=⟨af.cell f.Y.blk 45,af.cell f.Y.blk 46⟩
 clear H i G I g b D d
 go_enter func170,ntmps170
 go_wp2
 go_region_held3(fun L=>L.cell? ⟨p,45,none⟩=some (.pointer (some ⟨m.g,0,none⟩))/\L.cell? ⟨p,46,none⟩=some (.int .i64 t)) (assumption) (
  ((with_reducible go_fit E.Y);rintro e M ⟨rfl,J⟩;obtain⟨R,h,l⟩:=f.Y.acc J (cq);have v:=af.cell h.blk 45;have z:=af.cell h.blk 46;have P:M.cell? ⟨p,45,none⟩=some (.pointer (some ⟨m.g,0,none⟩))/\M.cell? ⟨p,46,none⟩=some (.int .i64 t):=⟨by rw[v,l.g];rfl,z⟩))
 all_goals
  obtain⟨F,S⟩:=av h (N.Y.trans l);clear J h l E;go_wp2;go_ret;refine⟨rfl,R,?_,S.Y⟩;have b:=u.Y;rw[Q.Y];by_cases e:x=want
  ·rw[au e]at b ⊢;subst b;unfold Rn.store;rw[vE];exact F.Y
  ·rw[ah e]at b ⊢;subst b;have:=F.Y;rw[yL O.Y]at this;exact this
end
section
variable{w:World} {X:Nat->Prop} {p:Nat} {c:Mo.bA} {A:Option Addr} {n k:Nat} {t:Int} {m:Mm} {q:Nat} {r:Mo.Rn} {s:Sh} {o:Sl}
theorem zf(H:RN w X p c A n k t m q r s o):Calls prog 204 #[.pointer p] w (cE X p c A n k t m q (Rn.again c r) w):=by
 obtain⟨d,f,e⟩:=af.aM H.blk;unfold bw at d;have HH:=ae H;clear H;rcases b:r.k.ke with _|_
 ·by_cases a:c.aF<r.k.round
  ·have hE:Rn.again c r=r.pc 16:=by unfold Rn.again;rw[au ⟨b,a⟩]
   exact VS
  ·have hE:Rn.again c r=r.pc 3:=by unfold Rn.again;rw[ah (fun h=>a h.2),ah (fun h=>by rw[b]at h;cases h.1)]
   exact VS
 ·by_cases a:3<r.k.round
  ·have hE:Rn.again c r=r.pc 19:=by unfold Rn.again;rw[ah (fun h=>by rw[b]at h;cases h.1),au ⟨b,a⟩]
   exact VS
  ·have hE:Rn.again c r=r.pc 3:=by unfold Rn.again;rw[ah (fun h=>by rw[b]at h;cases h.1),ah (fun h=>a h.2)]
   exact VS
def VO(w:World)(p i:Nat):Value:=(w.cell? ⟨p,i,none⟩).getD oZ
structure RX (w:World) (p:Nat) (m:Mm) (lo hi:Nat) (wx:World):Prop where
 jH:Below 0 w wx
 eq:∀b,b<w.heap.size->b≠p->¬m.own b->wx.heap[b]?=w.heap[b]?
 pk:∃arr aaN,af w p 176 aaN/\af wx p 176 arr/\arr.size=aaN.size/\∀i,i<lo\/hi<=i->arr[i]?=aaN[i]?
section
variable{wx wy:World} {lo hi:Nat} {arr:Array Value}
theorem RX.start(h:af w p 176 arr)(m:Mm)(lo hi:Nat):RX w p m lo hi w.drew:=⟨(Below.refl 0 w).drew,fun _ _ _ _=>rfl,arr,arr,h,h,rfl,fun _ _=>rfl⟩
theorem RX.below(h:RX w p m lo hi wx)(e:Below wx wx wy):RX w p m lo hi wy:=by obtain⟨a,d,f,g,i,j⟩:=h.pk;exact⟨h.jH.trans (e.mono (aV _)),fun b c l k=>(e.block b (bL c h.jH.size)).trans (h.eq b c l k),a,d,f,g.ai e,i,j⟩
theorem RX.alloc(h:RX w p m lo hi wx)(o:Obj):RX w p m lo hi (wx.alloc o):=h.below (ak (aj _) o)
theorem RX.set(h:RX w p m lo hi wx)(C:lo<=i/\i<hi)(u:Value):RX w p m lo hi (wx.setCell ⟨p,i,none⟩ u):=by obtain⟨a,d,e,f,g,k⟩:=h.pk;refine⟨h.jH.setCell (p:=⟨p,i,none⟩) (aV _) u,fun b l c o=>(dp _ _ _ _ c).trans (h.eq b l c o),_,d,e,f.bj i u,by rw[Array.size_setIfInBounds];exact g,fun j n=>?_⟩;rw[Array.getElem?_setIfInBounds_ne (by omega)];exact k j n
theorem RX.bO(h:RX w p m lo hi wx){g:Nat}(C:w.heap.size<=g)(i:Nat)(u:Value):RX w p m lo hi (wx.setCell ⟨g,i,none⟩ u):=by obtain⟨a,d,c,e,f,j⟩:=h.pk;exact⟨h.jH.setCell (p:=⟨g,i,none⟩) (aV _) u,fun b k n l=>(dp _ _ _ _ (by show b≠g;omega)).trans (h.eq b k n l),a,d,c,e.bO (by have:=c.lt;show p≠g;omega) u,f,j⟩
theorem RX.cell(h:RX w p m lo hi wx)(f:af w p 176 arr)(l:i<lo\/hi<=i):wx.cell? ⟨p,i,none⟩=arr[i]?:=by
 obtain⟨a,c,b,d,g,e⟩:=h.pk;have:c=arr:=by unfold af at b f;rw[b]at f;injection f with f;injection f
 rw[af.cell d i,e i l,this]
theorem RX.some_(h:RX w p m lo hi wx)(d:af w p 176 arr)(j:i<arr.size):wx.cell? ⟨p,i,none⟩=some (VO wx p i):=by
 unfold VO;obtain⟨a,c,b,e,f,g⟩:=h.pk;have:c=arr:=by unfold af at b d;rw[b]at d;injection d with d;injection d
 subst this;rw[af.cell e i,Array.getElem?_eq_getElem (by rw[f];exact j)];rfl
theorem RX.free(h:RX w p m lo hi wx)(i:Nat):wx.frozen? ⟨p,i,none⟩=false:=by obtain⟨a,c,d,b,e,f⟩:=h.pk;exact af.free b i
theorem RX.lt(h:RX w p m lo hi wx):p<wx.heap.size:=by obtain⟨a,c,d,b,e,f⟩:=h.pk;exact b.lt
theorem RN.kept{f:Mm}{j:Nat}(h:RN w' X p c A n k t f j r' s o)(F:cu wx w' p m f){a:Array Value}(e:bw c A n k m.g t r' s o=a):af w' p 176 a:=by have:=h.blk;rw[F.g]at this;rw[<-e];exact this
theorem RX.acc(h:RX w p m lo hi wx)(e:af w p 176 arr){g:Mm}(F:cu wx wy p m g)(f:af wy p 176 arr):RX w p m lo hi wy:=⟨h.jH.trans F.jH,fun b a d c=>(F.same b (bL a h.jH.size) d c).trans (h.eq b a d c),arr,arr,e,f,rfl,fun _ _=>rfl⟩
theorem RX.blk(h:RX w p m lo hi wx){d:TypeId}{cs:Array Value}{g:Nat}(a:af w g d cs)(e:g≠p)(f:¬m.own g):af wx g d cs:=(h.eq g a.lt e f).trans a
end
theorem gj{P:Prop}(h:P:=by with_reducible(repeat(first|assumption|exact RX.start HH.Y.blk _ _ _|exact RX.start gZ.Y.blk _ _ _|refine RX.alloc ?_ _|refine RX.set ?_ (by decide) _))):P:=h
theorem Kb{P:Prop}(h:P:=by with_reducible(repeat(first|assumption|exact RX.gR L6.Y.blk _ _ _ _|refine RX.alloc ?_ _|refine RX.set ?_ (by decide) _))):P:=h
theorem Tb{P:Prop}(h:P:=by with_reducible(repeat(first|apply fT.set|apply fT.drewN|apply fT.drew|apply fT.alloc|exact fT.refl _ _|exact fT.more (fT.refl _ _) pX))):P:=h
theorem RN.cK(H:RN w X p c A n k t m q r s o):RN w.drew X p c A n k t m q r s o/\cu w w.drew p m m/\Hid (∀a b,RN a X p c A n k t m q r s o->Below a a b->RN b X p c A n k t m q r s o)/\Hid (∀a b,cu w a p m m->Below a a b->cu w b p m m)/\p<w.heap.size:=⟨H.more (aj w).drew,cu.ext (aj w).drew p m,ae (fun _ _ h d=>h.more d),ae (fun _ _ h d=>h.trans (cu.ext d p m)),H.lt⟩
theorem RN.cx(H:RN w X p c A n k t m q r s o)(a:World)(d:RX w p m 0 0 a)(i:Nat):a.cell? ⟨p,i,none⟩=(bw c A n k m.g t r s o)[i]?:=d.cell H.blk (.inr (aV _))
theorem RN.FJ(H:RN w X p c A n k t m q r s o)(e d:Nat)(f:d<=50:=by decide):(∀a,RX w p m e d a->∀i,i<e\/d<=i->a.cell? ⟨p,i,none⟩=(bw c A n k m.g t r s o)[i]?)/\(∀a,RX w p m e d a->∀i,e<=i->i<d->a.cell? ⟨p,i,none⟩=some (VO a p i))/\(∀a,RX w p m e d a->∀i,a.frozen? ⟨p,i,none⟩=false)/\∀a,RX w p m e d a->p<a.heap.size:=⟨fun _ b _ d=>b.cell H.blk d,fun _ b i _ d=>b.some_ H.blk (i:=i) (bL d f),fun _ b i=>b.free i,fun _ b=>b.lt⟩
theorem EM(H:RN w X p c A n k t m q r s o):Calls prog 205 #[.pointer p] w (cE X p c A n k t m q (Rn.refuse r) w):=by
 have b:=ae (fun u=>JK u r.k.aA s.fr.A s.fr.c s.ol.A s.ol.c);unfold lZ at b;have HH:=ae H;have v:=H.lt;clear H;obtain⟨d,j,i,g⟩:=HH.Y.FJ 27 31;unfold bw at d;go_enter func205,ntmps205;go_wp2;go_region_held3(RX w p m 27 31) (exact gj) (((with_reducible go_fit (b.Y _));rintro e l ⟨rfl,a⟩;have h:=RX.below (by assumption) a));have pX:Below w w l:=ai (aj w).drew a;obtain⟨f,x,-⟩:=af.aM (HH.Y.blk.ai pX);have y:=(HH.Y.blk.ai pX).lt;unfold bw at f;clear d j i g h;go_wp2;go_end0;apply cE.at_ (s':=s) (o':=o) HH.Y;case hA=>exact Tb
 case hK=>(with_reducible(repeat(first|apply af.bj|apply af.drewN|apply af.kv|apply af.alloc|exact(HH.Y.blk.ai pX))))
 case he=>rfl
 case hL=>rfl
 case tk=>exact{HH.Y.tk with}
 case op=>exact HH.Y.op
end
def ma(p:Pm)(s:Sl):List Value:=[p.on,p.shut,p.over,p.fp,.slice s.A p.outs.length s.c,p.at_,p.value]
def mW(q:Rq)(s:Sl):List Value:=[q.kind,q.arg,q.value,q.dflt,.slice s.A q.cases.length s.c]
def sB(w a:World)(q:Rq)(s:Sl):Prop:=dG a (fun b=>w.heap.size<=b/\b<a.heap.size) bC s.A q.cases/\q.cases.length<=s.c
section
variable(w:World)
theorem IB(h:Int):Calls prog 121 #[h] w fun e w'=>e=.returned (SE h)/\w=w':=by have a:=ae (xO w h);go_enter func121,ntmps121;go_wp2_with fail;refine a.mono ?_;exact TA
theorem sB.none_(q:Rq)(h:q.cases=[])(s:Sl):sB w w' q s:=by unfold sB;rw[h];exact⟨dG.nil _ _ _ _,aV _⟩
theorem sB.fin{w a f:World}{q:Rq}{z:Sl}(l:Below w w a)(e:sB a f q z){g:Nat}(s:g<a.heap.size)(vs:List Value):sB w (aw f g 0 vs) q z:=⟨(e.1.same (fun b h=>aO aa vs 0)).mono (fun b h=>⟨bq l.size h.1,by rw[bH];exact h.2⟩),e.2⟩
structure GX (w:World) (g:Nat) (wx:World):Prop where
 jH:Below 0 w wx
 eq:∀b,b<w.heap.size->b≠g->wx.heap[b]?=w.heap[b]?
 pk:∃t a a0,af w g t a0/\af wx g t a/\a.size=a0.size
section
variable{w wx wy:World} {g:Nat}
theorem GX.start{t:TypeId}{a:Array Value}(h:af w g t a):GX w g w.drew:=⟨(Below.refl 0 w).trans ((aj w).drew.mono (aV _)),fun _ _ _=>rfl,t,a,a,h,h,rfl⟩
theorem GX.below(h:GX w g wx)(e:Below wx wx wy):GX w g wy:=by obtain⟨t,a,a0,d,f,i⟩:=h.pk;exact⟨h.jH.trans (e.mono (aV _)),fun b c j=>(e.block b (bL c h.jH.size)).trans (h.eq b c j),t,a,a0,d,f.ai e,i⟩
theorem GX.alloc(h:GX w g wx)(o:Obj):GX w g (wx.alloc o):=h.below (ak (aj _) o)
theorem GX.set(h:GX w g wx)(i:Nat)(u:Value):GX w g (wx.setCell ⟨g,i,none⟩ u):=by obtain⟨t,a,a0,d,e,f⟩:=h.pk;exact⟨h.jH.setCell (p:=⟨g,i,none⟩) (aV _) u,fun b j c=>(dp _ _ _ _ c).trans (h.eq b j c),t,_,a0,d,e.bj i u,by rw[Array.size_setIfInBounds];exact f⟩
theorem GX.blk(h:GX w g wx){t:TypeId}{cs:Array Value}(d:af w b t cs)(a:b≠g):af wx b t cs:=(h.eq b d.lt a).trans d
theorem GX.own(h:GX w g wx){t:TypeId}{cs:Array Value}(e:af w g t cs):∃a:Array Value,af wx g t a/\a.size=cs.size:=by
 obtain⟨i,a,a0,b,d,f⟩:=h.pk;have c:i=t/\a0=cs:=by unfold af at b e;rw[b]at e;injection e with e;injection e with e1 e2;exact⟨e2,e1⟩
 exact⟨a,c.1▸d,by rw[f,c.2]⟩
theorem GX.some_(h:GX w g wx){t:TypeId}{cs:Array Value}(c:af w g t cs)(e:i<cs.size):wx.cell? ⟨g,i,none⟩=some (VO wx g i):=by obtain⟨a,b,d⟩:=h.own c;unfold VO;rw[af.cell b i,Array.getElem?_eq_getElem aa];rfl
theorem GX.free(h:GX w g wx)(i:Nat):wx.frozen? ⟨g,i,none⟩=false:=by obtain⟨t,a,a0,c,b,d⟩:=h.pk;exact af.free b i
theorem GX.seen(h:GX w g wx){a:World}(c:Below a a w)(d:a.heap.size<=g):Below a a wx:=(c.trans ⟨h.jH.os,h.jH.tape,h.jH.output,h.jH.size,fun k b=>h.eq k (bL b c.size) aa⟩)
theorem GX.lt(h:GX w g wx):g<wx.heap.size:=by obtain⟨t,a,a0,c,b,d⟩:=h.pk;exact b.lt
end
def PmE(o:Option Rq)(e:Ending)(a:World):Prop:=∃s,e=.returned (.tuple #[.agg (mW (o.getD nN) s).toArray,o.isSome])/\sB w a (o.getD nN) s/\Below w w a
theorem EN(d h v:Int):Calls prog 97 #[d,h,v] w fun e w'=>∃s,e=.returned (.agg (mW (jB d h v) s).toArray)/\sB w w' (jB d h v) s/\Below w w w':=by
 go_enter func97,ntmps97;go_wp2;refine bodyPost_ret (v:=?_) ?_ rfl ?_;rotate_left
 ·simp[results,results97,go_sem];rfl
 ·exact acX
theorem sD(p:Pm)(s:Sl)(y:bJ w .i64 s.A p.outs)(hl:p.outs.length<=8)(hc:p.outs.length<=s.c):Calls prog 65 #[.agg (ma p s).toArray] w (PmE w (fe p)):=by
 obtain⟨I,E,J,r,outs,a,v⟩:=p;obtain⟨A,d⟩:=s;unfold ma;dsimp only at *;obtain⟨n,x⟩:=aG outs.length;rw[<-x]at hl hc ⊢;have HX:Hid (∀o,o=none->∀V,Below w w V->PmE w o (.returned (.tuple #[.agg #[oZ,oZ,oZ,false,oN],false])) V):=by rintro o rfl V t;exact⟨⟨none,0⟩,rfl,sB.none_ w _ rfl _,t⟩
 obtain⟨HN,HR⟩:=av x y;by_cases c:fe ⟨I,E,J,r,outs,a,v⟩=none
 ·have HZ:=ae c;have T:I=false\/I=true/\(J=true\/J=false/\(a<0\/0<=a/\((n:Int)<a\/a<=n/\E=true/\¬a<n))):=by
   unfold fe at c;dsimp only at c;rw[<-x]at c;cases I
   ·exact .inl rfl
   ·cases J
    ·refine .inr ⟨rfl,.inr ⟨rfl,?_⟩⟩;by_cases k:a<0
     ·exact .inl k
     ·by_cases H:(n:Int)<a
      ·exact .inr ⟨aa,.inl H⟩
      ·cases E
       ·exfalso;rw[ah (by simp;omega)]at c;simp only[Bool.false_eq_true,false_and,if_false]at c;split at c<;>cases c
       ·refine .inr ⟨aa,.inr ⟨aa,rfl,fun l=>?_⟩⟩;rw[ah (by simp;omega),au ⟨rfl,l⟩]at c;cases c
    ·exact .inr ⟨rfl,.inl rfl⟩
  clear c x y;rcases T with rfl|⟨rfl,rfl|⟨rfl,k|⟨k,H|⟨H,rfl,l⟩⟩⟩⟩
  all_goals
   go_enter func65,ntmps65;go_wp2;refine bodyPost_ret (v:=.tuple #[.agg #[oZ,oZ,oZ,false,oN],false]) (by simp[results,results65,go_sem]) rfl ?_;exact HX.Y _ HZ _ (ak (ak (aj _) _) _)
 ·have k:I=true/\J=false/\0<=a/\a<=n:=by
   unfold fe at c;dsimp only at c;rw[<-x]at c;split at c
   ·exact absurd rfl c
   ·rename_i h;cases I<;>cases J<;>simp at h ⊢<;>omega
  obtain⟨rfl,rfl,k,H⟩:=k
  have q:fe ⟨true,E,false,r,outs,a,v⟩=if E=true then(if a<n then some ⟨4,ay outs a,0,false,[]⟩else none)else if a=0 then some (jB 2 r 0)else some (jB 1 (ay outs (a-1)) v):=by
   unfold fe;dsimp only;rw[<-x,ah (by simp;omega)];cases E
   ·simp
   ·by_cases l:a<n
    ·simp[l]
    ·simp[l]
  have W:∀X,Below w w ((w.alloc X).alloc YW):=fun X=>ak (ak (aj w) _) _
  have P:=ae W
  clear W
  rcases E with _|_
  ·rw[ah ag]at q;by_cases Y:a=0
   ·subst Y;rw[au rfl]at q;rw[q];have B:=ae (fun f=>EN f 2 r 0);unfold mW jB at B;dsimp only[gL]at B;have C:∀X,Hid (af ((w.alloc X).alloc YW) (w.heap.size+1) 42 ([oZ,oZ,oZ,false,oN]:VL).toArray):=fun X=>af.newAt _ _ _ aD;have C:=ae C;clear c q x y;go_enter func65,ntmps65;go_wp2_with fail;go_fit (B _);rintro e G ⟨⟨zA,zc⟩,rfl,K,t⟩;obtain⟨jw,br,Q⟩:=aZ ((C _).Y.ai t) (ai (P _) t) (P (.cells #[true,false,false,r,.slice A n d,oZ,v] 86));have HG:Hid (w.heap.size+1<((w.alloc (.cells #[true,false,false,r,.slice A n d,oZ,v] 86)).alloc YW).heap.size):=by unfold Hid;simp
    have kL:=ae K;clear K t;obtain⟨dR,dK,dN⟩:=af.aM jw;go_wp2_with fail;clear dR dK dN;have R:=aQ (vs:=[.int .i64 3,oZ,oZ,false,.slice zA 1 zc]) jw rfl;have hO:=sB.fin Q kL (g:=w.heap.size+1) HG [.int .i64 3,oZ,oZ,false,.slice zA 1 zc];have gv:Below w w (aw G (w.heap.size+1) 0 [.int .i64 3,oZ,oZ,false,.slice zA 1 zc]):=ax (cj _) _ _ _ br;change bodyPost _ _ _ _ _ (aw G (w.heap.size+1) 0 [.int .i64 3,oZ,oZ,false,.slice zA 1 zc]);generalize aw G (w.heap.size+1) 0 [.int .i64 3,oZ,oZ,false,.slice zA 1 zc]=wz at *;have fH:=fun i=>af.cell R i;exact acY
   ·rw[ah Y]at q;rw[q];obtain⟨j,rfl⟩:∃j:Nat,a=j+1:=⟨(a-1).toNat,aa⟩
    obtain⟨D,z,S,m,_⟩:=y.at_ (i:=j) aa;subst S;have M:∀f,Below w w f->f.cell? (D.add j)=some (.int .i64 z):=fun f u=>by
     obtain⟨a',k,H⟩:=(y.below u) j z (by simp[m])
     injection k with k
     subst k
     exact H
    have L:ay outs ((j+1:Int)-1)=z:=by unfold ay;rw[ah aa,show((j+1:Int)-1).toNat=j by omega,cZ,m];rfl
    rw[L];have e1:IntKind.i64.wrap ((j+1:Int)-1)=j:=by rw[cD _ aa];omega
    have e2:IntKind.i64.wrap (j:Int)=j:=cD _ aa;have Fx:j<n:=aa;have B:=ae (fun f=>EN f 1 z v);unfold mW jB at B;dsimp only[gL]at B;clear c q x y L m;go_enter func65,ntmps65;go_wp2_with fail;have HP:Hid (af ((w.alloc (.cells #[true,false,false,r,.slice (some D) n d,.int .i64 (j+1),v] 86)).alloc YW) w 86 _):=(af.new _ _ _).alloc _;have C:Hid (af ((w.alloc (.cells (#[true,false,false,r,.slice (some D) n d,.int .i64 (j+1),v]:VA) 86)).alloc YW) (w.heap.size+1) 42 ([oZ,oZ,oZ,false,oN]:VL).toArray):=af.newAt _ _ _ aD;obtain⟨O,iH⟩:=av (P (.cells #[true,false,false,r,.slice (some D) n d,.int .i64 (j+1),v] 86)) M;clear M;generalize(w.alloc (.cells #[true,false,false,r,.slice (some D) n d,.int .i64 (j+1),v] 86)).alloc YW=F at *;have aT:=fun f (u:GX F (w.heap.size+1) f) i=>af.cell (u.blk HP aa) i;have M:∀f,GX F (w.heap.size+1) f->f.cell? (D.add j)=some (.int .i64 z):=fun f u=>by
     have k:=iH.Y w (aj w)
     have hs:Sm (·<w.heap.size) w f:=fun b t=>(u.eq b (bL t O.size) aa).trans (O.block b t)
     rw[hs.cell (bb k)]
     exact k
    have qQ:=fun f (u:GX F (w.heap.size+1) f) i (hi:i<5)=>u.some_ C hi;have lz:=fun f (u:GX F (w.heap.size+1) f) i=>u.free i;have jd:=fun f (u:GX F (w.heap.size+1) f)=>u.lt;go_region_held3(GX F (w.heap.size+1)) (with_reducible(repeat(first|assumption|exact GX.start C.Y|refine GX.alloc ?_ _|refine GX.set ?_ _ _))) ((refine(B.Y _).mono ?_;rintro e G ⟨⟨zA,zc⟩,rfl,K,t⟩;have N:GX F (w.heap.size+1) _:=(by assumption);have U:=GX.below N t));all_goals
     obtain⟨aq,l,Z⟩:=U.own C;have R:=aQ (vs:=[.int .i64 3,oZ,oZ,false,.slice zA 1 zc]) (cs:=aq.toList) l Z;have hO:=sB.fin (N.seen O (cj _)) K (g:=w.heap.size+1) N.lt [.int .i64 3,oZ,oZ,false,.slice zA 1 zc];have gv:Below w w (aw G (w.heap.size+1) 0 [.int .i64 3,oZ,oZ,false,.slice zA 1 zc]):=ax (cj _) _ _ _ (U.seen O (cj _));clear N U aT M qQ lz jd K t l Z;change Exit.then _ (bodyPost _ _ _) _ _ (aw G (w.heap.size+1) 0 [.int .i64 3,oZ,oZ,false,.slice zA 1 zc]);generalize aw G (w.heap.size+1) 0 [.int .i64 3,oZ,oZ,false,.slice zA 1 zc]=wz at *;have fH:=fun i=>af.cell R i;go_wp2;exact acY
  ·obtain⟨j,rfl⟩:∃j:Nat,a=j:=⟨a.toNat,aa⟩
   have l:(j:Int)<n:=by
    by_cases l:(j:Int)<n
    ·exact l
    ·rw[ah l]at q;exact absurd q c
   rw[au rfl,au l]at q;rw[q];obtain⟨D,z,S,m,M⟩:=(y.below (P (.cells #[true,true,false,r,.slice A n d,j,v] 86))).at_ (i:=j) aa;subst S;have L:ay outs j=z:=by unfold ay;rw[ah aa,cZ,gu,m];rfl
   rw[L];clear c q x y L m;go_enter func65,ntmps65;go_wp2;refine bodyPost_ret (v:=.tuple #[.agg #[.int .i64 4,z,oZ,false,oN],true]) (by simp[results,results65,go_sem]) rfl ?_;exact⟨⟨none,0⟩,rfl,sB.none_ w _ rfl _,ak (ak (aj _) _) _⟩
end
section
variable{w:World} {X:Nat->Prop} {p:Nat} {c:Mo.bA} {A:Option Addr} {n k:Nat} {t:Int} {m:Mm} {q:Nat} {r:Mo.Rn} {s:Sh} {o:Sl} {w1:World}
def iK(x:Tk)(s:Sh):List Value:=[.int .i64 x.pc,.int .i64 x.seq,.int .i64 x.aN.kind,.int .i64 x.aN.arg,.int .i64 x.aN.value,.bool x.aN.dflt,.slice s.cs.A x.aN.cases.length s.cs.c,.bool x.ke,.int .i64 x.round,.int .i64 x.i,.int .i64 x.j,.int .i64 x.bS,.int .i64 x.fW,.bool x.all,.int .i64 x.base.ix,.int .i64 x.base.tag,.slice s.bf.A x.buf.length s.bf.c,.slice s.nx.A x.next.length s.nx.c,.int .u64 x.word,.slice s.ar.A x.args.length s.ar.c,.slice s.fo.A x.found.length s.fo.c,.slice s.se.A x.seen.length s.se.c,.int .i64 x.aA.own.ix,.int .i64 x.aA.own.tag,.slice s.fr.A x.aA.free.length s.fr.c,.slice s.ol.A x.aA.old.length s.ol.c,.int .i64 x.aA.spent,.int .i64 x.res.seq,.int .i64 x.res.cs,.int .i64 x.res.code,.int .i64 x.res.value,.bool x.fR,.bool x.waits,.bool x.iN]
def rnT(c:bA)(A:Option Addr)(n k g:Nat)(t:Int)(r:Rn)(o:Sl):List Value:=[c.kind,c.threads,c.chans,c.cap,c.nodes,c.aL,c.aF,c.tags,c.bG,c.bt,.slice A n k,.pointer g,t,r.note,r.fR,.slice o.A r.ops.length o.c]
theorem Rw(c:bA)(A:Option Addr)(n k g:Nat)(t:Int)(r:Rn)(s:Sh)(o:Sl):bw c A n k g t r s o=(iK r.k s++rnT c A n k g t r o).toArray:=rfl
theorem fT.aw(h:fT p w w1)(i:Nat)(vs:List Value):fT p w (aw w1 p i vs):=⟨ax (aV _) vs _ i h.1,fun b c a=>(aO a vs i).trans (h.2 b c a)⟩
theorem af.whole{w:World}{g:Nat}(h:af w p 176 (bw c A n k g t r s o))(x:Tk)(s':Sh):af (aw w p 0 (iK x s')) p 176 (bw c A n k g t {r with k:=x} s' o):=by rw[Rw]at h;have:=dL (iK x s') w 0 _ h;rw[Bc _ _ _ (by rfl)]at this;exact this
theorem jm(g:Nat):∀(a:List Value) (w:World) (i:Nat),w.setCells g i a=aw w g i a
 |[],_,_=>rfl
 |_::a,w,i=>by rw[World.setCells];exact jm g a _ (i+1)
theorem af.there{g:Nat}{a:TypeId}{cs:Array Value}(h:af w g a cs)(i j:Nat)(e:i+j<=cs.size):w.there g i j:=fun x b=>⟨by rw[h.cell (i+x),Array.getElem?_eq_getElem aa];rfl,h.free _⟩
theorem eK(x:Tk)(s:Sh):(iK x s).toArray.all (·.oneCell')=true:=all_oneCell_toArray (List.all_eq_true.1 (by rfl))
theorem cE.after{e:Ending}(h:cE X p c A n k t m q r' w1 e w')(hA:fT p w w1):cE X p c A n k t m q r' w e w':=cE.then (hA.fr m) h
theorem vG(H:RN w X p c A n k t m q r s o)(u:0<=r.k.round)(x:r.k.round<=1000000000):Calls prog 156 #[.pointer p] w (cE X p c A n k t m q (Rn.fail c r) w):=by
 obtain⟨g,l,j⟩:=af.aM H.blk;unfold bw at g;have b:=ae H;clear H;have d:Rn.fail c r=Rn.again c {r with k:={r.k with round:=r.k.round+1,found:=[]}}:=rfl;rw[d];have a:=ae (fun i (h:RN i X p c A n k t m q {r with k:={r.k with round:=r.k.round+1,found:=[]}} {s with fo:=ek} o)=>zf h);clear d;go_enter func156,ntmps156;go_wp2_with fail;go_fit (a _ ?_)
 ·exact RN.leaf b {s with fo:=ek} o {b.tk with fo:=ru.nil _ _ _,lf:=aV _} b.op rfl
 ·rintro e v ⟨rfl,(f:Hid _)⟩;go_wp2;go_end0;refine cE.after ⟨rfl,f⟩ ?_;exact Tb
theorem pB(H:RN w X p c A n k t m q r s o)(f:0<=r.k.i)(g:r.k.i<=1000000000):Calls prog 162 #[.pointer p] w (cE X p c A n k t m q (Rn.ee c r) w):=by
 obtain⟨a,e,d⟩:=af.aM H.blk;unfold bw at a;have HH:=ae H;clear H;by_cases hi:r.k.i+1=c.threads
 ·have hE:Rn.ee c r={r with k:={r.k with i:=0,bS:=0,pc:=11}}:=by unfold Rn.ee;rw[au hi]
  rw[hE];have b:(r.k.i+1==c.threads)=true:=by rw[hi];exact beq_self_eq_true _
  exact Yc
 ·have hE:Rn.ee c r={r with k:={r.k with i:=r.k.i+1,pc:=8}}:=by unfold Rn.ee;rw[ah hi]
  rw[hE];have b:(r.k.i+1==c.threads)=false:=by rw[di];exact hi
  exact Yc
theorem qR(H:RN w X p c A n k t m q r s o):Calls prog 182 #[.pointer (some ⟨p,0,none⟩)] w (cE X p c A n k t m q r.finish w):=by
 obtain⟨b,g,h⟩:=af.aM H.blk;unfold bw at b;have a:=ae H;clear H;have f:RN (w.setCell ⟨p,47,none⟩ (.int .i64 3)) X p c A n k t m q {r with note:=3} s o:=RN.leaf a s o {a.tk with} a.op rfl;have d:fT p w (w.setCell ⟨p,47,none⟩ (.int .i64 3)):=(fT.refl _ _).set _ _;go_enter func182,ntmps182;go_wp2_with fail;clear b g h a;generalize w.setCell ⟨p,47,none⟩ (.int .i64 3)=i at *;obtain⟨b,g,h⟩:=af.aM f.blk;unfold bw at b;obtain⟨a,j⟩:=av f d;clear f d;go_still_tail 24,(by kernel_rfl)
 change wpList _ _ _ _ _ i.drew;refine wpList_store_mid rfl 50 _ _ rfl p 0 (iK (eY 0 r.k.seq r.k.aN r.k.aA r.k.res false) {cs:=s.cs,bf:=ek,nx:=ek,ar:=ek,fo:=ek,se:=ek,fr:=s.fr,ol:=s.ol}).toArray rfl rfl (af.there (af.kv a.blk) 0 34 (by show 34<=50;decide)) (by kernel_rfl) (eK _ _) ?_;rw[jm];clear b g;generalize e:aw i.drew p 0 (iK (eY 0 r.k.seq r.k.aN r.k.aA r.k.res false) {cs:=s.cs,bf:=ek,nx:=ek,ar:=ek,fo:=ek,se:=ek,fr:=s.fr,ol:=s.ol}).toArray.toList=u;have l:=ae e;clear e;go_wp2;go_end0;rw[<-l.Y];refine cE.after ?_ j;apply cE.at_ (s':={cs:=s.cs,bf:=ek,nx:=ek,ar:=ek,fo:=ek,se:=ek,fr:=s.fr,ol:=s.ol}) (o':=o) a;case hA=>exact(fT.refl _ _).drew.aw _ _
 case hK=>exact af.whole (af.kv a.blk) _ _
 case he=>rfl
 case hL=>rfl
 case tk=>exact⟨a.tk.cs,dx.nil _ _ _ _,dx.nil _ _ _ _,dx.nil _ _ _ _,ru.nil _ _ _,dx.nil _ _ _ _,a.tk.fr,a.tk.ol,aV _,aV _,aV _,aV _,a.tk.lr,a.tk.lo⟩
 case op=>exact a.op
end
section
variable{w:World} {X:Nat->Prop} {p:Nat} {c:Mo.bA} {A:Option Addr} {n k:Nat} {t:Int} {m:Mm} {q:Nat} {r:Mo.Rn} {s:Sh} {o:Sl} {w1:World} {N:Int}
theorem wV.tk{x:Tk}{P:Pl}(h:nU w1 S x s)(a:aH w1 w 200 2 fI (.slice A1 P.free.length n1) P.free)(d:aH w1 w 203 3 km (.slice B1 P.old.length m1) P.old)(l:∀b,w.heap.size<=b->b<w1.heap.size->S b)(x':Tk)(u:x'={x with aA:=P}):nU w1 S x' {s with fr:=⟨A1,n1⟩,ol:=⟨B1,m1⟩}:=by subst u;exact{h with fr:=⟨a.zX.2,fun f c e=>by subst c;exact l _ (aX a rfl).1 (aX a rfl).2⟩,ol:=⟨d.zX.2,fun f c e=>by subst c;exact l _ (aX d rfl).1 (aX d rfl).2⟩,lr:=a.cap.2,lo:=d.cap.2}
theorem RN.pls(H:RN w X p c A n k t m q r s o)(a:PB N r.k.aA)(d:N<=100000):PC w r.k.aA s.fr.A s.fr.c s.ol.A s.ol.c:=⟨H.tk.lr,H.tk.lo,H.tk.fr.1,H.tk.ol.1,by have:=a.len;have:=a.sp;omega,by have:=a.len;have:=a.sp;omega⟩
theorem RX.gR(h:af w p 176 arr)(m:Mm)(lo hi:Nat)(a:Obj):RX w p m lo hi (w.alloc a).drew:=((RX.start h m lo hi).alloc a)
def wj(w:World)(P:Pl)(b:Bool)(d e:Value)(a:World):Prop :=∃g A1 n1 B1 m1,d=.pointer (some ⟨g,0,none⟩)/\e=b/\af a g 39 #[P.own.ix,P.own.tag,.slice A1 P.free.length n1,.slice B1 P.old.length m1,P.spent]/\w.heap.size<=g/\Below w w a/\aH a w 200 2 fI (.slice A1 P.free.length n1) P.free/\aH a w 203 3 km (.slice B1 P.old.length m1) P.old
theorem wj.last{P:Pl}{b:Bool}(a:Below w w w1)(d:aH w1 w 200 2 fI (.slice A1 P.free.length n1) P.free)(e:aH w1 w 203 3 km (.slice B1 P.old.length m1) P.old) :
 wj w P b (.pointer w1.heap.size) b (w1.alloc (rD P.own.ix P.own.tag A1 P.free.length n1 B1 P.old.length m1 P.spent)) :=
 ⟨_,A1,n1,B1,m1,rfl,rfl,af.new _ _ _,a.size,ak a _,d.alloc _,e.alloc _⟩
theorem wj.mid{P:Pl}{b:Bool}{e f l u z:Value}(d:af w1 w 39 #[e,f,l,u,z])(E:Below w w w1)(C:aH w1 w 200 2 fI (.slice A1 P.free.length n1) P.free)(D:aH w1 w 203 3 km (.slice B1 P.old.length m1) P.old) :
 wj w P b (.pointer w.heap.size) b (iI w1 w P.own.ix P.own.tag (.slice A1 P.free.length n1) (.slice B1 P.old.length m1) P.spent) :=
 ⟨_,A1,n1,B1,m1,rfl,rfl,ja d _ _ _ _ _,aS _,fL E (aS _) _ _ _ _ _,dZ C d ag _ _ _ _ _,dZ D d ag _ _ _ _ _⟩
theorem Bn(H:RN w X p c A n k t m q r s o)(l:PB N r.k.aA)(Z:N<=100000):Calls prog 153 #[.pointer p] w (cE X p c A n k t m q (Rn.take c r) w):=by
 have B:=ae (fun D (K:Below w w D)=>PG D r.k.aA s.fr.A s.fr.c s.ol.A s.ol.c c.tags ((H.more K).pls l Z) l.TV (fun x K=>(l.free x K).2.2.2) l.sp (by have:=l.len;have:=l.sp;omega));unfold lZ at B;obtain⟨L,j⟩:=aG (jA r.k.aA c.tags);rw[<-j]at B;obtain⟨d,u⟩:=av j H;have V:=H.lt;clear H j;obtain⟨O,qQ,lz,jd⟩:=u.FJ 0 0;unfold bw at O;go_enter func153,ntmps153;go_wp2;go_cut[2,3] (fun s2 s3 D=>wj w L.1 L.2 s2 s3 D);case first =>
  go_region_held3(RX w p m 0 0) (with_reducible(repeat(first|assumption|exact RX.start u.Y.blk _ _ _|exact RX.gR u.Y.blk _ _ _ _|refine RX.alloc ?_ _|refine RX.bO ?_ (aS _) _ _))) (((with_reducible refine(B.Y _ (by first|exact(aj w).drew|exact(ak (aj w) _).drew)).mono ?_);rintro e w1 ⟨v,rfl,A1,n1,B1,m1,rfl,P,Q,f⟩;unfold lZ;have kX:=RX.below (by assumption) f;have y:=ai (by first|exact(aj w).drew|exact(ak (aj w) _).drew:Below w w _) f;(try(have C:=(af.dr (af.new w _ _)).ai f;have aq:=fun i=>af.cell C i;have a6:=fun i=>af.free C i;have a7:=C.lt))));all_goals
   go_wp2;go_meet;first
    |with_reducible exact wj.last y (P.bD aD) (Q.bD aD)
    |(change wj _ _ _ _ _ (iI w1 w _ _ _ _ _);with_reducible exact wj.mid C y (P.bD aD) (Q.bD aD))
 case rest =>
  obtain⟨g,A1,n1,B1,m1,rfl,rfl,G,hg,I,z,F⟩:=hcut;obtain⟨a,W⟩:=L;dsimp only at G z F ⊢;obtain⟨HB,HR⟩:=av I (u.more I);have oL:Hid (nU wc (Im wc X p m) {r.k with aA:=a} {s with fr:=⟨A1,n1⟩,ol:=⟨B1,m1⟩}):=wV.tk HR.tk z F (fun b Y z=>Im.fresh u Y z) _ rfl;obtain⟨E,HRF,T⟩:=aZ (fun M (h:RN M X p c A n k t m q {r with k:={r.k with aA:=a,iN:=false}} {s with fr:=⟨A1,n1⟩,ol:=⟨B1,m1⟩} o)=>zf h) (fun M (h:RN M X p c A n k t m q {r with k:={r.k with aA:=a}} {s with fr:=⟨A1,n1⟩,ol:=⟨B1,m1⟩} o)=>EM h) G;have bg:p<g:=aa;obtain⟨dC,-,gO⟩:=af.aM T;obtain⟨U,bp,a8⟩:=af.aM HR.blk;unfold bw at U;clear O qQ lz jd V G hg I z F B;rcases W with _|_
  ·by_cases R:0<a.old.length
   ·have J:(0:Int)<(a.old.length:Int):=aa;rcases S:r.k.iN with _|_
    ·have hE:Rn.take c r={r with k:={r.k with aA:=a,iN:=true,pc:=24}}:=by unfold Rn.take;rw[<-d.Y];dsimp only;rw[ah ag,au ⟨R,S⟩]
     have HE:=ae hE;clear hE;go_wp2;go_end0;rw[HE.Y];refine cE.then (cu.ext HB p m) ?_;exact cE.leaf HR {s with fr:=⟨A1,n1⟩,ol:=⟨B1,m1⟩} o {oL with} HR.op rfl
    ·have hE:Rn.take c r=Rn.refuse {r with k:={r.k with aA:=a}}:=by unfold Rn.take;rw[<-d.Y];dsimp only;rw[ah ag,ah (fun h=>by rw[S]at h;cases h.2)]
     exact ac0
   ·have J:¬(0:Int)<(a.old.length:Int):=aa;have hE:Rn.take c r=Rn.refuse {r with k:={r.k with aA:=a}}:=by unfold Rn.take;rw[<-d.Y];dsimp only;rw[ah ag,ah (fun h=>R h.1)]
    exact ac0
  ·have hE:Rn.take c r=Rn.again c {r with k:={r.k with aA:=a,iN:=false}}:=by unfold Rn.take;rw[<-d.Y];dsimp only;rw[au rfl]
   have HE:=ae hE;clear hE;go_wp2_with fail;go_fit (E _ ?_)
   ·exact RN.leaf HR {s with fr:=⟨A1,n1⟩,ol:=⟨B1,m1⟩} o {oL with} HR.op rfl
   ·rintro e w3 ⟨rfl,(HX:Hid _)⟩;go_wp2;go_end0;rw[HE.Y];refine cE.then (cu.ext HB p m) (cE.after ⟨rfl,HX⟩ ?_);exact Tb
end
section
variable{w:World} {X:Nat->Prop} {p:Nat} {c:Mo.bA} {A:Option Addr} {n k:Nat} {t:Int} {m:Mm} {q:Nat} {r:Mo.Rn} {s:Sh} {o:Sl} {w1:World} {N:Int}
theorem RX.rd{wx:World}{lo hi:Nat}(h:RX w p m lo hi wx)(H:RN w X p c A n k t m q r s o):bJ wx .i64 A c.start:=(H.cf.same fun b a=>h.eq b a.1 a.2.1 a.2.2.1).1
theorem mf(H:RN w X p c A n k t m q r s o)(l:PB N r.k.aA)(j:N<=100000):Calls prog 179 #[.pointer p] w (cE X p c A n k t m q (Rn.cB c r) w):=by
 have h:=ae (Bn H l j);obtain⟨g,u,i⟩:=af.aM H.blk;unfold bw at g;have b:=ae H;clear H;rcases d:r.k.iN with _|_
 ·have a:Rn.cB c r=r.pc 28:=by unfold Rn.cB;rw[ah (by rw[d];decide)]
  rw[a];clear a;go_enter func179,ntmps179;go_wp2;go_end0;exact cE.leaf b s o {b.tk with} b.op rfl
 ·have a:Rn.cB c r=Rn.take c r:=by unfold Rn.cB;rw[au d]
  rw[a];clear a;go_enter func179,ntmps179;go_wp2_with fail;refine h.mono ?_;rintro e x ⟨rfl,(f:Hid _)⟩;go_wp2;exact bodyPost_ret (v:=.tuple #[]) (by simp[results,results179,go_sem]) rfl ⟨rfl,f⟩
theorem sF(H:RN w X p c A n k t m q r s o):Calls prog 176 #[.pointer p] w (cE X p c A n k t m q (Rn.owned c r) w):=by
 obtain⟨d,HD,Ra⟩:=aZ (qR H) (H.more (aj w).drew) (ri w.drew r.k.aA s.fr.A s.fr.c s.ol.A s.ol.c c.aL);unfold lZ at Ra;obtain⟨aB,bp,aW⟩:=af.aM H.blk;unfold bw at aB;have f:=ae H;clear H;rcases a:r.k.waits with _|_
 ·rcases hnb:Mo.needs r.k.aA c.aL with _|_
  ·have hE:Rn.owned c r=r.pc 28:=by unfold Rn.owned;rw[ah (by rw[a];decide),ah (by rw[hnb];decide)]
   exact ac1
  ·have hE:Rn.owned c r=r.pc 24:=by unfold Rn.owned;rw[ah (by rw[a];decide),au hnb]
   exact ac1
 ·have hE:Rn.owned c r=r.finish:=by unfold Rn.owned;rw[au a]
  rw[hE];clear hE;go_enter func176,ntmps176;go_wp2_with fail;refine d.mono ?_;rintro e g ⟨rfl,(b:Hid _)⟩;go_wp2;go_end0;exact⟨rfl,b⟩
theorem jY(H:RN w X p c A n k t m q r s o)(d a:Int)(B:0<=d)(C:d<=70000):Calls prog 157 #[.pointer p,.agg #[d,a]] w fun e w'=>e=.returned (bu c d)/\Below w w w':=by
 have h:Hid (Below w w (w.alloc (.cells #[d,a] 35)).drew):=(ak (aj w) _).drew;obtain⟨u,i⟩:=av (qB (w.alloc (.cells #[d,a] 35)).drew H.cs.eN H.cs.n ((H.more h).cf.1) (k:=k) d B C) (H.more (ak (aj w) (.cells #[d,a] 35)));have f:Hid (af (w.alloc (.cells #[d,a] 35)) w.heap.size 35 #[d,a]):=af.new _ _ _;clear H;go_enter func157,ntmps157;go_wp2_with fail;generalize w.heap.size=g at f ⊢;generalize w.alloc (.cells #[d,a] 35)=l at *;obtain⟨j,-,v⟩:=af.aM i.blk;obtain⟨y,-,z⟩:=af.aM f;unfold bw at j;go_still_tail 6,(by kernel_rfl)
 change wpList _ _ _ _ _ l.drew;clear j v y z i f;generalize l.drew=E at *;go_wp2_with fail;refine u.mono ?_;rintro e D ⟨rfl,b⟩;have x:=ae (ai h b);clear b;go_wp2;go_ret;exact⟨rfl,x⟩
end
section
variable{w:World} {X:Nat->Prop} {p:Nat} {c:Mo.bA} {A:Option Addr} {n k:Nat} {t:Int} {m:Mm} {q:Nat} {r:Mo.Rn} {s:Sh} {o:Sl} {w1:World} {N:Int}
theorem Bo(H:RN w X p c A n k t m q r s o):Calls prog 159 #[.pointer p] w fun e w'=>e=.returned (bn c)/\Below w w w':=by
 have x:=size_le H.cs.eN;have I:=H.cs.th;have u:=(Mo.aK H.cs.eN).1.1;obtain⟨d,l⟩:∃v,v=bu c 1:=⟨_,rfl⟩
 obtain⟨b,a⟩:∃v,v=bu c 0:=⟨_,rfl⟩
 obtain⟨h,g⟩:=av (fun f (j:Ext w f)=>qB f H.cs.eN H.cs.n ((H.more j.Y).cf.1) (k:=k) 1 (by decide) (by decide)) (fun f (j:Ext w f)=>qB f H.cs.eN H.cs.n ((H.more j.Y).cf.1) (k:=k) 0 (by decide) (by decide));rw[<-l]at h;rw[<-a]at g;have y:d-b-1=bn c:=by rw[l,a];unfold bu;omega
 have D:0<=b/\b<=100000:=by rw[a];unfold bu;omega
 have E:0<=d/\d<=100000:=by rw[l];unfold bu;omega
 have L:IntKind.i64.wrap (d-b)=d-b:=cD _ (by omega);have M:IntKind.i64.wrap (d-b-1)=d-b-1:=cD _ (by omega);obtain⟨z,B⟩:=av y H;have C:=fun f (j:Ext w f) i=>af.cell (B.Y.more j.Y).blk i;unfold bw at C;clear H l a y x I u D E;go_enter func159,ntmps159;go_wp2;go_region_held3(Ext w) (with_reducible(repeat(first|assumption|exact Ext.start _|exact Ext.gR _ _|refine Ext.alloc ?_ _))) (first
  |((with_reducible go_fit (h.Y _ (by assumption)));rintro e N ⟨rfl,F⟩;have J:=Ext.to (by assumption) F)
  |((with_reducible go_fit (g.Y _ (by assumption)));rintro e O ⟨rfl,G⟩;have K:=Ext.to (by assumption) G))
 all_goals
  go_wp2;go_ret;refine⟨by rw[<-z.Y];rfl,?_⟩;first
   |with_reducible exact J.Y
   |with_reducible exact K.Y
theorem vH(H:RN w X p c A n k t m q r s o)(l:List Int)(D:Option Addr)(u I:Nat)(Q:u=l.length)(R:(l.length:Int)=bn c)(P:fE l)(O:bJ w .u64 D l)(i:Int)(K:0<=i)(M:i<c.threads) :
 Calls prog 160 #[.pointer p,.slice D u I,i] w fun e w'=>e=.returned (.agg #[.int .i64 (eT c l i).seq,.int .i64 (eT c l i).cs,.int .i64 (eT c l i).code,.int .i64 (eT c l i).value])/\Below w w w':=by
 obtain⟨j,rfl⟩:=Int.eq_ofNat_of_zero_le K
 have d:Hid (Below w w (w.alloc jo)):=ak (aj w) _
 have z:Hid (af (w.alloc jo) w.heap.size 48 #[oZ,oZ,oZ,oZ]):=af.new _ _ _
 have C:=ae (vB _ H.cs.eN H.cs.n ((H.more d).cf.1) (k:=k) l D u I Q R (O.below d) j M)
 have y:=tH c P j
 have f:=ae (fun wx=>lq wx (jq c l j) y.1 y.2)
 rw[show rS (jq c l j)=(eT c l j).seq from rfl,show rC (jq c l j)=(eT c l j).cs from rfl,show rO (jq c l j)=(eT c l j).code from rfl,show rV (jq c l j)=(eT c l j).value from rfl]at f
 generalize eT c l j=x at f ⊢
 have E:=ae (H.more d)
 clear y H Q R P O K M
 go_enter func160,ntmps160
 go_upto_region 1 with fail
 obtain⟨g,L⟩:=aG w.heap.size
 have T:w.heap.size<=g:=aa
 rw[<-L]at z ⊢
 generalize(w.alloc jo)=w0 at *
 obtain⟨F,-,U⟩:=af.aM E.blk
 unfold bw at F
 clear L
 go_wp2_with fail
 refine C.mono ?_
 rintro e w1 ⟨rfl,a⟩
 obtain⟨G,J⟩:=av (ai d a) (z.ai a)
 clear a F U E z C d
 go_wp2_with fail
 go_fit (f _)
 rintro e S ⟨rfl,b⟩
 obtain⟨V,N⟩:=av (ai G b) (J.ai b)
 clear b J G f
 obtain⟨W,h,gO⟩:=af.aM N
 go_wp2_with fail
 have Z:=aQ (vs:=[x.seq,x.cs,x.code,x.value]) N rfl
 have gv:=ax (B:=w.heap.size) (g:=g) T [x.seq,x.cs,x.code,x.value] _ 0 V
 change bodyPost _ _ _ _ _ (aw S g 0 [x.seq,x.cs,x.code,x.value])
 clear W h gO
 generalize aw S g 0 [x.seq,x.cs,x.code,x.value]=wz at *
 have Y:=fun i=>af.cell Z i
 refine bodyPost_ret (v:=.agg #[x.seq,x.cs,x.code,x.value]) ?_ rfl ⟨rfl,gv⟩
 simp[results,results160,go_sem,Y]
theorem rv(H:RN w X p c A n k t m q r s o)(x:Int)(B:uj x):Calls prog 183 #[.pointer p,.int .u64 x] w fun e w'=>e=.returned (kf r.k x)/\Below w w w':=by
 have f:=ae (lq w x B.1 B.2);rw[show rS x=(cL x).seq from rfl,show rC x=(cL x).cs from rfl,show rO x=(cL x).code from rfl,show rV x=(cL x).value from rfl]at f;have F:=ae (fun N=>Ay N (cL x).seq (cL x).cs (cL x).code (cL x).value);obtain⟨y,C⟩:=aG (cL x);have j:Hid (kf r.k x=(y.seq==r.k.seq && Om y.code)):=by unfold Hid kf;rw[C];rfl
 rw[<-C]at f F;have G:=ae H;clear H B C;by_cases v:y.seq=r.k.seq
 ·have z:(y.seq==r.k.seq)=true:=by rw[v];exact beq_self_eq_true _
  have D:Hid (kf r.k x=Om y.code):=by unfold Hid;rw[j.Y,z];rfl
  clear v j;go_enter func183,ntmps183;go_wp2_with fail;refine f.mono ?_;rintro e d ⟨rfl,a⟩;obtain⟨l,i⟩:=av (G.more (ak a (qX y.seq y.cs y.code y.value))) (ak a (qX y.seq y.cs y.code y.value));have b:Hid (af (d.alloc (qX y.seq y.cs y.code y.value)) d.heap.size 48 #[y.seq,y.cs,y.code,y.value]):=af.new _ _ _;clear a f;go_upto_region 2 with fail
  generalize d.heap.size=g at b ⊢;generalize(d.alloc (qX y.seq y.cs y.code y.value))=E at *;obtain⟨u,-,I⟩:=af.aM l.blk;obtain⟨J,-,K⟩:=af.aM b;unfold bw at u;go_still_tail 10,(by kernel_rfl)
  change wpList _ _ _ _ _ E.drew;have L:=ae i.drew;clear u I J K l b i;generalize E.drew=P at *;go_wp2_with fail;go_fit (F _);rintro e O ⟨rfl,h⟩;have M:=ae (ai L h);clear h;go_wp2;go_ret;exact⟨by rw[D.Y];rfl,M⟩
 ·have z:(y.seq==r.k.seq)=false:=by rw[di];exact v
  have D:Hid (kf r.k x=false):=by unfold Hid;rw[j.Y,z];rfl
  clear v j;go_enter func183,ntmps183;go_wp2_with fail;refine f.mono ?_;rintro e d ⟨rfl,a⟩;obtain⟨l,i⟩:=av (G.more (ak a (qX y.seq y.cs y.code y.value))) (ak a (qX y.seq y.cs y.code y.value));have b:Hid (af (d.alloc (qX y.seq y.cs y.code y.value)) d.heap.size 48 #[y.seq,y.cs,y.code,y.value]):=af.new _ _ _;clear a f;go_upto_region 2 with fail
  generalize d.heap.size=g at b ⊢;generalize(d.alloc (qX y.seq y.cs y.code y.value))=E at *;obtain⟨u,-,I⟩:=af.aM l.blk;obtain⟨J,-,K⟩:=af.aM b;unfold bw at u;go_quiet(fail);go_wp2;go_ret;exact⟨by rw[D.Y];rfl,bV i _⟩
end
section
variable{w:World} {X:Nat->Prop} {p:Nat} {c:Mo.bA} {A:Option Addr} {n k:Nat} {t:Int} {m:Mm} {q:Nat} {r:Mo.Rn} {s:Sh} {o:Sl} {N:Int}
theorem dO(d:aU c=true){i:Int}(e:0<=i)(f:i<c.threads):(0<=lJ c i/\lJ c i<bB c)/\(0<=iq c i/\iq c i<bB c)/\(0<=nL c i/\nL c i<bB c)/\(0<=bZ c i/\bZ c i<bB c)/\∀j:Int,0<=j->j<5->0<=iY c i+j/\iY c i+j<bB c:=by
 have b:=ot d;have g:=lA d (i:=cN c) aa aa;have a:bB c=bu c (cN c):=by unfold bB;rw[ah (by rw[d];decide)]
 rw[a];unfold bu lJ iq nL bZ iY;refine⟨aa,aa,aa,aa,fun j _ _=>by omega⟩
theorem mS(a:aU c=true){i:Int}(e:0<=i)(f:i<cN c):(0<=bu c i/\bu c i<bB c)/\∀j:Int,0<=j->j<bn c->0<=bu c i+1+j/\bu c i+1+j<bB c:=by
 have g:=ot a;have h:=lA a (i:=i) aa aa;have k:=size_le a;have n:=(Mo.aK a).1.1;have b:bB c=bu c (cN c):=by unfold bB;rw[ah (by rw[a];decide)]
 have d:bu c (cN c)=bu c i+(cN c-i)*(1+bn c):=by unfold bu;rw[Int.sub_mul];omega
 have l:1*(1+bn c)<=(cN c-i)*(1+bn c):=Int.mul_le_mul_of_nonneg_right aa aa;rw[b,d];have m:0<=bu c i:=by unfold bu;omega
 refine⟨aa,fun j _ _=>by omega⟩
theorem ky{x:Int}(a:0<=x)(d:x<=4611686018427387904):IntKind.i64.wrap x=x:=cD _ aa
theorem VU(H:RN w X p c A n k t m q r s o)(d:RB c N r)(j:N<=100000)(g:q<=900000)(e:r.k.pc=1):Calls prog 108 #[.pointer p] w (cE X p c A n k t m (q+1) (Rn.enter c t r) w):=by
 have HL:=ae (cQ H g 1 ag);have a:=(d.L.at_ 1).1;have b:=d.g;have f:Rn.enter c t r={r with k:={r.k with fW:=ay r.L 1,pc:=2}}:=by unfold Rn.enter;rw[au e]
 rw[f];generalize ay r.L 1=x at HL a b ⊢;have h:IntKind.i64.wrap x=x:=ky a aa;obtain⟨aB,bp,aW⟩:=af.aM H.blk;unfold bw at aB;have HH:=ae H;clear H;rw[e]at aB;clear f e d;go_enter func108,ntmps108;exact ac2
theorem VV(H:RN w X p c A n k t m q r s o)(e:RB c N r)(f:q<=900000)(d:r.k.pc=3):Calls prog 108 #[.pointer p] w (cE X p c A n k t m (q+1) (Rn.enter c t r) w):=by
 have HL:=ae (cQ H f 0 ag);have a:=e.L.at_ 0;have b:Rn.enter c t r={r with k:={r.k with base:=(g9 (ay r.L 0)).1,pc:=4}}:=by unfold Rn.enter;rw[ah aa,ah aa,au d]
 rw[b];generalize ay r.L 0=x at HL a ⊢;have lX:=ae (fun g=>Aw g x a.1 a.2);obtain⟨aB,bp,aW⟩:=af.aM H.blk;unfold bw at aB;have HH:=ae H;clear H;rw[d]at aB;clear b d e a;go_enter func108,ntmps108;exact ac3
theorem VW(H:RN w X p c A n k t m q r s o)(d:RB c N r)(G:N<=100000)(J:q<=900000)(j:r.k.pc=2):Calls prog 108 #[.pointer p] w (cE X p c A n k t m (q+1) (Rn.enter c t r) w):=by
 have v:=d.k.ep;have u:=(dO H.cs.eN H.cs.t0 H.cs.t1).2.2.1;have x:Rn.enter c t r=Rn.take c (r.store (nL c t) (ig r.k.fW)):=by unfold Rn.enter;rw[ah (by omega),au j]
 rw[x];have y:=ae (fun wx=>tV wx H.cs.eN A k n t H.cs.t0 (by have:=H.cs.t1;have:=H.cs.th;omega));have D:Hid (∀wx,Calls prog 152 #[r.k.fW] wx fun e Q=>e=.returned (.int .u64 (ig r.k.fW))/\wx=Q):=fun wx=>by exact Yd
 obtain⟨f,P,HH⟩:=aZ (fun wx (h:RN wx X p c A n k t m q r s o)=>fu h J (nL c t) (ig r.k.fW) u.1 u.2) (fun wx O (h:RN wx X p c A n k t O (q+1) (r.store (nL c t) (ig r.k.fW)) s o)=>Bn h d.k.aA G) H;have T:=H.more (aj w).drew;have F:=ae (fun wx R (h:RN wx X p c A n k t m q r s o) (I:Below wx wx R)=>h.more I);have S:=H.lt;have E:=HH.Y.cx;unfold bw at E;have g:=fun i=>af.cell HH.Y.blk i;unfold bw at g;rw[j]at g;clear x j d H u v;go_enter func108,ntmps108;go_wp2_with fail;clear g;go_region_held3(RX w p m 0 0) (exact gj) (first
  |((with_reducible go_fit (y.Y _));rintro e W ⟨rfl,a⟩;have L:=RX.below (by assumption) a;have M:=F.Y _ _ (by assumption) a)
  |((with_reducible go_fit (D.Y _));rintro e Y ⟨rfl,rfl⟩)
  |((with_reducible go_fit (f.Y _ (by assumption)));rintro e Z ⟨rfl,U,l,b⟩;have K:=RX.acc (by assumption) HH.Y.blk b (l.kept b rfl)))
 all_goals
  obtain⟨B,z⟩:=av l (((cu.ext (aj w).drew p m).trans (cu.ext a p m)).trans b);clear L M K l b a;go_wp2_with fail;go_fit (P.Y _ _ B.Y);rintro e V ⟨rfl,(C:Hid _)⟩;go_wp2;go_end0;exact cE.then z.Y ⟨rfl,C.Y⟩
theorem VX(H:RN w X p c A n k t m q r s o)(z:q<=900000)(f:r.k.pc=4):Calls prog 108 #[.pointer p] w (cE X p c A n k t m (q+1) (Rn.enter c t r) w):=by
 have l:=(dO H.cs.eN H.cs.t0 H.cs.t1).2.1;have v:Rn.enter c t r=(r.store (iq c t) (bF r.k.base)).pc 5:=by unfold Rn.enter;rw[ah (by omega),ah (by omega),ah (by omega),au f]
 rw[v];have x:=ae (fun a=>qz a H.cs.eN A k n t H.cs.t0 (by have:=H.cs.t1;have:=H.cs.th;omega));have y:Hid (∀a,Calls prog 103 #[.agg #[r.k.base.ix,r.k.base.tag]] a fun e B=>e=.returned (.int .u64 (bF r.k.base))/\Below a a B):=fun a=>gI a _ _;obtain⟨d,HH⟩:=av (fun a (h:RN a X p c A n k t m q r s o)=>fu h z (iq c t) (bF r.k.base) l.1 l.2) H;obtain⟨D,C,u,b,aW⟩:=H.cK;have aT:=HH.Y.cx;unfold bw at aT;have aB:=fun i=>af.cell HH.Y.blk i;unfold bw at aB;rw[f]at aB;clear v f H l;go_enter func108,ntmps108;go_wp2_with fail;clear aB;go_region_held3(RX w p m 0 0) (exact gj) (first
  |((with_reducible go_fit (x.Y _));rintro e M ⟨rfl,g⟩;have G:=RX.below (by assumption) g;have I:=u.Y _ _ (by assumption) g;have K:=b.Y _ _ (by assumption) g)
  |((with_reducible go_fit (y.Y _));rintro e N ⟨rfl,j⟩;have J:=RX.below (by assumption) j;have P:=u.Y _ _ (by assumption) j;have L:=b.Y _ _ (by assumption) j)
  |((with_reducible go_fit (d.Y _ (by assumption)));rintro e O ⟨rfl,F,hC,fC⟩;have E:=RX.acc (by assumption) HH.Y.blk fC (hC.kept fC rfl);have eG:=cu.trans (by assumption) fC))
 exact aaO
theorem VY(H:RN w X p c A n k t m q r s o)(E:RB c N r)(V:N<=100000)(I:q<=900000)(f:r.k.pc=5):Calls prog 108 #[.pointer p] w (cE X p c A n k t m (q+1) (Rn.enter c t r) w):=by
 have K:=E.k.round;have C:Rn.enter c t r=if ay r.L 0≠bF r.k.base then Rn.fail c r else r.pc 6:=by unfold Rn.enter;rw[ah (by omega),ah (by omega),ah (by omega),ah (by omega),au f]
 rw[C];obtain⟨x,g⟩:∃x,x=ay r.L 0:=⟨_,rfl⟩
 obtain⟨y,j⟩:∃y,y=bF r.k.base:=⟨_,rfl⟩
 rw[<-g, <-j];have z:Hid (∀a,Calls prog 103 #[.agg #[r.k.base.ix,r.k.base.tag]] a fun e P=>e=.returned (.int .u64 y)/\Below a a P):=fun a=>by
  rw[j]
  exact gI a _ _
 have l:=ae (fun a (h:RN a X p c A n k t m q r s o)=>cQ h I 0 (by decide));rw[<-g]at l;have HH:=ae H;have U:=H.more (aj w).drew;have B:=ae (fun a S (h:RN a X p c A n k t m q r s o) (G:Below a a S)=>h.more G);have aW:=H.lt;have aT:=HH.Y.cx;unfold bw at aT;have aB:=fun i=>af.cell HH.Y.blk i;unfold bw at aB;rw[f]at aB;clear C f H g j;by_cases d:x=y
 ·have O:(x !=y)=false:=by rw[d];exact bne_self_eq_false _
  rw[ah (fun h=>h d)];clear d;go_enter func108,ntmps108;go_wp2_with fail;clear aB;go_region_held3(RX w p m 0 0) (exact gj) (first
   |((with_reducible go_fit (z.Y _));rintro e Q ⟨rfl,b⟩;have M:=RX.below (by assumption) b;(try have T:=B.Y _ _ (by assumption) b))
   |((with_reducible go_fit (l.Y _ (by assumption)));rintro e R ⟨rfl,u,hC,fC⟩;have J:=RX.acc (by assumption) HH.Y.blk fC (hC.kept fC rfl)))
  all_goals
   first
    |(have HF:=ae (((cu.ext (aj w).drew p m).trans (cu.ext b p m)).trans fC);have HR:=ae hC)
    |(have HF:=ae (((cu.ext (aj w).drew p m).trans fC).trans (cu.ext b p u));have HR:=ae (hC.more b))
   exact Ye
 ·have O:(x !=y)=true:=by rw[bne_iff_ne];exact d
  rw[au d];clear d;have D:=ae (fun a L (h:RN a X p c A n k t L (q+1) r s o)=>vG h K.1 (by omega));go_enter func108,ntmps108;go_wp2_with fail;clear aB;go_region_held3(RX w p m 0 0) (exact gj) (first
   |((with_reducible go_fit (z.Y _));rintro e Q ⟨rfl,b⟩;have M:=RX.below (by assumption) b;(try have T:=B.Y _ _ (by assumption) b))
   |((with_reducible go_fit (l.Y _ (by assumption)));rintro e R ⟨rfl,u,hC,fC⟩;have J:=RX.acc (by assumption) HH.Y.blk fC (hC.kept fC rfl)))
  all_goals
   first
    |(have HF:=ae (((cu.ext (aj w).drew p m).trans (cu.ext b p m)).trans fC);have HR:=ae hC)
    |(have HF:=ae (((cu.ext (aj w).drew p m).trans fC).trans (cu.ext b p u));have HR:=ae (hC.more b))
   clear hC fC aT aW;go_wp2_with fail;go_fit (D.Y _ _ HR.Y);rintro e W ⟨rfl,(F:Hid _)⟩;go_wp2;exact bodyPost_ret (v:=.tuple #[]) (by simp[results,results108,go_sem]) rfl (cE.then HF.Y ⟨rfl,F.Y⟩)
theorem IC(H:RN w X p c A n k t m q r s o)(d:RB c N r)(e:N<=100000)(a:q<=900000)(f:1<=r.k.pc)(g:r.k.pc<=5):Calls prog 108 #[.pointer p] w (cE X p c A n k t m (q+1) (Rn.enter c t r) w):=by
 rcases(by omega:r.k.pc=1\/r.k.pc=2\/r.k.pc=3\/r.k.pc=4\/r.k.pc=5)with h|h|h|h|h
 ·exact VU H d e a h
 ·exact VW H d e a h
 ·exact VV H d a h
 ·exact VX H a h
 ·exact VY H d e a h
end
theorem Bp{P:Prop}(h:P:=by with_reducible(repeat(first|assumption|exact Ext.start _|exact Ext.gR _ _|refine Ext.alloc ?_ _|refine Ext.set ?_ (by simp;try omega)))):P:=h
section
variable(w:World) {c:Mo.bA} {A:Option Addr} {k n:Nat}
end
section
variable(w:World) {c:Mo.bA} {A:Option Addr} {k n:Nat}
theorem MU:Calls prog 36 #[] w fun e w'=>∃A k,e=.returned (zF xN A 2 k)/\bJ w' .i64 A [0,1]/\Below w w w':=by
 go_enter func36,ntmps36;go_wp2;refine bodyPost_ret (v:=?_) ?_ rfl ?_;rotate_left
 ·simp[results,results36,go_sem];rfl
 ·refine⟨some ⟨w.heap.size+1,0,none⟩,2,rfl,?_,ak (ak (aj _) _) _⟩;exact Rd.Di _ [oZ,.int .i64 1] 3 aD
end
end Go.Proofs.YtjcjjiieblineaaGreat
