/- Walks and plain facts. No condition. -/
import Derived.Test.YtjcjjiieblineaaGreatPx
import Derived.Test.YtjcjjiieblineaaGreatPz
namespace Go.Proofs.YtjcjjiieblineaaGreat
open Go.RowKit Go.Proofs.Tryz Mo
set_option maxHeartbeats 8000000
set_option maxRecDepth 100000
set_option linter.all false
variable {k i t j b x0:Nat}{v v':Value}{l':List Int}
attribute [local instance] NZ
section
variable{w:World} {x0:Nat} {A:Option Addr} {n k q:Nat} {x:Mo.Mc} {s:Sx}
theorem Kq(H:MS w x0 A n k q x s)(c:x.L≠[])(b:Bool):Calls prog 16 #[.pointer x0,b] w fun e f=>e=.returned (.tuple #[])/\zQ x0 A n k q x w s f:=by
 obtain⟨i,g,a⟩:=aZ (rz H) (Qj w 0 s.m.g s.m.vl s.m.vg s.m.vc x.L s.m.G s.m.C s.m.kp b H.mem.mv c) H;obtain⟨l,-,-⟩:=af.aM H.blk;unfold nW at l;clear H;go_enter func16,ntmps16;go_wp2_with fail;refine i.mono ?_;rintro e f ⟨rfl,rfl⟩;go_wp2_with fail;refine g.mono ?_;rintro e r ⟨rfl,(j:Hid _)⟩;go_wp2;go_end0;obtain⟨d,p,m,h2,h3,h4,h5⟩:=j.Y;have F:cu w r w s.m ⟨s.m.g,s.m.vl,d,p,s.m.G,s.m.C,b⟩:=by exact acW
 obtain⟨o,hF⟩:=a.Ke F (aS _) (L:=x.L) (q':=q) ⟨m,a.mem.gl,a.mem.cl⟩;exact⟨rfl,_,o,hF⟩
end
def PlE(x:Mc)(n i:Nat)(w:World)(e:Ending)(a:World):Prop:=∃x0 A k q s,q<=i/\e=.returned (.pointer (some ⟨x0,0,none⟩))/\MS a x0 A n k q x s/\Below w w a/\∀b,s.U x0 b->w.heap.size<=b
section
variable{w:World} {A:Option Addr} {n k:Nat} {c:Mo.bA}
theorem zv(l:aU c=true)(y:c.threads<=4)(B:bB c<=1048576)(u:n=c.start.length)(x:bJ w .i64 A c.start):Calls prog 15 #[zF c A n k] w (PlE (iA c) n 0 w):=by
 obtain⟨d,f⟩:∃d,d=w.alloc (dV c A n k):=⟨_,rfl⟩
 have j:Hid (Below w w d):=by rw[f];exact ak (aj w) _
 have L:Hid (af d w 24 #[c.kind,c.threads,c.chans,c.cap,c.nodes,c.aL,c.aF,c.tags,c.bG,c.bt,.slice A n k]):=by rw[f];exact af.new _ _ _
 obtain⟨a,t⟩:=av (Si (w:=d) (k:=k) l y B u (x.below j)) f;have i:Hid ((iA c).L≠[]):=by intro e;have h:=(Pz l).good;rw[e]at h;exact absurd h (by decide)
 unfold zF at a ⊢;obtain⟨m,-,o⟩:=af.aM L;clear f x u l B y;go_enter func15,ntmps15;go_upto_region 1 with fail
 rw[<-t.Y];clear t;go_wp2_with fail;refine a.mono ?_;rintro e M ⟨v,C,H,s,rfl,q,p,r⟩;obtain⟨g,E⟩:=av (Kq q i true) (ai j p);have D:Hid (∀b,s.U v b->w.heap.size<=b):=fun b h=>bq j.size (r b h);clear q p r m o;go_wp2_with fail;refine g.mono ?_;rintro e N ⟨rfl,J,(I:Hid _),z⟩;have K:=ae z;clear z;go_wp2;go_ret;obtain⟨F,G⟩:=gw.below E K D;exact⟨v,C,H,0,J,aS _,rfl,I,F,G⟩
def Wv(c:bA)(f:Nat->Ev):Nat->Mc
 |0=>iA c
 |j+1=>(sM (Wv c f j) (f j)).1
theorem Su(a:aU c=true)(d:c.threads<=4)(e:bB c<=1048576)(f:Nat->Ev):∀j,j<=1500->Fg j (Wv c f j)/\(Wv c f j).c=c
 |0,_=>⟨Fg.new a d e,rfl⟩
 |j+1,h1=>by
  obtain⟨b,g⟩:=Su a d e f j (by omega)
  exact⟨b.next (by omega) _,(Sf _).trans g⟩
end
attribute [local instance] NZ
def Ww(j:Nat):Ev:=if j=0 then⟨2,0,jB 2 8 0,0,[]⟩else if j<=100 then⟨1,0,nN,0,[]⟩else if j=101 then⟨2,1,jB 1 8 7,0,[]⟩else⟨1,1-((j%2:Nat):Int),nN,0,[]⟩
def awM(j:Nat):Mc:=Wv xN Ww j
def awB(x:Mc):Bool:=Og x && decide (x.N.length=5) && ((x.N.getD 1 ⟨0,0,0,0,nN,dD⟩).kind==2) && ((bm x 0).res.value==7) && ((bm x 1).res.code==0) && decide (x.V.length=2)
theorem adB:awB (awM 302)=true:=by decide+kernel
theorem adC(j:Nat)(a:j<=1500):Fg j (awM j)/\(awM j).c=xN:=Su (by decide+kernel) (by decide) (by decide+kernel) Ww j a
theorem Sv(j:Nat):(Ww j).outs=[]:=by
 unfold Ww;repeat' split
 all_goals rfl
theorem Wx(j:Nat):(Ww j).aN.cases.length<=1:=by
 unfold Ww;repeat' split
 all_goals first|exact aS 1|exact aV 1
def Wy(w:World)(a:Nat)(A:Option Addr)(k j:Nat)(wr:World):Prop:=Below w w wr/\∃q s,q<=j/\MS wr a A 2 k q (awM j) s/\∀b,s.U a b->w.heap.size<=b
theorem Fg.cp{x:Mc}(h:Fg i x)(r:i<=25000)(d:t<x.T.length):CpB (bm x t):=by have a:=h.B.at_ d;have m:=size_le h.B.eN;have c:=a.a.T2;have e:=a.a.abv;have f:=a.a.OL;have g:=a.a.found;have j:=a.a.tF;have k:=a.a.aA.len;have l:=a.a.aA.sp;exact⟨bq (h.C.at_ t) (by decide),by omega,by omega,by omega,by omega,by omega,fun o b=>bq (a.b.cs o b) (by decide),by omega,by omega⟩
section
variable{w:World}
theorem xJ(d h v:Int):Calls prog 19 #[d,h,v] w fun e a=>∃s,e=.returned (.agg (mW (jB d h v) s).toArray)/\sB w a (jB d h v) s/\Below w w a:=by
 go_enter func19,ntmps19;go_wp2;refine bodyPost_ret (v:=?_) ?_ rfl ?_;rotate_left
 ·simp[results,results19,go_sem];rfl
 ·exact acX
theorem Kr{A:Option Addr}{wr:World}(J:j<=1400)(H:Wy w x0 A k j wr){a:World}(o:Below wr wr a)(e:Ev)(l:Ww j=e)(z:Sl)(C:dG a (fun b=>wr.heap.size<=b/\b<a.heap.size) bC z.A e.aN.cases) :
 Calls prog 17 #[.pointer (some ⟨x0,0,none⟩),.agg #[.int .i64 e.kind,.int .i64 e.th,.int .i64 e.aN.kind,.int .i64 e.aN.arg,.int .i64 e.aN.value,.bool e.aN.dflt,.slice z.A e.aN.cases.length z.c,.int .i64 e.fp,.slice none 0 0]] a fun r i=>(∃v,r=.returned (.int .i64 v))/\Wy w x0 A k (j+1) i:=by
 obtain⟨f,q,s,I,d,y⟩:=H
 obtain⟨n,p⟩:=adC j (by omega)
 have c:=Sv j
 have B:=Wx j
 rw[l]at c B
 have m:=d.more o
 have x:∀b,wr.heap.size<=b/\b<a.heap.size->s.I a x0 b:=fun b f=>⟨f.2,fun h=>by have:=d.ul (.inr h);omega,fun h=>by have:=d.ul (.inl h);omega,fun h=>by have:=(d.ol b h).1;omega⟩
 have h:=YK m e z ⟨none,0⟩ (n.Wp (by omega) (by rw[p];rfl) I e) (C.mono x) (by omega) (by rw[c];exact bJ.nil _ _ _) (by rw[c];decide) (by rw[c];exact aS _)
 unfold Sb at h
 rw[c]at h
 go_fit h
 rintro r i ⟨rfl,E,D,F,g,G⟩
 obtain⟨t,u⟩:=gw.below (ai f o) G y
 refine⟨⟨_,rfl⟩,t,E,F,by omega,?_,u⟩
 rw[<-l]at g
 exact g
theorem BB(w:World):Calls prog 10 #[] w fun e H=>e=.returned true/\Below w w H:=by
 obtain⟨Cw,xk⟩:=av (MU w) (fun(l:World) (A:Option Addr) (k:Nat) (h:bJ l .i64 A [0,1])=>zv (w:=l) (A:=A) (k:=k) (n:=2) (c:=xN) (by decide+kernel) (by decide) (by decide+kernel) rfl h);go_enter func10,ntmps10;go_wp2_with fail;go_fit Cw.Y;rintro e w1 ⟨A,k,rfl,hr,(br:Hid _)⟩;have P:=ae (xk.Y w1 A k hr);clear hr Cw xk;go_wp2_with fail;go_fit P.Y;rintro e w2 ⟨u,x,F,q,s,X,rfl,J,hB,W⟩;have K:Hid (Wy w u x F 0 w2):=⟨ai br.Y hB,q,s,X,J,fun b h=>bq br.Y.size (W b h)⟩
 clear X J hB W br P;go_wp2_with fail;go_fit (xJ 2 8 0);rintro e w3 ⟨z,rfl,R,f⟩;have HD:=ae (Kr (by omega) K.Y f ⟨2,0,jB 2 8 0,0,[]⟩ rfl z R.1);dsimp only at HD;clear R f K;unfold mW;go_wp2_with fail;go_fit HD.Y;rintro e w4 ⟨⟨v,rfl⟩,(N:Hid _)⟩;clear HD;go_wp2;go_loopw[2] (fun i wr=>∃j:Nat,j<=100/\i=j/\Hid (Wy w u x F (1+j) wr)) (fun i _=>100-(intOf i).toNat);case atStart=>exact⟨0,aV _,rfl,N⟩
 case round =>
  clear N;obtain⟨j,hj,rfl,C⟩:=hrel;by_cases a7:j<100
  ·have HD:Hid (Calls prog 17 #[.pointer (some ⟨u,0,none⟩),.agg #[.int .i64 1,.int .i64 0,.int .i64 0,.int .i64 0,.int .i64 0,.bool false,.slice none 0 0,.int .i64 0,.slice none 0 0]] wr fun r H=>(∃v,r=.returned (.int .i64 v))/\Wy w u x F (1+j+1) H):=Kr (by omega) C.Y (aj wr) ⟨1,0,nN,0,[]⟩ (by unfold Ww;rw[ah (by omega),au (by omega)]) ⟨none,0⟩ (dG.nil _ _ _ _);exact YP
  ·have O:Hid (Wy w u x F 101 wr):=by
    have:j=100:=by omega
    subst this;exact C
   clear C
   go_wp2_with fail
   go_fit (xJ 1 8 7)
   rintro e w3 ⟨z,rfl,R,f⟩
   have HD:=ae (Kr (by omega) O.Y f ⟨2,1,jB 1 8 7,0,[]⟩ rfl z R.1)
   dsimp only at HD
   clear R f O
   unfold mW
   go_wp2_with fail
   go_fit HD.Y
   rintro e w4 ⟨⟨v,rfl⟩,h⟩
   have N:=ae h
   clear h HD
   go_wp2
   go_loopw[3] (fun i wr=>∃j:Nat,j<=200/\i=j/\Hid (Wy w u x F (102+j) wr)) (fun i _=>200-(intOf i).toNat)
   case atStart=>exact⟨0,aV _,rfl,N⟩
   case round =>
    clear N;obtain⟨j,hj,rfl,C⟩:=hrel;by_cases a7:j<200
    ·have HD:Hid (Calls prog 17 #[.pointer (some ⟨u,0,none⟩),.agg #[.int .i64 1,.int .i64 (1-(j:Int)%2),.int .i64 0,.int .i64 0,.int .i64 0,.bool false,.slice none 0 0,.int .i64 0,.slice none 0 0]] wr fun r H=>(∃v,r=.returned (.int .i64 v))/\Wy w u x F (102+j+1) H):=Kr (by omega) C.Y (aj wr) ⟨1,1-(j:Int)%2,nN,0,[]⟩ (by
      unfold Ww;rw[ah (by omega),ah (by omega),ah (by omega)];congr 1;omega) ⟨none,0⟩ (dG.nil _ _ _ _)
     exact YP
    ·have O:Hid (Wy w u x F 302 wr):=by
      have:j=200:=by omega
      subst this;exact C
     clear C
     obtain⟨f,q,s,X,J,W⟩:=O.Y
     obtain⟨p,b2⟩:=adC 302 (by decide)
     have Y:=adB
     obtain⟨y,E⟩:∃y,y=awM 302:=⟨_,rfl⟩
     rw[<-E]at J p b2 Y
     clear E
     unfold awB at Y
     simp only[cA,bP,beq_iff_eq]at Y
     obtain⟨⟨⟨⟨⟨k1,G⟩,k3⟩,k4⟩,k5⟩,k6⟩:=Y
     have aq:y.T.length=2:=by have:=p.B.T;rw[b2]at this;have h2:xN.threads=2:=rfl;omega
     have Q:y.P.length=y.T.length:=by have:=p.B.P;have:=p.B.T;omega
     have I:=ae (fun l (f:Below wr wr l)=>J.more f)
     obtain⟨M,Hu,NC,fP,NP⟩:=dh (fun l f=>R4 (I.Y l f) (m:=5) G.symm (by decide) (fun y E=>bq (p.C.N y E) (by decide))) (fun l f=>Wr (I.Y l f) (by omega) Q p.B.QZ) (fun l f=>(CU (I.Y l f) (t:=0) (by omega) (p.cp (by decide) (by omega))).mono fun e H h=>h) (fun l f=>(CU (I.Y l f) (t:=1) (by omega) (p.cp (by decide) (by omega))).mono fun e H h=>h) (fun l f=>E6 (I.Y l f) (m:=2) k6.symm (by decide) (fun y E=>⟨bq (p.C.V y E).1 (by decide),fun o U=>bq ((p.C.V y E).2 o U) (by decide)⟩))
     rw[k1]at Hu
     obtain⟨HB,ub,Cv,zG,L⟩:=dh f k3 k4 k5 G
     clear f X J W p b2 k1 G k3 k4 k5 k6 aq Q I O
     go_wp2_with fail
     go_fit (M.Y wr (aj wr))
     rintro e w2 ⟨B,d,rfl,U,(bE:Hid _)⟩
     obtain⟨g,d',hv,pS,S⟩:=aI.form U (by intro e;have:=L.Y;rw[e]at this;cases this)
     injection hv with zJ hv2 hv3
     subst zJ hv3
     obtain⟨nt,D⟩:∃nt,y.N[1]?=some nt:=⟨_,cY (by have:=L.Y;omega)⟩
     obtain⟨r,⟨z9,rfl,_⟩,_,V⟩:=aI.at_ U D
     have T:nt.kind=2:=by have:=ub.Y;rw[cZ,D]at this;exact this
     have Z:w2.cell? ⟨g,13,none⟩=some (.int .i64 2):=by rw[<-T];exact V 0 _ rfl
     have SH:=ae Z
     clear hv2 D V T Z U M pS S
     go_wp2_with fail
     go_fit (Hu.Y w2 bE.Y)
     rintro e w3 ⟨rfl,f⟩
     have cM:=ae (ai bE.Y f)
     have Z:=(Below.cell f (bb SH.Y)).trans SH.Y
     clear f SH Hu
     go_wp2_with fail
     go_fit (NC.Y w3 cM.Y)
     rintro e w4 ⟨s4,rfl,f⟩
     have gC:=ae (ai cM.Y f)
     obtain⟨T0,yS⟩:∃T0,T0=iK (bm y 0) s4:=⟨_,rfl⟩
     rw[<-yS]
     have hf:∀w,(Instr.field 50 (.agg T0.toArray) 18).run prog w=.ok (.agg #[.int .i64 (bm y 0).res.seq,.int .i64 (bm y 0).res.cs,.int .i64 (bm y 0).res.code,.int .i64 7]) w:=fun w=>by rw[yS, <-Cv.Y];rfl
     have a6:∀(a b c d:Value) w,(Instr.field 48 (.agg #[a,b,c,d]) 3).run prog w=.ok d w:=fun _ _ _ _ _=>rfl
     clear f NC Z yS
     go_wp2_with fail
     go_fit (fP.Y w4 gC.Y)
     rintro e w5 ⟨s5,rfl,f⟩
     have je:=ae (ai gC.Y f)
     obtain⟨T1,qN⟩:∃T1,T1=iK (bm y 1) s5:=⟨_,rfl⟩
     rw[<-qN]
     have hg:∀w,(Instr.field 50 (.agg T1.toArray) 18).run prog w=.ok (.agg #[.int .i64 (bm y 1).res.seq,.int .i64 (bm y 1).res.cs,oZ,.int .i64 (bm y 1).res.value]) w:=fun w=>by rw[qN, <-zG.Y];rfl
     have S:∀(a b c d:Value) w,(Instr.field 48 (.agg #[a,b,c,d]) 2).run prog w=.ok c w:=fun _ _ _ _ _=>rfl
     clear f fP qN hf a6
     go_wp2_with fail
     go_fit (NP.Y w5 je.Y)
     rintro e w6 ⟨B6,d6,rfl,-,f⟩
     have xe:=ae (ai HB.Y (ai je.Y f))
     clear f NP
     go_wp2
     go_ret
     exact⟨rfl,xe.Y⟩
end
theorem MS.Sw{c d:Nat->Prop}{w a:World}{A:Option Addr}{n q:Nat}{x:Mc}{s:Sx}(H: @MS ⟨c⟩ w x0 A n k q x s)(y:Below 0 w a)(r:∀b,b<w.heap.size->¬c b->a.heap[b]?=w.heap[b]?)(l:∀b,d b->b<a.heap.size/\(c b\/w.heap.size<=b)): @MS ⟨d⟩ a x0 A n k q x s:=by
 letI:OW:=⟨c⟩
 have p:Sm (@Sx.I ⟨c⟩ s w x0) w a:=fun b h=>r b h.1 h.2.2.2;have o:∀b, @Sx.I ⟨c⟩ s w x0 b-> @Sx.I ⟨d⟩ s a x0 b:=fun b h=>⟨bL h.1 y.size,h.2.1,h.2.2.1,fun e=>(l b e).2.elim h.2.2.2 fun e=>by have:=h.1;omega⟩
 have f:∀b,s.U x0 b->a.heap[b]?=w.heap[b]?:=fun b h=>r b (H.ul h) fun e=>(H.ol b e).2 h;have i:∀{α:Type} {e:TypeId} {m:Nat} {P:sU α} {v:Value} {t:List α},Good P->(∀b,v.ownBlock=some b->s.U x0 b)->aI e m P w 0 (@Sx.I ⟨c⟩ s w x0) v t->aI e m P a 0 (@Sx.I ⟨d⟩ s a x0) v t:=fun g z h=>(h.move g p fun b j=>f b (z b j)).mono g o;exact @MS.mk ⟨d⟩ _ _ _ _ _ _ _ _ (af.rM H.blk (f x0 (.inl (.inl rfl)))) (H.mem.same fun b h=>f b (.inr h)) (i kz (fun b h=>.inl (.inr (.inl h))) H.T) (i lN (fun b h=>.inl (.inr (.inr (.inl h)))) H.P) (i fx (fun b h=>.inl (.inr (.inr (.inr (.inl h))))) H.N) (i iL (fun b h=>.inl (.inr (.inr (.inr (.inr (.inl h)))))) H.V) (cJ H.S fun b h=>f b (.inl (.inr (.inr (.inr (.inr (.inr (.inl h)))))))) (cJ H.M fun b h=>f b (.inl (.inr (.inr (.inr (.inr (.inr (.inr h)))))))) H.mx H.sm ((H.cf.same p).mono o) H.hn (fun b e=>⟨(l b e).1,fun u=>(l b e).2.elim (fun h=>(H.ol b h).2 u) fun h=>by have:=H.ul u;omega⟩)
def Dh(w:World)(a:Nat)(A:Option Addr)(k N:Nat)(O:Nat->Prop)(i:Nat)(x:Mc)(wr:World):Prop:=Below w w wr/\Fg i x/\N=x.c.start.length/\∃q s,q<=i/\ @MS ⟨O⟩ wr a A N k q x s/\∀b,s.U a b->w.heap.size<=b
section
variable{w wr wx:World} {x0:Nat} {A:Option Addr} {k N i:Nat} {O:Nat->Prop} {x:Mo.Mc}
theorem Dh.more(H:Dh w x0 A k N O i x wr)(a:Below wr wr wx):Dh w x0 A k N O i x wx:=by
 letI:OW:=⟨O⟩
 obtain⟨b,c,d,q,s,e,f,g⟩:=H;exact⟨ai b a,c,d,q,s,e,f.more a,g⟩
theorem Dh.Sw{a:Nat->Prop}(H:Dh w x0 A k N O i x wr)(h:Below 0 wr wx)(n:Below w w wx)(m:∀b,b<wr.heap.size->¬O b->wx.heap[b]?=wr.heap[b]?)(l:∀b,a b->b<wx.heap.size/\(O b\/wr.heap.size<=b)):Dh w x0 A k N a i x wx:=by
 letI:OW:=⟨O⟩
 obtain⟨j,c,d,q,s,e,f,g⟩:=H;exact⟨n,c,d,q,s,e,f.Sw h m l,g⟩
theorem Dh.lt(H:Dh w x0 A k N O i x wr)(e:O b):b<wr.heap.size:=by
 letI:OW:=⟨O⟩
 obtain⟨c,d,f,q,s,g,a,h⟩:=H;exact(a.ol b e).1
theorem YQ(F:i<=25000)(H:Dh w x0 A k N O i x wr)(u:Below wr wr wx)(e:Ev)(z o:Sl)(I:dG wx (fun b=>wr.heap.size<=b/\b<wx.heap.size) bC z.A e.aN.cases)(M:e.aN.cases.length<=100)(f:bJ wx .i64 o.A e.outs)(G:e.outs.length<=100)(y:e.outs.length<=o.c) :
 Calls prog 17 #[.pointer (some ⟨x0,0,none⟩),.agg (Sb e z o).toArray] wx fun r c=>r=.returned (.int .i64 (sM x e).2)/\Dh w x0 A k N O (i+1) (sM x e).1 c/\Below 0 wx c/\∀b,b<wx.heap.size->O b\/wr.heap.size<=b->c.heap[b]?=wx.heap[b]?:=by
 letI:OW:=⟨O⟩
 obtain⟨B,j,l,q,s,C,a,D⟩:=H
 have n:=a.more u
 have E:∀b,wr.heap.size<=b/\b<wx.heap.size-> @Sx.I ⟨O⟩ s wx x0 b:=fun b d=>⟨d.2,fun h=>by have:=a.ul (.inr h);omega,fun h=>by have:=a.ul (.inl h);omega,fun h=>by have:=(a.ol b h).1;omega⟩
 go_fit (YK n e z o (j.Wp F l C e) (I.mono E) (by omega) f (by omega) y)
 rintro r c ⟨rfl,K,J,L,p,g⟩
 obtain⟨t,v⟩:=gw.below (ai B u) g D
 exact⟨rfl,⟨t,j.next (by omega) e,by rw[Sf];exact l,K,L,by omega,p,v⟩,g.jH,fun b d f=>g.same b d fun m=>f.elim (fun h=>(a.ol b h).2 m) fun h=>by have:=a.ul m;omega⟩
theorem Wz(H:Dh w x0 A k N O i x wr)(d:i<=25000)(a:t<x.T.length):Calls prog 14 #[.pointer (some ⟨x0,0,none⟩),t] wr fun e g=>∃f,e=.returned (.agg (iK (bm x t) f).toArray)/\Below wr wr g:=by
 letI:OW:=⟨O⟩
 obtain⟨h,b,j,q,s,l,c,m⟩:=H;exact CU c a (b.cp d a)
end
attribute [local instance] NZ
def TeO(c a:Nat)(rows:List Value)(b:Nat):Prop:=b=c\/b=a\/∃v∈rows,v.ownBlock=some b
structure CW (w:World) (b0 gg ge:Nat) (rows:List Value) (got:List (List Int)) (ended:List Bool):Prop where
 gb:af w gg 22 rows.toArray
 eb:af w ge 4 (ended.map Value.bool).toArray
 rl:rows.length=got.length
 rd:∀(i:Nat) v l,rows[i]?=some v->got[i]?=some l->aJ w b0 3 .i64 v l
 ne:∀(i j:Nat) u v b,rows[i]?=some u->rows[j]?=some v->u.ownBlock=some b->v.ownBlock=some b->i=j
 l1:b0<=gg
 l2:b0<=ge
section
variable{w w':World} {b0 gg ge:Nat} {rows:List Value} {got:List (List Int)} {ended:List Bool}
theorem CW.same(H:CW w b0 gg ge rows got ended)(a:∀b,TeO gg ge rows b->w'.heap[b]?=w.heap[b]?):CW w' b0 gg ge rows got ended:=⟨af.rM H.gb (a _ (.inl rfl)),af.rM H.eb (a _ (.inr (.inl rfl))),H.rl,fun i v l c e=>cJ (H.rd i v l c e) fun b d=>a b (.inr (.inr ⟨v,dB c,d⟩)),H.ne,H.l1,H.l2⟩
theorem CW.fit(H:CW w b0 gg ge rows got ended)(e:rows[i]?=some v):∃l,got[i]?=some l/\aJ w b0 3 .i64 v l:=by
 have a:i<got.length:=by rw[<-H.rl];exact(List.getElem?_eq_some_iff.1 e).1
 exact⟨_,cY a,H.rd i v _ e (cY a)⟩
theorem CW.bO(H:CW w b0 gg ge rows got ended)(f:rows[i]?=some v)(e:v.ownBlock=some b):b<w.heap.size/\b≠gg/\b≠ge:=by obtain⟨l,-,h⟩:=H.fit f;obtain⟨d,c,a⟩:=eh h b e;exact⟨(aX h e).2,eB a H.gb (by decide),eB a H.eb (by decide)⟩
theorem CW.gge(H:CW w b0 gg ge rows got ended):gg≠ge:=eB H.gb H.eb (by decide)
theorem CW.end_(H:CW w b0 gg ge rows got ended)(j:Nat)(b:Bool):CW (w.setCell ⟨ge,j,none⟩ (.bool b)) b0 gg ge rows got (ended.set j b):=by refine⟨H.gb.bO H.gge _,?_,H.rl,fun i v l a d=>cJ (H.rd i v l a d) fun b c=>dp _ _ _ b (H.bO a c).2.2,H.ne,H.l1,H.l2⟩;have:=H.eb.bj j (.bool b);rw[List.map_set];simpa using this
theorem CW.WA(H:CW w b0 gg ge rows got ended)(r:rows[j]?=some v)(C:aJ w' b0 3 .i64 v' l')(x:w.grownBy w' v.ownBlock)(q:v'.ownBlock=v.ownBlock\/v'.ownBlock=some w.heap.size):CW (w'.setCell ⟨gg,j,none⟩ v') b0 gg ge (rows.set j v') (got.set j l') ended:=by
 have B:∀b,b=gg\/b=ge->some b≠v.ownBlock:=fun b e h=>e.elim (H.bO r h.symm).2.1 (H.bO r h.symm).2.2;have n:=H.gb.grown x (B gg (.inl rfl));have t:=H.eb.grown x (B ge (.inr rfl));have y:∀b,v'.ownBlock=some b->b≠gg:=fun b g=>(eh C b g).elim fun _ h=>h.elim fun _ h=>eB h n (by decide);refine⟨?_,t.bO H.gge.symm _,by rw[cq,cq];exact H.rl,fun i u m d f=>?_,fun z A u1 u2 b c a p s=>?_,H.l1,H.l2⟩
 ·have:=n.bj j v';simpa using this
 ·rw[List.getElem?_set]at d f;split at d
  ·rename_i e;rw[au e]at f;split at d
   ·injection d with d
    split at f
    ·injection f with f
     rw[<-d, <-f];exact cJ C fun b g=>dp _ _ _ b (y b g)
    ·cases f
   ·cases d
  ·rename_i e;rw[ah e]at f;exact cJ (H.rd i u m d f) fun b g=>(dp _ _ _ b (H.bO d g).2.1).trans (x.block b (H.bO d g).1 fun h=>e (H.ne j i v u b r d h.symm g))
 ·rw[List.getElem?_set]at c a;have o:∀(i:Nat) u,¬j=i->rows[i]?=some u->u.ownBlock=some b->v'.ownBlock=some b->False:=fun i u e h c a=>by
   rcases q with q|q
   ·exact e (H.ne j i v u b r h (q▸a) c)
   ·have:=(H.bO h c).1;rw[q]at a;injection a with a
    omega
  by_cases k:j=z<;>by_cases l:j=A
  ·exact k.symm.trans l
  ·rw[ah l]at a;rw[au k]at c;split at c
   ·injection c with c
    exact(o A u2 l a s (c▸p)).elim
   ·cases c
  ·rw[ah k]at c;rw[au l]at a;split at a
   ·injection a with a
    exact(o z u1 k c p (a▸s)).elim
   ·cases a
  ·rw[ah k]at c;rw[ah l]at a;exact H.ne z A u1 u2 b c a p s
end
def sZ(w:World)(l:Nat)(A:Option Addr)(k n e a i:Nat)(s:Pr)(wr:World):Prop:=s.x.c=cg n/\∃rows,Dh w l A k (1+n) (TeO e a rows) i s.x wr/\CW wr w e a rows s.got s.ended
section
variable{w wr wx w1:World} {x0:Nat} {A:Option Addr} {k n i gg ge:Nat} {s:Mo.Pr}
theorem sZ.Wp(H:sZ w x0 A k n gg ge i s wr)(q:i<=25000)(l:Below wr wr wx)(e:Ev)(z o:Sl)(B:dG wx (fun b=>wr.heap.size<=b/\b<wx.heap.size) bC z.A e.aN.cases)(u:e.aN.cases.length<=100)(y:bJ wx .i64 o.A e.outs)(f:e.outs.length<=100)(m:e.outs.length<=o.c) :
 Calls prog 17 #[.pointer (some ⟨x0,0,none⟩),.agg (Sb e z o).toArray] wx fun r d=>r=.returned (.int .i64 (sM s.x e).2)/\sZ w x0 A k n gg ge (i+1) {s with x:=(sM s.x e).1} d:=by
 obtain⟨p,rows,a,j⟩:=H
 go_fit (YQ q a l e z o B u y f m)
 rintro r d ⟨rfl,g,t,h⟩
 exact⟨rfl,(Sf _).trans p,rows,g,j.same fun b c=>(h b (bL (a.lt c) l.size) (.inl c)).trans (l.block b (a.lt c))⟩
theorem sZ.more(H:sZ w x0 A k n gg ge i s wr)(e:Below wr wr wx):sZ w x0 A k n gg ge i s wx:=by obtain⟨d,rows,a,c⟩:=H;exact⟨d,rows,a.more e,c.same fun b h=>e.block b (a.lt h)⟩
theorem sZ.end_(H:sZ w x0 A k n gg ge i s wr)(j:Nat)(b:Bool):sZ w x0 A k n gg ge i {s with ended:=s.ended.set j b} (wr.setCell ⟨ge,j,none⟩ (.bool b)):=by obtain⟨a,rows,d,f⟩:=H;exact⟨a,rows,d.Sw ((Below.refl 0 wr).setCell (p:=⟨ge,j,none⟩) (aV _) _) (d.1.setCell (p:=⟨ge,j,none⟩) f.l2 _) (fun c _ a=>dp _ _ _ c fun e=>a (.inr (.inl e))) fun c a=>⟨by have:=d.lt a;simpa using this,.inl a⟩,f.end_ j b⟩
theorem sZ.WA{rows:List Value}(B:s.x.c=cg n)(m:Dh w x0 A k (1+n) (TeO gg ge rows) i s.x wx)(x:CW wx w gg ge rows s.got s.ended)(r:rows[j]?=some v)(y:aJ w1 w 3 .i64 v' l')(q:wx.grownBy w1 v.ownBlock)(f:v'.ownBlock=v.ownBlock\/v'.ownBlock=some wx.heap.size):sZ w x0 A k n gg ge i {s with got:=s.got.set j l'} (w1.setCell ⟨gg,j,none⟩ v'):=by
 obtain⟨l,-,t⟩:=x.fit r;have d:Below 0 wx w1:=t.bh (Below.refl 0 wx) q (aV _) (aV _);have z:Below w w w1:=t.bh m.1 q m.1.size (aS _);refine⟨B,rows.set j v',m.Sw (d.setCell (p:=⟨gg,j,none⟩) (aV _) _) (z.setCell (p:=⟨gg,j,none⟩) x.l1 _) (fun b a o=>(dp _ _ _ b fun e=>o (.inl e)).trans (q.block b a fun e=>o (.inr (.inr ⟨v,dB r,e.symm⟩)))) (fun b a=>?_),x.WA r y q f⟩;have c:TeO gg ge rows b->b<(w1.setCell ⟨gg,j,none⟩ v').heap.size/\(TeO gg ge rows b\/wx.heap.size<=b):=fun h=>⟨by have:=bL (m.lt h) d.size;simpa using this,.inl h⟩
 rcases a with a|a|⟨u,g,a⟩
 ·exact c (.inl a)
 ·exact c (.inr (.inl a))
 ·rcases List.mem_or_eq_of_mem_set g with g|g
  ·exact c (.inr (.inr ⟨u,g,a⟩))
  ·subst g;rcases f with f|f
   ·exact c (.inr (.inr ⟨v,dB r,f▸a⟩))
   ·refine⟨by have:=(aX y a).2;simpa using this,.inr ?_⟩;rw[f]at a;injection a with a
    omega
theorem sZ.cell(H:sZ w x0 A k n gg ge i s wr)(j:Nat)(b:Bool)(f:s.ended[j]?=some b):wr.cell? ⟨ge,j,none⟩=some (.bool b):=by obtain⟨-,rows,c,a⟩:=H;rw[a.eb.cell j];simp[f]
theorem sZ.tl(H:sZ w x0 A k n gg ge i s wr):s.x.T.length=2+n:=by obtain⟨b,rows,a,c⟩:=H;have:=a.2.1.B.T;rw[b]at this;have h:(cg n).threads=2+n:=rfl;omega
theorem sZ.task(H:sZ w x0 A k n gg ge i s wr)(f:i<=25000)(l:t<2+n):Calls prog 14 #[.pointer (some ⟨x0,0,none⟩),t] wr fun e c=>∃b,e=.returned (.agg (iK (bm s.x t) b).toArray)/\Below wr wr c:=by have h:=H.tl;obtain⟨g,rows,a,d⟩:=H;exact Wz a f (by omega)
theorem sZ.aa1{x:Mc}(e:Dh w x0 A k (1+n) (fun _=>False) i x wr)(C:x.c=cg n)(m:Below wr wr wx)(r:af wx gg 22 (madeCells (Value.slice none 0 0).cells n))(q:af wx ge 4 (madeCells (Value.bool false).cells n))(y:wr.heap.size<=gg)(B:wr.heap.size<=ge):sZ w x0 A k n gg ge i ⟨x,0,List.replicate n [],List.replicate n false⟩ wx:=by
 have a:madeCells (Value.slice none 0 0).cells n=(List.replicate n (Value.slice none 0 0)).toArray:=by have:=vz (f:=fun v:Value=>[v]) (fun _=>rfl) Nat.one_pos (.slice none 0 0) n;rw[Nat.mul_one]at this;rw[<-Array.toList_inj];exact this.trans (by simp)
 have g:madeCells (Value.bool false).cells n=((List.replicate n false).map Value.bool).toArray:=by have:=vz (f:=fun v:Value=>[v]) (fun _=>rfl) Nat.one_pos (.bool false) n;rw[Nat.mul_one]at this;rw[<-Array.toList_inj,List.map_replicate];exact this.trans (by simp)
 have d:∀v,v∈List.replicate n (Value.slice none 0 0)->v=.slice none 0 0:=fun v h=>List.eq_of_mem_replicate h;refine⟨C,List.replicate n (.slice none 0 0),e.Sw (m.mono (aV _)) (ai e.1 m) (fun b h _=>m.block b h) (fun b h=>?_),⟨a▸r,g▸q,by simp,fun j v l c o=>?_,fun i j u v b p c a g=>?_,bq e.1.size y,bq e.1.size B⟩⟩
 ·rcases h with rfl|rfl|⟨v,c,h⟩
  ·exact⟨r.lt,.inr y⟩
  ·exact⟨q.lt,.inr B⟩
  ·rw[d v c]at h;cases h
 ·rw[d v (dB c),List.eq_of_mem_replicate (dB o)];exact aJ.nil _ _ _ _
 ·rw[d u (dB p)]at a;cases a
end
end Go.Proofs.YtjcjjiieblineaaGreat
