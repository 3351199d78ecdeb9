/- Walks and plain facts. No condition. -/
import Derived.Test.YtpfbfhfcbdbglaaGreatPo
import Derived.Test.YtpfbfhfcbdbglaaGreatPq
namespace Go.Proofs.YtpfbfhfcbdbglaaGreat
open Go.RowKit Go.Proofs.Tryz Mo
set_option maxHeartbeats 8000000
set_option maxRecDepth 100000
set_option linter.all false
variable {w:World}{A E:Option Addr}{k n x0 d m q:Nat}{c:Mo.dG}{x:Mo.Mc}{l:List Mo.Ev}{s:Sx}
attribute [local instance] OW0
theorem Vu(H:MS w x0 A n k q x s)(f:x.L≠[])(b:Bool):Calls prog 38 #[.pointer x0,b] w λe d=>e=.returned (.tuple #[])/\zQ x0 A n k q x w s d:=by
 obtain⟨i,g,a⟩:=aS (rR H) (P8 w 0 s.m.g s.m.vl s.m.vg s.m.vc x.L s.m.G s.m.C s.m.kp b H.mem.mv f) H;obtain⟨l,-,-⟩:=ag.aF H.blk;unfold om at l;clear H;go_enter func38,ntmps38;go_wp2_with fail;refine i.mono ?_;rintro e d ⟨rfl,rfl⟩;go_wp2_with fail;refine g.mono ?_;rintro e r ⟨rfl,(j:Hid _)⟩;go_wp2;go_end0;obtain⟨c,p,m,h2,h3,h4,h5⟩:=j.Y;have F:cP w r w s.m ⟨s.m.g,s.m.vl,c,p,s.m.G,s.m.C,b⟩:=by exact abE
 obtain⟨o,hF⟩:=a.J7 F (aR _) (L:=x.L) (q':=q) ⟨m,a.mem.gl,a.mem.cl⟩;exact⟨rfl,_,o,hF⟩
def PlE(x:Mc)(n i:Nat)(w:World)(e:Ending)(a:World):Prop:=∃x0 A k q s,q<=i/\e=.returned (.pointer (some ⟨x0,0,none⟩))/\MS a x0 A n k q x s/\Below w w a/\∀b,s.U x0 b->w.heap.size<=b
theorem zl(f:aV c=true)(o:c.kind=3)(C:c.threads<=4)(B:bG c<=1048576)(y:n=c.start.length)(z:bD w .i64 A c.start):Calls prog 15 #[j8 c A n k] w (PlE (mU c) n 0 w):=by
 obtain⟨d,g⟩:∃d,d=w.alloc (dB c A n k):=⟨_,rfl⟩
 have l:Hid (Below w w d):=by rw[g];exact aj (ai w) _
 have N:Hid (ag d w 24 #[c.kind,c.threads,c.chans,c.cap,c.nodes,c.aP,c.aB,c.tags,c.bw,c.bn,.slice A n k]):=by rw[g];exact ag.new _ _ _
 obtain⟨a,x⟩:=av (RH (w:=d) (k:=k) f o C B y (z.below l)) g;have j:Hid ((mU c).L≠[]):=by intro e;have h:=(Qj f o).L;have r:=lO f (ek 0) (by have:=yH f;omega);rw[e]at h;simp at h;have I:(mU c).c=c:=rfl;rw[I]at h;omega
 unfold j8 at a ⊢;obtain⟨m,-,p⟩:=ag.aF N;clear g z y f o B C;go_enter func15,ntmps15;go_upto_region 1 with fail
 rw[<-x.Y];clear x;go_wp2_with fail;refine a.mono ?_;rintro e O ⟨D,E,J,s,rfl,u,t,v⟩;obtain⟨i,G⟩:=av (Vu u j true) (ah l t);have F:Hid (∀b,s.U D b->w.heap.size<=b):=λb h=>bm l.size (v b h);clear u t v m p;go_wp2_with fail;refine i.mono ?_;rintro e P ⟨rfl,M,(K:Hid _),q⟩;have L:=ae q;clear q;go_wp2;go_ret;obtain⟨H,r⟩:=gV.below G L F;exact⟨D,E,J,0,M,aR _,rfl,K,H,r⟩
def zn(c:dG)(f:Nat->Ev):Nat->Mc
 |0=>mU c
 |j+1=>(Dh (zn c f j) (f j)).1
theorem CR(a:aV c=true)(e:c.kind=3)(h:c.threads<=4)(g:bG c<=1048576)(f:Nat->Ev):∀j,j<=1500->NH j (zn c f j)/\(zn c f j).c=c
 |0,_=>⟨NH.new a h g e,rfl⟩
 |j+1,h1=>by
  obtain⟨b,d⟩:=CR a e h g f j (by omega)
  exact⟨b.next (by omega) _,(ack _).trans d⟩
def Vv(j:Nat):Ev:=if j=0 then⟨2,0,tC 2 8 0,0,[]⟩else if j<=100 then⟨1,0,sr,0,[]⟩else if j=101 then⟨2,1,tC 1 8 7,0,[]⟩else⟨1,1-((j%2:Nat):Int),sr,0,[]⟩
def awM(j:Nat):Mc:=zn xF Vv j
def awB(x:Mc):Bool:=NM x && decide (x.N.length=5) && ((x.N.getD 1 ⟨0,0,0,0,sr,cE⟩).kind==2) && ((cC x 0).res.value==7) && ((cC x 1).res.code==0) && decide (x.V.length=2)
theorem acp:awB (awM 302)=true:=by decide+kernel
theorem acq(j:Nat)(a:j<=1500):NH j (awM j)/\(awM j).c=xF:=CR (by decide+kernel) rfl (by decide) (by decide+kernel) Vv j a
theorem RQ(j:Nat):(Vv j).outs=[]:=by
 unfold Vv;repeat' split
 all_goals rfl
theorem Vw(j:Nat):(Vv j).aQ.cases.length<=1:=by
 unfold Vv;repeat' split
 all_goals first|exact aR 1|exact aZ 1
def Vx(w:World)(a:Nat)(A:Option Addr)(k j:Nat)(wr:World):Prop:=Below w w wr/\∃q s,q<=j/\MS wr a A 2 k q (awM j) s/\∀b,s.U a b->w.heap.size<=b
theorem NH.cp{i:Nat}(h:NH i x)(r:i<=25000){t:Nat}(e:t<x.T.length):CpB (cC x t):=by have a:=h.B.at_ e;have m:=size_le h.B.ee;have c:=a.a.To;have d:=a.a.aax;have f:=a.a.Ou;have g:=a.a.found;have j:=a.a.tM;have k:=a.a.aJ.len;have l:=a.a.aJ.sp;exact⟨bm (h.C.at_ t) (by decide),by omega,by omega,by omega,by omega,by omega,λo b=>bm (iC (a.b.cs o b).1) (by decide),by omega,by omega⟩
theorem Kh(d h v:Int):Calls prog 18 #[d,h,v] w λe a=>∃s,e=.returned (.agg (nS (tC d h v) s).toArray)/\uq w a (tC d h v) s/\Below w w a:=by
 go_enter func18,ntmps18;go_wp2;refine bodyPost_ret (v:=?_) ?_ rfl ?_;rotate_left
 .simp[results,results18,go_sem];rfl
 .exact abK
theorem Ki{j:Nat}{wr:World}(J:j<=1400)(H:Vx w x0 A k j wr){a:World}(o:Below wr wr a)(e:Ev)(i:Vv j=e)(z:Sl)(F:eo a (λb=>wr.heap.size<=b/\b<a.heap.size) bj z.A e.aQ.cases) :
 Calls prog 17 #[.pointer (some ⟨x0,0,none⟩),.agg #[.int .i64 e.kind,.int .i64 e.th,.int .i64 e.aQ.kind,.int .i64 e.aQ.arg,.int .i64 e.aQ.value,.bool e.aQ.dflt,.slice z.A e.aQ.cases.length z.c,.int .i64 e.fG,.slice none 0 0]] a λr l=>(∃v,r=.returned (.int .i64 v))/\Vx w x0 A k (j+1) l:=by
 obtain⟨f,q,s,p,d,C⟩:=H
 obtain⟨t,u⟩:=acq j (by omega)
 have c:=RQ j
 have D:=Vw j
 rw[i]at c D
 have m:=d.more o
 have B:∀b,wr.heap.size<=b/\b<a.heap.size->s.I a x0 b:=λb f=>⟨f.2,λh=>by have:=d.ul (.inr h);omega,λh=>by have:=d.ul (.inl h);omega,λh=>by have:=(d.ol b h).1;omega⟩
 have h:=XJ m e z ⟨none,0⟩ (t.do_ (by omega) (by rw[u];rfl) p e) (F.mono B) (by omega) (by rw[c];exact bD.nil _ _ _) (by rw[c];decide) (by rw[c];exact aR _)
 unfold II at h
 rw[c]at h
 go_fit h
 rintro r l ⟨rfl,G,E,I,g,n⟩
 obtain⟨x,y⟩:=gV.below (ah f o) n C
 refine⟨⟨_,rfl⟩,x,G,I,by omega,?_,y⟩
 rw[<-i]at g
 exact g
theorem Ng(w:World):Calls prog 5 #[] w λe H=>e=.returned true/\Below w w H:=by
 obtain⟨Cn,xB⟩:=av (MF w) (λ(l:World) (A:Option Addr) (k:Nat) (h:bD l .i64 A [0,1])=>zl (w:=l) (A:=A) (k:=k) (n:=2) (c:=xF) (by decide+kernel) rfl (by decide) (by decide+kernel) rfl h);go_enter func5,ntmps5;go_wp2_with fail;go_fit Cn.Y;rintro e w1 ⟨A,k,rfl,hr,(br:Hid _)⟩;have O:=ae (xB.Y w1 A k hr);clear hr Cn xB;go_wp2_with fail;go_fit O.Y;rintro e Y ⟨u,x,F,q,s,V,rfl,J,hB,U⟩;have K:Hid (Vx w u x F 0 Y):=⟨ah br.Y hB,q,s,V,J,λb h=>bm br.Y.size (U b h)⟩
 clear V J hB U br O;go_wp2_with fail;go_fit (Kh 2 8 0);rintro e w3 ⟨z,rfl,P,f⟩;have HD:=ae (Ki (by omega) K.Y f ⟨2,0,tC 2 8 0,0,[]⟩ rfl z P.1);dsimp only at HD;clear P f K;unfold nS;go_wp2_with fail;go_fit HD.Y;rintro e w4 ⟨⟨v,rfl⟩,(M:Hid _)⟩;clear HD;go_wp2;go_loopw[2] (λi wr=>∃j:Nat,j<=100/\i=j/\Hid (Vx w u x F (1+j) wr)) (λi _=>100-(intOf i).toNat);case atStart=>exact⟨0,aZ _,rfl,M⟩
 case round =>
  clear M;obtain⟨j,hj,rfl,C⟩:=hrel;by_cases a7:j<100
  .have HD:Hid (Calls prog 17 #[.pointer (some ⟨u,0,none⟩),.agg #[.int .i64 1,.int .i64 0,.int .i64 0,.int .i64 0,.int .i64 0,.bool false,.slice none 0 0,.int .i64 0,.slice none 0 0]] wr λr H=>(∃v,r=.returned (.int .i64 v))/\Vx w u x F (1+j+1) H):=Ki (by omega) C.Y (ai wr) ⟨1,0,sr,0,[]⟩ (by unfold Vv;rw[au (by omega),ay (by omega)]) ⟨none,0⟩ (eo.nil _ _ _ _);exact XM
  .have N:Hid (Vx w u x F 101 wr):=by
    have:j=100:=by omega
    subst this;exact C
   clear C
   go_wp2_with fail
   go_fit (Kh 1 8 7)
   rintro e w3 ⟨z,rfl,P,f⟩
   have HD:=ae (Ki (by omega) N.Y f ⟨2,1,tC 1 8 7,0,[]⟩ rfl z P.1)
   dsimp only at HD
   clear P f N
   unfold nS
   go_wp2_with fail
   go_fit HD.Y
   rintro e w4 ⟨⟨v,rfl⟩,h⟩
   have M:=ae h
   clear h HD
   go_wp2
   go_loopw[3] (λi wr=>∃j:Nat,j<=200/\i=j/\Hid (Vx w u x F (102+j) wr)) (λi _=>200-(intOf i).toNat)
   case atStart=>exact⟨0,aZ _,rfl,M⟩
   case round =>
    clear M;obtain⟨j,hj,rfl,C⟩:=hrel;by_cases a7:j<200
    .have HD:Hid (Calls prog 17 #[.pointer (some ⟨u,0,none⟩),.agg #[.int .i64 1,.int .i64 (1-(j:Int)%2),.int .i64 0,.int .i64 0,.int .i64 0,.bool false,.slice none 0 0,.int .i64 0,.slice none 0 0]] wr λr H=>(∃v,r=.returned (.int .i64 v))/\Vx w u x F (102+j+1) H):=Ki (by omega) C.Y (ai wr) ⟨1,1-(j:Int)%2,sr,0,[]⟩ (by
      unfold Vv;rw[au (by omega),au (by omega),au (by omega)];congr 1;omega) ⟨none,0⟩ (eo.nil _ _ _ _)
     exact XM
    .have N:Hid (Vx w u x F 302 wr):=by
      have:j=200:=by omega
      subst this;exact C
     clear C
     obtain⟨f,q,s,V,J,U⟩:=N.Y
     obtain⟨p,b2⟩:=acq 302 (by decide)
     have W:=acp
     obtain⟨y,E⟩:∃y,y=awM 302:=⟨_,rfl⟩
     rw[<-E]at J p b2 W
     clear E
     unfold awB at W
     simp only[eT,eI,beq_iff_eq]at W
     obtain⟨⟨⟨⟨⟨k1,G⟩,k3⟩,k4⟩,k5⟩,k6⟩:=W
     have aq:y.T.length=2:=by have:=p.B.T;rw[b2]at this;have h2:xF.threads=2:=rfl;omega
     have wH:y.P.length=y.T.length:=by have:=p.B.P;have:=p.B.T;omega
     have I:=ae (λl (f:Below wr wr l)=>J.more f)
     obtain⟨U0,Z,Nm,kM,EA⟩:=bQ (λl f=>Rp (I.Y l f) (m:=5) G.symm (by decide) (λy E=>bm (p.C.N y E) (by decide))) (λl f=>Vr (I.Y l f) (by omega) wH p.B.Qi) (λl f=>(Kf (I.Y l f) (t:=0) (by omega) (p.cp (by decide) (by omega))).mono λe H h=>h) (λl f=>(Kf (I.Y l f) (t:=1) (by omega) (p.cp (by decide) (by omega))).mono λe H h=>h) (λl f=>Fa (I.Y l f) (m:=2) k6.symm (by decide) (λy E=>⟨bm (p.C.V y E).1 (by decide),λo S=>bm (iC ((p.C.V y E).2 o S).1) (by decide)⟩))
     rw[k1]at Z
     obtain⟨HB,mq,rG,qT,L⟩:=bQ f k3 k4 k5 G
     clear f V J U p b2 k1 G k3 k4 k5 k6 aq wH I N
     go_wp2_with fail
     go_fit (U0.Y wr (ai wr))
     rintro e Y ⟨B,d,rfl,S,(bB:Hid _)⟩
     obtain⟨g,d',hv,nA,Q⟩:=aD.form S (by intro e;have:=L.Y;rw[e]at this;cases this)
     injection hv with oq hv2 hv3
     subst oq hv3
     obtain⟨nt,D⟩:∃nt,y.N[1]?=some nt:=⟨_,cq (by have:=L.Y;omega)⟩
     obtain⟨r,⟨z9,rfl,_⟩,_,T⟩:=aD.at_ S D
     have R:nt.kind=2:=by have:=mq.Y;rw[ew,D]at this;exact this
     have X:Y.cell? ⟨g,13,none⟩=some (.int .i64 2):=by rw[<-R];exact T 0 _ rfl
     have Jj:=ae X
     clear hv2 D T R X S U0 nA Q
     go_wp2_with fail
     go_fit (Z.Y Y bB.Y)
     rintro e w3 ⟨rfl,f⟩
     have bU:=ae (ah bB.Y f)
     have X:=(Below.cell f (bc Jj.Y)).trans Jj.Y
     clear f Jj Z
     go_wp2_with fail
     go_fit (Nm.Y w3 bU.Y)
     rintro e w4 ⟨s4,rfl,f⟩
     have fh:=ae (ah bU.Y f)
     obtain⟨T0,yA⟩:∃T0,T0=jA (cC y 0) s4:=⟨_,rfl⟩
     rw[<-yA]
     have hf:∀w,(Instr.field 75 (.agg T0.toArray) 18).run prog w=.ok (.agg #[.int .i64 (cC y 0).res.seq,.int .i64 (cC y 0).res.cs,.int .i64 (cC y 0).res.code,.int .i64 7]) w:=λw=>by rw[yA, <-rG.Y];rfl
     have a6:∀(a b c d:Value) w,(Instr.field 64 (.agg #[a,b,c,d]) 3).run prog w=.ok d w:=λ_ _ _ _ _=>rfl
     clear f Nm X yA
     go_wp2_with fail
     go_fit (kM.Y w4 fh.Y)
     rintro e w5 ⟨s5,rfl,f⟩
     have iq:=ae (ah fh.Y f)
     obtain⟨T1,tx⟩:∃T1,T1=jA (cC y 1) s5:=⟨_,rfl⟩
     rw[<-tx]
     have hg:∀w,(Instr.field 75 (.agg T1.toArray) 18).run prog w=.ok (.agg #[.int .i64 (cC y 1).res.seq,.int .i64 (cC y 1).res.cs,oZ,.int .i64 (cC y 1).res.value]) w:=λw=>by rw[tx, <-qT.Y];rfl
     have Q:∀(a b c d:Value) w,(Instr.field 64 (.agg #[a,b,c,d]) 2).run prog w=.ok c w:=λ_ _ _ _ _=>rfl
     clear f kM tx hf a6
     go_wp2_with fail
     go_fit (EA.Y w5 iq.Y)
     rintro e w6 ⟨B6,d6,rfl,-,f⟩
     have nJ:=ae (ah HB.Y (ah iq.Y f))
     clear f EA
     go_wp2
     go_ret
     exact⟨rfl,nJ.Y⟩
theorem Kj{b:Nat}:∀(V:List Tn),(∀y∈V,y.ops.length<=b)->qg V<=V.length*b
 |[],_=>by simp[qg]
 |y::V,h=>by
  have c:=Kj V λz a=>h z (List.mem_cons_of_mem _ a)
  have d:=h y List.mem_cons_self
  unfold qg at *
  simp only[List.map_cons,List.sum_cons,List.length_cons,Nat.succ_mul]
  omega
theorem Nh{x:Wt}(h:fX x=true):x.cases.length<=90000:=by have h:=kW.1 h;split at h<;>omega
theorem aab{h:Hl}{o:Mo.Op}{p:Nat}{k:Ch}(F:kJ c h)(J:qM h)(G:Ag h)(K:LU c o)(y:c.threads<=4)(g:h.chans[p]?=some k)(v:k.used=true)(u:k.closed=true):∃n r,abQ h (cY c h o.th o.seq o.aQ) o p k n r:=by have a:=mD F (t:=o.th) K.2.2 K.1;have z:=Mo.aO F.ee;have t0:=K.2.1;have A:=F.Fm;have B:=a.Fm;have C:=a.I5;have D:=a.zo;have E:=F.zo;obtain⟨-,-,H⟩:=yq F aa J G t0.1 aa (o:=o);obtain⟨s,⟨n,i,j⟩,r,b,l,m⟩:=H p k ⟨g,v,u⟩;have d:=eF.1 (a.dn r (cH b));have q:=cK.1 (F.ch k (cH g));exact⟨n,r,g,i,b,s,j,l,λe f=>m e f d.2.2.1,q.1,aa,d.2.2.1,λx w=>Nh (a.wt x w),aa,aa,aa,aa,iC K.1,t0.1⟩
attribute [local instance] OW0
def XN:Ev:=⟨0,0,sr,0,[]⟩
theorem RR(M:aV c=true)(O:c.kind=3)(V:c.threads<=4)(U:bG c<=1048576)(S:n=c.start.length)(hr:bD w .i64 A c.start)(hm:m=l.length)(Ky:m<=1500)(hl:jv 9 PEv w (·<w.heap.size) E l) :
 Calls prog 6 #[j8 c A n k,.slice E m d] w (PlE (zn c (l.getD · XN) m) n m w):=by
 obtain⟨X,I⟩:=aw (w.alloc (dB c A n k))
 have L:Hid (Below w w X):=by rw[I];exact aj (ai w) _
 have tu:Hid (ag X w 24 #[c.kind,c.threads,c.chans,c.cap,c.nodes,c.aP,c.aB,c.tags,c.bw,c.bn,.slice A n k]):=by rw[I];exact ag.new _ _ _
 obtain⟨xB,lW,HL,HN,HM,Df⟩:=cS (zl (w:=X) (k:=k) M O V U S (hr.below L)) I hl S hm (λj (h:j<=m)=>CR M O V U (l.getD · XN) j aa)
 unfold j8 at xB ⊢
 obtain⟨N,-,P⟩:=ag.aF tu
 clear I hr S M O U V hl hm
 go_enter func6,ntmps6
 go_upto_region 1 with fail
 rw[<-lW.Y]
 clear lW
 go_wp2_with fail
 refine xB.mono ?_
 rintro e w2 ⟨t,J,T,q,s,p,rfl,C,hB,f⟩
 have bB:=ae (ah L hB)
 have G:Hid (∀b,s.U t b->w.heap.size<=b):=λb h=>bm L.size (f b h)
 obtain⟨Y,F⟩:=av C p
 clear C hB f p N P
 go_wp2
 go_loopw[14] (λi wr=>∃j:Nat,j<=m/\i=j/\Hid (Below w w wr)/\Hid (∃q s,q<=j/\MS wr t J n T q (zn c (l.getD · XN) j) s/\∀b,s.U t b->w.heap.size<=b)) (λi _=>m-(intOf i).toNat)
 case atStart=>exact⟨0,aZ _,rfl,bB,q,s,F,Y,G⟩
 case round =>
  clear bB Y F G;obtain⟨j,hj,rfl,v,Z⟩:=hrel;by_cases R:j<m
  .obtain⟨q,s,p,H,f⟩:=Z.Y;obtain⟨ad,e,r,hA,he,hP,_,a⟩:=jv.at_ af (HL.below IZ (λ_ h=>h) v) (i:=j) (by rw[<-HM.Y];exact R);obtain⟨z,o,rfl,h1,h2,h3,h4,h5⟩:=hP;have c0:wr.cell? (ad.add (j*9))=_:=a 0 _ rfl;have c1:=a 1 _ rfl;have c2:=a 2 _ rfl;have c3:=a 3 _ rfl;have c4:=a 4 _ rfl;have c5:=a 5 _ rfl;have c6:=a 6 _ rfl;have c7:=a 7 _ rfl;have c8:=a 8 _ rfl;subst hA;rw[add_lit _ _ af]at c1 c2 c3 c4 c5 c6 c7 c8;have zG:∀b,b<w.heap.size->s.I wr t b:=λb u=>⟨bW u v.size,λh=>by have:=f b (.inr h);omega,λh=>by have:=f b (.inl h);omega,λh=>h⟩
   obtain⟨w3,g⟩:=aw (wr.alloc (.cells (II e z o).toArray 60));have x:Hid (Below wr wr w3):=by rw[g];exact aj (ai wr) _
   have gN:Hid (ag w3 wr 60 (II e z o).toArray):=by rw[g];exact ag.new _ _ _
   have Mp:=H.more x;obtain⟨pb,pc⟩:=Df.Y j hj;have K:=ae (XJ Mp e z o (pb.do_ aa (by rw[pc];exact HN.Y) p e) (((h1.same λb u=>x.block b (bW u v.size)).mono zG).mono λb u=>⟨bW u.1 x.size,u.2⟩) h4 (h2.1.below x) h5 h3);have HE:Hid (zn c (l.getD · XN) (j+1)=(Dh (zn c (l.getD · XN) j) e).1):=by unfold Hid;rw[zn,ew,he];rfl
   obtain⟨W,G,F⟩:=aS g f p;unfold II at W K gN;obtain⟨gB,-,Q⟩:=ag.aF gN;clear H a h1 h2 h3 h4 h5 he pb pc Mp zG g p f;go_upto_region 7 with fail
   rw[<-W.Y];clear W c0 c1 c2 c3 c4 c5 c6 c7 c8;go_wp2_with fail;refine K.mono ?_;rintro r w4 ⟨rfl,q',SQ,s',B,y⟩;obtain⟨(fh:Hid _),D⟩:=gV.below (ah v x) y G;have kG:Hid (∃q s,q<=j+1/\MS w4 t J n T q (zn c (l.getD · XN) (j+1)) s/\∀b,s.U t b->w.heap.size<=b):=⟨q',s',by have:=F.Y;omega,by rw[HE.Y];exact B,D⟩
   clear SQ B y D gB Q K;go_wp2;go_roundw;case rel=>exact⟨j+1,aa,by go_num,fh,kG⟩
   case measure=>simp[intOf];omega
  .go_wp2;go_ret;obtain⟨q,s,p,H,f⟩:=Z.Y;have YN:m=j:=aa;exact⟨t,J,T,q,s,aa,rfl,by rw[YN];exact H,v,f⟩
theorem Ni(hr:bD w .i64 A c.start)(hm:m=l.length)(hl:jv 9 PEv w (·<w) E l) :
 Calls prog 3 #[j8 c A c.start.length k,.slice E m d] w λe w'=>e=.returned true/\Below w w w':=by
 obtain⟨n,hn⟩:=aw c.start.length
 rw[<-hn]
 obtain⟨HN,HR,HL,HM,HAW⟩:=bQ hn hr hl hm (λwx=>Ng wx)
 clear hn hr hl hm
 obtain⟨w1,mn⟩:=aw (w.alloc (dB c A n k))
 have br:Hid (Below w w w1):=by rw[mn];exact aj (ai w) _
 have tu:Hid (ag w1 w 24 #[c.kind,c.threads,c.chans,c.cap,c.nodes,c.aP,c.aB,c.tags,c.bw,c.bn,.slice A n k]):=by rw[mn];exact ag.new _ _ _
 have aq:=ae (ME w1 (c:=c) (k:=k) HN (HR.below br))
 unfold j8 at aq ⊢
 obtain⟨f,-,u⟩:=ag.aF tu
 go_enter func3,ntmps3
 go_upto_region 1 with fail
 rw[<-mn]
 clear mn
 go_wp2_with fail
 refine aq.mono ?_
 rintro e w2 ⟨b,rfl,hS,a⟩
 obtain⟨bB,jm,HS⟩:=aS (ah br a) (tu.ah a) hS
 clear hS a f u aq tu br
 obtain⟨f,-,u⟩:=ag.aF jm
 cases b with
 |false=>exact RS
 |true =>
  by_cases dJ:c.kind=3;case neg=>exact RS
  have mq:=ae dJ;by_cases Ky:1500<m
  .exact RS
  obtain⟨hc,ko,kF⟩:=HS.Y rfl;have a7:m<=1500:=aa;have MG:=ae (RR (w:=w2) (k:=k) (d:=d) hc mq ko (Int.le_trans kF af) HN (HR.below bB) HM a7 ((HL.below IZ (λ_ h=>h) bB).mono IZ λb a=>bW a bB.size));obtain⟨b1,b2⟩:=CR hc mq ko (Int.le_trans kF af) (l.getD · XN) m a7
  generalize zn c (l.getD · XN) m=y at MG b1 b2
  unfold j8 at MG;rw[mq.Y]at MG;obtain⟨N,xy,I,Sn⟩:=bh b1 b2 hc ko;clear hc ko kF b1 b2 HS;go_wp2_with fail;with_reducible refine MG.Y.mono ?_
  rintro e w3 ⟨x0,A3,k3,q,s,hq,rfl,dy,a,-⟩;obtain⟨bU,np,NG⟩:=aS (ah bB a) (jm.ah a) (λwx (a:Below w3 w3 wx)=>dy.more a);clear hq dy a f u MG jm bB dJ;obtain⟨f,-,u⟩:=ag.aF np;have a6:=ae (ET w3 (k:=k) I mq HN (HR.below bU));unfold j8 at a6;go_wp2_with fail;refine a6.mono ?_;rintro e w4 ⟨R,rd,rfl,hR,a⟩;obtain⟨dm,fh,rI,xn⟩:=bh a (ah bU a) (np.ah a) hR.pw.2;clear hR a f u a6 np bU;have EA:=ae (Fa (NG w4 dm) (m:=y.V.length) rfl (by have:=N.B.V;omega) (λz hz=>⟨bm (N.C.V z hz).1 af,λo J=>bm (iC ((N.C.V z hz).2 o J).1) af⟩));obtain⟨V,hV⟩:=aw y.V.length;rw[<-hV]at EA;have HV:=ae hV;clear hV;go_wp2_with fail;refine EA.mono ?_;rintro e w5 ⟨B,dd,rfl,hX,a⟩;obtain⟨iq,C⟩:=av (ah fh a) a;have Jj:Hid (qg y.V<=1000000000):=by have h1:=Kj (b:=80000) y.V (λz hz=>(N.C.V z hz).1);have h2:y.V.length<=1500:=bm N.B.V a7;have h3:=Nat.mul_le_mul_right 80000 h2;unfold Hid;omega
  have cD:=ae (CJ (c:=dd) HV (by rw[HV.Y];have:=N.B.V;omega) (λb a=>a.2.1) hX.GO Jj);clear hX a EA;go_wp2_with fail;refine cD.mono ?_;rintro e w6 ⟨O,od,rfl,hO,a⟩;obtain⟨nJ,dO,cR⟩:=aS (ah iq a) (rI.ah (ah C a)) (xn.below (ah C a));obtain⟨b5,v⟩:=aw (y.V.flatMap (·.ops));obtain⟨L,hL⟩:=aw (qg y.V);rw[<-v]at hO;rw[<-hL];have e6:L<=1000000000:=by rw[hL];exact Jj
  have Z2:Hid (b5.length=L):=by unfold Hid;rw[v,hL,List.length_flatMap];rfl
  have Ba:Hid (∀o∈b5,LU c o):=λo J=>by
   rw[v]at J
   obtain⟨z,hz,J⟩:=List.mem_flatMap.1 J
   have:=(N.C.V z hz).2 o J
   rwa [xy]at this
  obtain⟨S,HO,J6⟩:∃S,Hid (jv 8 FD w6 S O b5)/\Hid (∀b,S b->b<w6):=⟨_,hO,λb h=>bW h.2.1 a.size⟩
  obtain⟨dl,fF⟩:=aw (gI c (eb c)).length;rw[<-fF];obtain⟨jf,sW,cz,Bn⟩:=bh fF (pn I mq) (GB (c:=c)) (HR.below nJ);clear hO a v hL fF cD Jj iq C fh dm rI xn NG N xy HV HM HL;go_wp2;go_loopw[6,39] (λrv i wr=>∃j:Nat,j<=L/\i=j/\∃(D:Option Addr) (dl dd:Nat) (h:Hl),rv=.slice D dl dd/\Hid (dl=(gI c h).length)/\Hid (bD wr .u64 D (gI c h))/\Hid (kJ c h)/\Hid (qM h/\Ag h)/\Hid (Below w6 w6 wr)) (λ_ i _=>L-(intOf i).toNat);case atStart=>exact⟨0,aZ _,rfl,_,_,_,_,rfl,jf,cR,sW,cz,ai w6⟩
  case round =>
   clear cR jf sW cz;obtain⟨j,hj,rfl,D,dl,dd,h,rfl,jf,HD,P,HJ,HB⟩:=hrel;by_cases eO:j<L
   .obtain⟨ad,o,r,hA,J,hP,_,g⟩:=jv.at_ af (HO.below jz J6 HB) (i:=j) (by rw[Z2.Y];exact eO);obtain⟨E2,e2,rfl,hE⟩:=hP;have c0:wr.cell? (ad.add (j*8))=_:=g 0 _ rfl;have c1:=g 1 _ rfl;have c2:=g 2 _ rfl;have c3:=g 3 _ rfl;have c4:=g 4 _ rfl;have c5:=g 5 _ rfl;have c6:=g 6 _ rfl;have c7:=g 7 _ rfl;subst hA;rw[add_lit _ _ af]at c1 c2 c3 c4 c5 c6 c7;have hK:=Ba.Y o (cH J);obtain⟨t,ht⟩:∃t:Nat,o.th=t:=⟨o.th.toNat,by have:=hK.2.1.1;omega⟩
    obtain⟨ql,qf⟩:=aw o.aQ.cases.length;rw[ht]at c0;rw[<-qf]at c7;obtain⟨w7,K⟩:=aw (wr.alloc (.cells #[t,o.seq,o.phase,o.aQ.kind,o.aQ.arg,o.aQ.value,o.aQ.dflt,.slice E2 ql e2] 40));have X:Hid (Below wr wr w7):=by rw[K];exact aj (ai wr) _
    have Ai:Hid (ag w7 wr 40 #[t,o.seq,o.phase,o.aQ.kind,o.aQ.arg,o.aQ.value,o.aQ.dflt,.slice E2 ql e2]):=by rw[K];exact ag.new _ _ _
    have Y:=ae (dO.ah (ah HB X));have Hu:Hid (c.threads<=19):=Int.le_trans Sn af;have dM:Hid ((t:Int)<c.threads):=by have:=hK.2.1.2;unfold Hid;omega
    have HH:=ae (MP w7 (k:=k) P Hu HN (Bn.below (ah HB X)) D dd jf (HD.below X) dM hK.2.2 o.aQ E2 ql e2 qf (hE.1.below X) hK.1 (ph:=o.phase));obtain⟨G,hG⟩:=aw (cY c h t o.seq o.aQ);rw[<-hG]at HH;have wg:=ae hG;clear hG;obtain⟨df,HT,HK,HE,cO⟩:=bQ K ht hK (hE.1.below X) qf;clear K ht hK hE qf g J;unfold j8 at HH;go_upto_region 10 with fail
    rw[<-df.Y];obtain⟨f,-,u⟩:=ag.aF Y;obtain⟨De,-,zG⟩:=ag.aF Ai;clear df c0 c1 c2 c3 c4 c5 c6 c7;go_wp2_with fail;refine HH.mono ?_;rintro e w8 ⟨A1,A2,A3,m1,m2,m3,B1,B2,B3,d1,d2,d3,rfl,hh,hg,a⟩;have GI:=ae (ah X a);have dw:=a;obtain⟨b8,dc,cy,cw⟩:=bh (Y.ah a) (Ai.ah a) hh hg;clear hh hg a f u De zG HH Y Ai;go_upto_region 13 with fail
    obtain⟨w9,ER⟩:=aw ((w8.alloc (.cells #[h.ak,.slice A1 h.chans.length m1,.slice A2 h.waits.length m2,.slice A3 h.done.length m3] 45)).alloc (.cells #[G.ak,.slice B1 G.chans.length d1,.slice B2 G.waits.length d2,.slice B3 G.done.length d3] 45));have I0:Below w8 w8 w9:=by rw[ER];exact aj (aj (ai w8) _) _
    have cF:Hid (ag w9 w8 45 #[h.ak,.slice A1 h.chans.length m1,.slice A2 h.waits.length m2,.slice A3 h.done.length m3]):=by rw[ER];exact(ag.new _ _ _).alloc _
    have cG:Hid (ag w9 (w8+1) 45 #[G.ak,.slice B1 G.chans.length d1,.slice B2 G.waits.length d2,.slice B3 G.done.length d3]):=by rw[ER];exact ag.newAt _ _ _ aA
    obtain⟨xo,Ao,Sy,Z,Sq,dh⟩:=cS (ah GI I0) (b8.ah I0) (dc.ah I0) ((HE.below dw).below I0) (cy.ext I0) (cw.ext I0);have QD:=ae (EU w9 (k:=k) P Hu HN (Bn.below (ah HB xo)) D dd jf (HD.below xo) dM HK.2.2 o.aQ E2 ql e2 cO Z HK.1);rw[<-wg.Y]at QD;unfold j8 at QD;rw[<-ER];obtain⟨f,-,u⟩:=ag.aF Ao;obtain⟨De,-,zG⟩:=ag.aF Sy;clear ER dw I0 GI b8 dc cy cw HE;go_wp2_with fail;refine QD.mono ?_;rintro e mr ⟨D',T8,rfl,hD,a⟩;obtain⟨dT,F⟩:=aw (gI c G).length;rw[<-F];obtain⟨ct,Ad,b6,Q,T,U⟩:=cS F hD.pw.2 (ah xo a) (cF.ah a) (cG.ah a) (Sy.ah a);obtain⟨cv,Et,dg⟩:=aS (Z.below a) (Sq.ext a) (dh.ext a);have g8:wr+1<=mr.heap.size:=ag.lt U;have g9:w8+1+1<=mr.heap.size:=ag.lt T;obtain⟨aC,-,bz⟩:=ag.aF Q;have en:h.chans.length<=8:=by have:=P.Fm;have:=(Mo.aO P.ee).2.2.2.2.2.2.2;omega
    clear F hD a QD cF cG Sy Ao Z Sq dh xo f De u zG;go_wp2_with fail;clear aC bz;go_loopw[65] (λi wx=>∃p:Nat,p<=h.chans.length/\i=p/\Hid (Below mr mr wx)) (λi _=>h.chans.length-(intOf i).toNat);case atStart=>exact⟨0,aZ _,rfl,ai _⟩
    case round =>
     obtain⟨p,hp,rfl,Jx⟩:=hrel;by_cases e5:p<h.chans.length
     .obtain⟨M,GH⟩:∃M,h.chans[p]?=some M:=⟨_,cq e5⟩
      obtain⟨a1,D1,e1,WY,Xi,dU,p0,p1,p2,p3,p4⟩:=(Et.ext Jx).ch.row GH;obtain⟨ub,bE⟩:=aw M.used;obtain⟨cb,a8⟩:=aw M.closed;obtain⟨bl,dz⟩:=aw M.buf.length;rw[<-bE]at p2;rw[<-a8]at p3;rw[<-dz]at p4;subst WY;obtain⟨yM,x⟩:=aw (wr.alloc (.cells #[M.gen,M.cap,ub,cb,.slice D1 bl e1] 50));have MQ:Below wr wr yM:=by rw[x];exact aj (ai wr) _
      have Zb:Hid (ag yM wr 50 #[M.gen,M.cap,ub,cb,.slice D1 bl e1]):=by rw[x];exact ag.new _ _ _
      have H:=ae (ah Jx MQ);obtain⟨dS,HU,I,W⟩:=bh GH bE a8 x;clear GH bE a8 x dz Xi dU MQ;go_upto_region 17 with fail
      rw[<-W.Y];clear p0 p1 p2 p3 p4 W;obtain⟨cU,-,er⟩:=ag.aF Zb;obtain⟨aC,-,bz⟩:=ag.aF (Q.ah H);obtain⟨bN,-,eG⟩:=ag.aF (T.ah H);obtain⟨De,-,zG⟩:=ag.aF (U.ah H);by_cases hall:ub=true/\cb=true
      .obtain⟨rfl,rfl⟩:=hall;obtain⟨n1,r1,hC⟩:=aab P HJ.1 HJ.2 HK Sn dS HU.symm I.symm;rw[HT.Y, <-wg.Y]at hC;have iF:=ae (Iw (w:=yM) hC (some a1) A2 A3 m1 m2 m3 B1 B2 B3 d1 d2 d3 (Et.ext H) (dg.ext H) E2 ql e2 cO (cv.below H));rw[HT.Y]at iF;clear hC;go_wp2_with fail;refine iF.mono ?_;rintro e Qw ⟨rfl,a⟩;have Vn:=ae (ah H a);clear a cU aC bN De er bz eG zG iF;go_wp2;go_roundw;case rel=>exact⟨p+1,aa,by go_num,Vn⟩
       case measure=>simp[intOf];omega
      .cases ub with
       |false =>
        go_wp2;go_roundw;case rel=>exact⟨p+1,aa,by go_num,H⟩
        case measure=>simp[intOf];omega
       |true =>
        cases cb with
        |true=>exact absurd ⟨rfl,rfl⟩ hall
        |false =>
         go_wp2;go_roundw;case rel=>exact⟨p+1,aa,by go_num,H⟩
         case measure=>simp[intOf];omega
     .have qG:=ae (mD P (t:=t) HK.2.2 HK.1);have hJ:=yq P en HJ.1 HJ.2 HK.2.1.1 (by have:=P.zo;have:=HK.2.1;omega);rw[HT.Y, <-wg.Y]at hJ;rw[<-wg.Y]at qG;have dQ:Hid (qM G/\Ag G):=⟨hJ.1,hJ.2.1⟩
      obtain⟨b7,dP⟩:=av (ah HB (ah b6 Jx)) (Ad.below Jx);clear hJ;go_wp2;go_roundw;case rel=>exact⟨j+1,aa,by go_num,D',dT,T8,G,rfl,ct,dP,qG,dQ,b7⟩
      case measure=>simp[intOf];omega
   .go_wp2_with fail;refine(HAW wr).mono ?_;rintro e w7 ⟨rfl,a⟩;have X:=ae (ah nJ (ah HB a));clear a;go_wp2;go_ret;exact⟨rfl,X⟩
end Go.Proofs.YtpfbfhfcbdbglaaGreat
