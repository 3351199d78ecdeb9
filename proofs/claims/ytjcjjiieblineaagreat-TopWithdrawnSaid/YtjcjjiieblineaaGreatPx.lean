/- Walks and plain facts. No condition. -/
import Derived.Test.YtjcjjiieblineaaGreatPu
import Derived.Test.YtjcjjiieblineaaGreatPw
namespace Go.Proofs.YtjcjjiieblineaaGreat
open Go.RowKit Go.Proofs.Tryz
set_option maxHeartbeats 8000000
set_option maxRecDepth 100000
set_option linter.all false
section
variable{w:World} {x0:Nat} {A:Option Addr} {n k q:Nat} {x:Mo.Mc} {s:Sx}
theorem Tj(H:MS w x0 A n k q x s)(hne:x.L≠[])(b:Bool):Calls prog 16 #[.pointer x0,b] w fun e w'=>e=.returned (.tuple #[])/\xJ x0 A n k q x w s w':=by
 have HM:=aa (pR H);have HK:=aa (MU w 0 s.m.g s.m.vl s.m.vg s.m.vc x.L s.m.G s.m.C s.m.kp b H.mem.mv hne);have HH:=aa H;obtain⟨aT,-,-⟩:=af.aK H.blk;unfold mG at aT;clear H;go_enter func16,ntmps16;go_wp2_with fail;refine HM.mono ?_;rintro e w' ⟨rfl,rfl⟩;go_wp2_with fail;refine HK.mono ?_;rintro e w1 ⟨rfl,hN⟩;have HN:=aa hN;clear hN;go_wp2_with fail;go_end0;obtain⟨vg',sA,h1,h2,h3,h4,h5⟩:=HN.out;have F:bV w w1 w.heap.size s.m ⟨s.m.g,s.m.vl,vg',sA,s.m.G,s.m.C,b⟩:=by exact abD
 obtain⟨hA,hF⟩:=HH.Hf F (aS _) (L:=x.L) (q':=q) ⟨h1,HH.mem.gl,HH.mem.cl⟩;exact⟨rfl,_,hA,hF⟩
end
def PlE(x:Mo.Mc)(n i:Nat)(w:World)(e:Ending)(w':World):Prop:=∃x0 A k q s,q<=i/\e=.returned (.pointer (some ⟨x0,0,none⟩))/\MS w' x0 A n k q x s/\Below w w w'/\∀b,s.U x0 b->w.heap.size<=b
section
variable{w:World} {A:Option Addr} {n k:Nat} {c:Mo.bH}
theorem xt(hc:Mo.aN c=true)(ji:c.threads<=4)(jC:Mo.bo c<=1048576)(hn:n=c.start.length)(hr:bC w .i64 A c.start):Calls prog 15 #[mH c A n k] w (PlE (Mo.kG c) n 0 w):=by
 obtain⟨w1,kI⟩:=aD (w.alloc (cr c A n k));have bj:Hid (Below w w w1):=by rw[kI];exact ak (aj w) _
 have pn:Hid (af w1 w.heap.size 24 #[c.kind,c.threads,c.chans,c.cap,c.nodes,c.aJ,c.aB,c.tags,c.bn,c.ba,.slice A n k]):=by rw[kI];exact af.new _ _ _
 have HNW:=aa (Pg (w:=w1) (k:=k) hc ji jC hn (hr.below bj));have ng:=aa kI;have HLn:Hid ((Mo.kG c).L≠[]):=by intro e;have h:=(Mo.L6 hc).good;rw[e]at h;exact absurd h ah
 unfold mH at HNW ⊢;obtain⟨hcc,-,hlc⟩:=af.aK pn;clear kI hr hn hc jC ji;go_enter func15,ntmps15;go_upto_region 1 with fail
 rw[<-ng.out];clear ng;go_wp2_with fail;refine HNW.mono ?_;rintro e w2 ⟨x0,A2,k2,s,rfl,hM,hB,hU⟩;have HKP:=aa (Tj hM HLn true);have bq:=aa (ag bj hB);have HU:Hid (∀b,s.U x0 b->w.heap.size<=b):=fun b h=>bm bj.size (hU b h);clear hM hB hU hcc hlc;go_wp2_with fail;refine HKP.mono ?_;rintro e w3 ⟨rfl,s3,wH,zW⟩;have nU:=aa wH;have sg:=aa zW;clear wH zW;go_wp2_with fail;go_ret;obtain⟨h1,h2⟩:=fB.below bq sg HU;exact⟨x0,A2,k2,0,s3,aS _,rfl,nU,h1,h2⟩
def xu(c:Mo.bH)(f:Nat->Mo.Ev):Nat->Mo.Mc
 |0=>Mo.kG c
 |j+1=>(Mo.zz (xu c f j) (f j)).1
theorem AG(hc:Mo.aN c=true)(ji:c.threads<=4)(jC:Mo.bo c<=1048576)(f:Nat->Mo.Ev):∀j,j<=1500->K5 j (xu c f j)/\(xu c f j).c=c
 |0,_=>⟨K5.new hc ji jC,rfl⟩
 |j+1,h1=>by
  obtain⟨a1,a2⟩:=AG hc ji jC f j ae
  exact⟨a1.next ae _,(acg _).trans a2⟩
def Vw:Mo.Ev:=⟨0,0,Mo.qi,0,[]⟩
theorem Pt(hc:Mo.aN c=true)(ji:c.threads<=4)(jC:Mo.bo c<=1048576)(hn:n=c.start.length)(hr:bC w .i64 A c.start){E:Option Addr}{d:Nat}{l:List Mo.Ev}{m:Nat}(hm:m=l.length)(Lq:m<=1500)(hl:jF 9 Yy w (·<w.heap.size) E l) :
 Calls prog 11 #[mH c A n k,.slice E m d] w (PlE (xu c (l.getD · Vw) m) n m w):=by
 obtain⟨w1,kI⟩:=aD (w.alloc (cr c A n k))
 have bj:Hid (Below w w w1):=by rw[kI];exact ak (aj w) _
 have pn:Hid (af w1 w.heap.size 24 #[c.kind,c.threads,c.chans,c.cap,c.nodes,c.aJ,c.aB,c.tags,c.bn,c.ba,.slice A n k]):=by rw[kI];exact af.new _ _ _
 have uZ:=aa (xt (w:=w1) (k:=k) hc ji jC hn (hr.below bj))
 have ng:=aa kI;have HL:=aa hl;have HN:=aa hn;have HM:=aa hm
 have r4:=aa (fun j (h:j<=m)=>AG hc ji jC (l.getD · Vw) j ae)
 unfold mH at uZ ⊢
 obtain⟨hcc,-,hlc⟩:=af.aK pn
 clear kI hr hn hc jC ji hl hm
 go_enter func11,ntmps11
 go_upto_region 1 with fail
 rw[<-ng.out]
 clear ng
 go_wp2_with fail
 refine uZ.mono ?_
 rintro e w2 ⟨x0,A2,k2,q,s,hq,rfl,hMS,hB,hU⟩
 have bq:=aa (ag bj hB)
 have HU:Hid (∀b,s.U x0 b->w.heap.size<=b):=fun b h=>bm bj.size (hU b h)
 have zo:=aa hMS;have HQ:=aa hq
 clear hMS hB hU hq hcc hlc
 go_wp2_with fail
 go_loopw[14] (fun i wr=>∃j:Nat,j<=m/\i=j/\Hid (Below w w wr)/\Hid (∃q s,q<=j/\MS wr x0 A2 n k2 q (xu c (l.getD · Vw) j) s/\∀b,s.U x0 b->w.heap.size<=b)) (fun i _=>m-(intOf i).toNat)
 case atStart=>exact⟨0,aY _,rfl,bq,q,s,HQ,zo,HU⟩
 case round =>
  clear bq zo HQ HU;obtain⟨j,hj,rfl,HB,HR⟩:=hrel;by_cases hlt:j<m
  ·obtain⟨q,s,hq,hM,hU⟩:=HR.out;obtain⟨ad,e,r,hA,he,hP,_,hcs⟩:=jF.at_ ah (HL.below F8 (fun _ h=>h) HB) (i:=j) (by rw[<-HM.out];exact hlt);obtain⟨z,o,rfl,h1,h2,h3,h4,h5⟩:=hP;have c0:wr.cell? (ad.add (j*9))=_:=hcs 0 _ rfl;have c1:=hcs 1 _ rfl;have c2:=hcs 2 _ rfl;have c3:=hcs 3 _ rfl;have c4:=hcs 4 _ rfl;have c5:=hcs 5 _ rfl;have c6:=hcs 6 _ rfl;have c7:=hcs 7 _ rfl;have c8:=hcs 8 _ rfl;subst hA;rw[add_lit _ _ ah]at c1 c2 c3 c4 c5 c6 c7 c8;have KT:∀b,b<w.heap.size->s.I wr x0 b:=fun b hb=>⟨bF hb HB.size,fun h=>by have:=hU b (.inr h);omega,fun h=>by have:=hU b (.inl h);omega⟩
   obtain⟨w3,hw3⟩:=aD (wr.alloc (.cells (FR e z o).toArray 57));have bZ:Hid (Below wr wr w3):=by rw[hw3];exact ak (aj wr) _
   have fx:Hid (af w3 wr.heap.size 57 (FR e z o).toArray):=by rw[hw3];exact af.new _ _ _
   have wH:=hM.more bZ;obtain⟨pb,pc⟩:=r4.out j hj;have RL:=aa (Vr wH e z o (pb.do_ ae (by rw[pc];exact HN.out) hq e) (((h1.same fun b hb=>bZ.block b (bF hb HB.size)).mono KT).mono fun b hb=>⟨bF hb.1 bZ.size,hb.2⟩) h4 (h2.1.below bZ) h5 h3);have HE:Hid (xu c (l.getD · Vw) (j+1)=(Mo.zz (xu c (l.getD · Vw) j) e).1):=by unfold Hid;rw[xu,eR,he];rfl
   have KP:=aa hw3;have HU:=aa hU;have HQ:=aa hq;unfold FR at KP RL fx;obtain⟨jG,-,hlr⟩:=af.aK fx;clear hM hcs h1 h2 h3 h4 h5 he pb pc wH KT hw3 hq hU;go_upto_region 7 with fail
   rw[<-KP.out];clear KP c0 c1 c2 c3 c4 c5 c6 c7 c8;go_wp2_with fail;refine RL.mono ?_;rintro r w4 ⟨rfl,q',hq',s',hM',hF'⟩;obtain⟨hb4,hU4⟩:=fB.below (ag HB bZ) hF' HU;have fJ:=aa hb4;have jY:Hid (∃q s,q<=j+1/\MS w4 x0 A2 n k2 q (xu c (l.getD · Vw) (j+1)) s/\∀b,s.U x0 b->w.heap.size<=b):=⟨q',s',by have:=HQ.out;omega,by rw[HE.out];exact hM',hU4⟩
   clear hq' hM' hF' hb4 hU4 jG hlr RL;go_wp2_with fail;go_roundw;case rel=>exact⟨j+1,ae,by go_num,fJ,jY⟩
   case measure=>simp[intOf];omega
  ·go_wp2_with fail;go_ret;obtain⟨q,s,hq,hM,hU⟩:=HR.out;have hjm:m=j:=ae;exact⟨x0,A2,k2,q,s,ae,rfl,by rw[hjm];exact hM,HB,hU⟩
end
def Tl(j:Nat):Mo.Ev:=if j=0 then⟨2,0,Mo.ra 2 8 0,0,[]⟩else if j<=100 then⟨1,0,Mo.qi,0,[]⟩else if j=101 then⟨2,1,Mo.ra 1 8 7,0,[]⟩else⟨1,1-((j%2:Nat):Int),Mo.qi,0,[]⟩
def awM(j:Nat):Mo.Mc:=xu Mo.vo Tl j
def awB(x:Mo.Mc):Bool:=Mo.Lc x && decide (x.N.length=5) && ((x.N.getD 1 ⟨0,0,0,0,Mo.qi,Mo.dC⟩).kind==2) && ((Mo.bu x 0).res.value==7) && ((Mo.bu x 1).res.code==0) && decide (x.V.length=2)
theorem acm:awB (awM 302)=true:=by decide+kernel
theorem acn(j:Nat)(hj:j<=1500):K5 j (awM j)/\(awM j).c=Mo.vo:=AG (by decide+kernel) ah (by decide+kernel) Tl j hj
theorem Pu(j:Nat):(Tl j).outs=[]:=by
 unfold Tl;repeat' split
 all_goals rfl
theorem Tm(j:Nat):(Tl j).aQ.cases.length<=1:=by
 unfold Tl;repeat' split
 all_goals first|exact aS 1|exact aY 1
def Tp(w:World)(x0:Nat)(A:Option Addr)(k j:Nat)(wr:World):Prop:=Below w w wr/\∃q s,q<=j/\MS wr x0 A 2 k q (awM j) s/\∀b,s.U x0 b->w.heap.size<=b
theorem K5.cp{i:Nat}{x:Mo.Mc}(h:K5 i x)(hi:i<=25000){t:Nat}(ht:t<x.T.length):CpB (Mo.bu x t):=by have hk:=h.B.at_ ht;have hz:=size_le h.B.dL;have h1:=hk.a.QP;have h2:=hk.a.Z9;have h3:=hk.a.LI;have h4:=hk.a.found;have h5:=hk.a.rr;have h6:=hk.a.az.len;have h7:=hk.a.az.sp;exact⟨bm (h.C.at_ t) ah,ae,ae,ae,ae,ae,fun o ho=>bm (hk.b.cs o ho) ah,ae,ae⟩
section
variable{w:World}
theorem Hu(d h v:Int):Calls prog 19 #[d,h,v] w fun e w'=>∃s,e=.returned (.agg (ml (Mo.ra d h v) s).toArray)/\rZ w w' (Mo.ra d h v) s/\Below w w w':=by
 go_enter func19,ntmps19;go_wp2_with fail;refine bodyPost_ret (v:=?_) ?_ rfl ?_;rotate_left
 ·simp[results,results19,go_sem];rfl
 ·exact abE
theorem Hv{x0:Nat}{A:Option Addr}{k j:Nat}{wr:World}(hj:j<=1400)(H:Tp w x0 A k j wr){wx:World}(hx:Below wr.heap.size wr wx)(e:Mo.Ev)(he:Tl j=e)(z:Sl)(hq:dv wx (fun b=>wr.heap.size<=b/\b<wx.heap.size) bk z.A e.aQ.cases) :
 Calls prog 17 #[.pointer (some ⟨x0,0,none⟩),.agg #[.int .i64 e.kind,.int .i64 e.th,.int .i64 e.aQ.kind,.int .i64 e.aQ.arg,.int .i64 e.aQ.value,.bool e.aQ.dflt,.slice z.A e.aQ.cases.length z.c,.int .i64 e.ek,.slice none 0 0]] wx fun r w'=>(∃v,r=.returned (.int .i64 v))/\Tp w x0 A k (j+1) w':=by
 obtain⟨hb,q,s,hq',hM,hU⟩:=H
 obtain⟨b1,b2⟩:=acn j ae
 have ho:=Pu j
 have hl:=Tm j
 rw[he]at ho hl
 have AL:=hM.more hx
 have hI:∀b,wr.heap.size<=b/\b<wx.heap.size->s.I wx x0 b:=fun b hb=>⟨hb.2,fun h=>by have:=hM.ul (.inr h);omega,fun h=>by have:=hM.ul (.inl h);omega⟩
 have h:=Vr AL e z ⟨none,0⟩ (b1.do_ ae (by rw[b2];rfl) hq' e) (hq.mono hI) ae (by rw[ho];exact bC.nil _ _ _) (by rw[ho];decide) (by rw[ho];exact aS _)
 unfold FR at h
 rw[ho]at h
 refine h.mono ?_
 rintro r w' ⟨rfl,q2,hq2,s2,wH,zW⟩
 obtain⟨h1,h2⟩:=fB.below (ag hb hx) zW hU
 refine⟨⟨_,rfl⟩,h1,q2,s2,ae,?_,h2⟩
 rw[<-he]at wH
 exact wH
theorem Ky(w:World):Calls prog 10 #[] w fun e w'=>e=.returned true/\Below w w w':=by
 have Ae:=aa (J8 w);have uZ:=aa (fun(wx:World) (A:Option Addr) (k:Nat) (h:bC wx .i64 A [0,1])=>xt (w:=wx) (A:=A) (k:=k) (n:=2) (c:=Mo.vo) (by decide+kernel) ah (by decide+kernel) rfl h);go_enter func10,ntmps10;go_wp2_with fail;refine Ae.mono ?_;rintro e w1 ⟨A,k,rfl,hr,hb⟩;have bj:=aa hb;have aco:=aa (uZ w1 A k hr);clear hr hb Ae uZ;go_wp2_with fail;refine aco.mono ?_;rintro e w2 ⟨x0,A2,k2,q,s,hq,rfl,hM,hB,hU⟩;have HA0:Hid (Tp w x0 A2 k2 0 w2):=⟨ag bj hB,q,s,hq,hM,fun b h=>bm bj.size (hU b h)⟩
 clear hq hM hB hU bj aco;go_wp2_with fail;refine(Hu 2 8 0).mono ?_;rintro e w3 ⟨z,rfl,hQ,hb⟩;have HD:=aa (Hv ae HA0 hb ⟨2,0,Mo.ra 2 8 0,0,[]⟩ rfl z hQ.1);dsimp only at HD;clear hQ hb HA0;unfold ml;go_wp2_with fail;refine HD.mono ?_;rintro e w4 ⟨⟨v,rfl⟩,h⟩;have GR:=aa h;clear h HD;go_wp2_with fail;go_loopw[2] (fun i wr=>∃j:Nat,j<=100/\i=j/\Hid (Tp w x0 A2 k2 (1+j) wr)) (fun i _=>100-(intOf i).toNat);case atStart=>exact⟨0,aY _,rfl,GR⟩
 case round =>
  clear GR;obtain⟨j,hj,rfl,HA⟩:=hrel;by_cases hlt:j<100
  ·have HD:Hid (Calls prog 17 #[.pointer (some ⟨x0,0,none⟩),.agg #[.int .i64 1,.int .i64 0,.int .i64 0,.int .i64 0,.int .i64 0,.bool false,.slice none 0 0,.int .i64 0,.slice none 0 0]] wr fun r w'=>(∃v,r=.returned (.int .i64 v))/\Tp w x0 A2 k2 (1+j+1) w'):=Hv ae HA (aj wr) ⟨1,0,Mo.qi,0,[]⟩ (by unfold Tl;rw[ai ae,au ae]) ⟨none,0⟩ (dv.nil _ _ _ _);exact Vx
  ·have MP:Hid (Tp w x0 A2 k2 101 wr):=by
    have:j=100:=ae;subst this;exact HA
   clear HA
   go_wp2_with fail
   refine(Hu 1 8 7).mono ?_
   rintro e w3 ⟨z,rfl,hQ,hb⟩
   have HD:=aa (Hv ae MP hb ⟨2,1,Mo.ra 1 8 7,0,[]⟩ rfl z hQ.1)
   dsimp only at HD
   clear hQ hb MP
   unfold ml
   go_wp2_with fail
   refine HD.mono ?_
   rintro e w4 ⟨⟨v,rfl⟩,h⟩
   have GR:=aa h
   clear h HD
   go_wp2_with fail
   go_loopw[3] (fun i wr=>∃j:Nat,j<=200/\i=j/\Hid (Tp w x0 A2 k2 (102+j) wr)) (fun i _=>200-(intOf i).toNat)
   case atStart=>exact⟨0,aY _,rfl,GR⟩
   case round =>
    clear GR;obtain⟨j,hj,rfl,HA⟩:=hrel;by_cases hlt:j<200
    ·have HD:Hid (Calls prog 17 #[.pointer (some ⟨x0,0,none⟩),.agg #[.int .i64 1,.int .i64 (1-(j:Int)%2),.int .i64 0,.int .i64 0,.int .i64 0,.bool false,.slice none 0 0,.int .i64 0,.slice none 0 0]] wr fun r w'=>(∃v,r=.returned (.int .i64 v))/\Tp w x0 A2 k2 (102+j+1) w'):=Hv ae HA (aj wr) ⟨1,1-(j:Int)%2,Mo.qi,0,[]⟩ (by
      unfold Tl;rw[ai ae,ai ae,ai ae];congr 1;omega) ⟨none,0⟩ (dv.nil _ _ _ _)
     exact Vx
    ·have MP:Hid (Tp w x0 A2 k2 302 wr):=by
      have:j=200:=ae;subst this;exact HA
     clear HA
     obtain⟨hb,q,s,hq,hM,hU⟩:=MP.out
     obtain⟨b1,b2⟩:=acn 302 ah
     have ok:=acm
     obtain⟨y,hy⟩:=aD (awM 302)
     rw[<-hy]at hM b1 b2 ok
     clear hy
     unfold awB at ok
     simp only[dI,cU,beq_iff_eq]at ok
     obtain⟨⟨⟨⟨⟨k1,Y2⟩,k3⟩,k4⟩,k5⟩,k6⟩:=ok
     have Zz:y.T.length=2:=by have:=b1.B.T;rw[b2]at this;have h2:Mo.vo.threads=2:=rfl;omega
     have hP2:y.P.length=y.T.length:=by have:=b1.B.P;have:=b1.B.T;omega
     have K3:=aa (fun wx (hb:Below wr wr wx)=>hM.more hb)
     have HNT:=aa (fun wx hb=>Pk (K3 wx hb) (m:=5) Y2.symm ah (fun y hy=>bm (b1.C.N y hy) ah))
     have E9:=aa (fun wx hb=>Tg (K3 wx hb) ae hP2 b1.B.NQ)
     have KH:=aa (fun wx hb=>(AB (K3 wx hb) (t:=0) ae (b1.cp ah ae)).mono fun e w' h=>h)
     have gw:=aa (fun wx hb=>(AB (K3 wx hb) (t:=1) ae (b1.cp ah ae)).mono fun e w' h=>h)
     have P6:=aa (fun wx hb=>Di (K3 wx hb) (m:=2) k6.symm ah (fun y hy=>⟨bm (b1.C.V y hy).1 ah,fun o ho=>bm ((b1.C.V y hy).2 o ho) ah⟩))
     rw[k1]at E9
     have HB:=aa hb;have qE:=aa k3;have Ad:=aa k4;have xD:=aa k5;have HN5:=aa Y2
     clear hb hq hM hU b1 b2 k1 Y2 k3 k4 k5 k6 Zz hP2 K3 MP
     go_wp2_with fail
     refine(HNT wr (aj wr)).mono ?_
     rintro e w2 ⟨B,d,rfl,ho,hb⟩
     obtain⟨g,d',hv,hg1,hg2⟩:=aH.form ho (by intro e;have:=HN5.out;rw[e]at this;cases this)
     injection hv with xH hv2 hv3
     subst xH hv3
     obtain⟨nt,hnt⟩:∃nt,y.N[1]?=some nt:=⟨_,cD (by have:=HN5.out;omega)⟩
     obtain⟨r,⟨z9,rfl,_⟩,_,hr3⟩:=aH.at_ ho hnt
     have hkd:nt.kind=2:=by have:=qE.out;rw[eR,hnt]at this;exact this
     have su:w2.cell? ⟨g,13,none⟩=some (.int .i64 2):=by rw[<-hkd];exact hr3 0 _ rfl
     have Px:=aa su;have bq:=aa hb
     clear hv2 hnt hr3 hkd su hb ho HNT hg1 hg2
     go_wp2_with fail
     refine(E9 w2 bq).mono ?_
     rintro e w3 ⟨rfl,hb⟩
     have bZ:=aa (ag bq hb)
     have su:=(Below.cell hb (bc Px)).trans Px
     clear hb Px E9
     go_wp2_with fail
     refine(KH w3 bZ).mono ?_
     rintro e w4 ⟨s4,rfl,hb⟩
     have fJ:=aa (ag bZ hb)
     obtain⟨T0,tC⟩:=aD (iu (Mo.bu y 0) s4)
     rw[<-tC]
     have hf:∀w,(Instr.field 50 (.agg T0.toArray) 18).run prog w=.ok (.agg #[.int .i64 (Mo.bu y 0).res.seq,.int .i64 (Mo.bu y 0).res.cs,.int .i64 (Mo.bu y 0).res.code,.int .i64 7]) w:=fun w=>by rw[tC, <-Ad.out];rfl
     have hf2:∀(a b c d:Value) w,(Instr.field 48 (.agg #[a,b,c,d]) 3).run prog w=.ok d w:=fun _ _ _ _ _=>rfl
     clear hb KH su tC
     go_wp2_with fail
     refine(gw w4 fJ).mono ?_
     rintro e w5 ⟨s5,rfl,hb⟩
     have iW:=aa (ag fJ hb)
     obtain⟨T1,kY⟩:=aD (iu (Mo.bu y 1) s5)
     rw[<-kY]
     have hg:∀w,(Instr.field 50 (.agg T1.toArray) 18).run prog w=.ok (.agg #[.int .i64 (Mo.bu y 1).res.seq,.int .i64 (Mo.bu y 1).res.cs,oZ,.int .i64 (Mo.bu y 1).res.value]) w:=fun w=>by rw[kY, <-xD.out];rfl
     have hg2:∀(a b c d:Value) w,(Instr.field 48 (.agg #[a,b,c,d]) 2).run prog w=.ok c w:=fun _ _ _ _ _=>rfl
     clear hb gw kY hf hf2
     go_wp2_with fail
     refine(P6 w5 iW).mono ?_
     rintro e w6 ⟨B6,d6,rfl,-,hb⟩
     have wT:=aa (ag HB (ag iW hb))
     clear hb P6
     go_wp2_with fail
     go_ret
     exact⟨rfl,wT⟩
end
theorem Kz(x:List Mo.Tk){j:Nat}{y:Mo.Tk}(h:x[j]?=some y)(f:Mo.Tk->Int):Mo.ia f (x.take (j+1))=Mo.ia f (x.take j)+f y:=by unfold Mo.ia;rw[List.take_add_one,h];simp
theorem tM{f:Mo.Tk->Int}:∀(x:List Mo.Tk),(∀y∈x,0<=f y)->∀j,0<=Mo.ia f (x.take j)/\Mo.ia f (x.take j)<=Mo.ia f x
 |[],_,j=>by simp[Mo.ia]
 |y::x,h,0=>by
  have:=tM x (fun z hz=>h z (List.mem_cons_of_mem _ hz)) x.length
  rw[List.take_length]at this
  have:=h y List.mem_cons_self
  unfold Mo.ia at *
  simp
  omega
 |y::x,h,j+1=>by
  have:=tM x (fun z hz=>h z (List.mem_cons_of_mem _ hz)) j
  have:=h y List.mem_cons_self
  unfold Mo.ia at *
  simp only[List.take_succ_cons,List.map_cons,List.sum_cons]
  omega
section
variable{w:World} {A E:Option Addr} {k d m:Nat} {c:Mo.bH} {l:List Mo.Ev}
theorem ym(hr:bC w .i64 A c.start)(hm:m=l.length)(hl:jF 9 Yy w (·<w.heap.size) E l) :
 Calls prog 3 #[mH c A c.start.length k,.slice E m d] w fun e w'=>e=.returned true/\Below w w w':=by
 obtain⟨n,hn⟩:=aD c.start.length
 rw[<-hn]
 have HN:=aa hn;have HR:=aa hr;have HL:=aa hl;have HM:=aa hm
 have Zm:=aa (fun wx=>Ky wx)
 unfold mH
 clear hn hr hl hm
 go_enter func3,ntmps3
 go_upto_region 2 with fail
 generalize wrap64 (1+wrap64 ((IntKind.u64.wrap c.tags).tmod 4))=T
 generalize IntKind.u64.wrap c.tags=T1
 obtain⟨c2,t0,hc,hT⟩:∃(c2:Mo.bH) (t0:Int),c={c2 with tags:=t0}/\T=c2.tags:=⟨{c with tags:=T},c.tags,rfl,rfl⟩
 subst hc hT
 dsimp only at *
 obtain⟨w1,kI⟩:=aD (w.alloc (cr c2 A n k))
 have bj:Hid (Below w w w1):=by rw[kI];exact ak (aj w) _
 have pn:Hid (af w1 w.heap.size 24 #[c2.kind,c2.threads,c2.chans,c2.cap,c2.nodes,c2.aJ,c2.aB,c2.tags,c2.bn,c2.ba,.slice A n k]):=by rw[kI];exact af.new _ _ _
 have HSM:=aa (J7 w1 (c:=c2) (k:=k) HN (HR.below bj))
 unfold mH at HSM
 obtain⟨hcc,-,hlc⟩:=af.aK pn
 rw[<-kI]
 clear kI
 go_wp2_with fail
 refine HSM.mono ?_
 rintro e w2 ⟨b,rfl,hS,hb⟩
 have bq:=aa (ag bj hb);have iq:=aa (pn.ag hb);have HS:=aa hS
 clear hS hb hcc hlc HSM pn bj
 obtain⟨hcc,-,hlc⟩:=af.aK iq
 cases b with
 |false=>exact Vy
 |true =>
  by_cases Lq:1500<m
  ·exact Vy
  obtain⟨hc,ji,jC⟩:=HS.out rfl;have acp:m<=1500:=ae;have Vd:=aa (Pt (w:=w2) (k:=k) (d:=d) hc ji (Int.le_trans jC ah) HN (HR.below bq) HM acp ((HL.below F8 (fun _ h=>h) bq).mono F8 fun b hb=>bF hb bq.size));obtain⟨b1,b2⟩:=AG hc ji (Int.le_trans jC ah) (l.getD · Vw) m acp
  obtain⟨y,hy⟩:=aD (xu c2 (l.getD · Vw) m)
  rw[<-hy]at Vd b1 b2;clear hy;unfold mH at Vd;have Si:=aa b1;have xG:=aa b2;have YA:=aa hc;clear hc ji jC b1 b2 HS;go_wp2_with fail;refine Vd.mono ?_;rintro e w3 ⟨x0,A3,k3,q,s,hq,rfl,hMS,hb,-⟩;have bZ:=aa (ag bq hb);have pY:=aa (iq.ag hb);have K3:=aa (fun wx (hb:Below w3 w3 wx)=>hMS.more hb);clear hq hMS hb hcc hlc Vd iq bq;have P6:=aa (Di (K3 w3 (aj w3)) (m:=y.V.length) rfl (by have:=Si.B.V;omega) (fun z hz=>⟨bm (Si.C.V z hz).1 ah,fun o ho=>bm ((Si.C.V z hz).2 o ho) ah⟩));obtain⟨V,hV⟩:=aD y.V.length;rw[<-hV]at P6;have HV:=aa hV;clear hV;go_wp2_with fail;refine P6.mono ?_;rintro e w4 ⟨B,dd,rfl,-,hb⟩;have fJ:=aa (ag bZ hb);have PV:=aa (pY.ag hb);have adF:=aa hb;clear hb P6 pY bZ;have cQ:=fun wx (hx:Ext w4 wx) i=>af.cell (PV.ag hx.out) i;have kO:=aa (fun wx (hx:Ext w4 wx)=>CS wx (c:=c2) (k:=k) YA HN (HR.below (ag fJ hx.out)));unfold mH at kO;go_upto_region 8 with fail
  obtain⟨N,hN⟩:=aD (Mo.bI c2);rw[<-hN]at kO;have hL:=Mo.MI.law Si.I;rw[xG.out, <-hN]at hL;have hNb:1<=N/\N<=65535:=by have hp:=aG YA;have C:=Mo.vS YA;have h1:=C.n;rw[<-hN]at h1;refine⟨?_,h1⟩;have:c2.threads*c2.nodes>=0:=gO ae ae;rw[hN];unfold Mo.bI;rw[ai (by rw[YA.out];decide)];omega
  have htg:1<=c2.tags/\c2.tags<=4294967295:=(aG YA).2.2.2.2.1;obtain⟨P,hP⟩:=aD ((N-1)*c2.tags);have YK:0<=P/\P<=65534*4294967295:=by rw[hP];exact⟨gO ae ae,Int.mul_le_mul ae htg.2 ae ae⟩
  have e1:IntKind.i64.wrap (N-1)=N-1:=bK _ ae;have e2:IntKind.i64.wrap ((N-1)*c2.tags)=P:=by rw[<-hP];exact bK _ ae
  have e3:IntKind.i64.wrap (P+c2.tags)=P+c2.tags:=bK _ ae;have e4:IntKind.i64.wrap (P+c2.tags-1)=P+c2.tags-1:=bK _ ae;rw[<-hP, <-HV.out]at hL;have d1:decide (P+c2.tags-1<(V:Int))=false:=bJ ae;have HSP:=aa hL.2;have Zu:=aa hNb;clear hL hN hNb htg hP YK;go_region_held3(Ext w4) (exact xj) (first|((with_reducible refine(kO.out _ bE).mono ?_);rintro e w5 ⟨rfl,hb⟩;have xb:Ext w4 w5:=Ext.to bE hb));have sZ:=aa xb;have Ki:=aa (PV.ag xb.out);clear e1 e2 e3 e4 d1 cQ hb xb;obtain⟨th,ji⟩:∃th:Nat,c2.threads=th:=⟨c2.threads.toNat,by have:=(aG YA).1.1;omega⟩
  have adE:th<=64:=by have:=(aG YA).1.2;omega
  have AP:Hid (y.T.length=th):=by have h1:=Si.B.T;rw[xG.out,ji]at h1;unfold Hid;omega
  obtain⟨hcc,-,hlc⟩:=af.aK Ki;rw[ji]at hcc;have Ux:=aa ji;clear ji;go_wp2_with fail;go_loopw[7,8] (fun sp i wr=>∃j:Nat,j<=th/\i=j/\∃S:Int,sp=S/\Hid (S=Mo.ia (fun k=>k.az.spent) (y.T.take j))/\Hid (Below w4 w4 wr)) (fun _ i _=>th-(intOf i).toNat);case atStart=>exact⟨0,aY _,rfl,0,rfl,rfl,sZ⟩
  case round =>
   clear sZ Ki hcc hlc;obtain⟨j,hj,rfl,S,rfl,HS,HB⟩:=hrel;have HC6:=aa (PV.ag HB);obtain⟨hcc,-,hlc⟩:=af.aK HC6;rw[Ux.out]at hcc;have hall:∀z∈y.T,0<=z.az.spent:=fun z hz=>(Si.B.tb z hz).a.az.sp;by_cases hlt:j<th
   ·have hjT:j<y.T.length:=by rw[AP.out];exact hlt
    have p6:=aa (AB (K3 wr (ag adF HB)) hjT (Si.cp ae hjT));obtain⟨sp,hsp⟩:=aD ((Mo.bu y j).az.spent);have h1:=Kz y.T (Mo.lC hjT) (fun k=>k.az.spent);have h2:=tM y.T hall (j+1);rw[h1, <-HS.out, <-hsp]at h2;have h3:=HSP.out;have h4:=Zu.out;have e1:IntKind.i64.wrap (S+sp)=S+sp:=bK _ ae;have qR:Hid (S+sp=Mo.ia (fun k=>k.az.spent) (y.T.take (j+1))):=by rw[h1, <-HS.out, <-hsp];rfl
    have HSQ:=aa hsp;clear h1 h2 h3 h4 hjT hall hsp HS;go_wp2_with fail;refine p6.mono ?_;rintro e w6 ⟨s6,rfl,hb⟩;obtain⟨T0,tC⟩:=aD (iu (Mo.bu y j) s6);rw[<-tC];have hf:∀w,(Instr.field 50 (.agg T0.toArray) 17).run prog w=.ok (.agg #[.int .i64 (Mo.bu y j).az.own.ix,.int .i64 (Mo.bu y j).az.own.tag,.slice s6.fr.A (Mo.bu y j).az.free.length s6.fr.c,.slice s6.ol.A (Mo.bu y j).az.old.length s6.ol.c,sp]) w:=fun w=>by rw[tC,HSQ.out];rfl
    have hf2:∀(a b c d e:Value) w,(Instr.field 39 (.agg #[a,b,c,d,e]) 3).run prog w=.ok e w:=fun _ _ _ _ _ _=>rfl;have wT:=aa (ag HB hb);clear hb p6 tC;go_wp2_with fail;go_roundw;case rel=>exact⟨j+1,ae,by go_num,S+sp,rfl,qR,wT⟩
    case measure=>simp[intOf];omega
   ·have hjt:y.T.take j=y.T:=List.take_of_length_le (by rw[AP.out];omega);have h1:=HS.out;rw[hjt]at h1;have h3:=HSP.out;rw[<-h1]at h3;have HN6:=aa (kO wr HB);rw[Ux.out]at HN6;clear h1 hjt hall HS;go_wp2_with fail;with_reducible refine HN6.out.mono ?_
    rintro e w6 ⟨rfl,hb⟩;have wT:=aa (ag HB hb);clear hb;go_wp2_with fail;refine(Zm w6).mono ?_;rintro e w7 ⟨rfl,hb⟩;have PS:=aa (ag fJ (ag wT hb));clear hb;go_wp2_with fail;go_ret;exact⟨rfl,PS⟩
end
end Go.Proofs.YtjcjjiieblineaaGreat
