/- Walks and plain facts. No condition. -/
import Derived.Test.YtjcjjiieblineaaGreatPd
namespace Go.Proofs.YtjcjjiieblineaaGreat
open Go.RowKit Go.Proofs.Tryz
set_option maxHeartbeats 8000000
set_option maxRecDepth 100000
set_option linter.all false
variable {g:Nat}{l:List Int}{a0 a1 a2 a3 a4:Value}
def vd(x:Int):Int×Int×Int:=(x%256,x/256%65536,x/4294967296)
section
variable(w:World)
theorem LR{a w:World}(h:Below a a w)(hg:a.heap.size<=g)(u0 u1 u2 u3 u4:Value) :
 Below a a (((((w.setCell ⟨g,0,none⟩ u0).setCell ⟨g,1,none⟩ u1).setCell ⟨g,2,none⟩ u2).setCell ⟨g,3,none⟩ u3).setCell ⟨g,4,none⟩ u4) :=
 ((((h.setCell hg _).setCell hg _).setCell hg _).setCell hg _).setCell hg _
theorem TI{w:World}{t:TypeId}(h:af w g t #[a0,a1,a2,a3,a4])(u0 u1 u2 u3 u4:Value) :
 (w.setCell ⟨g,0,none⟩ u0).cell? ⟨g,0,none⟩=some u0/\((w.setCell ⟨g,0,none⟩ u0).setCell ⟨g,1,none⟩ u1).cell? ⟨g,1,none⟩=some u1 /\
  (((w.setCell ⟨g,0,none⟩ u0).setCell ⟨g,1,none⟩ u1).setCell ⟨g,2,none⟩ u2).cell? ⟨g,2,none⟩=some u2 /\
  ((((w.setCell ⟨g,0,none⟩ u0).setCell ⟨g,1,none⟩ u1).setCell ⟨g,2,none⟩ u2).setCell ⟨g,3,none⟩ u3).cell? ⟨g,3,none⟩=some u3 /\
  (((((w.setCell ⟨g,0,none⟩ u0).setCell ⟨g,1,none⟩ u1).setCell ⟨g,2,none⟩ u2).setCell ⟨g,3,none⟩ u3).setCell ⟨g,4,none⟩ u4).cell? ⟨g,4,none⟩=some u4:=by
 have h0:=h.bb 0 u0
 have h1:=h0.bb 1 u1
 have h2:=h1.bb 2 u2
 have h3:=h2.bb 3 u3
 have h4:=h3.bb 4 u4
 exact⟨by rw[h0.cell];rfl,by rw[h1.cell];rfl,by rw[h2.cell];rfl,by rw[h3.cell];rfl,by rw[h4.cell];rfl⟩
theorem aab{α:Type}{w:World}{base m:Nat}{e t:TypeId}{f:α->List Value}{A:Option Addr}{n c:Nat}{cs:List α}(o:aI w base e m f (.slice A n c) cs)(h:af w g t #[a0,a1,a2,a3,a4])(hne:e≠t)(u0 u1 u2 u3 u4:Value) :
 cN (((((w.setCell ⟨g,0,none⟩ u0).setCell ⟨g,1,none⟩ u1).setCell ⟨g,2,none⟩ u2).setCell ⟨g,3,none⟩ u3).setCell ⟨g,4,none⟩ u4) f A cs:=by
 have o0:=o.far h hne 0 u0
 have h0:=h.bb 0 u0
 have o1:=o0.far h0 hne 1 u1
 have h1:=h0.bb 1 u1
 have o2:=o1.far h1 hne 2 u2
 have h2:=h1.bb 2 u2
 have o3:=o2.far h2 hne 3 u3
 have h3:=h2.bb 3 u3
 have o4:=o3.far h3 hne 4 u4
 obtain⟨A9,c9,Ik,hr9⟩:=o4.rd
 injection Ik with Ik
 rw[Ik]
 exact hr9
def VS(l:List Int):Int:=l.getD 0 0/256%16
def QV(l:List Int):List (Int×Int×Int):=((l.drop 1).take (VS l).toNat).map vd
def iN(l:List Int):Bool:=decide (l.length=5) && decide (VS l<=3) && decide (l.getD 4 0<=4294967295) &&
 (kf (l.getD 0 0%256) (l.getD 0 0/65536%65536) (l.getD 0 0/4294967296) (l.getD 0 0/4096%2==1) (QV l) (l.getD 4 0)==l)
def qK(l:List Int):Int:=if iN l=true then l.getD 0 0%256 else 0
def qA(l:List Int):Int:=if iN l=true then l.getD 0 0/65536%65536 else 0
def qV(l:List Int):Int:=if iN l=true then l.getD 0 0/4294967296 else 0
def qD(l:List Int):Bool:=if iN l=true then l.getD 0 0/4096%2==1 else false
def qC(l:List Int):List (Int×Int×Int):=if iN l=true then QV l else[]
def qP(l:List Int):Int:=if iN l=true then l.getD 4 0 else 0
def aac(ki ar va:Int)(df:Bool)(cs:List (Int×Int×Int))(ph:Int)(ok:Bool)(w:World)(e:Ending)(w':World):Prop:=(∃B d,e=.returned (.tuple #[.agg #[ki,ar,va,df,.slice B cs.length d],ph,ok])/\cN w' bk B cs/\∀ad,B=some ad->cs≠[]->w.heap.size<=ad.block)/\Below w w w'
def xP(l:List Int)(w:World)(e:Ending)(w':World):Prop:=aac (qK l) (qA l) (qV l) (qD l) (qC l) (qP l) (iN l) w e w'
theorem xP.no{w w':World}(h:iN l=false)(hb:Below w w w'):xP l w (.returned (.tuple #[.agg #[oZ,oZ,oZ,false,oN],oZ,false])) w':=by unfold xP qK qA qV qD qC qP;simp only[h,Bool.false_eq_true,if_false];exact⟨⟨none,0,rfl,cN.nil _ _ _,fun ad h=>by cases h⟩,hb⟩
theorem Ek(h:3<VS l):iN l=false:=by unfold iN;rw[bJ (p:=VS l<=3) ae];simp
theorem Iu(h:4294967295<l.getD 4 0):iN l=false:=by unfold iN;rw[bJ (p:=l.getD 4 0<=4294967295) ae];simp
theorem Iw(h:¬l.length=5):iN l=false:=by unfold iN;rw[bJ h];simp
theorem Ix(ki ar va:Int)(df:Bool)(cs:List (Int×Int×Int))(ph:Int):(kf ki ar va df cs ph).length<=17592186044416:=by
 unfold kf;split
 ·rename_i h;have h3:=h.1;simp only[bt,dI,cU]at h3;simp;omega
 ·simp
theorem Iy:(prog.info? 110).map (fun i=>(i.zero,i.size,i.bytes))=some (some (.agg #[oZ,oZ,oZ]),3,24):=by kernel_rfl
theorem xQ(ad:Addr)(c:Nat)(l0 l1 l2 l3 l4 ki ar va db:Int)(n:Nat)(kg:5<=c)(hc0:w.cell? ad=some (.int .u64 l0))(KD:w.cell? ⟨ad.block,ad.off+4,none⟩=some (.int .u64 l4))(hlt:ad.block<w.heap.size)(AP:Hid (bC w .u64 (some ⟨ad.block,ad.off+1,none⟩) [l1,l2,l3,l4]))(xx:Hid (bC w .u64 (some ad) [l0,l1,l2,l3,l4]))(a1:bits BinOp.and IntKind.u64 l0 255=ki)(a2:0<=ki)(a3:ki<=255)(a4:bits BinOp.and IntKind.u64 (l0/65536) 65535=ar)(a5:0<=ar)(a6:ar<=65535)(a8:l0/4294967296=va)(a9:0<=va)(a10:va<=4294967295)(b1:bits BinOp.and IntKind.u64 (l0/4096) 1=db)(b3:bits BinOp.and IntKind.u64 (l0/256) 15=(n:Int))(h3:n<=3)(YH:0<=l4)(h4:l4<=4294967295)(adO:0<=l0)(hz:∀z∈[l0,l1,l2,l3,l4],0<=z/\z<18446744073709551616)(a0:l0%256=ki)(a7:l0/65536%65536=ar)(a11:l0/4294967296=va)(b2:l0/4096%2=db)(b5:l0/256%16=(n:Int)) :
 Calls prog 164 #[.slice (some ad) 5 c] w fun e w'=>xP [l0,l1,l2,l3,l4] w e w':=by
 have HZ:=aa hz
 have A0:=aa a0;have A7:=aa a7;have A8:=aa a11;have B2:=aa b2;have B5:=aa b5
 clear hz a0 a7 a11 b2 b5
 have Gw:decide ((3:Int)<(n:Int))=false:=by simp;omega
 have KE:decide (4294967295<l4)=false:=bJ ae
 go_enter func164,ntmps164
 go_wp2
 go_quiet(fail)
 go_wp2_with fail
 rw[Nat.add_sub_cancel_left]
 go_loopw[52] (fun i wr=>∃(k:Nat) (v:Value) (cs:List (Int×Int×Int)),k<=n/\i=k /\
  Hid (af wr w.heap.size 42 #[oZ,oZ,oZ,false,oN]) /\
  Hid (af wr (w.heap.size+1) 42 #[ki,ar,va,(db==1),v]) /\
  Hid (aI wr w.heap.size 110 3 bk v cs)/\Hid (cs.length=k)/\Hid (cs=(([l1,l2,l3,l4]:List Int).take k).map vd)/\Below w w wr/\w.heap.size+1<wr.heap.size) (fun i _=>n-(intOf i).toNat)
 case atStart =>
  refine⟨0,_,[],aY _,rfl,?_,?_,aI.nil _ _ _ _ _,rfl,rfl,bO (ak (ak (aj _) _) _) _,?_⟩
  ·exact(((af.new w _ _).alloc _).drewN _)
  ·exact(af.newAt _ _ _ aF).drewN _
  ·simp
 case round =>
  obtain⟨k,v,cs,hk,rfl,bG,bj,HO,gu,Dn,hb,hsz⟩:=hrel;have hcv:wr.cell? ⟨w.heap.size+1,4,none⟩=some v:=by rw[af.cell bj.out];rfl
  by_cases xR:k<n
  ·obtain⟨_,x,h,hx,aT⟩:=bC.at_ (AP.below hb) (i:=k) (by simp;omega);injection h with h;subst h
   rw[nC]at aT;have LS:=HZ.out x (List.mem_cons_of_mem _ (dO hx));obtain⟨d,x1,x2,x3,x4⟩:∃d,bits BinOp.and IntKind.u64 x 255=d/\0<=d/\d<=255/\x%256=d:=⟨_,zD _ ae ae,ae,ae,rfl⟩
   obtain⟨hd,x5,x6,x7,x8⟩:∃hd,bits BinOp.and IntKind.u64 (x/256) 65535=hd/\0<=hd/\hd<=65535/\x/256%65536=hd:=⟨_,vq _ ae ae,ae,ae,rfl⟩
   obtain⟨vv,x9,y1,y2⟩:∃vv,x/4294967296=vv/\0<=vv/\vv<=4294967295:=⟨_,rfl,ae,ae⟩
   have hdec:vd x=(d,hd,vv):=by unfold vd;rw[x4,x8,x9]
   have acB:=aa hdec;have HX:=aa hx;have hx0:0<=x:=LS.1;clear hdec hx x4 x8 LS;go_wp2_with(at_builtin;refine cj _ rfl _ _ 40 rfl w.heap.size 110 3 24 (.agg #[oZ,oZ,oZ]) bk eZ sG underlying40 Iy rfl ah _ cs rfl (HO.alloc _) wr.heap.size 1 1 [(d,hd,vv)] rfl rfl (Rd.lit wr [d,hd,vv] _) ?c4 ?c5 ?c6 ?_)
   case c4=>have:=gu.out;simp;omega
   case c5=>have:=gu.out;simp;omega
   case c6=>simp;omega
   intro v2 w2 hown' hgrow _;have hb':=(HO.alloc _).br (ak hb _) hgrow (by simp;omega) (aS _);have hsz':w.heap.size+1<w2.heap.size:=by have:=hgrow.size;simp at this;omega
   have fI:=(af.alloc bG _).grown hgrow (HO.other bG ah);have ma:=(af.alloc bj _).grown hgrow (HO.other bj ah);have yD:(cs++[(d,hd,vv)]).length=k+1:=by have:=gu.out;simp;omega
   have HLEN:=aa yD;obtain⟨A2,c2,hv2,_⟩:=hown'.rd;rw[yD]at hv2;subst hv2;clear yD;have hc1:w2.cell? ⟨w.heap.size+1,4,none⟩=some v:=by rw[af.cell ma];rfl
   have VU:=ma.free 4;have acC:=aa (fI.far (p:=⟨w.heap.size+1,4,none⟩) aF (.slice A2 (k+1) c2));have acD:Hid (af (w2.setCell ⟨w.heap.size+1,4,none⟩ (.slice A2 (k+1) c2)) (w.heap.size+1) 42 #[ki,ar,va,(db==1),.slice A2 (k+1) c2]):=af.bb ma 4 _;have zI:=aa (hown'.far ma ah 4 (.slice A2 (k+1) c2));clear fI ma hown' hgrow;go_wp2_with fail;go_roundw;case rel =>
    have acE:Hid (cs++[(d,hd,vv)]=(([l1,l2,l3,l4]:List Int).take (k+1)).map vd):=by rw[Hid,Dn.out,fz HX.out,List.map_append, <-acB.out];rfl
    have hb2:=hb'.setCell (p:=⟨w.heap.size+1,4,none⟩) aF (.slice A2 (k+1) c2);exact⟨k+1,_,_,ae,by go_num,acC,acD,zI,HLEN,acE,hb2,by simp;omega⟩
   case measure=>simp[intOf];omega
  ·have qp:k=n:=ae;subst qp;have hcs:cs=QV [l0,l1,l2,l3,l4]:=by
    rw[Dn.out];have e:VS [l0,l1,l2,l3,l4]=(k:Int):=B5.out;unfold QV;rw[e];rfl
   have Dp:iN [l0,l1,l2,l3,l4]=(kf ki ar va (db==1) cs l4==[l0,l1,l2,l3,l4]):=by
    unfold iN;rw[dg (p:=VS [l0,l1,l2,l3,l4]<=3) (by have e:VS [l0,l1,l2,l3,l4]=(k:Int):=B5.out;rw[e];omega),
     dg (p:=([l0,l1,l2,l3,l4]:List Int).getD 4 0<=4294967295) (by simpa using h4), <-hcs, <-A0, <-A7, <-A8, <-B2]
    simp
   have acF:=aa hcs;have PC:=aa Dp;clear hcs Dp Dn Gw KE;have aad:=fun i=>af.cell bG i;have acG:=fun i=>af.free bG i;have acH:=fun i=>af.cell bj i;obtain⟨A2,c2,hv,jD⟩:=HO.rd;rw[gu.out]at hv;subst hv;have lB:=aa jD;clear jD hcv;have CALL:=vy wr ki ar va (db==1) A2 c2 cs l4 (by rw[gu.out];omega) lB;rw[gu.out]at CALL;have BC:=aa CALL;clear CALL;have nP:w.heap.size<wr.heap.size:=ae;go_wp2_with fail;refine(BC.mono fun _ _ h=>h.J).mono ?_;rintro e w2 ⟨⟨B,d,rfl,_,sR⟩,hb2⟩;have Gx:=aa (Lp w2 B (some ad) d c (kf ki ar va (db==1) cs l4) [l0,l1,l2,l3,l4] (Ix _ _ _ _ _ _) aF sR ((xx.below hb).below hb2));have fI:=aa (bG.ag hb2);have ma:=aa (bj.ag hb2);have adH:=fun i=>af.cell fI.out i;have adI:=fun i=>af.free fI.out i;have adJ:=fun i=>af.cell ma.out i;have aae:=aa (lB.below hb2);have adP:w.heap.size<w2.heap.size:=by have:=hb2.size;omega
   clear aad acG acH sR;rcases sS:(kf ki ar va (db==1) cs l4==[l0,l1,l2,l3,l4])with _|_
   ·rw[sS]at Gx PC;clear sS;go_wp2_with fail;refine Gx.mono ?_;rintro e w' ⟨rfl,rfl⟩;go_wp2_with fail;refine bodyPost_ret (v:=?_) ?_ rfl ?_;rotate_left
    ·obtain⟨k0,k1,k2,k3,k4⟩:=TI fI.out oZ oZ oZ false oN;simp[results,results164,go_sem,k0,k1,k2,k3,k4];rfl
    ·exact xP.no PC (LR (ag hb hb2) (aS _) _ _ _ _ _)
   ·rw[sS]at Gx PC;clear sS;go_wp2_with fail;refine Gx.mono ?_;rintro e w' ⟨rfl,rfl⟩;go_wp2_with fail;refine bodyPost_ret (v:=?_) ?_ rfl ?_;rotate_left
    ·obtain⟨k0,k1,k2,k3,k4⟩:=TI fI.out ki ar va (db==1) (.slice A2 k c2);simp[results,results164,go_sem,k0,k1,k2,k3,k4];rfl
    ·unfold xP qK qA qV qD qC qP;simp only[PC.out,if_true];have e0:([l0,l1,l2,l3,l4]:List Int).getD 0 0=l0:=rfl;have e4:([l0,l1,l2,l3,l4]:List Int).getD 4 0=l4:=rfl;rw[e0,e4,A0.out,A7.out,A8.out,B2.out, <-acF.out];refine⟨⟨A2,c2,by rw[gu.out],?_,fun ad ha _=>by subst ha;exact(aX HO rfl).1⟩,LR (ag hb hb2) (aS _) _ _ _ _ _⟩;exact aab (HO.ag hb2) fI.out ah _ _ _ _ _
theorem zQ(A:Option Addr)(c:Nat)(l:List Int)(hl:l.length<=17592186044416)(kg:l.length<=c)(hz:∀z∈l,0<=z/\z<18446744073709551616)(hr:bC w .u64 A l) :
 Calls prog 164 #[.slice A l.length c] w fun e w'=>xP l w e w':=by
 by_cases h5:l.length=5
 ·match l,h5 with
  |[l0,l1,l2,l3,l4],_ =>
   obtain⟨ad,rfl,hc0⟩:=hr 0 (.int .u64 l0) rfl;obtain⟨_,h,KD⟩:=hr 4 (.int .u64 l4) rfl;injection h with h;subst h
   rw[add_zero]at hc0;rw[add_lit _ _ ah]at KD;have hlt:=bc hc0;have hb0:=hz l0 aF;have hb4:=hz l4 aF;have AP:=aa (bC.tail hr);have xx:=aa hr;have HZ:=aa hz;clear hz;obtain⟨ki,a1,a2,a3,a0⟩:∃ki,bits BinOp.and IntKind.u64 l0 255=ki/\0<=ki/\ki<=255/\l0%256=ki:=⟨_,zD _ ae ae,ae,ae,rfl⟩
   obtain⟨ar,a4,a5,a6,a7⟩:∃ar,bits BinOp.and IntKind.u64 (l0/65536) 65535=ar/\0<=ar/\ar<=65535/\l0/65536%65536=ar:=⟨_,vq _ ae ae,ae,ae,rfl⟩
   obtain⟨va,a8,a9,a10⟩:∃va,l0/4294967296=va/\0<=va/\va<=4294967295:=⟨_,rfl,ae,ae⟩
   obtain⟨db,b1,b2⟩:∃db,bits BinOp.and IntKind.u64 (l0/4096) 1=db/\l0/4096%2=db:=⟨_,Qo _ ae ae,rfl⟩
   obtain⟨n,b3,b4,b5⟩:∃n:Nat,bits BinOp.and IntKind.u64 (l0/256) 15=(n:Int)/\n<=15/\l0/256%16=(n:Int):=by refine⟨(l0/256%16).toNat,?_,ae,ae⟩;rw[Gd _ ae ae];omega
   have A0:=aa a0;have A7:=aa a7;have A8:=aa a8;have B2:=aa b2;have B5:=aa b5;have YH:0<=l4:=hb4.1;have TJ:0<=l0:=hb0.1;clear a0 a7 b2 b5 hb0 hb4;by_cases h3:3<n
   ·have hno:iN [l0,l1,l2,l3,l4]=false:=by
     exact Ek (by have:=B5.out;show 3<l0/256%16;omega)
    exact aaf
   by_cases h4:4294967295<l4
   ·have hno:iN [l0,l1,l2,l3,l4]=false:=by
     exact Iu (by simpa using h4)
    exact aaf
   exact xQ w ad c l0 l1 l2 l3 l4 ki ar va db n kg hc0 KD hlt AP xx a1 a2 a3 a4 a5 a6 a8 a9 a10 b1 b3 ae YH ae TJ HZ A0 A7 A8 B2 B5
 ·have hne:((l.length:Int) !=5)=true:=by simp;omega
  have xy:=aa (Iw h5);clear h5 hz;go_enter func164,ntmps164;go_wp2;refine bodyPost_ret (v:=?_) ?_ rfl ?_;rotate_left
  ·simp[results,results164,go_sem];rfl
  ·exact xP.no xy (ak (aj _) _)
end
end Go.Proofs.YtjcjjiieblineaaGreat
