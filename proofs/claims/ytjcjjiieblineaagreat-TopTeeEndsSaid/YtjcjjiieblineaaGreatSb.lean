/- Walks and plain facts. No condition. -/
import Derived.Test.YtjcjjiieblineaaGreatSa
import Derived.Deep.DrawnRows
import Derived.Deep.RegionHeld3
import Derived.Deep.RegionLaw
import Derived.RegionTactic
namespace Go.Proofs.YtjcjjiieblineaaGreat
open Go.RowKit Go.Proofs.Tryz
set_option maxHeartbeats 8000000
set_option maxRecDepth 100000
set_option linter.all false
theorem mk9{P:Prop}(h:P:=by
 go_wp2_with fail;refine HF.Y.mono ?_;rintro e b ⟨rfl,a⟩;have HB:=ae (ai (ak (aj w) (dV c A n k)) a);clear a;go_wp2_with fail;go_ret;exact⟨rfl,HB.Y⟩):P:=h
theorem QR{P:Prop}(h:P:=by
 rw[JZ.Y];exact⟨rfl,⟨_,_,xC⟩,gv,xD⟩):P:=h
theorem UE{P:Prop}(h:P:=by
 go_enter func229,ntmps229;go_wp2_with fail;go_ret;exact⟨rfl,mn.Y⟩):P:=h
theorem UD{P:Prop}(h:P:=by
 go_wp2;go_ret;exact⟨rfl,ak (aj w) _⟩):P:=h
theorem Zx{P:Prop}(h:P:=by
 go_enter func195,ntmps195;go_wp2_with fail;refine JM.Y.mono ?_;rintro e b ⟨rfl,a⟩;have lR:=jc.Y.ai a;have iR:=fY.Y.ai a;obtain⟨hc0,-,hz0⟩:=af.aM lR;obtain⟨hc1,-,hz1⟩:=af.aM iR;have HK:=ae lR;have br:=ae (ai mn.Y a);clear a lR iR;go_wp2_with fail;refine(UF.Y b).mono ?_;rintro e c ⟨rfl,rfl⟩;go_wp2_with fail;go_ret;exact⟨by simp,br.Y⟩):P:=h
theorem Zw{P:Prop}(h:P:=by
 go_enter func226,ntmps226;go_wp2_with fail;refine HI1.Y.mono ?_;rintro e b ⟨rfl,rfl⟩;go_wp2_with fail;refine HI2.Y.mono ?_;rintro e b ⟨rfl,rfl⟩;go_wp2_with fail;refine HV.Y.mono ?_;rintro e b ⟨rfl,a⟩;have HB:=ae (mn.Y.trans (a.mono (by simp;omega)));have hk:=HK.Y.ai a;obtain⟨hc,-,hzz⟩:=af.aM hk;clear a hk;go_wp2_with fail;go_ret;exact⟨rfl,HB.Y⟩):P:=h
theorem ZX{P:Prop}(h:P:=by
 go_enter func303,ntmps303;go_wp2_with fail;(with_reducible refine(HZ.Y _).mono ?_);rintro e a ⟨rfl,rfl⟩;go_wp2_with fail;(with_reducible refine(HZ.Y _).mono ?_);rintro e a ⟨rfl,rfl⟩;go_wp2_with fail;go_ret;exact⟨rfl,rfl⟩):P:=h
theorem aad{P:Prop}(h:P:=by
 go_enter func283,ntmps283;go_wp2_with fail;(with_reducible refine(Cw.Y _).mono ?_);rintro e a ⟨rfl,rfl⟩;go_wp2_with fail;go_ret2;exact⟨rfl,bM.Y⟩):P:=h
theorem ZM{P:Prop}(h:P:=by
 go_wp2_with fail;refine HD.Y.mono ?_;rintro e b ⟨rfl,a⟩;have HN:=ae ((a.back HB.Y o9));clear a;go_wp2_with fail;go_ret2;exact⟨rfl,HN.Y.more _⟩):P:=h
theorem Zv{P:Prop}(h:P:=by
 go_wp2_with fail;refine HI.Y.mono ?_;rintro e b ⟨rfl,a⟩;have br:=ae a;clear a;go_wp2_with fail;go_ret;rw[HA.Y];exact⟨rfl,br.Y⟩):P:=h
theorem Zu{P:Prop}(h:P:=by
 clear h1;subst hr;go_enter func217,ntmps217;go_wp2;go_ret;exact⟨rfl,ak (aj w) _⟩):P:=h
theorem aae{P:Prop}(h:P:=by
 rintro rfl;have:=H.blk;unfold af at this;rw[hg]at this;injection this with this
 injection this with _ h _
 exact absurd h (by decide)):P:=h
theorem aah{P:Prop}(h:P:=by
 exact FB.bO (by intro x a;cases a) (.inl (by show(0:Int)<8;decide))):P:=h
theorem aag{P:Prop}(h:P:=by
 simp[results,results274,go_sem,fH]):P:=h
theorem aai{P:Prop}(h:P:=by
 exact FB.bO F.cs (.inr (by show(12:Int)<r.k.pc;omega))):P:=h
theorem abO{P:Prop}(h:P:=by
 skip;go_enter func195,ntmps195;go_wp2_with fail;refine JM.Y.mono ?_;rintro e d ⟨rfl,a⟩;have lR:=jc.Y.ai a;have iR:=fY.Y.ai a;obtain⟨hc0,-,hz0⟩:=af.aM lR;obtain⟨hc1,-,hz1⟩:=af.aM iR;have HK:=ae lR;have br:=ae (ai mn.Y a);clear a lR iR;go_wp2_with fail;refine(UF.Y d).mono ?_;rintro e g ⟨rfl,rfl⟩;go_wp2_with fail;refine(HD.Y d br.Y).mono ?_;rintro e b ⟨rfl,a⟩;have wW:∀i,b.cell? ⟨w.heap.size,i,none⟩=_:=fun i=>(a.cell (p:=⟨w.heap.size,i,none⟩) hz0).trans (hc0 i);have wX:∀i,b.cell? ⟨w.heap.size+1,i,none⟩=_:=fun i=>(a.cell (p:=⟨w.heap.size+1,i,none⟩) hz1).trans (hc1 i);have HK:=ae (HK.Y.ai a);have hz0:=bL hz0 a.size;have hz1:=bL hz1 a.size;have bE:=ae (ai br.Y a);clear a hc0 hc1;have hc0:=wW;have hc1:=wX;clear wW wX;go_wp2_with fail;refine(HFC.Y b bE.Y HK.Y).mono ?_;rintro e c ⟨rfl,a⟩;have D6:∀i,c.cell? ⟨w.heap.size,i,none⟩=_:=fun i=>(a.cell (p:=⟨w.heap.size,i,none⟩) hz0).trans (hc0 i);have D7:∀i,c.cell? ⟨w.heap.size+1,i,none⟩=_:=fun i=>(a.cell (p:=⟨w.heap.size+1,i,none⟩) hz1).trans (hc1 i);have HK:=ae (HK.Y.ai a);have hz0:=bL hz0 a.size;have hz1:=bL hz1 a.size;have cM:=ae (ai bE.Y a);clear a hc0 hc1;have hc0:=D6;have hc1:=D7;clear D6 D7;go_wp2_with fail;refine(HFW.Y c cM.Y).mono ?_;rintro e f ⟨rfl,a⟩;have adM:∀i,f.cell? ⟨w.heap.size,i,none⟩=_:=fun i=>(a.cell (p:=⟨w.heap.size,i,none⟩) hz0).trans (hc0 i);have adN:∀i,f.cell? ⟨w.heap.size+1,i,none⟩=_:=fun i=>(a.cell (p:=⟨w.heap.size+1,i,none⟩) hz1).trans (hc1 i);have HK:=ae (HK.Y.ai a);have hz0:=bL hz0 a.size;have hz1:=bL hz1 a.size;have gC:=ae (ai cM.Y a);clear a hc0 hc1;have hc0:=adM;have hc1:=adN;clear adM adN;go_wp2_with fail;go_ret;exact⟨by simp,gC.Y⟩):P:=h
theorem abQ{P:Prop}(h:P:=by
 skip;go_enter func200,ntmps200;go_wp2_with fail;refine JM.Y.mono ?_;rintro e d ⟨rfl,a⟩;have lR:=jc.Y.ai a;have iR:=fY.Y.ai a;obtain⟨hc0,-,hz0⟩:=af.aM lR;obtain⟨hc1,-,hz1⟩:=af.aM iR;have br:=ae (ai mn.Y a);clear a lR iR;go_wp2_with fail;refine(Lp.Y d br.Y).mono ?_;rintro e b ⟨rfl,a⟩;have wW:∀i,b.cell? ⟨w.heap.size,i,none⟩=_:=fun i=>(a.cell (p:=⟨w.heap.size,i,none⟩) hz0).trans (hc0 i);have wX:∀i,b.cell? ⟨w.heap.size+1,i,none⟩=_:=fun i=>(a.cell (p:=⟨w.heap.size+1,i,none⟩) hz1).trans (hc1 i);have hz0:=bL hz0 a.size;have hz1:=bL hz1 a.size;have bE:=ae (ai br.Y a);clear a hc0 hc1;have hc0:=wW;have hc1:=wX;clear wW wX;go_wp2_with fail;refine(HD.Y b bE.Y).mono ?_;rintro e c ⟨rfl,a⟩;have D6:∀i,c.cell? ⟨w.heap.size,i,none⟩=_:=fun i=>(a.cell (p:=⟨w.heap.size,i,none⟩) hz0).trans (hc0 i);have D7:∀i,c.cell? ⟨w.heap.size+1,i,none⟩=_:=fun i=>(a.cell (p:=⟨w.heap.size+1,i,none⟩) hz1).trans (hc1 i);have hz0:=bL hz0 a.size;have hz1:=bL hz1 a.size;have cM:=ae (ai bE.Y a);clear a hc0 hc1;have hc0:=D6;have hc1:=D7;clear D6 D7;go_wp2_with fail;go_ret;exact⟨by simp,cM.Y⟩):P:=h
theorem abL{P:Prop}(h:P:=by
 obtain⟨k,hk,rfl,HX⟩:=hrel;by_cases hlt:k<n
 ·obtain⟨ad,z,hA,hz,hc⟩:=bJ.at_ HR.Y (i:=k) (by rw[<-HN.Y];exact hlt);subst hA;have HZ:=ae hz;clear hz;rcases hp:(v==z)with _|_
  ·have HP:Hid ((fun x=>v==x) z=false):=hp;go_wp2_with fail;go_round;case rel=>exact⟨k+1,by omega,by go_num,xS HZ.Y HX.Y HP.Y⟩
   case measure=>simp[intOf];omega
  ·have HP:Hid ((fun x=>v==x) z=true):=hp;go_wp2_with fail;go_ret;rw[BM HZ.Y HX.Y HP.Y];exact⟨rfl,rfl⟩
 ·go_wp2_with fail;go_ret;rw[On HN.Y hlt HX.Y];exact⟨rfl,rfl⟩):P:=h
theorem ab9{P:Prop}(h:P:=by
 go_wp2_with fail;go_loopw[7,8] (fun a b wr=>a=.int .i64 0/\b=.int .i64 20/\Hid (wr=w)) (fun _ _ _=>0);case atStart=>exact⟨rfl,rfl,rfl⟩
 case round =>
  obtain⟨rfl,rfl,HW⟩:=hrel;have hw:=HW.Y;subst hw;go_wp2_with fail;(with_reducible refine HI.Y.mono ?_);rintro e d ⟨rfl,c⟩;have HS:=ae c;clear c;go_wp2_with fail;go_loopw[6] (fun a wq=>a=.int .i64 20/\Hid (wq=d)) (fun _ _=>0);case atStart=>exact⟨rfl,rfl⟩
  case round =>
   obtain⟨rfl,pI⟩:=hrel;have hw:=pI.Y;subst hw;go_wp2_with fail;go_end0;exact⟨rfl,HS.Y⟩):P:=h
theorem ab7{P:Prop}(h:P:=by
 go_enter func211,ntmps211;go_wp2_with fail;refine HMY.Y.mono ?_;rintro e a ⟨rfl,rfl⟩;go_wp2_with fail;go_quiet(fail);go_wp2_with fail;refine bodyPost_ret (v:=?_) ?_ rfl ?_;rotate_left
 ·simp[results,results211,go_sem];rfl
 ·exact⟨rfl,r8 (bV (ak (ak (aj _) _) _) _) (by simp) (.int .i64 0) (.int .i64 0) (.int .i64 0) (.int .u64 0) (.int .u64 0) (.int .u64 0) false⟩):P:=h
theorem ace{P:Prop}(h:P:=by
 clear hf hb1;obtain⟨gD,hfk,-⟩:=af.aM fY.Y;have kW:=af.lt fY.Y;rcases nX:cl with _|_
 ·rw[nX]at gD;rcases ok with _|_
  ·go_wp2_with fail;go_ret;refine⟨cr ?_,br.Y⟩;rw[HR.Y,nX, <-NG.Y];simp
  ·go_wp2_with fail;go_ret;refine⟨cr ?_,br.Y⟩;rw[HR.Y,nX, <-NG.Y];simp
 ·rw[nX]at gD;go_wp2_with fail;go_ret;refine⟨cr ?_,br.Y⟩;rw[HR.Y,nX];simp):P:=h
theorem abR{P:Prop}(h:P:=by
 intro c d hown' b a;have Zy:=ae (HGR.Y.step (ak (aj wr) _) b (by simpa using a));have hb2:=(HO.Y.alloc _).bh (HB.Y.alloc (by omega) _) b (by simp;omega) (aS _);have BO:=ae hown';have UH:=ae hb2;clear hown' b hb2 a;go_wp2;go_roundw;case rel=>exact⟨k+1,by omega,by go_num,by rw[HE.Y];exact BO.Y,UH.Y,Zy.Y⟩
 case measure=>simp[intOf];omega):P:=h
theorem abM{P:Prop}(h:P:=by
 clear hk;go_enter func194,ntmps194;go_wp2_with fail;refine HC.Y.mono ?_;rintro e b ⟨rfl,a⟩;have hc:∀i,b.cell? ⟨w.heap.size,i,none⟩=_:=fun i=>a.cell (p:=⟨w.heap.size,i,none⟩) (by simp);have HB:=ae (Below.trans (ak (aj w) (dV c A n k)) (a.mono (by simp)));clear a;go_wp2_with fail;go_ret;rw[HS.Y];exact⟨rfl,HB.Y⟩):P:=h
theorem abV{P:Prop}(h:P:=by
 rw[gy h];have hk:=dv h;by_cases h1:(k:Int)<s
 ·have hlk:(l.take k).length=k:=by rw[fF];omega
  rw[au h1,List.take_of_length_le (l:=l.take k++[z]) (by rw[eW,hlk];simp;omega),List.take_of_length_le (l:=l.take k) (by omega),List.map_append];rfl
 ·rw[ah h1,List.append_nil,List.take_append_of_le_length (by rw[fF];omega)]):P:=h
theorem abP{P:Prop}(h:P:=by
 go_enter func200,ntmps200;go_wp2_with fail;refine JM.Y.mono ?_;rintro e b ⟨rfl,a⟩;have lR:=jc.Y.ai a;have iR:=fY.Y.ai a;obtain⟨hc0,-,hz0⟩:=af.aM lR;obtain⟨hc1,-,hz1⟩:=af.aM iR;have br:=ae (ai mn.Y a);clear a lR iR;go_wp2_with fail;go_ret;exact⟨by simp,br.Y⟩):P:=h
theorem abZ{P:Prop}(h:P:=by
 intro b a _;have:(Value.slice B2 bl d2).ownBlock=some b.block:=by rw[a];rfl
 have:=aX XE this;refine⟨by omega,?_⟩;subst a;rcases XE.2 with⟨h',_⟩|⟨g',cap,cur,hv,_,hh,_⟩
 ·cases h'
 ·injection hv with q1;injection q1 with q1;subst q1;exact⟨cur,_,hh⟩):P:=h
theorem acu{P:Prop}(h:P:=by
 clear aB;go_enter func274,ntmps274;go_wp2_with fail;refine bodyPost_ret (v:=.agg #[.int .i64 0,.int .i64 0,.int .i64 1,.int .i64 0]) ?_ rfl n9;simp[results,results274,go_sem]):P:=h
theorem aca{P:Prop}(h:P:=by
 go_wp2_with fail;go_loopw[8] (fun a wr=>a=.int .i64 1/\Hid (wr=w)) (fun _ _=>0);case atStart=>exact⟨rfl,rfl⟩
 case round =>
  obtain⟨rfl,HW⟩:=hrel;have hw:=HW.Y;subst hw;go_wp2_with fail;go_end0;exact⟨rfl,rfl⟩):P:=h
theorem abN{P:Prop}(h:P:=by
 have hz0:=bL hz0 hb.size;have hz1:=bL hz1 hb.size;have bE:=ae (ai br.Y hb);clear hb hc0 hc1;have hc0:=wW;have hc1:=wX;clear wW wX;go_wp2_with fail;go_ret;exact⟨by simp,bE.Y⟩):P:=h
theorem acq{P:Prop}(h:P:=by
 clear hu hg;go_enter func283,ntmps283;go_wp2_with fail;(with_reducible refine(Cw.Y _).mono ?_);rintro e a ⟨rfl,rfl⟩;go_wp2_with fail;go_ret2;exact⟨rfl,bM.Y⟩):P:=h
theorem XN{P:Prop}(h:P:=by
 go_wp2_with fail;go_end0;have hs:=HS.Y;have rE:D.length<=k:=by have:=HN.Y;omega
 rw[List.take_of_length_le rE,List.drop_of_length_le rE,List.append_nil]at hs;exact⟨rfl,hs⟩):P:=h
theorem Xx{P:Prop}(h:P:=by
 go_wp2_with fail;refine HF.Y.mono ?_;rintro e b ⟨rfl,a⟩;have HB:=ae (ai mn.Y a);clear a;go_wp2_with fail;go_ret;exact⟨none,0,rfl,aJ.nil _ _ _ _,HB.Y⟩):P:=h
theorem Xv{P:Prop}(h:P:=by
 go_wp2_with fail;refine HI1.Y.mono ?_;rintro e a ⟨rfl,rfl⟩;go_wp2_with fail;refine HI2.Y.mono ?_;rintro e a ⟨rfl,rfl⟩;go_wp2_with fail;go_ret;exact⟨rfl,mn.Y⟩):P:=h
theorem Xw{P:Prop}(h:P:=by
 go_wp2_with fail;refine HC.Y.mono ?_;rintro e b ⟨rfl,a⟩;have HB:=ae (ai (ak (aj w) _) a);clear a;go_wp2_with fail;go_ret;exact⟨rfl,HB.Y⟩):P:=h
theorem XO{P:Prop}(h:P:=by
 go_wp2_with fail;(with_reducible refine HI.Y.mono ?_);rintro e b ⟨rfl,a⟩;have HS:=ae a;clear a;go_wp2_with fail;go_end0;exact⟨rfl,HS.Y⟩):P:=h
theorem XK{P:Prop}(h:P:=by
 rcases h.2 with⟨h',_⟩|⟨g',cap,cur,hv,_,hh,_⟩
 ·cases h'
 ·injection hv with h1;injection h1 with h1;subst h1
  exact⟨cur,_,hh⟩):P:=h
theorem XF{P:Prop}(h:P:=by
 intro c d b a h;have e:=fun i=>a.cell (p:=⟨w.heap.size,i,none⟩) b;rw[e 0,e 1,e 2,e 3,e 4,e 5,e 6,e 7,e 8,e 9,e 10];exact h):P:=h
theorem Xl{P:Prop}(h:P:=by
 subst hb;go_enter func216,ntmps216;go_wp2;go_ret;exact⟨cr (by simp<;>omega),rfl⟩):P:=h
theorem Xt{P:Prop}(h:P:=by
 go_wp2_with fail;refine HH.Y.mono ?_;rintro e b ⟨rfl,a⟩;have HB:=ae a;clear a;go_wp2_with fail;go_ret;exact⟨by simp,HB.Y⟩):P:=h
theorem Xn{P:Prop}(h:P:=by
 go_enter func178,ntmps178;go_wp2_with fail;go_ret;exact⟨rfl,ak (aj w) _⟩):P:=h
theorem Xk{P:Prop}(h:P:=by
 go_wp2_with fail;refine HI.Y.mono ?_;rintro e a ⟨rfl,rfl⟩;go_wp2_with fail;go_ret;rw[HA.Y,Cm];exact⟨rfl,rfl⟩):P:=h
theorem XS{P:Prop}(h:P:=by
 subst hr;go_enter func284,ntmps284;go_wp2_with fail;go_ret;exact⟨rfl,bM.Y⟩):P:=h
theorem XU{P:Prop}(h:P:=by
 split
 ·exact FB.bO h (.inr (by show(12:Int)<24;decide))
 ·exact FB.bO h (.inr (by show(12:Int)<28;decide))):P:=h
theorem Xu{P:Prop}(h:P:=by
 go_wp2_with fail;refine HI1.Y.mono ?_;rintro e a ⟨rfl,rfl⟩;go_wp2_with fail;go_ret;exact⟨rfl,mn.Y⟩):P:=h
theorem Xm{P:Prop}(h:P:=by
 go_enter func216,ntmps216;go_wp2;go_ret;exact⟨rfl,rfl⟩):P:=h
theorem XJ{P:Prop}(h:P:=by
 unfold KA at k6;simp[results,results211,go_sem,k0,k1,k2,k3,k4,k5,k6];rfl):P:=h
end Go.Proofs.YtjcjjiieblineaaGreat
