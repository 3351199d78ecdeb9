/- Walks and plain facts. No condition. -/
import Derived.Test.YtjcjjiieblineaaGreatSa
import Derived.Deep.DrawnRows
import Derived.Deep.RegionHeld3
import Derived.Deep.RegionLaw
import Derived.RegionTactic
namespace Go.Proofs.YtjcjjiieblineaaGreat
open Go.RowKit Go.Proofs.Tryz
set_option maxHeartbeats 8000000
set_option maxRecDepth 100000
set_option linter.all false
theorem P3{P:Prop}(h:P:=by
 go_wp2_with fail;go_ret;exact G3.no (by rw[HE.out];simp) HB.out):P:=h
theorem mk9{P:Prop}(h:P:=by
 go_wp2_with fail;refine HF.out.mono ?_;rintro e w1 ⟨rfl,hb⟩;have HB:=aa (ag (ak (aj w) (cr c A n k)) hb);clear hb;go_wp2_with fail;go_ret;exact⟨rfl,HB.out⟩):P:=h
theorem NF{P:Prop}(h:P:=by
 rw[GW.out];exact⟨rfl,⟨_,_,uS⟩,fy,uT⟩):P:=h
theorem Ra{P:Prop}(h:P:=by
 go_enter func229,ntmps229;go_wp2_with fail;go_ret;exact⟨rfl,lJ.out⟩):P:=h
theorem Q9{P:Prop}(h:P:=by
 go_wp2;go_ret;exact⟨rfl,ak (aj w) _⟩):P:=h
theorem V8{P:Prop}(h:P:=by
 go_enter func195,ntmps195;go_wp2_with fail;refine Mu.out.mono ?_;rintro e w1 ⟨rfl,hb⟩;have kS:=gV.out.ag hb;have gR:=fh.out.ag hb;obtain⟨hc0,-,hz0⟩:=af.aK kS;obtain⟨hc1,-,hz1⟩:=af.aK gR;have HK:=aa kS;have bj:=aa (ag lJ.out hb);clear hb kS gR;go_wp2_with fail;refine(YN.out w1).mono ?_;rintro e w9 ⟨rfl,rfl⟩;go_wp2_with fail;go_ret;exact⟨by simp,bj.out⟩):P:=h
theorem V7{P:Prop}(h:P:=by
 go_enter func226,ntmps226;go_wp2_with fail;refine tP.out.mono ?_;rintro e w1 ⟨rfl,rfl⟩;go_wp2_with fail;refine xw.out.mono ?_;rintro e w1 ⟨rfl,rfl⟩;go_wp2_with fail;refine HV.out.mono ?_;rintro e w1 ⟨rfl,hb⟩;have HB:=aa (lJ.out.trans (hb.mono (by simp;omega)));have hk:=HK.out.ag hb;obtain⟨hc,-,hzz⟩:=af.aK hk;clear hb hk;go_wp2_with fail;go_ret;exact⟨rfl,HB.out⟩):P:=h
theorem WB{P:Prop}(h:P:=by
 go_enter func303,ntmps303;go_wp2_with fail;(with_reducible refine(HZ.out _).mono ?_);rintro e w1 ⟨rfl,rfl⟩;go_wp2_with fail;(with_reducible refine(HZ.out _).mono ?_);rintro e w1 ⟨rfl,rfl⟩;go_wp2_with fail;go_ret;exact⟨rfl,rfl⟩):P:=h
theorem WZ{P:Prop}(h:P:=by
 go_enter func283,ntmps283;go_wp2_with fail;(with_reducible refine(Ae.out _).mono ?_);rintro e w1 ⟨rfl,rfl⟩;go_wp2_with fail;go_ret2;exact⟨rfl,bG.out⟩):P:=h
theorem Wp{P:Prop}(h:P:=by
 go_wp2_with fail;refine HD.out.mono ?_;rintro e w1 ⟨rfl,hN⟩;have HN:=aa ((hN.back HB.out nP));clear hN;go_wp2_with fail;go_ret2;exact⟨rfl,HN.out.more _⟩):P:=h
theorem V6{P:Prop}(h:P:=by
 go_wp2_with fail;refine HI.out.mono ?_;rintro e w1 ⟨rfl,hb1⟩;have bj:=aa hb1;clear hb1;go_wp2_with fail;go_ret;rw[HA.out];exact⟨rfl,bj.out⟩):P:=h
theorem V4{P:Prop}(h:P:=by
 clear h1;subst hr;go_enter func217,ntmps217;go_wp2;go_ret;exact⟨rfl,ak (aj w) _⟩):P:=h
theorem W6{P:Prop}(h:P:=by
 rintro rfl;have:=H.blk;unfold af at this;rw[hg]at this;injection this with this
 injection this with _ h _
 exact absurd h (by decide)):P:=h
theorem Xa{P:Prop}(h:P:=by
 exact FB.far (by intro x hx;cases hx) (.inl (by show(0:Int)<8;decide))):P:=h
theorem W9{P:Prop}(h:P:=by
 simp[results,results274,go_sem,eO]):P:=h
theorem Xb{P:Prop}(h:P:=by
 exact FB.far F.cs (.inr (by show(12:Int)<r.k.pc;omega))):P:=h
theorem aap{P:Prop}(h:P:=by
 skip;go_enter func195,ntmps195;go_wp2_with fail;refine Mu.out.mono ?_;rintro e w1 ⟨rfl,hb⟩;have kS:=gV.out.ag hb;have gR:=fh.out.ag hb;obtain⟨hc0,-,hz0⟩:=af.aK kS;obtain⟨hc1,-,hz1⟩:=af.aK gR;have HK:=aa kS;have bj:=aa (ag lJ.out hb);clear hb kS gR;go_wp2_with fail;refine(YN.out w1).mono ?_;rintro e w9 ⟨rfl,rfl⟩;go_wp2_with fail;refine(HD.out w1 bj.out).mono ?_;rintro e w2 ⟨rfl,hb⟩;have uy:∀i,w2.cell? ⟨w.heap.size,i,none⟩=_:=fun i=>(hb.cell (p:=⟨w.heap.size,i,none⟩) hz0).trans (hc0 i);have uz:∀i,w2.cell? ⟨w.heap.size+1,i,none⟩=_:=fun i=>(hb.cell (p:=⟨w.heap.size+1,i,none⟩) hz1).trans (hc1 i);have HK:=aa (HK.out.ag hb);have hz0:=bF hz0 hb.size;have hz1:=bF hz1 hb.size;have bq:=aa (ag bj.out hb);clear hb hc0 hc1;have hc0:=uy;have hc1:=uz;clear uy uz;go_wp2_with fail;refine(HFC.out w2 bq.out HK.out).mono ?_;rintro e w3 ⟨rfl,hb⟩;have BS:∀i,w3.cell? ⟨w.heap.size,i,none⟩=_:=fun i=>(hb.cell (p:=⟨w.heap.size,i,none⟩) hz0).trans (hc0 i);have BU:∀i,w3.cell? ⟨w.heap.size+1,i,none⟩=_:=fun i=>(hb.cell (p:=⟨w.heap.size+1,i,none⟩) hz1).trans (hc1 i);have HK:=aa (HK.out.ag hb);have hz0:=bF hz0 hb.size;have hz1:=bF hz1 hb.size;have bZ:=aa (ag bq.out hb);clear hb hc0 hc1;have hc0:=BS;have hc1:=BU;clear BS BU;go_wp2_with fail;refine(HFW.out w3 bZ.out).mono ?_;rintro e w4 ⟨rfl,hb⟩;have acq:∀i,w4.cell? ⟨w.heap.size,i,none⟩=_:=fun i=>(hb.cell (p:=⟨w.heap.size,i,none⟩) hz0).trans (hc0 i);have acr:∀i,w4.cell? ⟨w.heap.size+1,i,none⟩=_:=fun i=>(hb.cell (p:=⟨w.heap.size+1,i,none⟩) hz1).trans (hc1 i);have HK:=aa (HK.out.ag hb);have hz0:=bF hz0 hb.size;have hz1:=bF hz1 hb.size;have fJ:=aa (ag bZ.out hb);clear hb hc0 hc1;have hc0:=acq;have hc1:=acr;clear acq acr;go_wp2_with fail;go_ret;exact⟨by simp,fJ.out⟩):P:=h
theorem aar{P:Prop}(h:P:=by
 skip;go_enter func200,ntmps200;go_wp2_with fail;refine Mu.out.mono ?_;rintro e w1 ⟨rfl,hb⟩;have kS:=gV.out.ag hb;have gR:=fh.out.ag hb;obtain⟨hc0,-,hz0⟩:=af.aK kS;obtain⟨hc1,-,hz1⟩:=af.aK gR;have bj:=aa (ag lJ.out hb);clear hb kS gR;go_wp2_with fail;refine(YO.out w1 bj.out).mono ?_;rintro e w2 ⟨rfl,hb⟩;have uy:∀i,w2.cell? ⟨w.heap.size,i,none⟩=_:=fun i=>(hb.cell (p:=⟨w.heap.size,i,none⟩) hz0).trans (hc0 i);have uz:∀i,w2.cell? ⟨w.heap.size+1,i,none⟩=_:=fun i=>(hb.cell (p:=⟨w.heap.size+1,i,none⟩) hz1).trans (hc1 i);have hz0:=bF hz0 hb.size;have hz1:=bF hz1 hb.size;have bq:=aa (ag bj.out hb);clear hb hc0 hc1;have hc0:=uy;have hc1:=uz;clear uy uz;go_wp2_with fail;refine(HD.out w2 bq.out).mono ?_;rintro e w3 ⟨rfl,hb⟩;have BS:∀i,w3.cell? ⟨w.heap.size,i,none⟩=_:=fun i=>(hb.cell (p:=⟨w.heap.size,i,none⟩) hz0).trans (hc0 i);have BU:∀i,w3.cell? ⟨w.heap.size+1,i,none⟩=_:=fun i=>(hb.cell (p:=⟨w.heap.size+1,i,none⟩) hz1).trans (hc1 i);have hz0:=bF hz0 hb.size;have hz1:=bF hz1 hb.size;have bZ:=aa (ag bq.out hb);clear hb hc0 hc1;have hc0:=BS;have hc1:=BU;clear BS BU;go_wp2_with fail;go_ret;exact⟨by simp,bZ.out⟩):P:=h
theorem aam{P:Prop}(h:P:=by
 obtain⟨k,hk,rfl,HX⟩:=hrel;by_cases hlt:k<n
 ·obtain⟨ad,z,hA,hz,hc⟩:=bC.at_ HR.out (i:=k) (by rw[<-HN.out];exact hlt);subst hA;have HZ:=aa hz;clear hz;rcases hp:(v==z)with _|_
  ·have HP:Hid ((fun x=>v==x) z=false):=hp;go_wp2_with fail;go_round;case rel=>exact⟨k+1,by omega,by go_num,rh HZ.out HX.out HP.out⟩
   case measure=>simp[intOf];omega
  ·have HP:Hid ((fun x=>v==x) z=true):=hp;go_wp2_with fail;go_ret;rw[zG HZ.out HX.out HP.out];exact⟨rfl,rfl⟩
 ·go_wp2_with fail;go_ret;rw[Li HN.out hlt HX.out];exact⟨rfl,rfl⟩):P:=h
theorem aaM{P:Prop}(h:P:=by
 go_wp2_with fail;go_loopw[7,8] (fun a b wr=>a=.int .i64 0/\b=.int .i64 20/\Hid (wr=w)) (fun _ _ _=>0);case atStart=>exact⟨rfl,rfl,rfl⟩
 case round =>
  obtain⟨rfl,rfl,HW⟩:=hrel;have hw:=HW.out;subst hw;go_wp2_with fail;(with_reducible refine HI.out.mono ?_);rintro e w1 ⟨rfl,hs⟩;have HS:=aa hs;clear hs;go_wp2_with fail;go_loopw[6] (fun a wq=>a=.int .i64 20/\Hid (wq=w1)) (fun _ _=>0);case atStart=>exact⟨rfl,rfl⟩
  case round =>
   obtain⟨rfl,ng⟩:=hrel;have hw:=ng.out;subst hw;go_wp2_with fail;go_end0;exact⟨rfl,HS.out⟩):P:=h
theorem aaK{P:Prop}(h:P:=by
 go_enter func211,ntmps211;go_wp2_with fail;refine HMY.out.mono ?_;rintro e w' ⟨rfl,rfl⟩;go_wp2_with fail;go_quiet(fail);go_wp2_with fail;refine bodyPost_ret (v:=?_) ?_ rfl ?_;rotate_left
 ·simp[results,results211,go_sem];rfl
 ·exact⟨rfl,qg (bO (ak (ak (aj _) _) _) _) (by simp) (.int .i64 0) (.int .i64 0) (.int .i64 0) (.int .u64 0) (.int .u64 0) (.int .u64 0) false⟩):P:=h
theorem aaQ{P:Prop}(h:P:=by
 clear hf hb1;obtain⟨fU,hfk,-⟩:=af.aK fh.out;have km:=af.lt fh.out;rcases lO:cl with _|_
 ·rw[lO]at fU;rcases ok with _|_
  ·go_wp2_with fail;go_ret;refine⟨bS ?_,bj.out⟩;rw[HR.out,lO, <-WG.out];simp
  ·go_wp2_with fail;go_ret;refine⟨bS ?_,bj.out⟩;rw[HR.out,lO, <-WG.out];simp
 ·rw[lO]at fU;go_wp2_with fail;go_ret;refine⟨bS ?_,bj.out⟩;rw[HR.out,lO];simp):P:=h
theorem aas{P:Prop}(h:P:=by
 intro v' w2 hown' hgrow hat;have V9:=aa (HGR.out.step (ak (aj wr) _) hgrow (by simpa using hat));have hb2:=(HO.out.alloc _).br (HB.out.alloc (by omega) _) hgrow (by simp;omega) (aS _);have zI:=aa hown';have Wa:=aa hb2;clear hown' hgrow hb2 hat;go_wp2;go_roundw;case rel=>exact⟨k+1,by omega,by go_num,by rw[HE.out];exact zI.out,Wa.out,V9.out⟩
 case measure=>simp[intOf];omega):P:=h
theorem aan{P:Prop}(h:P:=by
 clear hk;go_enter func194,ntmps194;go_wp2_with fail;refine HC.out.mono ?_;rintro e w1 ⟨rfl,hb⟩;have hc:∀i,w1.cell? ⟨w.heap.size,i,none⟩=_:=fun i=>hb.cell (p:=⟨w.heap.size,i,none⟩) (by simp);have HB:=aa (Below.trans (ak (aj w) (cr c A n k)) (hb.mono (by simp)));clear hb;go_wp2_with fail;go_ret;rw[HS.out];exact⟨rfl,HB.out⟩):P:=h
theorem aaw{P:Prop}(h:P:=by
 rw[fz h];have hk:=cE h;by_cases h1:(k:Int)<s
 ·have hlk:(l.take k).length=k:=by rw[eW];omega
  rw[au h1,List.take_of_length_le (l:=l.take k++[z]) (by rw[eN,hlk];simp;omega),List.take_of_length_le (l:=l.take k) (by omega),List.map_append];rfl
 ·rw[ai h1,List.append_nil,List.take_append_of_le_length (by rw[eW];omega)]):P:=h
theorem aaq{P:Prop}(h:P:=by
 go_enter func200,ntmps200;go_wp2_with fail;refine Mu.out.mono ?_;rintro e w1 ⟨rfl,hb⟩;have kS:=gV.out.ag hb;have gR:=fh.out.ag hb;obtain⟨hc0,-,hz0⟩:=af.aK kS;obtain⟨hc1,-,hz1⟩:=af.aK gR;have bj:=aa (ag lJ.out hb);clear hb kS gR;go_wp2_with fail;go_ret;exact⟨by simp,bj.out⟩):P:=h
theorem aaB{P:Prop}(h:P:=by
 intro ad ha _;have:(Value.slice B2 bl d2).ownBlock=some ad.block:=by rw[ha];rfl
 have:=aX Uf this;refine⟨by omega,?_⟩;subst ha;rcases Uf.2 with⟨h',_⟩|⟨g',cap,cur,hv,_,hh,_⟩
 ·cases h'
 ·injection hv with q1;injection q1 with q1;subst q1;exact⟨cur,_,hh⟩):P:=h
theorem aa4{P:Prop}(h:P:=by
 clear aA;go_enter func274,ntmps274;go_wp2_with fail;refine bodyPost_ret (v:=.agg #[.int .i64 0,.int .i64 0,.int .i64 1,.int .i64 0]) ?_ rfl mS;simp[results,results274,go_sem]):P:=h
theorem aaN{P:Prop}(h:P:=by
 go_wp2_with fail;go_loopw[8] (fun a wr=>a=.int .i64 1/\Hid (wr=w)) (fun _ _=>0);case atStart=>exact⟨rfl,rfl⟩
 case round =>
  obtain⟨rfl,HW⟩:=hrel;have hw:=HW.out;subst hw;go_wp2_with fail;go_end0;exact⟨rfl,rfl⟩):P:=h
theorem aao{P:Prop}(h:P:=by
 have hz0:=bF hz0 hb.size;have hz1:=bF hz1 hb.size;have bq:=aa (ag bj.out hb);clear hb hc0 hc1;have hc0:=uy;have hc1:=uz;clear uy uz;go_wp2_with fail;go_ret;exact⟨by simp,bq.out⟩):P:=h
theorem aa1{P:Prop}(h:P:=by
 clear hu hg;go_enter func283,ntmps283;go_wp2_with fail;(with_reducible refine(Ae.out _).mono ?_);rintro e w1 ⟨rfl,rfl⟩;go_wp2_with fail;go_ret2;exact⟨rfl,bG.out⟩):P:=h
theorem Uo{P:Prop}(h:P:=by
 go_wp2_with fail;go_end0;have hs:=HS.out;have qp:D.length<=k:=by have:=HN.out;omega
 rw[List.take_of_length_le qp,List.drop_of_length_le qp,List.append_nil]at hs;exact⟨rfl,hs⟩):P:=h
theorem T4{P:Prop}(h:P:=by
 go_wp2_with fail;refine HF.out.mono ?_;rintro e w1 ⟨rfl,hb⟩;have HB:=aa (ag lJ.out hb);clear hb;go_wp2_with fail;go_ret;exact⟨none,0,rfl,aL.nil _ _ _ _,HB.out⟩):P:=h
theorem T2{P:Prop}(h:P:=by
 go_wp2_with fail;refine tP.out.mono ?_;rintro e w1 ⟨rfl,rfl⟩;go_wp2_with fail;refine xw.out.mono ?_;rintro e w1 ⟨rfl,rfl⟩;go_wp2_with fail;go_ret;exact⟨rfl,lJ.out⟩):P:=h
theorem T3{P:Prop}(h:P:=by
 go_wp2_with fail;refine HC.out.mono ?_;rintro e w1 ⟨rfl,hb⟩;have HB:=aa (ag (ak (aj w) _) hb);clear hb;go_wp2_with fail;go_ret;exact⟨rfl,HB.out⟩):P:=h
theorem Up{P:Prop}(h:P:=by
 go_wp2_with fail;(with_reducible refine HI.out.mono ?_);rintro e w1 ⟨rfl,hs⟩;have HS:=aa hs;clear hs;go_wp2_with fail;go_end0;exact⟨rfl,HS.out⟩):P:=h
theorem Uk{P:Prop}(h:P:=by
 rcases h.2 with⟨h',_⟩|⟨g',cap,cur,hv,_,hh,_⟩
 ·cases h'
 ·injection hv with h1;injection h1 with h1;subst h1
  exact⟨cur,_,hh⟩):P:=h
theorem Ug{P:Prop}(h:P:=by
 intro w1 w2 hl hb h;have e:=fun i=>hb.cell (p:=⟨w.heap.size,i,none⟩) hl;rw[e 0,e 1,e 2,e 3,e 4,e 5,e 6,e 7,e 8,e 9,e 10];exact h):P:=h
theorem TR{P:Prop}(h:P:=by
 subst hb;go_enter func216,ntmps216;go_wp2;go_ret;exact⟨bS (by simp<;>omega),rfl⟩):P:=h
theorem TY{P:Prop}(h:P:=by
 go_wp2_with fail;refine HH.out.mono ?_;rintro e w1 ⟨rfl,hb⟩;have HB:=aa hb;clear hb;go_wp2_with fail;go_ret;exact⟨by simp,HB.out⟩):P:=h
theorem TT{P:Prop}(h:P:=by
 go_enter func178,ntmps178;go_wp2_with fail;go_ret;exact⟨rfl,ak (aj w) _⟩):P:=h
theorem TQ{P:Prop}(h:P:=by
 go_wp2_with fail;refine HI.out.mono ?_;rintro e w1 ⟨rfl,rfl⟩;go_wp2_with fail;go_ret;rw[HA.out,zX];exact⟨rfl,rfl⟩):P:=h
theorem Uv{P:Prop}(h:P:=by
 subst hr;go_enter func284,ntmps284;go_wp2_with fail;go_ret;exact⟨rfl,bG.out⟩):P:=h
theorem Uy{P:Prop}(h:P:=by
 split
 ·exact FB.far h (.inr (by show(12:Int)<24;decide))
 ·exact FB.far h (.inr (by show(12:Int)<28;decide))):P:=h
theorem TZ{P:Prop}(h:P:=by
 go_wp2_with fail;refine tP.out.mono ?_;rintro e w1 ⟨rfl,rfl⟩;go_wp2_with fail;go_ret;exact⟨rfl,lJ.out⟩):P:=h
theorem TS{P:Prop}(h:P:=by
 go_enter func216,ntmps216;go_wp2;go_ret;exact⟨rfl,rfl⟩):P:=h
theorem Uj{P:Prop}(h:P:=by
 unfold Hx at k6;simp[results,results211,go_sem,k0,k1,k2,k3,k4,k5,k6];rfl):P:=h
end Go.Proofs.YtjcjjiieblineaaGreat
