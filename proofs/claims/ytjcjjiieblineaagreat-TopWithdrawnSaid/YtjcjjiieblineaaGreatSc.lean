/- Walks and plain facts. No condition. -/
import Derived.Test.YtjcjjiieblineaaGreatSb
import Derived.Deep.DeepCutAuto
import Derived.Deep.MidRow
import Derived.StillTailTactics
namespace Go.Proofs.YtjcjjiieblineaaGreat
open Go.RowKit Go.Proofs.Tryz
set_option maxHeartbeats 8000000
set_option maxRecDepth 100000
set_option linter.all false
theorem Uz{P:Prop}(h:P:=by
 rw[HG.out];exact⟨rfl,⟨_,_,uS⟩,fy,uT⟩):P:=h
theorem Xy{P:Prop}(h:P:=by
 rw[<-CD]at HP he;have HPQ:=aa CD;clear CD;subst he;clear hE fU EO;obtain⟨dh,cW,-⟩:=af.aK HP.out.1;have cY:=af.lt HP.out.1;go_wp2_with fail;have eO:=fun i=>af.cell HP.out.2.2 i;change bodyPost _ _ _ _ _ (av w3 (w.heap.size+1) 0 [pp.2.seq,pp.2.cs,pp.2.code,pp.2.value]);clear dh cW cY;have UD:=aa HP.out.2.1;generalize av w3 (w.heap.size+1) 0 [pp.2.seq,pp.2.cs,pp.2.code,pp.2.value]=wz at *;refine bodyPost_ret (v:=.agg #[pp.2.seq,pp.2.cs,pp.2.code,pp.2.value]) ?_ rfl (by rw[<-HPQ.out];exact UD.out);simp[results,results264,go_sem,eO]):P:=h
theorem Y6{P:Prop}(h:P:=by
 simp[results,results276,go_sem,eO]):P:=h
theorem Zd{P:Prop}(h:P:=by
 simp[results,results268,go_sem,eO]):P:=h
theorem SD{P:Prop}(h:P:=by
 have HE:Hid (Mo.fu c l t s q=l):=by unfold Hid Mo.fu;rw[au (by omega)]
 go_enter func237,ntmps237;go_wp2_with fail;(with_reducible refine(gu.out _ bG.out).mono ?_);rintro e w2 ⟨B,d,rfl,_,ho,hb⟩;have HO:=aa ho;have yL:=aa (ag bG.out hb);clear ho hb;go_wp2_with fail;go_ret;exact⟨B,d,by rw[HE.out,pd.out];rfl,by rw[HE.out, <-pd.out];exact HO.out.weak bG.out.size,yL.out⟩):P:=h
theorem SG{P:Prop}(h:P:=by
 rw[hE];clear hE;go_enter func204,ntmps204;go_wp2_with fail;go_quiet(fail);go_wp2_with fail;go_end0;exact bY.leaf HH.out s o {HH.out.tk with} HH.out.op rfl):P:=h
theorem XN{P:Prop}(h:P:=by
 rw[<-hy]at hF ⊢;have HF:=aa hF;clear hF kv p9 hy;obtain⟨dh,cW,cY⟩:=af.aK jm;clear fU km aA hgq2 bh;go_wp2_with fail;change bodyPost _ _ _ _ _ (av w5 (w.heap.size+2) 0 [y.cap,.slice E1 y.list.length k1,.slice E3 y.done.length k3]);clear dh cW cY jm;have eO:=fun i=>af.cell HF.out.1 i;have nz:=HF.out.2;clear HF;generalize av w5 (w.heap.size+2) 0 [y.cap,.slice E1 y.list.length k1,.slice E3 y.done.length k3]=wz at *;refine bodyPost_ret (v:=.agg #[y.cap,.slice E1 y.list.length k1,.slice E3 y.done.length k3]) ?_ rfl nz;simp[results,results257,go_sem,eO]):P:=h
theorem X4{P:Prop}(h:P:=by
 all_goals
  have HR:=aa hC;have HF:=aa dG;clear hC fC dG aT aU;obtain⟨aA,bh,aU⟩:=af.aK HR.out.blk;unfold bp at aA;go_wp2_with fail;go_end0;refine bY.then HF.out ?_;exact bY.leaf HR.out s o {HR.out.tk with} HR.out.op rfl):P:=h
theorem Xm{P:Prop}(h:P:=by
 simp[results,results278,go_sem,eO]):P:=h
theorem Xl{P:Prop}(h:P:=by
 simp[results,results275,go_sem,eO]):P:=h
theorem XT{P:Prop}(h:P:=by
 simp[results,results249,go_sem]):P:=h
theorem aa9{P:Prop}(h:P:=by
 have GW:Hid (Mo.gX h t tt nn=(h,Mo.bD 12)):=by unfold Hid Mo.gX;rw[au (by first|exact .inl HX.out|exact .inr (.inl HX.out)|exact .inr (.inr (.inl HX.out))|exact .inr (.inr (.inr (.inl HX.out)))|exact .inr (.inr (.inr (.inr HX.out))))]
 clear H hb HX;go_enter func279,ntmps279;have cQ:=fun i=>af.cell (dx.blk qF.out) i;have fV:=af.lt (dx.blk qF.out);unfold mI at cQ;go_wp2_with fail;have eO:=fun i=>af.cell (af.new w 48 #[.int .i64 0,.int .i64 0,.int .i64 12,.int .i64 0]) i;refine bodyPost_ret (v:=.agg #[.int .i64 0,.int .i64 0,.int .i64 12,.int .i64 0]) ?_ rfl ?_
 ·clear cQ;simp[results,results279,go_sem,eO]
 ·rw[GW.out];exact⟨rfl,⟨_,_,HZ.out⟩,HBZ.out,HFZ.out⟩):P:=h
theorem aba{P:Prop}(h:P:=by
 have GW:Hid (Mo.gX h t j nn=(h,Mo.bD 12)):=by unfold Hid Mo.gX;rw[au (by first|exact .inl HX.out|exact .inr (.inl HX.out)|exact .inr (.inr (.inl HX.out))|exact .inr (.inr (.inr (.inl HX.out)))|exact .inr (.inr (.inr (.inr HX.out))))]
 clear H hb HX;go_enter func279,ntmps279;have cQ:=fun i=>af.cell (dx.blk qF.out) i;have fV:=af.lt (dx.blk qF.out);unfold mI at cQ;go_wp2_with fail;have eO:=fun i=>af.cell (af.new w 48 #[.int .i64 0,.int .i64 0,.int .i64 12,.int .i64 0]) i;refine bodyPost_ret (v:=.agg #[.int .i64 0,.int .i64 0,.int .i64 12,.int .i64 0]) ?_ rfl ?_
 ·clear cQ;simp[results,results279,go_sem,eO]
 ·rw[GW.out];exact⟨rfl,⟨_,_,HZ.out⟩,HBZ.out,HFZ.out⟩):P:=h
theorem abu{P:Prop}(h:P:=by
 obtain⟨y,hy⟩:∃y:Mo.Cl,y={x with done:=Mo.gY (x).done t ⟨s,0,10,0⟩}:=⟨_,rfl⟩
 rw[<-hy]at hF ⊢;have HF:=aa hF;clear hF kv p9 hy;obtain⟨dh,cW,cY⟩:=af.aK jm;clear fU km aA hgq2 bh;go_wp2_with fail;change bodyPost _ _ _ _ _ (av w5 (w.heap.size+2) 0 [y.cap,.slice E1 y.list.length k1,.slice E3 y.done.length k3]);clear dh cW cY jm;have eO:=fun i=>af.cell HF.out.1 i;have nz:=HF.out.2;clear HF;generalize av w5 (w.heap.size+2) 0 [y.cap,.slice E1 y.list.length k1,.slice E3 y.done.length k3]=wz at *;refine bodyPost_ret (v:=.agg #[y.cap,.slice E1 y.list.length k1,.slice E3 y.done.length k3]) ?_ rfl nz;simp[results,results257,go_sem,eO]):P:=h
theorem abI{P:Prop}(h:P:=by
 rw[hE];rw[hnb]at N7;clear hE hnb;go_enter func176,ntmps176;go_wp2_with fail;go_still_tail 10,(by kernel_rfl)
 change wpList _ _ _ _ _ w.drew;clear aA bh aU;have HF:Hid (bV w w.drew p m m):=bV.ext (aj w).drew p m;generalize w.drew=wd at *;go_wp2_with fail;(with_reducible refine N7.out.mono ?_);rintro e w1 ⟨rfl,hb1⟩;have HR:=aa (HD.out.more hb1);have sj:=aa (HF.out.trans (bV.ext hb1 p m));clear hb1;obtain⟨aA,bh,aU⟩:=af.aK HR.out.blk;unfold bp at aA;go_wp2_with fail;go_end0;refine bY.then sj.out ?_;exact bY.leaf HR.out s o {HR.out.tk with} HR.out.op rfl):P:=h
theorem abv{P:Prop}(h:P:=by
 rw[<-hy]at hF ⊢;have HF:=aa hF;clear hF kv p9 hy;obtain⟨dh,cW,cY⟩:=af.aK jm;clear hcp4 hgp4 hfp4;go_wp2_with fail;change bodyPost _ _ _ _ _ (av w5 (w.heap.size+2) 0 [y.cap,.slice E1 y.list.length k1,.slice E3 y.done.length k3]);clear dh cW cY jm;have eO:=fun i=>af.cell HF.out.1 i;have nz:=HF.out.2;clear HF;generalize av w5 (w.heap.size+2) 0 [y.cap,.slice E1 y.list.length k1,.slice E3 y.done.length k3]=wz at *;refine bodyPost_ret (v:=.agg #[y.cap,.slice E1 y.list.length k1,.slice E3 y.done.length k3]) ?_ rfl nz;simp[results,results257,go_sem,eO]):P:=h
theorem abK{P:Prop}(h:P:=by
 go_wp2_with fail;(with_reducible refine HL.out.mono ?_);rintro e w1 ⟨rfl,m1,H1,F1⟩;have gI:=aa H1;have sj:=aa F1;clear H1 F1 aA bh aU HH;go_wp2_with fail;(with_reducible refine(lB.out _).mono ?_);rintro e w2 ⟨rfl,hb2⟩;have HR:=aa (gI.out.more hb2);have HF:=aa (sj.out.trans (bV.ext hb2 p _));clear hb2 gI sj;obtain⟨aA,bh,aU⟩:=af.aK HR.out.blk;unfold bp at aA;go_wp2_with fail;go_end0;refine bY.then HF.out ?_;exact bY.leaf HR.out s o {HR.out.tk with} HR.out.op rfl):P:=h
theorem abD{P:Prop}(h:P:=by
 refine⟨h5,fun b hb _ hm=>h4 b hb (fun e=>hm (.inl e)) (fun e=>hm (.inr (.inl e))) (fun e=>hm (.inr (.inr (.inl e)))) (fun e=>hm (.inr (.inr (.inr e)))),fun b hb=>?_,rfl⟩;rcases hb with e|e|e|e
 ·exact .inl (.inl e)
 ·exact .inl (.inr (.inl e))
 ·exact(h2 b e).imp (fun h=>.inr (.inr (.inl h))) id
 ·exact(h3 b e).imp (fun h=>.inr (.inr (.inr h))) id):P:=h
theorem abH{P:Prop}(h:P:=by
 have HE:=aa hE;clear hE;go_wp2_with fail;refine(HRF.out _ ?_).mono ?_
 ·exact RN.leaf HR.out {s with fr:=⟨A1,n1⟩,ol:=⟨B1,m1⟩} o {p6.out with} HR.out.op rfl
 ·rintro e w3 ⟨rfl,hX⟩;have HX:=aa hX;clear hX;go_wp2_with fail;go_end0;rw[HE.out];refine bY.then (bV.ext HB.out p m) (bY.after ⟨rfl,HX.out⟩ ?_);exact P7):P:=h
theorem abJ{P:Prop}(h:P:=by
 go_wp2_with fail;(with_reducible refine HL.out.mono ?_);rintro e w1 ⟨rfl,m1,H1,F1⟩;have HR:=aa H1;have HF:=aa F1;clear H1 F1 aA bh aU HH;obtain⟨aA,bh,aU⟩:=af.aK HR.out.blk;unfold bp at aA;go_wp2_with fail;go_end0;refine bY.then HF.out ?_;exact bY.leaf HR.out s o {HR.out.tk with} HR.out.op rfl):P:=h
theorem abz{P:Prop}(h:P:=by
 clear hx hb2;go_wp2_with fail;(with_reducible refine(gu.out _ bq.out).mono ?_);rintro e w2 ⟨B,d,rfl,_,ho,hb⟩;have HO:=aa ho;have yL:=aa (ag bq.out hb);clear ho hb;go_wp2_with fail;go_ret;exact⟨B,d,by rw[HE.out,pd.out];rfl,by rw[HE.out, <-pd.out];exact HO.out.weak bq.out.size,yL.out⟩):P:=h
theorem abq{P:Prop}(h:P:=by
 refine⟨D,dd,by rw[<-pd.out];exact af.new _ _ _,by rw[<-pd.out];exact kg,lB.out.below (ak bq.out _),fun ad ha hne=>?_⟩;obtain⟨a9,z9,h9,_,h8⟩:=lB.out.at_ (i:=0) (List.length_pos_iff.2 hne);rw[ha]at h9;injection h9 with h9
 subst h9;have:=bc h8;rwa [add_zero]at this):P:=h
theorem abA{P:Prop}(h:P:=by
 clear h1 h2;go_enter func235,ntmps235;go_wp2_with fail;(with_reducible refine(kt.out _ _).mono ?_);rintro e w1 ⟨rfl,hb1⟩;have bj:=aa (ag bG.out hb1);clear hb1;go_wp2_with fail;go_ret;exact⟨by rw[HE.out];rfl,bj.out⟩):P:=h
theorem abB{P:Prop}(h:P:=by
 clear h1;go_enter func235,ntmps235;go_wp2_with fail;(with_reducible refine(kt.out _ _).mono ?_);rintro e w1 ⟨rfl,hb1⟩;have bj:=aa (ag bG.out hb1);clear hb1;go_wp2_with fail;go_ret;exact⟨by rw[HE.out];rfl,bj.out⟩):P:=h
theorem abE{P:Prop}(h:P:=by
 refine⟨⟨some ⟨w.heap.size+1,0,none⟩,1⟩,rfl,⟨⟨?_,?_⟩,aS _⟩,ak (ak (aj _) _) _⟩
 ·exact Rd.Bd _ (bk (d,h,v)) 110 (by simp)
 ·rintro ad h1 _;injection h1 with h1
  subst h1;exact⟨bU _,by simp⟩):P:=h
theorem abg{P:Prop}(h:P:=by
 exact(aH.move aP H.wt (fun b hb=>aM (fun he=>by subst he;exact mi hb) _ _) (fun b hb=>aM (fun he=>by
  subst he
  obtain⟨rows,_,h2,_⟩:=H.wt
  exact ed h2 hg (by decide) hb.symm) _ _)).mono aP (fun b hb=>eT _ _ _ hb)):P:=h
theorem abF{P:Prop}(h:P:=by
 refine bodyPost_ret (v:=.tuple #[.agg #[.int .i64 3,.int .i64 0,.int .i64 0,.bool false,.slice zA 1 zc],.bool true]) (by simp[results,results65,go_sem,eO]) rfl ?_;exact⟨⟨zA,zc⟩,rfl,hO,fy⟩):P:=h
theorem UT{P:Prop}(h:P:=by
 clear hE hi;go_enter func162,ntmps162;go_wp2_with fail;go_quiet(fail);go_wp2_with fail;go_end0;exact bY.leaf HH.out s o {HH.out.tk with} HH.out.op rfl):P:=h
theorem UW{P:Prop}(h:P:=by
 clear hC fC aT aU;obtain⟨aA,bh,aU⟩:=af.aK HR.out.blk;unfold bp at aA;go_wp2_with fail;go_end0;refine bY.then HF.out ?_;exact bY.leaf HR.out s o {HR.out.tk with} HR.out.op rfl):P:=h
theorem UF{P:Prop}(h:P:=by
 exact fj H.dn fun b hb=>g1 b (aX H.dn hb).2 (fun e=>by subst e;exact aV H.dn H.kh (by decide) hb.symm) (fun he=>cR H.dn r2 (by decide) hb he.symm)):P:=h
theorem UK{P:Prop}(h:P:=by
 all_goals
  go_wp2_with fail;go_ret;exact⟨B3,d3,by rw[HE.out];rfl,by rw[HE.out];exact GS.weak (bm bj.out.size uH.out.size),ag bj.out vW.out⟩):P:=h
theorem UE{P:Prop}(h:P:=by
 have e:=mi b hb;rcases hb with⟨ys,fr,h⟩|⟨ys,fr,h⟩
 ·exact .inl ⟨ys,fr,e.trans h⟩
 ·exact .inr ⟨ys,fr,e.trans h⟩):P:=h
theorem UN{P:Prop}(h:P:=by
 go_enter func236,ntmps236;go_wp2_with fail;go_ret;exact⟨rfl,aj w⟩):P:=h
theorem UH{P:Prop}(h:P:=by
 go_wp2_with fail;go_roundw;case rel=>exact⟨j+1,_,by omega,by go_num,HF.out⟩
 case measure=>simp[intOf];omega):P:=h
theorem UB{P:Prop}(h:P:=by
 rename_i t i h;have hl:=N0 h;exact⟨NZ _ _,by simp;omega,fun y hy=>by simp at hy;subst hy;exact hl⟩):P:=h
theorem UO{P:Prop}(h:P:=by
 have:=(Mo.cJ.1 (F.ch x hx)).2.2.1.1;have:=(Mo.cJ.1 (F.ch x hx)).2.1.2;have:=hp.2.2.2.2.2.2.1;omega):P:=h
theorem UU{P:Prop}(h:P:=by
 have h:=yt r.k.il wx;rwa [show Tu r.k.il=Mo.iw r.k.il by unfold Tu Mo.iw;omega]at h):P:=h
end Go.Proofs.YtjcjjiieblineaaGreat
