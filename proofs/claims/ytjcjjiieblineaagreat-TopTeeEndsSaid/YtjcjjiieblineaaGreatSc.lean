/- Walks and plain facts. No condition. -/
import Derived.Test.YtjcjjiieblineaaGreatSb
import Derived.Deep.DeepCutAuto
import Derived.Deep.MidRow
import Derived.StillTailTactics
namespace Go.Proofs.YtjcjjiieblineaaGreat
open Go.RowKit Go.Proofs.Tryz
set_option maxHeartbeats 8000000
set_option maxRecDepth 100000
set_option linter.all false
theorem XV{P:Prop}(h:P:=by
 rw[HG.Y];exact⟨rfl,⟨_,_,xC⟩,gv,xD⟩):P:=h
theorem mk3{P:Prop}(h:P:=by
 rw[<-EC]at HP he;have HPQ:=ae EC;clear EC;subst he;clear hE gD LY;obtain⟨dR,dK,-⟩:=af.aM HP.Y.1;have dN:=af.lt HP.Y.1;go_wp2_with fail;have fH:=fun i=>af.cell HP.Y.2.2 i;change bodyPost _ _ _ _ _ (aw w3 (w.heap.size+1) 0 [pp.2.seq,pp.2.cs,pp.2.code,pp.2.value]);clear dR dK dN;have XX:=ae HP.Y.2.1;generalize aw w3 (w.heap.size+1) 0 [pp.2.seq,pp.2.cs,pp.2.code,pp.2.value]=wz at *;refine bodyPost_ret (v:=.agg #[pp.2.seq,pp.2.cs,pp.2.code,pp.2.value]) ?_ rfl (by rw[<-HPQ.Y];exact XX.Y);simp[results,results264,go_sem,fH]):P:=h
theorem mk5{P:Prop}(h:P:=by
 simp[results,results276,go_sem,fH]):P:=h
theorem mk6{P:Prop}(h:P:=by
 simp[results,results268,go_sem,fH]):P:=h
theorem VP{P:Prop}(h:P:=by
 have HE:Hid (Mo.eR c l t s q=l):=by unfold Hid Mo.eR;rw[au (by omega)]
 go_enter func237,ntmps237;go_wp2_with fail;(with_reducible refine(iH.Y _ bM.Y).mono ?_);rintro e f ⟨B,d,rfl,_,b,a⟩;have HO:=ae b;have Fu:=ae (ai bM.Y a);clear b a;go_wp2_with fail;go_ret;exact⟨B,d,by rw[HE.Y,HDL.Y];rfl,by rw[HE.Y, <-HDL.Y];exact HO.Y.bD bM.Y.size,Fu.Y⟩):P:=h
theorem VS{P:Prop}(h:P:=by
 rw[hE];clear hE;go_enter func204,ntmps204;go_wp2_with fail;go_quiet(fail);go_wp2_with fail;go_end0;exact cE.leaf HH.Y s o {HH.Y.tk with} HH.Y.op rfl):P:=h
theorem aaE{P:Prop}(h:P:=by
 rw[<-hy]at hF ⊢;have HF:=ae hF;clear hF lH rZ hy;obtain⟨dR,dK,dN⟩:=af.aM kC;clear gD kW aB hgq2 bp;go_wp2_with fail;change bodyPost _ _ _ _ _ (aw w5 (w.heap.size+2) 0 [y.cap,.slice E1 y.list.length k1,.slice E3 y.done.length k3]);clear dR dK dN kC;have fH:=fun i=>af.cell HF.Y.1 i;have nH:=HF.Y.2;clear HF;generalize aw w5 (w.heap.size+2) 0 [y.cap,.slice E1 y.list.length k1,.slice E3 y.done.length k3]=wz at *;refine bodyPost_ret (v:=.agg #[y.cap,.slice E1 y.list.length k1,.slice E3 y.done.length k3]) ?_ rfl nH;simp[results,results257,go_sem,fH]):P:=h
theorem aaO{P:Prop}(h:P:=by
 all_goals
  have HR:=ae hC;have HF:=ae eG;clear hC fC eG aT aW;obtain⟨aB,bp,aW⟩:=af.aM HR.Y.blk;unfold bw at aB;go_wp2_with fail;go_end0;refine cE.then HF.Y ?_;exact cE.leaf HR.Y s o {HR.Y.tk with} HR.Y.op rfl):P:=h
theorem aas{P:Prop}(h:P:=by
 simp[results,results278,go_sem,fH]):P:=h
theorem aar{P:Prop}(h:P:=by
 simp[results,results275,go_sem,fH]):P:=h
theorem aaJ{P:Prop}(h:P:=by
 simp[results,results249,go_sem]):P:=h
theorem acy{P:Prop}(h:P:=by
 have JZ:Hid (Mo.jf h t tt nn=(h,Mo.bI 12)):=by unfold Hid Mo.jf;rw[au (by first|exact .inl HX.Y|exact .inr (.inl HX.Y)|exact .inr (.inr (.inl HX.Y))|exact .inr (.inr (.inr (.inl HX.Y)))|exact .inr (.inr (.inr (.inr HX.Y))))]
 clear H hb HX;go_enter func279,ntmps279;have dC:=fun i=>af.cell (ed.blk qI.Y) i;have gO:=af.lt (ed.blk qI.Y);unfold nY at dC;go_wp2_with fail;have fH:=fun i=>af.cell (af.new w 48 #[.int .i64 0,.int .i64 0,.int .i64 12,.int .i64 0]) i;refine bodyPost_ret (v:=.agg #[.int .i64 0,.int .i64 0,.int .i64 12,.int .i64 0]) ?_ rfl ?_
 ·clear dC;simp[results,results279,go_sem,fH]
 ·rw[JZ.Y];exact⟨rfl,⟨_,_,HZ.Y⟩,HBZ.Y,HFZ.Y⟩):P:=h
theorem acz{P:Prop}(h:P:=by
 have JZ:Hid (Mo.jf h t j nn=(h,Mo.bI 12)):=by unfold Hid Mo.jf;rw[au (by first|exact .inl HX.Y|exact .inr (.inl HX.Y)|exact .inr (.inr (.inl HX.Y))|exact .inr (.inr (.inr (.inl HX.Y)))|exact .inr (.inr (.inr (.inr HX.Y))))]
 clear H hb HX;go_enter func279,ntmps279;have dC:=fun i=>af.cell (ed.blk qI.Y) i;have gO:=af.lt (ed.blk qI.Y);unfold nY at dC;go_wp2_with fail;have fH:=fun i=>af.cell (af.new w 48 #[.int .i64 0,.int .i64 0,.int .i64 12,.int .i64 0]) i;refine bodyPost_ret (v:=.agg #[.int .i64 0,.int .i64 0,.int .i64 12,.int .i64 0]) ?_ rfl ?_
 ·clear dC;simp[results,results279,go_sem,fH]
 ·rw[JZ.Y];exact⟨rfl,⟨_,_,HZ.Y⟩,HBZ.Y,HFZ.Y⟩):P:=h
theorem acO{P:Prop}(h:P:=by
 obtain⟨y,hy⟩:∃y:Mo.Cl,y={x with done:=Mo.jg (x).done t ⟨s,0,10,0⟩}:=⟨_,rfl⟩
 rw[<-hy]at hF ⊢;have HF:=ae hF;clear hF lH rZ hy;obtain⟨dR,dK,dN⟩:=af.aM kC;clear gD kW aB hgq2 bp;go_wp2_with fail;change bodyPost _ _ _ _ _ (aw w5 (w.heap.size+2) 0 [y.cap,.slice E1 y.list.length k1,.slice E3 y.done.length k3]);clear dR dK dN kC;have fH:=fun i=>af.cell HF.Y.1 i;have nH:=HF.Y.2;clear HF;generalize aw w5 (w.heap.size+2) 0 [y.cap,.slice E1 y.list.length k1,.slice E3 y.done.length k3]=wz at *;refine bodyPost_ret (v:=.agg #[y.cap,.slice E1 y.list.length k1,.slice E3 y.done.length k3]) ?_ rfl nH;simp[results,results257,go_sem,fH]):P:=h
theorem ac1{P:Prop}(h:P:=by
 rw[hE];rw[hnb]at Ra;clear hE hnb;go_enter func176,ntmps176;go_wp2_with fail;go_still_tail 10,(by kernel_rfl)
 change wpList _ _ _ _ _ w.drew;clear aB bp aW;have HF:Hid (cu w w.drew p m m):=cu.ext (aj w).drew p m;generalize w.drew=wd at *;go_wp2_with fail;(with_reducible refine Ra.Y.mono ?_);rintro e b ⟨rfl,a⟩;have HR:=ae (HD.Y.more a);have ur:=ae (HF.Y.trans (cu.ext a p m));clear a;obtain⟨aB,bp,aW⟩:=af.aM HR.Y.blk;unfold bw at aB;go_wp2_with fail;go_end0;refine cE.then ur.Y ?_;exact cE.leaf HR.Y s o {HR.Y.tk with} HR.Y.op rfl):P:=h
theorem acP{P:Prop}(h:P:=by
 rw[<-hy]at hF ⊢;have HF:=ae hF;clear hF lH rZ hy;obtain⟨dR,dK,dN⟩:=af.aM kC;clear hcp4 hgp4 hfp4;go_wp2_with fail;change bodyPost _ _ _ _ _ (aw w5 (w.heap.size+2) 0 [y.cap,.slice E1 y.list.length k1,.slice E3 y.done.length k3]);clear dR dK dN kC;have fH:=fun i=>af.cell HF.Y.1 i;have nH:=HF.Y.2;clear HF;generalize aw w5 (w.heap.size+2) 0 [y.cap,.slice E1 y.list.length k1,.slice E3 y.done.length k3]=wz at *;refine bodyPost_ret (v:=.agg #[y.cap,.slice E1 y.list.length k1,.slice E3 y.done.length k3]) ?_ rfl nH;simp[results,results257,go_sem,fH]):P:=h
theorem ac3{P:Prop}(h:P:=by
 go_wp2_with fail;(with_reducible refine HL.Y.mono ?_);rintro e f ⟨rfl,d,c,b⟩;have iT:=ae c;have ur:=ae b;clear c b aB bp aW HH;go_wp2_with fail;(with_reducible refine(lX.Y _).mono ?_);rintro e g ⟨rfl,a⟩;have HR:=ae (iT.Y.more a);have HF:=ae (ur.Y.trans (cu.ext a p _));clear a iT ur;obtain⟨aB,bp,aW⟩:=af.aM HR.Y.blk;unfold bw at aB;go_wp2_with fail;go_end0;refine cE.then HF.Y ?_;exact cE.leaf HR.Y s o {HR.Y.tk with} HR.Y.op rfl):P:=h
theorem acW{P:Prop}(h:P:=by
 refine⟨h5,fun b hb _ hm=>h4 b hb (fun e=>hm (.inl e)) (fun e=>hm (.inr (.inl e))) (fun e=>hm (.inr (.inr (.inl e)))) (fun e=>hm (.inr (.inr (.inr e)))),fun b hb=>?_,rfl⟩;rcases hb with e|e|e|e
 ·exact .inl (.inl e)
 ·exact .inl (.inr (.inl e))
 ·exact(h2 b e).imp (fun h=>.inr (.inr (.inl h))) id
 ·exact(h3 b e).imp (fun h=>.inr (.inr (.inr h))) id):P:=h
theorem ac0{P:Prop}(h:P:=by
 have HE:=ae hE;clear hE;go_wp2_with fail;refine(HRF.Y _ ?_).mono ?_
 ·exact RN.leaf HR.Y {s with fr:=⟨A1,n1⟩,ol:=⟨B1,m1⟩} o {oL.Y with} HR.Y.op rfl
 ·rintro e b ⟨rfl,a⟩;have HX:=ae a;clear a;go_wp2_with fail;go_end0;rw[HE.Y];refine cE.then (cu.ext HB.Y p m) (cE.after ⟨rfl,HX.Y⟩ ?_);exact Tb):P:=h
theorem ac2{P:Prop}(h:P:=by
 go_wp2_with fail;(with_reducible refine HL.Y.mono ?_);rintro e d ⟨rfl,c,b,a⟩;have HR:=ae b;have HF:=ae a;clear b a aB bp aW HH;obtain⟨aB,bp,aW⟩:=af.aM HR.Y.blk;unfold bw at aB;go_wp2_with fail;go_end0;refine cE.then HF.Y ?_;exact cE.leaf HR.Y s o {HR.Y.tk with} HR.Y.op rfl):P:=h
theorem acS{P:Prop}(h:P:=by
 clear hx hb2;go_wp2_with fail;(with_reducible refine(iH.Y _ bE.Y).mono ?_);rintro e c ⟨B,d,rfl,_,b,a⟩;have HO:=ae b;have Fu:=ae (ai bE.Y a);clear b a;go_wp2_with fail;go_ret;exact⟨B,d,by rw[HE.Y,HDL.Y];rfl,by rw[HE.Y, <-HDL.Y];exact HO.Y.bD bE.Y.size,Fu.Y⟩):P:=h
theorem acM{P:Prop}(h:P:=by
 refine⟨D,dd,by rw[<-HDL.Y];exact af.new _ _ _,by rw[<-HDL.Y];exact lv,lX.Y.below (ak bE.Y _),fun ad ha hne=>?_⟩;obtain⟨a9,z9,h9,_,h8⟩:=lX.Y.at_ (i:=0) (List.length_pos_iff.2 hne);rw[ha]at h9;injection h9 with h9
 subst h9;have:=bb h8;rwa [add_zero]at this):P:=h
theorem acT{P:Prop}(h:P:=by
 clear h1 h2;go_enter func235,ntmps235;go_wp2_with fail;(with_reducible refine(lD.Y _ _).mono ?_);rintro e b ⟨rfl,a⟩;have br:=ae (ai bM.Y a);clear a;go_wp2_with fail;go_ret;exact⟨by rw[HE.Y];rfl,br.Y⟩):P:=h
theorem acU{P:Prop}(h:P:=by
 clear h1;go_enter func235,ntmps235;go_wp2_with fail;(with_reducible refine(lD.Y _ _).mono ?_);rintro e b ⟨rfl,a⟩;have br:=ae (ai bM.Y a);clear a;go_wp2_with fail;go_ret;exact⟨by rw[HE.Y];rfl,br.Y⟩):P:=h
theorem acX{P:Prop}(h:P:=by
 refine⟨⟨some ⟨w.heap.size+1,0,none⟩,1⟩,rfl,⟨⟨?_,?_⟩,aS _⟩,ak (ak (aj _) _) _⟩
 ·exact Rd.Di _ (bC (d,h,v)) 110 (by simp)
 ·rintro b a _;injection a with a
  subst a;exact⟨cj _,by simp⟩):P:=h
theorem acF{P:Prop}(h:P:=by
 exact(aI.move aR H.wt (fun b hb=>aO (fun he=>by subst he;exact nB hb) _ _) (fun b hb=>aO (fun he=>by
  subst he
  obtain⟨rows,_,h2,_⟩:=H.wt
  exact fk h2 hg (by decide) hb.symm) _ _)).mono aR (fun b hb=>fN _ _ _ hb)):P:=h
theorem acY{P:Prop}(h:P:=by
 refine bodyPost_ret (v:=.tuple #[.agg #[.int .i64 3,.int .i64 0,.int .i64 0,.bool false,.slice zA 1 zc],.bool true]) (by simp[results,results65,go_sem,fH]) rfl ?_;exact⟨⟨zA,zc⟩,rfl,hO,gv⟩):P:=h
theorem Yc{P:Prop}(h:P:=by
 clear hE hi;go_enter func162,ntmps162;go_wp2_with fail;go_quiet(fail);go_wp2_with fail;go_end0;exact cE.leaf HH.Y s o {HH.Y.tk with} HH.Y.op rfl):P:=h
theorem Ye{P:Prop}(h:P:=by
 clear hC fC aT aW;obtain⟨aB,bp,aW⟩:=af.aM HR.Y.blk;unfold bw at aB;go_wp2_with fail;go_end0;refine cE.then HF.Y ?_;exact cE.leaf HR.Y s o {HR.Y.tk with} HR.Y.op rfl):P:=h
theorem XZ{P:Prop}(h:P:=by
 exact cJ H.dn fun b hb=>g1 b (aX H.dn hb).2 (fun e=>by subst e;exact aY H.dn H.kh (by decide) hb.symm) (fun he=>dH H.dn r2 (by decide) hb he.symm)):P:=h
theorem X5{P:Prop}(h:P:=by
 all_goals
  go_wp2_with fail;go_ret;exact⟨B3,d3,by rw[HE.Y];rfl,by rw[HE.Y];exact JU.bD (bq br.Y.size xg.Y.size),ai br.Y yA.Y⟩):P:=h
theorem XY{P:Prop}(h:P:=by
 have e:=nB b hb;rcases hb with⟨ys,fr,h⟩|⟨ys,fr,h⟩
 ·exact .inl ⟨ys,fr,e.trans h⟩
 ·exact .inr ⟨ys,fr,e.trans h⟩):P:=h
theorem X8{P:Prop}(h:P:=by
 go_enter func236,ntmps236;go_wp2_with fail;go_ret;exact⟨rfl,aj w⟩):P:=h
theorem X1{P:Prop}(h:P:=by
 go_wp2_with fail;go_roundw;case rel=>exact⟨j+1,_,by omega,by go_num,HF.Y⟩
 case measure=>simp[intOf];omega):P:=h
theorem XW{P:Prop}(h:P:=by
 rename_i t i h;have hl:=Q9 h;exact⟨Q8 _ _,by simp;omega,fun y hy=>by simp at hy;subst hy;exact hl⟩):P:=h
theorem X9{P:Prop}(h:P:=by
 have:=(Mo.dA.1 (F.ch x hx)).2.2.1.1;have:=(Mo.dA.1 (F.ch x hx)).2.1.2;have:=hp.2.2.2.2.2.2.1;omega):P:=h
theorem Yd{P:Prop}(h:P:=by
 have h:=Au r.k.fW wx;rwa [show WS r.k.fW=Mo.ig r.k.fW by unfold WS Mo.ig;omega]at h):P:=h
end Go.Proofs.YtjcjjiieblineaaGreat
