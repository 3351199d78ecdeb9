/- Walks and plain facts. No condition. -/
import Derived.Test.YtpfbfhfcbdbglaaGreatSb
import Derived.Deep.DeepCutAuto
import Derived.Deep.MidRow
import Derived.StillTailTactics
namespace Go.Proofs.YtpfbfhfcbdbglaaGreat
open Go.RowKit Go.Proofs.Tryz
set_option maxHeartbeats 8000000
set_option maxRecDepth 100000
set_option linter.all false
variable{P:Prop}
theorem Ma(h:P:=by
 rw[HG.Y];exact⟨rfl,⟨_,_,Aj⟩,kN,Ak⟩):P:=h
theorem Zd(h:P:=by
 rw[<-Al]at HP he;have HPQ:=ae Al;clear Al;subst he;clear hE cU GG;obtain⟨bN,cj,-⟩:=ag.aF HP.Y.1;have cu:=ag.lt HP.Y.1;go_wp2_with fail;have fy:=λi=>ag.cell HP.Y.2.2 i;change bodyPost _ _ _ _ _ (ax w3 (w.heap.size+1) 0 [pp.2.seq,pp.2.cs,pp.2.code,pp.2.value]);clear bN cj cu;have Nw:=ae HP.Y.2.1;generalize ax w3 (w.heap.size+1) 0 [pp.2.seq,pp.2.cs,pp.2.code,pp.2.value]=wz at *;refine bodyPost_ret (v:=.agg #[pp.2.seq,pp.2.cs,pp.2.code,pp.2.value]) ?_ rfl (by rw[<-HPQ.Y];exact Nw.Y);simp[results,results248,go_sem,fy]):P:=h
theorem mk5(h:P:=by
 simp[results,results260,go_sem,fy]):P:=h
theorem UI(h:P:=by
 have HE:Hid (Mo.ja c l t s q=l):=by unfold Hid Mo.ja;rw[ay (by omega)]
 go_enter func221,ntmps221;go_wp2_with fail;(with_reducible refine(iF.Y _ bJ.Y).mono ?_);rintro e f ⟨B,d,rfl,_,b,a⟩;have HO:=ae b;have lR:=ae (ah bJ.Y a);clear b a;go_wp2_with fail;go_ret;exact⟨B,d,by rw[HE.Y,jf.Y];rfl,by rw[HE.Y, <-jf.Y];exact HO.Y.bL bJ.Y.size,lR.Y⟩):P:=h
theorem UK(h:P:=by
 rw[hE];clear hE;go_enter func188,ntmps188;go_wp2_with fail;go_quiet(fail);go_wp2_with fail;go_end0;exact cW.leaf HH.Y s o {HH.Y.tk with} HH.Y.op rfl):P:=h
theorem Zy(h:P:=by
 all_goals
  have HR:=ae hC;have HF:=ae eJ;clear hC fC eJ aT bb;obtain⟨aC,bC,bb⟩:=ag.aF HR.Y.blk;unfold bI at aC;go_wp2_with fail;go_end0;refine cW.then HF.Y ?_;exact cW.leaf HR.Y s o {HR.Y.tk with} HR.Y.op rfl):P:=h
theorem Y6(h:P:=by
 simp[results,results262,go_sem,fy]):P:=h
theorem Y5(h:P:=by
 simp[results,results259,go_sem,fy]):P:=h
theorem abo(h:P:=by
 have wg:Hid (Mo.eL h t tt nn=(h,Mo.bg 12)):=by unfold Hid Mo.eL;rw[ay (by first|exact .inl HX.Y|exact .inr (.inl HX.Y)|exact .inr (.inr (.inl HX.Y))|exact .inr (.inr (.inr (.inl HX.Y)))|exact .inr (.inr (.inr (.inr HX.Y))))]
 clear H hb HX;go_enter func263,ntmps263;have cI:=λi=>ag.cell (dx.blk rH.Y) i;have eH:=ag.lt (dx.blk rH.Y);unfold qb at cI;go_wp2_with fail;have fy:=λi=>ag.cell (ag.new w 64 #[.int .i64 0,.int .i64 0,.int .i64 12,.int .i64 0]) i;refine bodyPost_ret (v:=.agg #[.int .i64 0,.int .i64 0,.int .i64 12,.int .i64 0]) ?_ rfl ?_
 .clear cI;simp[results,results263,go_sem,fy]
 .rw[wg.Y];exact⟨rfl,⟨_,_,HZ.Y⟩,HBZ.Y,HFZ.Y⟩):P:=h
theorem abp(h:P:=by
 have wg:Hid (Mo.eL h t j nn=(h,Mo.bg 12)):=by unfold Hid Mo.eL;rw[ay (by first|exact .inl HX.Y|exact .inr (.inl HX.Y)|exact .inr (.inr (.inl HX.Y))|exact .inr (.inr (.inr (.inl HX.Y)))|exact .inr (.inr (.inr (.inr HX.Y))))]
 clear H hb HX;go_enter func263,ntmps263;have cI:=λi=>ag.cell (dx.blk rH.Y) i;have eH:=ag.lt (dx.blk rH.Y);unfold qb at cI;go_wp2_with fail;have fy:=λi=>ag.cell (ag.new w 64 #[.int .i64 0,.int .i64 0,.int .i64 12,.int .i64 0]) i;refine bodyPost_ret (v:=.agg #[.int .i64 0,.int .i64 0,.int .i64 12,.int .i64 0]) ?_ rfl ?_
 .clear cI;simp[results,results263,go_sem,fy]
 .rw[wg.Y];exact⟨rfl,⟨_,_,HZ.Y⟩,HBZ.Y,HFZ.Y⟩):P:=h
theorem abH(h:P:=by
 rw[hE];rw[hnb]at Qr;clear hE hnb;go_enter func161,ntmps161;go_wp2_with fail;go_still_tail 10,(by kernel_rfl)
 change wpList _ _ _ _ _ w.drew;clear aC bC bb;have HF:Hid (cP w w.drew p m m):=cP.ext (ai w).drew p m;generalize w.drew=wd at *;go_wp2_with fail;(with_reducible refine Qr.Y.mono ?_);rintro e b ⟨rfl,a⟩;have HR:=ae (HD.Y.more a);have uB:=ae (HF.Y.trans (cP.ext a p m));clear a;obtain⟨aC,bC,bb⟩:=ag.aF HR.Y.blk;unfold bI at aC;go_wp2_with fail;go_end0;refine cW.then uB.Y ?_;exact cW.leaf HR.Y s o {HR.Y.tk with} HR.Y.op rfl):P:=h
theorem abJ(h:P:=by
 go_wp2_with fail;(with_reducible refine HL.Y.mono ?_);rintro e f ⟨rfl,d,c,b⟩;have ik:=ae c;have uB:=ae b;clear c b aC bC bb HH;go_wp2_with fail;(with_reducible refine(jC.Y _).mono ?_);rintro e g ⟨rfl,a⟩;have HR:=ae (ik.Y.more a);have HF:=ae (uB.Y.trans (cP.ext a p _));clear a ik uB;obtain⟨aC,bC,bb⟩:=ag.aF HR.Y.blk;unfold bI at aC;go_wp2_with fail;go_end0;refine cW.then HF.Y ?_;exact cW.leaf HR.Y s o {HR.Y.tk with} HR.Y.op rfl):P:=h
theorem abE(h:P:=by
 refine⟨h5,λb hb _ hm=>h4 b hb (λe=>hm (.inl e)) (λe=>hm (.inr (.inl e))) (λe=>hm (.inr (.inr (.inl e)))) (λe=>hm (.inr (.inr (.inr e)))),λb hb=>?_,rfl⟩;rcases hb with e|e|e|e
 .exact .inl (.inl e)
 .exact .inl (.inr (.inl e))
 .exact(h2 b e).imp (λh=>.inr (.inr (.inl h))) id
 .exact(h3 b e).imp (λh=>.inr (.inr (.inr h))) id):P:=h
theorem abG(h:P:=by
 have HE:=ae hE;clear hE;go_wp2_with fail;refine(HRF.Y _ ?_).mono ?_
 .exact RN.leaf HR.Y {s with fr:=⟨A1,n1⟩,ol:=⟨B1,m1⟩} o {rJ.Y with} HR.Y.op rfl
 .rintro e b ⟨rfl,a⟩;have HX:=ae a;clear a;go_wp2_with fail;go_end0;rw[HE.Y];refine cW.then (cP.ext HB.Y p m) (cW.after ⟨rfl,HX.Y⟩ ?_);exact WW):P:=h
theorem abI(h:P:=by
 go_wp2_with fail;(with_reducible refine HL.Y.mono ?_);rintro e d ⟨rfl,c,b,a⟩;have HR:=ae b;have HF:=ae a;clear b a aC bC bb HH;obtain⟨aC,bC,bb⟩:=ag.aF HR.Y.blk;unfold bI at aC;go_wp2_with fail;go_end0;refine cW.then HF.Y ?_;exact cW.leaf HR.Y s o {HR.Y.tk with} HR.Y.op rfl):P:=h
theorem ac5(h:P:=by
 clear hx hb2;go_wp2_with fail;(with_reducible refine(iF.Y _ bB.Y).mono ?_);rintro e c ⟨B,d,rfl,_,b,a⟩;have HO:=ae b;have lR:=ae (ah bB.Y a);clear b a;go_wp2_with fail;go_ret;exact⟨B,d,by rw[HE.Y,jf.Y];rfl,by rw[HE.Y, <-jf.Y];exact HO.Y.bL bB.Y.size,lR.Y⟩):P:=h
theorem ac4(h:P:=by
 refine⟨D,dd,by rw[<-jf.Y];exact ag.new _ _ _,by rw[<-jf.Y];exact mX,jC.Y.below (aj bB.Y _),λad ha hne=>?_⟩;obtain⟨a9,z9,h9,_,h8⟩:=jC.Y.at_ (i:=0) (List.length_pos_iff.2 hne);rw[ha]at h9;injection h9 with h9
 subst h9;have:=bc h8;rwa [add_zero]at this):P:=h
theorem abB(h:P:=by
 clear h1 h2;go_enter func219,ntmps219;go_wp2_with fail;(with_reducible refine(fW.Y _ _).mono ?_);rintro e b ⟨rfl,a⟩;have br:=ae (ah bJ.Y a);clear a;go_wp2_with fail;go_ret;exact⟨by rw[HE.Y];rfl,br.Y⟩):P:=h
theorem abC(h:P:=by
 clear h1;go_enter func219,ntmps219;go_wp2_with fail;(with_reducible refine(fW.Y _ _).mono ?_);rintro e b ⟨rfl,a⟩;have br:=ae (ah bJ.Y a);clear a;go_wp2_with fail;go_ret;exact⟨by rw[HE.Y];rfl,br.Y⟩):P:=h
theorem abK(h:P:=by
 refine⟨⟨some ⟨w.heap.size+1,0,none⟩,1⟩,rfl,⟨⟨?_,?_⟩,aR _⟩,aj (aj (ai _) _) _⟩
 .exact Rd.Dm _ (bj (d,h,v)) 101 (by simp)
 .rintro b a _;injection a with a
  subst a;exact⟨bM _,by simp⟩):P:=h
theorem abu(h:P:=by
 exact(aD.move aI H.wt (λb hb=>aM (λhe=>by subst he;exact jD hb) _ _) (λb hb=>aM (λhe=>by
  subst he
  obtain⟨rows,_,h2,_⟩:=H.wt
  exact eh h2 hg (by decide) hb.symm) _ _)).mono aI (λb hb=>fB _ _ _ hb)):P:=h
theorem abL(h:P:=by
 refine bodyPost_ret (v:=.tuple #[.agg #[.int .i64 3,.int .i64 0,.int .i64 0,.bool false,.slice zA 1 zc],.bool true]) (by simp[results,results45,go_sem,fy]) rfl ?_;exact⟨⟨zA,zc⟩,rfl,hO,kN⟩):P:=h
theorem WX(h:P:=by
 clear hE hi;go_enter func147,ntmps147;go_wp2_with fail;go_quiet(fail);go_wp2_with fail;go_end0;exact cW.leaf HH.Y s o {HH.Y.tk with} HH.Y.op rfl):P:=h
theorem W6(h:P:=by
 clear hC fC aT bb;obtain⟨aC,bC,bb⟩:=ag.aF HR.Y.blk;unfold bI at aC;go_wp2_with fail;go_end0;refine cW.then HF.Y ?_;exact cW.leaf HR.Y s o {HR.Y.tk with} HR.Y.op rfl):P:=h
theorem JZ(h:P:=by
 exact iL H.dn λb hb=>g1 b (bk H.dn hb).2 (λe=>by subst e;exact ba H.dn H.kh (by decide) hb.symm) (λhe=>cL H.dn r2 (by decide) hb he.symm)):P:=h
theorem abA(h:P:=by
 all_goals
  go_wp2_with fail;go_ret;exact⟨B3,d3,by rw[HE.Y];rfl,by rw[HE.Y];exact LR.bL (bm br.Y.size xx.Y.size),ah br.Y xq.Y⟩):P:=h
theorem Ey(h:P:=by
 have e:=jD b hb;rcases hb with⟨ys,fr,h⟩|⟨ys,fr,h⟩
 .exact .inl ⟨ys,fr,e.trans h⟩
 .exact .inr ⟨ys,fr,e.trans h⟩):P:=h
theorem WU(h:P:=by
 go_enter func220,ntmps220;go_wp2_with fail;go_ret;exact⟨rfl,ai w⟩):P:=h
theorem WS(h:P:=by
 go_wp2_with fail;go_roundw;case rel=>exact⟨j+1,_,by omega,by go_num,HF.Y⟩
 case measure=>simp[intOf];omega):P:=h
theorem WD(h:P:=by
 rename_i t i h;have hl:=Qq h;exact⟨Ep _ _,by simp;omega,λy hy=>by simp at hy;subst hy;exact hl⟩):P:=h
theorem WV(h:P:=by
 have:=(Mo.cK.1 (F.ch x hx)).2.2.1.1;have:=(Mo.cK.1 (F.ch x hx)).2.1.2;have:=hp.2.2.2.2.2.2.1;omega):P:=h
theorem WZ(h:P:=by
 have h:=AA r.k.js wx;rwa [show VG r.k.js=Mo.jt r.k.js by unfold VG Mo.jt;omega]at h):P:=h
theorem aN(h:P:=by
 assumption):P:=h
theorem WM(h:P:=by
 have hs1:=nj.Y.size;have m1:=λwx=>run_mk wx 41 50 (z:=.agg #[oZ,oZ,false,false,oN]) (sz:=5) (by_:=48) rfl m8 c.chans b1 aa af;have m2:=λwx=>run_mk wx 42 99 (z:=.agg #[false,oZ,oZ,oN]) (sz:=4) (by_:=48) rfl na c.threads aa aa af;have m3:=λwx=>run_mk wx 43 64 (z:=.agg #[oZ,oZ,oZ,oZ]) (sz:=4) (by_:=32) rfl ry c.threads aa aa af;have e1:(Value.agg #[oZ,oZ,false,false,oN]).cells=(dF chR).toArray:=rfl;have e2:(Value.agg #[false,oZ,oZ,oN]).cells=(dF wtR).toArray:=rfl;have e3:(Value.agg #[oZ,oZ,oZ,oZ]).cells=(fD Mo.cE).toArray:=rfl;rw[e1]at m1;rw[e2]at m2;rw[e3]at m3;clear e1 e2 e3;generalize vV:madeCells (dF chR).toArray (c.chans.toNat*5)=M1 at m1;generalize uO:madeCells (dF wtR).toArray (c.threads.toNat*4)=M2 at m2;generalize qW:madeCells (fD Mo.cE).toArray (c.threads.toNat*4)=M3 at m3;obtain⟨vV,uO,qW⟩:=aS vV uO qW;go_region_held3(Ext w1) (with_reducible(repeat(first|assumption|exact Ext.start _|exact Ext.iD _ _|exact Ext.vo _ _ _|exact Ext.Hk _ _ _ _|exact Ext.Qx _ _ _ _ _|refine Ext.alloc ?_ _|refine Ext.set ?_ (by simp;try omega)))) (fail);all_goals
  go_wp2;go_meet;apply Exists.intro;apply Exists.intro;apply Exists.intro;apply Exists.intro;refine⟨rfl,?_,?_⟩
  .repeat(with_reducible first|exact ag.newAt _ _ _ aA|refine ag.dr ?_|refine ag.alloc ?_ _)
  refine⟨aa,aa,aa,aa,aa,?_,?_,?_,aN⟩
  .rw[vV.Y];repeat(with_reducible first|exact ag.newAt _ _ _ aA|refine ag.dr ?_|refine ag.alloc ?_ _)
  .rw[uO.Y];repeat(with_reducible first|exact ag.newAt _ _ _ aA|refine ag.dr ?_|refine ag.alloc ?_ _)
  .rw[qW.Y];repeat(with_reducible first|exact ag.newAt _ _ _ aA|refine ag.dr ?_|refine ag.alloc ?_ _)):P:=h
theorem WN(h:P:=by
 refine⟨?_,?_,rL dC af Mo.cE _ aa Mp aa⟩
 .rw[abx];refine⟨List.replicate c.chans.toNat chR,aA,rL bY af chR _ aa La aa,λi r x hr hx=>?_⟩;rw[List.eq_of_mem_replicate (cH hr),List.eq_of_mem_replicate (cH hx)];exact⟨none,0,rfl,aR _,bD.nil _ _ _,λad h=>by cases h⟩
 .refine⟨List.replicate c.threads.toNat wtR,aA,rL bY af wtR _ aa BQ aa,λi r x hr hx=>?_⟩;rw[List.eq_of_mem_replicate (cH hr),List.eq_of_mem_replicate (cH hx)];exact⟨none,0,rfl,aR _,cN.nil _ _ _,λad h=>by cases h⟩):P:=h
theorem WG(h:P:=by
 go_wp2;go_meet;have hz:=(Ext.Y xx).size;have hT:=o7.mk' (v1:=[.int .i64 G.c.gen,.int .i64 G.c.cap,.bool G.c.used,.bool G.c.closed,.slice B2 G.c.buf.length e2]) (v2:=[.int .i64 G.r.seq,.int .i64 G.r.cs,.int .i64 G.r.code,.int .i64 G.r.value]) jm Ad aa rfl rfl;refine⟨_,_,B2,e2,A4,m4,D,dd,rfl,rfl,rfl,rfl,?_,?_,Bh.Y _ (by assumption),Hf.Y _ (by assumption),?_,ah br.Y (Ext.Y (by assumption)),by omega,by omega,by omega⟩
 .exact hT.2.1
 .exact hT.2.2
 .exact(HP.bL (base':=w.heap.size) (by simp;omega)).two hT.1):P:=h
theorem WQ(h:P:=by
 rw[hst];refine⟨some ⟨g1,0,none⟩,some ⟨g2,0,none⟩,some ⟨g3,0,none⟩,c.chans.toNat,c.threads.toNat,c.threads.toNat,by dsimp only;rw[rM,jI,jI],?_,kN⟩;dsimp only;rw[rM,jI,jI];exact vY.bL aa):P:=h
theorem WL(h:P:=by
 unfold Mo.aV Mo.nI at hc;simp only[eT]at hc;have h3:=hc.2;rw[au (by rw[hk];decide),ay hk]at h3;simp only[eT,eI]at h3;exact h3.1.2):P:=h
theorem JY(h:P:=by
 go_wp2;go_roundw;case rel=>exact⟨q+1,by omega,by go_num,_,rfl,lh,zJ⟩
 case measure=>simp[intOf];omega):P:=h
theorem QA(h:P:=by
 go_roundw;case rel=>exact⟨j+1,by omega,by go_num,HR'⟩
 case measure=>simp[intOf];omega):P:=h
end Go.Proofs.YtpfbfhfcbdbglaaGreat
