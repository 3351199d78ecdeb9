/- Walks and plain facts. No condition. -/
import Derived.Test.YtjcjjiieblineaaGreatSc
import Derived.Deep.RegionLawGrows
namespace Go.Proofs.YtjcjjiieblineaaGreat
open Go.RowKit Go.Proofs.Tryz
set_option maxHeartbeats 8000000
set_option maxRecDepth 100000
set_option linter.all false
theorem Qf{P:Prop}(h:P:=by
 unfold dY;repeat' split
 all_goals first
  |rfl
  |(exfalso;omega)):P:=h
theorem X6{P:Prop}(h:P:=by
 obtain⟨aA,bh,aU⟩:=af.aK HR.out.blk;unfold bp at aA;go_wp2_with fail;go_end0;refine bY.then HF.out ?_;exact bY.leaf HR.out s o {HR.out.tk with} HR.out.op rfl):P:=h
theorem Yr{P:Prop}(h:P:=by
 go_roundw;case rel=>exact⟨j+1,by omega,by go_num,bZ,iP⟩
 case measure=>simp[intOf];omega):P:=h
theorem Ys{P:Prop}(h:P:=by
 go_wp2_with fail;go_ret;exact⟨_,_,rfl,HO.out,HB.out⟩):P:=h
theorem abN{P:Prop}(h:P:=by
 rw[om];clear hE om;go_enter func114,ntmps114;go_wp2_with fail;clear aA bh;go_region_held3(RX w p m 0 0) (exact ft) (first
  |((with_reducible refine(HA.out _).mono ?_);rintro e wA ⟨rfl,bN⟩;have kC:=RX.below (by assumption) bN;(try have lL:=cB.out _ _ (by assumption) bN);(try have mn:=HFm.out _ _ (by assumption) bN)))
 all_goals
  have ir:=aa lL;have sw:=aa mn;clear aT aU fp fL cB HFm bN kC lL mn;have fP:=aa ir.out;obtain⟨fp,fL,cB,HFm,aU⟩:=ir.out.stand;have aT:=fP.out.cx;unfold bp at aT;obtain⟨aA,bh,-⟩:=af.aK ir.out.blk;unfold bp at aA;rw[bM]at aA;go_wp2_with fail;clear aA bh;go_region_held3(RX wA p m 0 0) (exact ft) (first
   |((with_reducible refine(HZ.out _).mono ?_);rintro e wB ⟨rfl,dE⟩;have lK:=RX.below (by assumption) dE;(try have xI:=cB.out _ _ (by assumption) dE);(try have pA:=HFm.out _ _ (by assumption) dE))
   |((with_reducible refine(HST.out _ (by assumption)).mono ?_);rintro e wC ⟨rfl,mC,hC,fC⟩;have iT:=RX.acc (by assumption) fP.out.blk fC (hC.kept fC rfl);have dG:=bV.trans (by assumption) fC))
  all_goals
   have HR:=aa hC;have HF:=aa (sw.out.trans dG);clear hC fC dG aT aU;obtain⟨aA,bh,aU⟩:=af.aK HR.out.blk;unfold bp Mo.Rn.store at aA;dsimp only at aA;rw[X8]at aA;go_wp2_with fail;go_end0;refine bY.then HF.out ?_;exact bY.leaf HR.out s o {HR.out.tk with} HR.out.op rfl):P:=h
theorem abQ{P:Prop}(h:P:=by
 rw[om];clear h5 hE om;go_enter func112,ntmps112;go_wp2_with fail;(with_reducible refine(kO.out _ HH.out).mono ?_);rintro e wA ⟨rfl,bN⟩;have ir:=aa (HH.out.more bN);have sw:=aa (bV.ext bN p m);clear bN aA bh aU kO;have fP:=aa ir.out;obtain⟨fp,fL,cB,HFm,aU⟩:=ir.out.stand;have aT:=fP.out.cx;unfold bp at aT;obtain⟨aA,bh,-⟩:=af.aK ir.out.blk;unfold bp at aA;rw[bM]at aA;have eO:∀wx,RX wA p m 0 0 wx->wx.cell? (ad.add jn)=some (.int .u64 z):=fun wx hx=>by
  have h:=(fP.out.tk.nx.same fun b hb=>hx.eq b hb.1 hb.2.1 hb.2.2.1).1
  obtain⟨ad',z',h1,h2,h3⟩:=h.at_ (i:=jn) hlt
  rw[HA.out]at h1
  rw[HZ.out]at h2
  injection h1 with h1;injection h2 with h2
  rw[h1,h2];exact h3
 rw[HJ.out,HA.out]at aA aT;go_wp2_with fail;clear aA bh;go_region_held3(RX wA p m 0 0) (exact ft) (first
  |((with_reducible refine(HST.out _ (by assumption)).mono ?_);rintro e wC ⟨rfl,mC,hC,fC⟩;have iT:=RX.acc (by assumption) fP.out.blk fC (hC.kept fC rfl);have dG:=bV.trans (by assumption) fC))
 all_goals
  have HR:=aa hC;have HF:=aa (sw.out.trans dG);clear hC fC dG aT eO aU;obtain⟨aA,bh,aU⟩:=af.aK HR.out.blk;unfold bp Mo.Rn.store at aA;dsimp only at aA;rw[HJ.out]at aA;go_wp2_with fail;go_quiet(fail);go_wp2_with fail;go_end0;refine bY.then HF.out ?_;exact bY.leaf HR.out s o {HR.out.tk with} HR.out.op rfl):P:=h
theorem abP{P:Prop}(h:P:=by
 (try simp only[aC]);refine dJ 14 (fun K hK=>?_);go_simp;((first|rw[fk U0,fk U3,fk U4,fk U5,fk U6]|rw[fk d22,fk d23,fk d24,fk d25,fk d26]);(with_reducible refine(Zm.out _ _ hC).mono ?_);rintro e wD ⟨v,rfl,A1,n1,B1,m1,rfl,eo,fN,nB⟩;unfold kJ;have Hd:=RX.below (by assumption) nB;have hD:=hC.more nB;have xm:=bV.trans dG (bV.ext nB p mC));go_wp2_with fail;refine hK.out _ _ ft (fun hHeld=>?_);clear hK K;(try simp only[aC]);refine aO 15 (by assumption) ?_;(try simp only[aC]);refine aO 16 (by assumption) ?_;(try simp only[aC]);refine aO 17 (by assumption) ?_;(try simp only[aC]);refine dJ 18 (fun K hK=>?_);go_simp;refine hK.out _ _ ft (fun hHeld=>?_);clear hK K;(try simp only[aC]);refine wpAnyH_done (by kernel_rfl) ?_ _;have HR:=aa hD;have HF:=aa (sw.out.trans xm);have p6:Hid (mF wD (Im wD X p mC) {r.k with az:=P1} {s with fr:=⟨A1,n1⟩,ol:=⟨B1,m1⟩}):=ux.tk hD.tk eo fN (fun b h0 h1=>Im.fresh hC h0 h1) _ rfl;clear hC fC dG hD xm aT py kB hlx aU eo fN He d22 d23 d24 d25 d26 U0 U3 U4 U5 U6;obtain⟨aA,bh,aU⟩:=af.aK HR.out.blk;unfold bp at aA;go_wp2_with fail;go_end0;refine bY.then HF.out ?_;exact bY.leaf HR.out {s with fr:=⟨A1,n1⟩,ol:=⟨B1,m1⟩} o {p6.out with} HR.out.op rfl):P:=h
theorem abM{P:Prop}(h:P:=by
 rw[om];clear h5 hE om bM;obtain⟨a,ha⟩:∃a,a=Mo.iK c t:=⟨_,rfl⟩
 rw[<-ha]at HA HST e1 ⊢;clear ha;go_enter func113,ntmps113;go_wp2_with fail;clear aA bh;go_region_held3(RX w p m 0 0) (exact ft) (first
  |((with_reducible refine(HA.out _).mono ?_);rintro e wA ⟨rfl,bN⟩;have kC:=RX.below (by assumption) bN;(try have lL:=cB.out _ _ (by assumption) bN);(try have mn:=HFm.out _ _ (by assumption) bN))
  |((with_reducible refine(HST.out _ (by assumption)).mono ?_);rintro e wC ⟨rfl,mC,hC,fC⟩;have iT:=RX.acc (by assumption) HH.out.blk fC (hC.kept fC rfl);have dG:=bV.trans (by assumption) fC))
 all_goals
  have HR:=aa hC;have HF:=aa dG;clear hC fC dG aT eO aU;obtain⟨aA,bh,aU⟩:=af.aK HR.out.blk;unfold bp Mo.Rn.store at aA;dsimp only at aA;rw[HJ.out]at aA;go_wp2_with fail;go_end0;refine bY.then HF.out ?_;exact bY.leaf HR.out s o {HR.out.tk with} HR.out.op rfl):P:=h
theorem abL{P:Prop}(h:P:=by
 go_wp2_with fail;clear aA bh;go_region_held3(RX w p m 0 0) (exact ft) (first
  |((with_reducible refine(HA.out _).mono ?_);rintro e wA ⟨rfl,bN⟩;have kC:=RX.below (by assumption) bN;(try have lL:=cB.out _ _ (by assumption) bN);(try have mn:=HFm.out _ _ (by assumption) bN))
  |((with_reducible refine(HST.out _ (by assumption)).mono ?_);rintro e wC ⟨rfl,mC,hC,fC⟩;have iT:=RX.acc (by assumption) HH.out.blk fC (hC.kept fC rfl);have dG:=bV.trans (by assumption) fC))
 all_goals
  have HR:=aa hC;have HF:=aa dG;clear hC fC dG aT aU;obtain⟨aA,bh,aU⟩:=af.aK HR.out.blk;unfold bp at aA;go_wp2_with fail;go_end0;refine bY.then HF.out ?_;exact bY.leaf HR.out s o {HR.out.tk with} HR.out.op rfl):P:=h
theorem acb{P:Prop}(h:P:=by
 refine hK.out _ _ (PX.av (by assumption) (by omega) _ _) (fun hHeld=>?_);clear hK K;(try simp only[aC]);obtain⟨u7,Hk,hl6⟩:=af.aK (aW h6 hne.symm T1 0);(try unfold zT at u7);(try unfold zT at Hk);(try unfold zT at hl6);refine dJ 23 (fun K hK=>?_);go_simp;refine hK.out _ _ (PX.av (by assumption) (by omega) [.int .i64 r.note,.bool r.gF,.slice oB.A r.ops.length oB.c] 0) (fun hHeld=>?_);clear hK K hHeld;(try simp only[aC]);refine wpAnyH_done (by kernel_rfl) ?_ _;clear u7 Hk hl6 h5 h6;go_wp2_with fail;go_meet;exact hL):P:=h
theorem acd{P:Prop}(h:P:=by
 clear hK K;(try simp only[aC]);obtain⟨u7,Hk,hl6⟩:=af.aK (aW h6 hne.symm T1 0);(try unfold zT at u7);(try unfold zT at Hk);(try unfold zT at hl6);refine dJ 23 (fun K hK=>?_);go_simp;refine hK.out _ _ (PX.av (by assumption) (aS _) [.int .i64 r.note,.bool r.gF,.slice oB.A r.ops.length oB.c] 0) (fun hHeld=>?_);clear hK K hHeld;(try simp only[aC]);refine wpAnyH_done (by kernel_rfl) ?_ _;clear u7 Hk hl6 h5 h6;go_wp2_with fail;go_meet;exact hL):P:=h
theorem abX{P:Prop}(h:P:=by
 go_enter func79,ntmps79;go_wp2_with fail;refine(HH.out _ _).mono ?_;rintro e w' ⟨rfl,rfl⟩;rw[hi];go_wp2_with fail;refine bodyPost_ret (v:=.tuple #[.agg #[.bool false,.bool false,.bool false,.int .i64 0,.slice none 0 0,.int .i64 0,.int .i64 0],.bool false]) (by simp[results,results79,go_sem]) rfl (HX.out yb.out _ (ak (aj _) _))):P:=h
theorem abU{P:Prop}(h:P:=by
 obtain⟨aA,bh,aU⟩:=af.aK fx.out.blk;unfold bp at aA;dsimp only at aA;go_wp2_with fail;refine(HNS.out _ _ _ _ fx.out).mono ?_;rintro e w3 ⟨rfl,hX⟩;have HX:=aa hX;clear hX;go_wp2_with fail;refine bodyPost_ret (v:=.tuple #[]) (by simp[results,results110,go_sem]) rfl ?_;rw[iD.out];exact bY.then sg.out ⟨rfl,HX.out⟩):P:=h
theorem ab1{P:Prop}(h:P:=by
 rintro b (h|h|h|h|h|h|h)
 ·exact .inl (.inl h)
 ·exact .inl (.inr (.inl h))
 ·exact .inl (.inr (.inr (.inl h)))
 ·exact(hf b h).imp (fun h=>(.inr (.inr (.inr (.inl h))))) id
 ·exact .inl (.inr (.inr (.inr (.inr (.inl h)))))
 ·exact .inl (.inr (.inr (.inr (.inr (.inr (.inl h))))))
 ·exact .inl (.inr (.inr (.inr (.inr (.inr (.inr h))))))):P:=h
theorem ab7{P:Prop}(h:P:=by
 go_wp2_with fail;refine(HM _ _ _ _ _ H2.out rfl rfl rfl rfl rfl).mono ?_;rintro e w3 ⟨rfl,hX⟩;have HX:=aa hX;clear hX;go_wp2_with fail;refine bodyPost_ret (v:=.tuple #[]) (by simp[results,results111,go_sem]) rfl ?_;rw[iD.out];exact bY.then (HF.out.trans nv.out) ⟨rfl,HX.out⟩):P:=h
theorem abR{P:Prop}(h:P:=by
 clear h5;go_wp2_with fail;rw[iD.out];refine bodyPost_ret (v:=.tuple #[]) (by simp[results,results110,go_sem]) rfl ?_;refine bY.then uX.out ?_;exact bY.leaf H7.out {s with ar:=⟨A5,c5⟩} o {H7.out.tk with} H7.out.op rfl):P:=h
theorem abO{P:Prop}(h:P:=by
 go_wp2_with fail;refine(HOW.out _ mC ?_).mono ?_
 ·exact RN.leaf HR.out s o {HR.out.tk with} HR.out.op rfl
 ·rintro e w7 ⟨rfl,hX⟩;have HX:=aa hX;clear hX;go_wp2_with fail;go_end0;refine bY.then HF.out (bY.after ⟨rfl,HX.out⟩ ?_);exact P7):P:=h
theorem UY{P:Prop}(h:P:=by
 clear hC fC dG aT aU;obtain⟨aA,bh,aU⟩:=af.aK HR.out.blk;unfold bp at aA;go_wp2_with fail;go_end0;refine bY.then HF.out ?_;exact bY.leaf HR.out s o {HR.out.tk with} HR.out.op rfl):P:=h
theorem UX{P:Prop}(h:P:=by
 go_wp2_with fail;go_quiet(fail);go_wp2_with fail;go_end0;rw[iD.out];exact⟨rfl,_,_,_,HR.out.more (bO (aj _) _),HF.out.trans (bV.ext (bO (aj _) _) p mC)⟩):P:=h
theorem Vs{P:Prop}(h:P:=by
 go_wp2_with fail;refine HC.out.mono ?_;rintro r w2 ⟨rfl,hE⟩;have HE:=aa hE;clear hE;go_wp2_with fail;go_ret;rw[ZG.out];exact⟨rfl,q,bU q,HE.out.ahead bj.out⟩):P:=h
theorem Vq{P:Prop}(h:P:=by
 clear hK K hHeld;(try simp only[aC]);refine wpAnyH_done (by kernel_rfl) ?_ _;clear u7 Hk hl6 h5 h6;go_wp2_with fail;go_meet;exact hL):P:=h
theorem UZ{P:Prop}(h:P:=by
 obtain⟨aA,bh,aU⟩:=af.aK HR.out.blk;unfold bp at aA;go_wp2_with fail;go_end0;exact⟨rfl,_,_,_,HR.out,HF.out⟩):P:=h
theorem Vv{P:Prop}(h:P:=by
 rw[sJ.out];repeat(with_reducible first|(refine af.newAt _ _ _ ?_;simp;done)|refine af.dr ?_|refine af.alloc ?_ _)):P:=h
theorem Vi{P:Prop}(h:P:=by
 unfold Mo.cT at h ⊢;dsimp only at h ⊢;split
 ·rfl
 ·rename_i h1;rw[ai h1]at h;exact absurd rfl h):P:=h
theorem U9{P:Prop}(h:P:=by
 simp only[Sem.run_bind,asAddr,Sem.run_pure,Result.andThen_ok,l1,map_eq_pure_bind,bind_assoc,pure_bind];rfl):P:=h
theorem Vb{P:Prop}(h:P:=by
 dsimp only at ha;subst ha;have:=aX h1 (g:=ad.block) rfl;omega):P:=h
end Go.Proofs.YtjcjjiieblineaaGreat
