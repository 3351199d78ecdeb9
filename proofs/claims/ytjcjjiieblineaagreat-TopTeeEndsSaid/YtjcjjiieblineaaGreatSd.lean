/- Walks and plain facts. No condition. -/
import Derived.Test.YtjcjjiieblineaaGreatSc
import Derived.Deep.RegionLawGrows
namespace Go.Proofs.YtjcjjiieblineaaGreat
open Go.RowKit Go.Proofs.Tryz
set_option maxHeartbeats 8000000
set_option maxRecDepth 100000
set_option linter.all false
theorem _root_.Go.Shut.Y{p:Prop}(h:Shut p):p:=h
theorem Tj{P:Prop}(h:P:=by
 unfold eD;repeat' split
 all_goals first
  |rfl
  |(exfalso;omega)):P:=h
theorem aaQ{P:Prop}(h:P:=by
 obtain⟨aB,bp,aW⟩:=af.aM HR.Y.blk;unfold bw at aB;go_wp2_with fail;go_end0;refine cE.then HF.Y ?_;exact cE.leaf HR.Y s o {HR.Y.tk with} HR.Y.op rfl):P:=h
theorem aaV{P:Prop}(h:P:=by
 go_roundw;case rel=>exact⟨j+1,by omega,by go_num,cM,jr⟩
 case measure=>simp[intOf];omega):P:=h
theorem aaW{P:Prop}(h:P:=by
 go_wp2_with fail;go_ret;exact⟨_,_,rfl,HO.Y,HB.Y⟩):P:=h
theorem ac6{P:Prop}(h:P:=by
 rw[pM];clear hE pM;go_enter func114,ntmps114;go_wp2_with fail;clear aB bp;go_region_held3(RX w p m 0 0) (exact gj) (first
  |((with_reducible refine(HA.Y _).mono ?_);rintro e f ⟨rfl,a⟩;have mX:=RX.below (by assumption) a;(try have mY:=dm.Y _ _ (by assumption) a);(try have nE:=HFm.Y _ _ (by assumption) a)))
 all_goals
  have iV:=ae mY;have uz:=ae nE;clear aT aW gi gV dm HFm a mX mY nE;have gZ:=ae iV.Y;obtain⟨gi,gV,dm,HFm,aW⟩:=iV.Y.cK;have aT:=gZ.Y.cx;unfold bw at aT;obtain⟨aB,bp,-⟩:=af.aM iV.Y.blk;unfold bw at aB;rw[bQ]at aB;go_wp2_with fail;clear aB bp;go_region_held3(RX f p m 0 0) (exact gj) (first
   |((with_reducible refine(HZ.Y _).mono ?_);rintro e i ⟨rfl,c⟩;have nD:=RX.below (by assumption) c;(try have zK:=dm.Y _ _ (by assumption) c);(try have qT:=HFm.Y _ _ (by assumption) c))
   |((with_reducible refine(HST.Y _ (by assumption)).mono ?_);rintro e j ⟨rfl,g,d,b⟩;have jK:=RX.acc (by assumption) gZ.Y.blk b (d.kept b rfl);have eG:=cu.trans (by assumption) b))
  all_goals
   have HR:=ae d;have HF:=ae (uz.Y.trans eG);clear d b eG aT aW;obtain⟨aB,bp,aW⟩:=af.aM HR.Y.blk;unfold bw Mo.Rn.store at aB;dsimp only at aB;rw[aaR]at aB;go_wp2_with fail;go_end0;refine cE.then HF.Y ?_;exact cE.leaf HR.Y s o {HR.Y.tk with} HR.Y.op rfl):P:=h
theorem ac9{P:Prop}(h:P:=by
 rw[pM];clear h5 hE pM;go_enter func112,ntmps112;go_wp2_with fail;(with_reducible refine(nG.Y _ HH.Y).mono ?_);rintro e f ⟨rfl,c⟩;have iV:=ae (HH.Y.more c);have uz:=ae (cu.ext c p m);clear c aB bp aW nG;have gZ:=ae iV.Y;obtain⟨gi,gV,dm,HFm,aW⟩:=iV.Y.cK;have aT:=gZ.Y.cx;unfold bw at aT;obtain⟨aB,bp,-⟩:=af.aM iV.Y.blk;unfold bw at aB;rw[bQ]at aB;have fH:∀wx,RX f p m 0 0 wx->wx.cell? (ad.add jn)=some (.int .u64 z):=fun wx hx=>by
  have h:=(gZ.Y.tk.nx.same fun b hb=>hx.eq b hb.1 hb.2.1 hb.2.2.1).1
  obtain⟨ad',z',h1,h2,h3⟩:=h.at_ (i:=jn) hlt
  rw[HA.Y]at h1
  rw[HZ.Y]at h2
  injection h1 with h1;injection h2 with h2
  rw[h1,h2];exact h3
 rw[HJ.Y,HA.Y]at aB aT;go_wp2_with fail;clear aB bp;go_region_held3(RX f p m 0 0) (exact gj) (first
  |((with_reducible refine(HST.Y _ (by assumption)).mono ?_);rintro e j ⟨rfl,g,d,a⟩;have jK:=RX.acc (by assumption) gZ.Y.blk a (d.kept a rfl);have eG:=cu.trans (by assumption) a))
 all_goals
  have HR:=ae d;have HF:=ae (uz.Y.trans eG);clear d a eG aT fH aW;obtain⟨aB,bp,aW⟩:=af.aM HR.Y.blk;unfold bw Mo.Rn.store at aB;dsimp only at aB;rw[HJ.Y]at aB;go_wp2_with fail;go_quiet(fail);go_wp2_with fail;go_end0;refine cE.then HF.Y ?_;exact cE.leaf HR.Y s o {HR.Y.tk with} HR.Y.op rfl):P:=h
theorem ac8{P:Prop}(h:P:=by
 (try simp only[aC]);refine et 14 (fun K hK=>?_);go_simp;((first|rw[gf Yj,gf Yk,gf Yl,gf Ym,gf Yn]|rw[gf d22,gf d23,gf d24,gf d25,gf d26]);(with_reducible refine(HAW.Y _ _ hC).mono ?_);rintro e k ⟨v,rfl,c,j,d,i,rfl,f,g,a⟩;unfold lZ;have Kc:=RX.below (by assumption) a;have hD:=hC.more a;have zi:=cu.trans eG (cu.ext a p mC));go_wp2_with fail;refine hK.Y _ _ gj (fun hHeld=>?_);clear hK K;(try simp only[aC]);refine aP 15 (by assumption) ?_;(try simp only[aC]);refine aP 16 (by assumption) ?_;(try simp only[aC]);refine aP 17 (by assumption) ?_;(try simp only[aC]);refine et 18 (fun K hK=>?_);go_simp;refine hK.Y _ _ gj (fun hHeld=>?_);clear hK K;(try simp only[aC]);refine wpAnyH_done (by kernel_rfl) ?_ _;have HR:=ae hD;have HF:=ae (uz.Y.trans zi);have oL:Hid (nU k (Im k X p mC) {r.k with aA:=P1} {s with fr:=⟨c,j⟩,ol:=⟨d,i⟩}):=wV.tk hD.tk f g (fun b h0 h1=>Im.fresh hC h0 h1) _ rfl;clear hC fC eG hD zi aT qQ lz jd aW f g Kd d22 d23 d24 d25 d26 Yj Yk Yl Ym Yn;obtain⟨aB,bp,aW⟩:=af.aM HR.Y.blk;unfold bw at aB;go_wp2_with fail;go_end0;refine cE.then HF.Y ?_;exact cE.leaf HR.Y {s with fr:=⟨c,j⟩,ol:=⟨d,i⟩} o {oL.Y with} HR.Y.op rfl):P:=h
theorem ac5{P:Prop}(h:P:=by
 rw[pM];clear h5 hE pM bQ;obtain⟨a,ha⟩:∃a,a=Mo.iY c t:=⟨_,rfl⟩
 rw[<-ha]at HA HST e1 ⊢;clear ha;go_enter func113,ntmps113;go_wp2_with fail;clear aB bp;go_region_held3(RX w p m 0 0) (exact gj) (first
  |((with_reducible refine(HA.Y _).mono ?_);rintro e i ⟨rfl,d⟩;have mX:=RX.below (by assumption) d;(try have mY:=dm.Y _ _ (by assumption) d);(try have nE:=HFm.Y _ _ (by assumption) d))
  |((with_reducible refine(HST.Y _ (by assumption)).mono ?_);rintro e j ⟨rfl,g,f,b⟩;have jK:=RX.acc (by assumption) HH.Y.blk b (f.kept b rfl);have eG:=cu.trans (by assumption) b))
 all_goals
  have HR:=ae f;have HF:=ae eG;clear f b eG aT fH aW;obtain⟨aB,bp,aW⟩:=af.aM HR.Y.blk;unfold bw Mo.Rn.store at aB;dsimp only at aB;rw[HJ.Y]at aB;go_wp2_with fail;go_end0;refine cE.then HF.Y ?_;exact cE.leaf HR.Y s o {HR.Y.tk with} HR.Y.op rfl):P:=h
theorem ac4{P:Prop}(h:P:=by
 go_wp2_with fail;clear aB bp;go_region_held3(RX w p m 0 0) (exact gj) (first
  |((with_reducible refine(HA.Y _).mono ?_);rintro e f ⟨rfl,b⟩;have mX:=RX.below (by assumption) b;(try have mY:=dm.Y _ _ (by assumption) b);(try have nE:=HFm.Y _ _ (by assumption) b))
  |((with_reducible refine(HST.Y _ (by assumption)).mono ?_);rintro e g ⟨rfl,d,c,a⟩;have jK:=RX.acc (by assumption) HH.Y.blk a (c.kept a rfl);have eG:=cu.trans (by assumption) a))
 all_goals
  have HR:=ae c;have HF:=ae eG;clear c a eG aT aW;obtain⟨aB,bp,aW⟩:=af.aM HR.Y.blk;unfold bw at aB;go_wp2_with fail;go_end0;refine cE.then HF.Y ?_;exact cE.leaf HR.Y s o {HR.Y.tk with} HR.Y.op rfl):P:=h
theorem adu{P:Prop}(h:P:=by
 refine hK.Y _ _ (PX.aw (by assumption) (by omega) _ _) (fun hHeld=>?_);clear hK K;(try simp only[aC]);obtain⟨wE,FK,hl6⟩:=af.aM (ba h6 hne.symm T1 0);(try unfold zT at wE);(try unfold zT at FK);(try unfold zT at hl6);refine et 23 (fun K hK=>?_);go_simp;refine hK.Y _ _ (PX.aw (by assumption) (by omega) [.int .i64 r.note,.bool r.fR,.slice oB.A r.ops.length oB.c] 0) (fun hHeld=>?_);clear hK K hHeld;(try simp only[aC]);refine wpAnyH_done (by kernel_rfl) ?_ _;clear wE FK hl6 h5 h6;go_wp2_with fail;go_meet;exact hL):P:=h
theorem adv{P:Prop}(h:P:=by
 clear hK K;(try simp only[aC]);obtain⟨wE,FK,hl6⟩:=af.aM (ba h6 hne.symm T1 0);(try unfold zT at wE);(try unfold zT at FK);(try unfold zT at hl6);refine et 23 (fun K hK=>?_);go_simp;refine hK.Y _ _ (PX.aw (by assumption) (aS _) [.int .i64 r.note,.bool r.fR,.slice oB.A r.ops.length oB.c] 0) (fun hHeld=>?_);clear hK K hHeld;(try simp only[aC]);refine wpAnyH_done (by kernel_rfl) ?_ _;clear wE FK hl6 h5 h6;go_wp2_with fail;go_meet;exact hL):P:=h
theorem adi{P:Prop}(h:P:=by
 go_enter func79,ntmps79;go_wp2_with fail;refine(HH.Y _ _).mono ?_;rintro e a ⟨rfl,rfl⟩;rw[hi];go_wp2_with fail;refine bodyPost_ret (v:=.tuple #[.agg #[.bool false,.bool false,.bool false,.int .i64 0,.slice none 0 0,.int .i64 0,.int .i64 0],.bool false]) (by simp[results,results79,go_sem]) rfl (HX.Y Dg.Y _ (ak (aj _) _))):P:=h
theorem adf{P:Prop}(h:P:=by
 obtain⟨aB,bp,aW⟩:=af.aM fZ.Y.blk;unfold bw at aB;dsimp only at aB;go_wp2_with fail;refine(HNS.Y _ _ _ _ fZ.Y).mono ?_;rintro e b ⟨rfl,a⟩;have HX:=ae a;clear a;go_wp2_with fail;refine bodyPost_ret (v:=.tuple #[]) (by simp[results,results110,go_sem]) rfl ?_;rw[jv.Y];exact cE.then um.Y ⟨rfl,HX.Y⟩):P:=h
theorem adl{P:Prop}(h:P:=by
 rintro b (h|h|h|h|h|h|h)
 ·exact .inl (.inl h)
 ·exact .inl (.inr (.inl h))
 ·exact .inl (.inr (.inr (.inl h)))
 ·exact(hf b h).imp (fun h=>(.inr (.inr (.inr (.inl h))))) id
 ·exact .inl (.inr (.inr (.inr (.inr (.inl h)))))
 ·exact .inl (.inr (.inr (.inr (.inr (.inr (.inl h))))))
 ·exact .inl (.inr (.inr (.inr (.inr (.inr (.inr h))))))):P:=h
theorem adq{P:Prop}(h:P:=by
 go_wp2_with fail;refine(HM _ _ _ _ _ H2.Y rfl rfl rfl rfl rfl).mono ?_;rintro e b ⟨rfl,a⟩;have HX:=ae a;clear a;go_wp2_with fail;refine bodyPost_ret (v:=.tuple #[]) (by simp[results,results111,go_sem]) rfl ?_;rw[jv.Y];exact cE.then (HF.Y.trans oH.Y) ⟨rfl,HX.Y⟩):P:=h
theorem ada{P:Prop}(h:P:=by
 clear h5;go_wp2_with fail;rw[jv.Y];refine bodyPost_ret (v:=.tuple #[]) (by simp[results,results110,go_sem]) rfl ?_;refine cE.then xH.Y ?_;exact cE.leaf H7.Y {s with ar:=⟨A5,c5⟩} o {H7.Y.tk with} H7.Y.op rfl):P:=h
theorem ac7{P:Prop}(h:P:=by
 go_wp2_with fail;refine(HOW.Y _ mC ?_).mono ?_
 ·exact RN.leaf HR.Y s o {HR.Y.tk with} HR.Y.op rfl
 ·rintro e b ⟨rfl,a⟩;have HX:=ae a;clear a;go_wp2_with fail;go_end0;refine cE.then HF.Y (cE.after ⟨rfl,HX.Y⟩ ?_);exact Tb):P:=h
theorem Yh{P:Prop}(h:P:=by
 clear hC fC eG aT aW;obtain⟨aB,bp,aW⟩:=af.aM HR.Y.blk;unfold bw at aB;go_wp2_with fail;go_end0;refine cE.then HF.Y ?_;exact cE.leaf HR.Y s o {HR.Y.tk with} HR.Y.op rfl):P:=h
theorem Yg{P:Prop}(h:P:=by
 go_wp2_with fail;go_quiet(fail);go_wp2_with fail;go_end0;rw[jv.Y];exact⟨rfl,_,_,_,HR.Y.more (bV (aj _) _),HF.Y.trans (cu.ext (bV (aj _) _) p mC)⟩):P:=h
theorem YL{P:Prop}(h:P:=by
 go_wp2_with fail;refine HC.Y.mono ?_;rintro r b ⟨rfl,a⟩;have HE:=ae a;clear a;go_wp2_with fail;go_ret;rw[HD1.Y];exact⟨rfl,q,cj q,HE.Y.ahead br.Y⟩):P:=h
theorem YJ{P:Prop}(h:P:=by
 clear hK K hHeld;(try simp only[aC]);refine wpAnyH_done (by kernel_rfl) ?_ _;clear wE FK hl6 h5 h6;go_wp2_with fail;go_meet;exact hL):P:=h
theorem Yi{P:Prop}(h:P:=by
 obtain⟨aB,bp,aW⟩:=af.aM HR.Y.blk;unfold bw at aB;go_wp2_with fail;go_end0;exact⟨rfl,_,_,_,HR.Y,HF.Y⟩):P:=h
theorem YO{P:Prop}(h:P:=by
 rw[q7.Y];repeat(with_reducible first|(refine af.newAt _ _ _ ?_;simp;done)|refine af.dr ?_|refine af.alloc ?_ _)):P:=h
theorem Yz{P:Prop}(h:P:=by
 unfold Mo.cS at h ⊢;dsimp only at h ⊢;split
 ·rfl
 ·rename_i h1;rw[ah h1]at h;exact absurd rfl h):P:=h
theorem Yr{P:Prop}(h:P:=by
 simp only[Sem.run_bind,asAddr,Sem.run_pure,Result.andThen_ok,l1,map_eq_pure_bind,bind_assoc,pure_bind];rfl):P:=h
theorem Ys{P:Prop}(h:P:=by
 dsimp only at ha;subst ha;have:=aX h1 (g:=ad.block) rfl;omega):P:=h
end Go.Proofs.YtjcjjiieblineaaGreat
